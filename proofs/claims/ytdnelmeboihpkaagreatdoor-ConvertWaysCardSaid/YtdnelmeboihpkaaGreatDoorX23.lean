/-
  Small functions of the law on converters.
  What convert answers at the example.
  The examples of the law on converters hold.
  The second generator's programs have few paths.
  The converters of the second generator's programs; what the paths are.
  The values of a domain have its type; records of the second generator have few values.
  The types that a path passes; two paths, one behind the other.
  The law on ways: passed.
  The law on ways.
  The law on ways, walked.
-/
import Derived.Test.YtdnelmeboihpkaaGreatDoorX22
import Derived.Test.YtdnelmeboihpkaaGreatDoorX18
import Derived.Test.YtdnelmeboihpkaaGreatDoorX13
import Derived.Test.YtdnelmeboihpkaaGreatDoorX21
import Derived.Test.YtdnelmeboihpkaaGreatDoorX20
import Derived.Test.YtdnelmeboihpkaaGreatDoorX17
import Derived.Test.YtdnelmeboihpkaaGreatDoorX10
set_option linter.unusedVariables false
set_option maxHeartbeats 8000000
set_option maxRecDepth 100000
set_option linter.unusedSimpArgs false
open Go.Proofs.Tryz (prog)
namespace Go.Proofs.YtdnelmeboihpkaaGreatDoor
open Go.Abs
theorem zCp (n:Int):Ret prog 50 [int n] [] (.agg (zC (iD n))) []:=zD2 n
def zTR:K:=G [kZ 2 [ki,ki,kl]] (G [M 3 0,kb 4 [ki,ki,kl] [(1,1,(kt 3))],kd 5 46 3 1 [ki,ki,kl] [(0,3,(kt 4))],kb 6 [ki,ki,kl] [(0,1,(kc 2)),(2,1,(kt 5))],S 2 6 3] kr)
theorem qAi:zR prog Tryz.f51.ntmps (Tryz.f51.body.getD .skip)=some zTR.erase:=by kernel_rfl
@[simp] theorem qGy:zA prog 51=true:=by kernel_rfl
theorem zK8 (n:Int):Ret prog 51 [int n] [] (.agg (zF (zFn n))) []:=by refine zI Tryz.func51 rfl qAi (rs:=[.cell 2 3 true]) (by kernel_rfl) ?_;unfold zTR;simp -implicitDefEqProofs;exact zB 0 (by simp[zF,zFn,Val.k,Val.n,Val.kids])
def zYz:K:=G [kMb 4 false] (Z (G [M 6 0,kN 7 6,M 8 1,kN 9 8,kQ 10 7 9 true] (Y 10 (G [kMb 4 false] kr) ks)) (Z (G [kMi 5 0] (K.block 0 (K.loop (Z (G [M 11 5,M 12 0,kN 13 12,kB 14 11 13 .lss] (Y 14 ks (K.exit 0))) (Z (K.block 1 (Z (K.dops [(0,0,M 17 0),(1,0,M 18 5),(2,0,kX 19 17 18 1),(3,0,L 20 19 1),(4,0,M 21 1),(5,0,M 22 5),(6,0,kX 23 21 22 1),(7,0,L 24 23 1),(8,0,kC 25 31 [(kt 20),(kt 24)]),(9,0,kR 26 25)]) (Y 26 (G [kMb 4 false] kr) ks))) (K.ops [M 15 5,kBi 16 15 1 .add,M 5 16])))))) (G [kMb 4 true] kr)))
theorem qGc:zR prog Tryz.f22.ntmps (Tryz.f22.body.getD .skip)=some zYz.erase:=by kernel_rfl
@[simp] theorem qJQ:zA prog 22=true:=by kernel_rfl
theorem zXL (a b:List (List Id))(ha:a.length≤1000):Ret prog 22 [.sl a.length (zZ a),.sl b.length (zZ b)] [] (bl (decide (a=b))) []:=by
 refine zI Tryz.func22 rfl qGc (rs:=[.slot 4]) (by kernel_rfl) ?_;unfold zYz;by_cases hab:a.length=b.length
 ·have hab':(a.length:Int)=b.length:=by omega
  simp -implicitDefEqProofs [hab];intro hlb;refine jM (S:=Nat) (fun i=>[(0,.sl a.length (zZ a)),(1,.sl b.length (zZ b)),(5,int i)]) (fun s=>[]) (fun i=>i≤a.length∧a.take i=b.take i) (fun i=>a.length-i) 0 (by simp)
   (zO [] 0 (by simp) (by simp) (by simp) (by simp[hab])) ?_
  rintro i ⟨hi,hn⟩;by_cases h:i<a.length
  ·have hb:i<b.length:=by omega
   have hs:=zII a[i] b[i];have hpa:=zAl h;have hpb:=zAl hb;have hane:¬a=[]:=fun e=>by rw[e]at h; simp at h
   have hbne:¬b=[]:=fun e=>by rw[e]at hb; simp at hb
   have hw:=qP h (show a.length≤maxLen by simp[maxLen]; omega);simp -implicitDefEqProofs [h,hb,hpa,hpb,hane,hbne];intro _;refine qK hs (by simp) (by simp) ?_;by_cases hx:a[i]=b[i]
   ·simp -implicitDefEqProofs [hx];refine zP (i+1) ⟨h,?_⟩ (by omega) (zO [] 0 (by simp) (by simp) (by simp) (by simp[hw]));rw[jAa h,jAa hb,hn,hx]
   ·have hne:a≠b:=fun e=>hx (by subst e; rfl)
    simp -implicitDefEqProofs [hx];exact zB 0 (by simp[hne])
  ·have:i=a.length:=by omega
   subst this;simp -implicitDefEqProofs;have:a=b:=by rw[jAv,hab,jAv]at hn; exact hn
   exact fun _=>zB 0 (by simp[this])
 ·have hne:a≠b:=fun e=>hab (by rw[e])
  have hab':¬(a.length:Int)=b.length:=by omega
  simp -implicitDefEqProofs [hab'];exact fun _ _=>zB 0 (by simp[hne])
def zQ5 {β : Type}(cf : β→β→Int)(x : β):List β→List β
 | []=>[x]
 | y::l=>if cf y x<0 then y::zQ5 cf x l else x::y::l
def zNh {β : Type}(cf : β→β→Int):List β→List β
 | []=>[]
 | x::l=>zQ5 cf x (zNh cf l)
theorem zI5 {β : Type}(cf : β→β→Int)(x : β):∀l,(zQ5 cf x l).Perm (x::l)
 | []=>.refl _
 | y::l=>by
  unfold zQ5;split
  ·exact((zI5 cf x l).cons y).trans (.swap x y l)
  ·exact .refl _
theorem zJh {β : Type}{cf : β→β→Int}(ho:Ord cf)(x : β):∀{l:List β},l.Pairwise (fun x y=>¬cf y x<0)→(zQ5 cf x l).Pairwise (fun x y=>¬cf y x<0)
 | [],_=>by simp[zQ5]
 | y::l,h=>by
  obtain⟨h1,h2⟩:=jBy.1 h;unfold zQ5;split
  ·rename_i hy;refine jBy.2 ⟨fun z hz=>?_,zJh ho x h2⟩;rcases jA7.1 ((zI5 cf x l).mem_iff.1 hz)with rfl | hz
   ·exact fun hh=>ho.irrefl _ (ho.trans _ _ _ hy hh)
   ·exact h1 z hz
  ·rename_i hy;refine jBy.2 ⟨fun z hz=>?_,h⟩;rcases jA7.1 hz with rfl | hz
   ·exact hy
   ·exact ho.ntrans _ _ _ (h1 z hz) hy
theorem zI6 {β : Type}{cf : β→β→Int}(ho:Ord cf):∀l:List β,(zNh cf l).Perm l∧(zNh cf l).Pairwise (fun x y=>¬cf y x<0)
 | []=>⟨.refl _,.nil⟩
 | x::l=>by obtain⟨h1,h2⟩:=zI6 ho l;exact⟨(zI5 cf x _).trans (h1.cons x),zJh ho x h2⟩
theorem zP2 {β : Type}{cf : β→β→Int}(ho:Ord cf)(l:List β):zDJ cf l=zNh cf l:=(zIb ho (zI6 ho l).1 (zI6 ho l).2).symm
theorem zWZ:zOg zAh=[iD 1,iD 2,iD 3]:=by rw[zOg,zXO];kernel_rfl
def zWY:List Edg:=[⟨iD 1,iD 10,iD 11⟩,⟨iD 2,iD 11,iD 12⟩,⟨iD 3,iD 10,iD 12⟩]
theorem zOp:yT zAh=zWY:=by unfold yT;rw[zWZ];kernel_rfl
def zCm:List (List Id):=[[iD 1,iD 2],[iD 3]]
theorem zFC:yB zAh (iD 10) (iD 12)=zCm:=by unfold yB;rw[zOp];kernel_rfl
theorem zR9:yB zAh (iD 12) (iD 10)=[]:=by unfold yB;rw[zOp];kernel_rfl
theorem zUV:zGI zAh [iD 1,iD 2] (zFn 5) 100=(zFn 5,10,0):=by kernel_rfl
theorem zXb:zGW zAh (iD 2) 0=[0,1]:=by kernel_rfl
theorem zXa:zGW zAh (iD 1) 1=[]:=by kernel_rfl
theorem zXc:zAr zAh (jZ (iD 10)) 1=([zFn 0,zFn (-1),zFn 1],0):=by unfold zAr;rw[zP2 zKz.ord];kernel_rfl
theorem zUU:zEz zAh (iD 10) (iD 12) 1 100=(zFn (-1),zCm,19):=by unfold zEz;rw[zXc,zFC];kernel_rfl
def zYy:K:=G [kMb 4 false] (Z (G [M 6 0,kN 7 6,M 8 1,kN 9 8,kQ 10 7 9 true] (Y 10 (G [kMb 4 false] kr) ks)) (Z (G [kMi 5 0] (K.block 0 (K.loop (Z (G [M 11 5,M 12 0,kN 13 12,kB 14 11 13 .lss] (Y 14 ks (K.exit 0))) (Z (K.block 1 (Z (K.dops [(0,0,M 17 0),(1,0,M 18 5),(2,0,kX 19 17 18 1),(3,0,L 20 19 1),(4,0,M 21 1),(5,0,M 22 5),(6,0,kX 23 21 22 1),(7,0,L 24 23 1),(8,0,kQ 25 20 24 true)]) (Y 25 (G [kMb 4 false] kr) ks))) (K.ops [M 15 5,kBi 16 15 1 .add,M 5 16])))))) (G [kMb 4 true] kr)))
theorem qGb:zR prog Tryz.f23.ntmps (Tryz.f23.body.getD .skip)=some zYy.erase:=by kernel_rfl
@[simp] theorem qJP:zA prog 23=true:=by kernel_rfl
theorem zXK (a b:List Int)(ha:a.length≤1000):Ret prog 23 [.sl a.length (zAM a),.sl b.length (zAM b)] [] (bl (decide (a=b))) []:=by
 refine zI Tryz.func23 rfl qGb (rs:=[.slot 4]) (by kernel_rfl) ?_;unfold zYy;by_cases hab:a.length=b.length
 ·have hab':(a.length:Int)=b.length:=by omega
  simp -implicitDefEqProofs [hab];intro hlb;refine jM (S:=Nat) (fun i=>[(0,.sl a.length (zAM a)),(1,.sl b.length (zAM b)),(5,int i)]) (fun s=>[]) (fun i=>i≤a.length∧a.take i=b.take i) (fun i=>a.length-i) 0 (by simp)
   (zO [] 0 (by simp) (by simp) (by simp) (by simp[hab])) ?_
  rintro i ⟨hi,hn⟩;by_cases h:i<a.length
  ·have hb:i<b.length:=by omega
   have hpa:=zEk h;have hpb:=zEk hb;have hane:¬a=[]:=fun e=>by rw[e]at h; simp at h
   have hbne:¬b=[]:=fun e=>by rw[e]at hb; simp at hb
   have hw:=qP h (show a.length≤maxLen by simp[maxLen]; omega);by_cases hx:a[i]=b[i]
   ·simp -implicitDefEqProofs [h,hb,hpa,hpb,hane,hbne,hx];intro _;refine zP (i+1) ⟨h,?_⟩ (by omega) (zO [] 0 (by simp) (by simp) (by simp) (by simp[hw]));rw[jAa h,jAa hb,hn,hx]
   ·have hne:a≠b:=fun e=>hx (by subst e; rfl)
    simp -implicitDefEqProofs [h,hb,hpa,hpb,hane,hbne,hx];exact fun _=>zB 0 (by simp[hne])
  ·have:i=a.length:=by omega
   subst this;simp -implicitDefEqProofs;have:a=b:=by rw[jAv,hab,jAv]at hn; exact hn
   exact fun _=>zB 0 (by simp[this])
 ·have hne:a≠b:=fun e=>hab (by rw[e])
  have hab':¬(a.length:Int)=b.length:=by omega
  simp -implicitDefEqProofs [hab'];exact fun _ _=>zB 0 (by simp[hne])
def zMD:K:=(Z (G [M 53 4,kQi 54 53 0 true,M 55 54,T 55 false (M 56 6),T 55 false (kQi 57 56 0 true),kPt 58 55 57,M 59 58,T 59 false (M 60 9),T 59 false (kQi 61 60 0 true),kPt 62 59 61,M 63 62,T 63 false (M 64 12),T 63 false (kQi 65 64 19 true),kPt 66 63 65,M 67 66,T 67 false (M 68 5),T 67 false (kN 69 68),T 67 false (kBi 70 69 0 .gtr),kPt 71 67 70,M 72 71,T 72 false (M 73 8),T 72 false (kQi 74 73 10 true),kPt 75 72 74] (Y 75 (G [kMb 0 false] kr) ks)) (Z (K.dops [(0,0,J 76 7 3),(1,0,kC 77 51 [(kc 5)]),(2,0,kC 78 18 [(kt 76),(kt 77)]),(3,0,kQi 79 78 0 false),(4,0,M 80 79),(5,0,T 80 true (J 81 10 3)),(6,0,T 80 true (kC 82 51 [(kc (-1))])),(7,0,T 80 true (kC 83 18 [(kt 81),(kt 82)])),(8,0,T 80 true (kQi 84 83 0 false)),(9,0,kPf 85 80 84),(10,0,M 13 85)]) (Z (K.dops [(0,0,M 86 13),(1,0,M 87 86),(2,0,T 87 true (M 88 3)),(3,0,T 87 true (M 89 2)),(4,0,T 87 true (kC 90 22 [(kt 88),(kt 89)])),(5,0,kPf 91 87 90),(6,0,M 92 91),(7,0,T 92 true (M 93 11)),(8,0,T 92 true (M 94 2)),(9,0,T 92 true (kC 95 22 [(kt 93),(kt 94)])),(10,0,kPf 96 92 95),(11,0,M 97 96),(12,0,T 97 true (J 98 1 2)),(13,0,T 97 true (kC 99 50 [(kc 2)])),(14,0,T 97 true (kC 100 24 [(kt 98),(kt 99),(kc 0)])),(15,0,⟨some (97,true),.bslice (some 101) 3 1 2 [ki,ki] [(0,1,(kc 0)),(1,1,(kc 1))]⟩),(16,0,T 97 true (kC 102 23 [(kt 100),(kt 101)])),(17,0,kPf 103 97 102),(18,0,M 104 103),(19,0,T 104 true (J 105 1 2)),(20,0,T 104 true (kC 106 50 [(kc 1)])),(21,0,T 104 true (kC 107 24 [(kt 105),(kt 106),(kc 1)])),(22,0,
 T 104 true (kN 108 107)),(23,0,T 104 true (kQi 109 108 0 false)),(24,0,kPf 110 104 109),(25,0,M 0 110)]) kr)))
def zTQ:K:=G [kMb 0 false] (G [kC 14 49 [],kZ 1 [kl,kl],S 1 14 2] (G [kC 15 50 [(kc 1)],kC 16 50 [(kc 2)],kd 17 31 3 2 [ki,ki,ki,ki,ki,ki] [(0,3,(kt 15)),(3,3,(kt 16))],kC 18 50 [(kc 3)],kd 19 31 3 1 [ki,ki,ki] [(0,3,(kt 18))],kd 20 28 1 2 [kl,kl] [(0,1,(kt 17)),(1,1,(kt 19))],M 2 20] (Z (K.dops [(0,0,J 22 1 2),(1,0,kC 23 50 [(kc 10)]),(2,0,kC 24 50 [(kc 12)]),(3,0,kC 25 20 [(kt 22),(kt 23),(kt 24)]),(4,0,M 21 25),(5,0,kE 26 21 0),(6,0,kE 27 21 1),(7,0,M 3 26),(8,0,M 4 27)]) (Z (K.dops [(0,0,J 29 1 2),(1,0,kC 30 50 [(kc 12)]),(2,0,kC 31 50 [(kc 10)]),(3,0,kC 32 20 [(kt 29),(kt 30),(kt 31)]),(4,0,M 28 32),(5,0,kE 33 28 0),(6,0,kE 34 28 1),(7,0,M 5 33),(8,0,M 6 34)]) (Z (K.dops [(0,1,J 36 1 2),(1,0,M 37 2),(2,1,kXi 38 37 1 0),(3,1,L 39 38 1),(4,1,kC 40 51 [(kc 5)]),(5,1,kC 41 16 [(kt 36),(kt 39),(kt 40),(kc 100)]),(6,0,M 35 41),(7,0,kE 42 35 0),(8,0,kE 43 35 1),(9,0,kE 44 35 2),(10,0,kZ 7 [ki,ki,kl]),(11,0,S 7 42 3),(12,0,M 8 43),(13,0,M 9 44)]) (Z (K.dops [(0,1,J 46 1 2),(1,1,kC 47 50 [(kc 10)]),(2,1,kC 48 50 [(kc 12)]),(3,1,kC 49 26 [(kt 46),(kt 47),(kt 48),(kc 1),(kc 100)]),(4,0,M 45 49),(5,0,kE 50 45 0),(6,0,kE 51 45 1),(7,0,kE 52 45 2),(8,0,kZ 10 [ki,ki,kl]),(9,0,S 10 50 3),(10,0,M 11 51),(11,0,M 12 52)]) (K.wk zMD)))))))
theorem qAh:zR prog Tryz.f19.ntmps (Tryz.f19.body.getD .skip)=some zTQ.erase:=by kernel_rfl
@[simp] theorem qGx:zA prog 19=true:=by kernel_rfl
theorem qAQ:Sml zAh:=by unfold Sml; decide
theorem qBn:Ret prog 20 [.agg (zM zAh),.agg (zC (iD 10)),.agg (zC (iD 12))] [] (.tup [.sl 2 (zZ zCm),int 0]) []:=by have:=zHs zH8 (iD 10) (iD 12) (by rw[zFC]; decide);unfold zCM at this;rw[zFC,if_pos (by decide)]at this;exact this
theorem qBo:Ret prog 20 [.agg (zM zAh),.agg (zC (iD 12)),.agg (zC (iD 10))] [] (.tup [.sl 0 [],int 0]) []:=by have:=zHs zH8 (iD 12) (iD 10) (by rw[zR9]; decide);unfold zCM at this;rw[zR9,if_pos (by decide)]at this;exact this
theorem qBk:Ret prog 16 [.agg (zM zAh),.sl 2 (zL [iD 1,iD 2]),.agg (zF (zFn 5)),int 100] [] (.tup [.agg (zF (zFn 5)),int 10,int 0]) []:=by have:=zUf zH8 [iD 1,iD 2] (by decide) (zFn 5) (by decide) 100 (by omega) (by omega);rw[zUV]at this;exact this
theorem qBj:Ret prog 26 [.agg (zM zAh),.agg (zC (iD 10)),.agg (zC (iD 12)),int 1,int 100] [] (.tup [.agg (zF (zFn (-1))),.sl 2 (zZ zCm),int 19]) []:=by have:=zUe zH8 qAQ (iD 10) (iD 12) (by rw[zFC]; decide) (by rw[zFC]; decide) 1 100 (by omega) (by omega) (zN7 _ _ _);rw[zUU]at this;exact this
theorem qBm:Ret prog 24 [.agg (zM zAh),.agg (zC (iD 2)),int 0] [] (.sl 2 (zAM [0,1])) []:=by have:=zL8 zAh (by decide) (iD 2) 0;rw[zXb]at this;exact this
theorem qBl:Ret prog 24 [.agg (zM zAh),.agg (zC (iD 1)),int 1] [] (.sl 0 []) []:=by have:=zL8 zAh (by decide) (iD 1) 1;rw[zXa]at this;exact this
theorem qHB:wpK prog 0 zMD (fin [RS.slot 0] (zFq 0 (bl true) [])) (qU [(1,.ptr 0 0),(2,.sl 2 (zZ zCm)),(3,.sl 2 (zZ zCm)),(4,int 0),(5,.sl 0 []),(6,int 0),(7,.ptr 1 0),(8,int 10),(9,int 0),(10,.ptr 2 0),(11,.sl 2 (zZ zCm)),(12,int 19)]) [.box (zM zAh),.box (zF (zFn 5)),.box (zF (zFn (-1)))]:=by
 have hP:zM zAh=[.sl zAh.mods.length (qQ zAh.mods),.sl zAh.defs.length (qB zAh.defs)]:=rfl;have f2:=qBm;have f1:=qBl;generalize zAh=P at *
 have c1:=zDU (zFn 5) (zFn 5);have c2:=zDU (zFn (-1)) (zFn (-1));rw[zEa]at c1 c2;have s1:Ret prog 22 [.sl 2 (zZ zCm),.sl 2 (zZ zCm)] [] (bl true) []:=by have:=zXL zCm zCm (by decide);rw[show decide (zCm=zCm)=true from decide_eq_true rfl]at this;exact this
 have s2:Ret prog 23 [.sl 2 (zAM [0,1]),.sl 2 (zAM [0,1])] [] (bl true) []:=by have:=zXK [0,1] [0,1] (by decide);rw[show decide ([0,1]=([0,1]:List Int))=true from decide_eq_true rfl]at this;exact this
 unfold zMD;simp -implicitDefEqProofs [hP,zF];refine qK (zK8 5) (by simp) (by simp[zF]) ?_
 try simp -implicitDefEqProofs [zF]
 refine qK c1 (by simp[zF]) (by simp) ?_
 try simp -implicitDefEqProofs [zF]
 refine qK (zK8 (-1)) (by simp) (by simp[zF]) ?_
 try simp -implicitDefEqProofs [zF]
 refine qK c2 (by simp[zF]) (by simp) ?_
 try simp -implicitDefEqProofs [zF]
 refine qK s1 (by simp) (by simp) ?_
 try simp -implicitDefEqProofs
 refine qK s1 (by simp) (by simp) ?_
 try simp -implicitDefEqProofs
 refine qK (zCp 2) (by simp) (by simp[zC]) ?_
 try simp -implicitDefEqProofs [zC]
 refine qK f2 (by simp[hP,zC]) (by simp) ?_
 try simp -implicitDefEqProofs
 refine qK s2 (by simp[zAM]) (by simp) ?_
 try simp -implicitDefEqProofs
 refine qK (zCp 1) (by simp) (by simp[zC]) ?_
 try simp -implicitDefEqProofs [zC]
 refine qK f1 (by simp[hP,zC]) (by simp) ?_
 try simp -implicitDefEqProofs
 exact zB 0 (by simp)
theorem zQE:Ret prog 19 [] [] (bl true) []:=by
 have hP:zM zAh=[.sl zAh.mods.length (qQ zAh.mods),.sl zAh.defs.length (qB zAh.defs)]:=rfl;have hx:=zWX;have p1:=qBn;have p2:=qBo;have pa:=qBk;have pg:=qBj;have hT:=qHB;generalize zAh=P at *
 refine qL Tryz.func19 rfl qAh (rs:=[.slot 0]) (by kernel_rfl) ?_;unfold zTQ;simp -implicitDefEqProofs;refine qD hx (by simp) (by simp[hP]) ?_;simp -implicitDefEqProofs [hP];refine qD (zCp 1) (by simp) (by simp[zC]) ?_;simp -implicitDefEqProofs;refine qD (zCp 2) (by simp) (by simp[zC]) ?_;simp -implicitDefEqProofs [zC];refine qD (zCp 3) (by simp) (by simp[zC]) ?_;simp -implicitDefEqProofs [zC];refine qK (zCp 10) (by simp[hP,zC,zL]) (by simp[zC,zL]) ?_
 try simp -implicitDefEqProofs [zC,zF]
 refine qK (zCp 12) (by simp[hP,zC,zL]) (by simp[zC,zL]) ?_
 try simp -implicitDefEqProofs [zC,zF]
 refine qK (p1) (by simp[hP,zC,zL]) (by simp[zC,zL]) ?_
 try simp -implicitDefEqProofs [zC,zF]
 refine qK (zCp 12) (by simp[hP,zC,zL]) (by simp[zC,zL]) ?_
 try simp -implicitDefEqProofs [zC,zF]
 refine qK (zCp 10) (by simp[hP,zC,zL]) (by simp[zC,zL]) ?_
 try simp -implicitDefEqProofs [zC,zF]
 refine qK (p2) (by simp[hP,zC,zL]) (by simp[zC,zL]) ?_
 try simp -implicitDefEqProofs [zC,zF]
 refine zAJ (zK8 5) (by simp[hP,zC,zL,zF]) (by simp[zC,zL,zF]) ?_
 try simp -implicitDefEqProofs [zC,zF]
 refine zAJ (pa) (by simp[hP,zC,zL,zF]) (by simp[zC,zL,zF]) ?_
 try simp -implicitDefEqProofs [zC,zF]
 refine zAJ (zCp 10) (by simp[hP,zC,zL]) (by simp[zC,zL]) ?_
 try simp -implicitDefEqProofs [zC,zF]
 refine zAJ (zCp 12) (by simp[hP,zC,zL]) (by simp[zC,zL]) ?_
 try simp -implicitDefEqProofs [zC,zF]
 refine zAJ (pg) (by simp[hP,zC,zL,zF]) (by simp[zC,zL,zF]) ?_
 try simp -implicitDefEqProofs [zC,zF]
 refine⟨_,_,zO [0,1,2] 0 (by simp) (by decide) ?_ ?_,hT⟩
 ·simp[hP,zF]
 ·simp[zCm,zZ,zL]
theorem zKo {l:List Int}(hl:∀x∈l,w64 x=x):(yT (yM l)).length≤7:=by
 have h1:(yT (yM l)).length=(zCk (yM l)).length:=by rw[←zDI (zLX hl)]; exact(zCa _).length_eq
 rw[h1];have h2:zCk (yM l)=(jX l).filterMap jT:=rfl;rw[h2];unfold jX;rw[List.filterMap_append,jA5];have h3:((jU l (jK l) ⟨1,40⟩).1.filterMap jT)=[]:=by rw[List.filterMap_eq_nil_iff];intro a ha;have:=(zDr hl a ha).kind;unfold jT;rw[if_neg (by omega)]
 rw[h3];have h4:=jDa jT (zAb l (jU l (jK l) ⟨1,40⟩).1 (gN l (jU l (jK l) ⟨1,40⟩).2 8).toNat (jU l (jK l) ⟨1,40⟩).2.tick).1;rw[zBY]at h4;obtain⟨v0,v1⟩:=zBb hl (jU l (jK l) ⟨1,40⟩).2 (n:=8) (by omega);simp only[jBx];omega
theorem zEL {l:List Int}(hl:∀x∈l,w64 x=x)(a b:Id):(yB (yM l) a b).length≤64:=zTu (zKo hl) a b _
theorem zEM {l:List Int}(hl:∀x∈l,w64 x=x)(a b:Id):∀q∈yB (yM l) a b,q.length≤7:=fun q hq=>by have h1:=zLH _ _ _ q hq;have h2:=zKo hl;omega
structure GCv (p:Prg)(d a b:Dfn)(s:Slt):Prop where
 fa:Flat p a
 fb:Flat p b
 slots:d.slots=[s]
 typ:s.typ=jZ a.id
 res:d.res=jZ b.id
 body:WF p [⟨s.id,0,jZ a.id⟩] d.body (jZ b.id)
section
variable {l:List Int}(hl:∀x∈l,w64 x=x)
include hl
theorem zVd {d:Dfn}(hd:d∈(yM l).defs)(hk:d.kind=5):∃a b s,GCv (yM l) d a b s:=by
 change d∈jX l at hd;obtain⟨k,hk',rfl⟩:=jB4 hd;have hlen:=zBx l ⟨1,40⟩ (jK l);have hm:=zCI hl;rcases zC8 hl k hk' with ⟨_,m,e⟩ | ⟨hk2,hk7,m,e⟩
 ·rw[e]at hk;simp[zFf]at hk
 ·have hend:=zJf hl (jU l (jK l) ⟨1,40⟩).1.length (by omega) m;have hfl:=zDr hl;refine⟨(jU l (jK l) ⟨1,40⟩).1.getD (zBt l (jU l (jK l) ⟨1,40⟩).1.length m).1 .zero,(jU l (jK l) ⟨1,40⟩).1.getD (zBt l (jU l (jK l) ⟨1,40⟩).1.length m).2.1 .zero,
   ⟨idR ((30+(k-jK l):Nat):Int),⟨#[111,108,100]⟩,jZ ((jU l (jK l) ⟨1,40⟩).1.getD (zBt l (jU l (jK l) ⟨1,40⟩).1.length m).1 .zero).id,0,0⟩,?_,?_,by rw[e]; rfl,rfl,by rw[e]; rfl,by rw[e]; exact zO4 hl hfl hend.1 hend.2 _ _⟩
  ·rw[zDD hend.1]; exact hfl _ (jA3 _)
  ·rw[zDD hend.2]; exact hfl _ (jA3 _)
theorem qBa {x:Id}{t:Typ×Typ}(h:yH (yM l) x=some t):∃d a b s,qT (yM l).defs x=some d∧d.kind=5∧GCv (yM l) d a b s∧t=(jZ a.id,jZ b.id):=by
 obtain⟨d,s,hd,hk,hs,rfl⟩:=zKv h;obtain⟨a,b,s',hg⟩:=zVd hl (zAz hd).1 hk;have e:s=s':=by have:=hg.slots; rw[hs]at this; simpa using this
 subst e;exact⟨d,a,b,s,hd,hk,hg,by rw[hg.typ,hg.res]⟩
theorem zVe {e:Edg}(he:e∈yT (yM l)):yH (yM l) e.id=some (jZ e.fro,jZ e.to):=by
 rw[zS4,jCc]at he;obtain⟨x,_,hx⟩:=he;unfold zR2 at hx;cases h:yH (yM l) x with
 | none=>rw[h]at hx; cases hx
 | some t =>
  obtain⟨d,a,b,s,_,_,_,rfl⟩:=qBa hl h;rw[h]at hx;simp only[Typ.k,Typ.id,and_self,if_true,jA0]at hx;subst hx;exact h
end
inductive Chn (L:List Edg)(to:Id):Id→List Id→List Id→Prop
 | nil {a:Id} (met:List Id) (h:a=to):Chn L to a met []
 | cons {e:Edg} {a:Id} {met q:List Id} (ha:e.fro=a) (he:e∈L) (hn:e.to∉met) (h:Chn L to e.to (met++[e.to]) q):Chn L to a met (e.id::q)
section
variable {L:List Edg}{to:Id}
theorem Chn.end_ {at_:Id}{met q:List Id}(h:Chn L to at_ met q)(hm:to∈met):q=[]:=by
 induction h with
 | nil=>rfl
 | @cons e a met q ha he hn h ih =>
  have h0:=ih (by simp[hm]);subst h0;cases h with
  | nil _ h=>exact(hn (h▸hm)).elim
theorem zI0:∀(n:Nat) (at_:Id) (met q:List Id),at_∈met→zHF L met≤n→(q∈zAs L to n at_ met↔Chn L to at_ met q)
 | 0,at_,met,q,hm,hn=>by
  unfold zAs;constructor
  ·intro h;split at h
   ·rename_i e;simp only[jAn]at h;subst h;exact .nil _ e
   ·cases h
  ·intro h;cases h with
   | nil _ h=>simp[h]
   | cons ha he hn' _ =>
    have:=zCo he hn';omega
 | n+1,at_,met,q,hm,hn=>by
  unfold zAs;by_cases hat:at_=to
  ·rw[if_pos hat];subst hat;constructor
   ·intro h;simp only[jAn]at h;subst h;exact .nil _ rfl
   ·intro h;rw[h.end_ hm];simp
  ·rw[if_neg hat,List.mem_flatMap];constructor
   ·rintro⟨e,he,h⟩;split at h
    ·rename_i hc;rw[jAm]at h;obtain⟨q',h',rfl⟩:=h;have hlt:=zCo he hc.2;have:=(zI0 n e.to (met++[e.to]) q' (by simp) (by omega)).1 h';exact .cons hc.1 he hc.2 this
    ·cases h
   ·intro h;cases h with
    | nil _ h=>exact(hat h).elim
    | @cons e _ _ q ha he hn' h =>
     have hlt:=zCo he hn';refine⟨e,he,?_⟩;rw[if_pos ⟨ha,hn'⟩,jAm];exact⟨q,(zI0 n e.to (met++[e.to]) q (by simp) (by omega)).2 h,rfl⟩
theorem zIY (hL:L.Pairwise fun a b=>a.id≠b.id):∀(n:Nat) (at_:Id) (met:List Id),(zAs L to n at_ met).Nodup
 | 0,at_,met=>by unfold zAs; split<;>simp
 | n+1,at_,met=>by
  unfold zAs;split
  ·simp
  ·rw[List.Nodup,List.pairwise_flatMap];refine⟨fun e he=>?_,hL.imp fun {a b} hab=>fun x hx y hy=>?_⟩
   ·split
    ·rw[jCp];exact(zIY hL n e.to (met++[e.to])).imp fun h h'=>h (by simpa using h')
    ·exact .nil
   ·split at hx
    ·split at hy
     ·rw[jAm]at hx hy;obtain⟨x',_,rfl⟩:=hx;obtain⟨y',_,rfl⟩:=hy;intro h;simp only[jB]at h;exact hab h.1
     ·cases hy
    ·cases hx
end
def toI (p:Prg)(x:Id):Id:=(zVv p x).2.id
def zZc (p:Prg):Id→List Id→Prop
 | _,[]=>True
 | a,x::q=>yH p x=some (jZ a,jZ (toI p x))∧zZc p (toI p x) q
def zUF (p:Prg):Id→List Id→Id
 | a,[]=>a
 | _,x::q=>zUF p (toI p x) q
section
variable {p:Prg}{L:List Edg}(hlead:∀e∈L,yH p e.id=some (jZ e.fro,jZ e.to))
include hlead
theorem zGa {e:Edg}(he:e∈L):toI p e.id=e.to:=by unfold toI zVv;rw[hlead e he]; rfl
theorem zR3 {e e':Edg}(he:e∈L)(he':e'∈L)(h:e.id=e'.id):e=e':=by have h1:=hlead e he;have h2:=hlead e' he';rw[h,h2]at h1;obtain⟨a,b,c⟩:=e;obtain⟨a',b',c'⟩:=e';simp only[jA0,jB8,Typ.mk.injEq,Edg.mk.injEq,and_true,true_and]at h1 h ⊢;exact⟨h,h1.1.symm,h1.2.symm⟩
theorem Chn.goes {to at_:Id}{met q:List Id}(h:Chn L to at_ met q):zZc p at_ q∧zUF p at_ q=to:=by
 induction h with
 | nil _ h=>exact⟨trivial,h⟩
 | @cons e a met q ha he hn h ih =>
  subst ha;have ht:=zGa hlead he;have hd:=hlead e he;refine⟨⟨by rw[ht]; exact hd,by rw[ht]; exact ih.1⟩,?_⟩;show zUF p (toI p e.id) q=to;rw[ht]; exact ih.2
theorem Chn.app {y z at_:Id}{met q r:List Id}(h:Chn L y at_ met q):Chn L z at_ met (q++r)↔Chn L z y (met++q.map (toI p)) r:=by
 induction h with
 | nil met h=>subst h; simp
 | @cons e a met q ha he hn h ih =>
  subst ha;rw[jB0,jA9,zGa hlead he,show met++e.to::q.map (toI p)=met++[e.to]++q.map (toI p) by simp,←ih];constructor
  ·intro h';generalize hx:e.id::(q++r)=Q at h';cases h' with
   | nil=>cases hx
   | @cons e' _ _ q' ha' he' hn' h' =>
    simp only[jB]at hx;obtain⟨h1,rfl⟩:=hx;have:=zR3 hlead he he' h1;subst this;exact h'
  ·exact fun h'=>.cons rfl he hn h'
theorem Chn.more {z at_:Id}{met q:List Id}(h:Chn L z at_ met q)(pre:List Id):Chn L z at_ (pre++met) q↔∀w∈q.map (toI p),w∉pre:=by
 induction h with
 | nil met h=>simp; exact .nil _ h
 | @cons e a met q ha he hn h ih =>
  subst ha;rw[jA9,zGa hlead he];constructor
  ·intro h';generalize hx:e.id::q=Q at h';cases h' with
   | nil=>cases hx
   | @cons e' _ _ q' ha' he' hn' h' =>
    simp only[jB]at hx;obtain⟨h1,rfl⟩:=hx;have:=zR3 hlead he he' h1;subst this;rw[jAy]at h';have:=ih.1 h';simp only[jAb,not_or]at hn';intro w hw;rcases jA7.1 hw with rfl | hw
    ·exact hn'.1
    ·exact this w hw
  ·intro h';refine .cons rfl he (by simp only[jAb,not_or]; exact⟨h' _ (by simp),hn⟩) ?_;rw[jAy];exact ih.2 fun w hw=>h' w (by simp[hw])
end
theorem Flat.valid {p:Prg}{d:Dfn}(h:Flat p d):validT p (jZ d.id)=true:=by unfold validT; rw[yQ]; simp[Typ.k,Typ.kids,Typ.id,h.find,h.kind,zFI]
theorem Flat.dfn {p:Prg}{d:Dfn}(h:Flat p d):dfn p d.id=d:=by unfold Go.Proofs.YtdnelmeboihpkaaGreatDoor.dfn; rw[h.find]; rfl
theorem Flat.stored {p:Prg}{d:Dfn}(h:Flat p d):zAT p d.id=true:=by unfold zAT; rw[h.find]; simp[h.kind]
section
variable {l:List Int}(hl:∀x∈l,w64 x=x)
include hl
end
def zFg (p:Prg):List Id→List Id→List Id×Bool
 | out,[]=>(out,true)
 | out,x::q=>match yH p x with
  | some ab=>if ab.1.id=out.getLastD .zero∧ab.2.id∉out then zFg p (out++[ab.2.id]) q else (out,false)
  | none=>(out,false)
section
variable {p:Prg}{L:List Edg}(hlead:∀e∈L,yH p e.id=some (jZ e.fro,jZ e.to))
include hlead
theorem Chn.pass {to at_:Id}{met q:List Id}(h:Chn L to at_ met q)(hm:met.getLastD .zero=at_):zFg p met q=(met++q.map (toI p),true):=by
 induction h with
 | nil=>simp[zFg]
 | @cons e a met q ha he hn h ih =>
  subst ha;have e1:zFg p met (e.id::q)=if (jZ e.fro).id=met.getLastD .zero∧(jZ e.to).id∉met then zFg p (met++[(jZ e.to).id]) q else (met,false):=by rw[zFg,hlead e he]
  rw[e1,if_pos ⟨hm.symm,hn⟩];refine(ih (by simp)).trans ?_;rw[jA9,zGa hlead he];simp
theorem Chn.avoid {to at_:Id}{met q:List Id}(h:Chn L to at_ met q):∀w∈q.map (toI p),w∉met:=by
 induction h with
 | nil=>simp
 | @cons e a met q ha he hn h ih =>
  rw[jA9,zGa hlead he];intro w hw;rcases jA7.1 hw with rfl | hw
  ·exact hn
  ·have:=ih w hw;simp only[jAb,not_or]at this;exact this.1
end
theorem zIz (p:Prg):∀(q:List Id) (a:Id),∃pre,a::q.map (toI p)=pre++[zUF p a q]
 | [],a=>⟨[],rfl⟩
 | x::q,a=>by obtain⟨pre,h⟩:=zIz p q (toI p x);exact⟨a::pre,by simp only[jA9,zUF,jB0,h]⟩
theorem zEg {p:Prg}{x y:Id}{q:List Id}:q∈yB p x y↔Chn (yT p) y x [x] q:=zI0 _ _ _ _ (by simp) (zO0 _)
theorem zNa (p:Prg)(x y:Id):(yB p x y).Nodup:=by
 refine zIY ?_ _ _ _;have:=(zLD p);rw[jBv];intro i j hi hj hij e;have h2:((yT p).map (·.id)).Pairwise fun x y=>zBu x y=true:=this
 rw[jCp,jBv]at h2;exact zVx (h2 i j hi hj hij) e
section
variable {l:List Int}(hl:∀x∈l,w64 x=x)
include hl
theorem zQ4 {x y:Id}{q:List Id}(h:q∈yB (yM l) x y):zFg (yM l) [x] q=(x::q.map (toI (yM l)),true):=((zEg).1 h).pass (fun e he=>zVe hl he) rfl
theorem zQ2 {x y z:Id}{q r:List Id}(h1:q∈yB (yM l) x y)(h2:r∈yB (yM l) y z) :
 q++r∈yB (yM l) x z↔∀w∈r.map (toI (yM l)),w∉x::q.map (toI (yM l)):=by
 have hlead:∀e∈yT (yM l),yH (yM l) e.id=some (jZ e.fro,jZ e.to):=fun e he=>zVe hl he
 have c1:=(zEg).1 h1;have c2:=(zEg).1 h2;obtain⟨pre,hp⟩:=zIz (yM l) q x;rw[(c1.goes hlead).2]at hp;have hav:=c2.avoid hlead;rw[zEg,c1.app hlead,show [x]++q.map (toI (yM l))=x::q.map (toI (yM l)) from rfl,hp,c2.more hlead];constructor
 ·intro h w hw;have:=hav w hw;simp only[jAb,not_or];exact⟨h w hw,this⟩
 ·intro h w hw;have:=h w hw;simp only[jAb,not_or]at this;exact this.1
theorem zQ3 {x y:Id}{q:List Id}(h:q∈yB (yM l) x y):(x::q.map (toI (yM l))).getLastD .zero=y:=by obtain⟨pre,hp⟩:=zIz (yM l) q x;rw[(((zEg).1 h).goes (fun e he=>zVe hl he)).2]at hp;rw[hp]; simp
end
theorem zNU {P:Program} {σ : St}{f:FuncId}{l n:Nat}{e:TypeId}{sz:Nat}{cs:List A}{post:List A}(hσ : σ[l]?=some (.row true e sz n cs)){Q:Out→St→Prop}(h:yV P f (.sl n cs::post) σ Q):yV P f (.row l n::post) σ Q:=by
 intro H L w vs hs hvs;obtain⟨v,vs',rfl,h1,h2⟩:=zS hvs;refine h H L w (v::vs') hs (qH ?_ h2);simp only[Rel]at h1;obtain⟨_,li,e1,e2,e3,hv⟩:=h1;have hob:=hs.obj l li _ e1 hσ;simp only[zN]at hob;obtain⟨_,hln,hcl,hob⟩:=hob;have hv:=hv hln.symm;rcases hob with ⟨hb,h0⟩ | ⟨b,cur,hb,hh,k1,k2,k3,k4,k5,k6⟩
 ·rw[hb]at hv;subst h0;have hcs:cs=[]:=jBn (by simpa using hcl);simp only[Rel];exact⟨none,0,hv,jA _,jAs _,.inl ⟨trivial,hcs⟩⟩
 ·rw[hb]at hv;simp only[Rel];exact⟨_,_,hv,k1,k2,.inr ⟨b,0,_,rfl,k4,k5,k6.1⟩⟩
theorem zWI {P:Program} {σ : St}{d:Option Nat}{env:Env}{KD:Env→Prop}{f:FuncId}{l n:Nat}{e:TypeId}{sz:Nat}{cs:List A}{post post':List A}{r:A}(hσ : σ[l]?=some (.row true e sz n cs))(h:Ret P f (.sl n cs::post) [] r [])
 (ha:zBg [] (.sl n cs::post') (.sl n cs::post))(hr:∀m,vw jN (fun l=>some (m+l)) r=r)(hq:KD (env.put d r)):zFc P σ d KD f (.row l n::post') env:=by
 refine⟨r,zNU hσ (zA7 h [] (by simp) trivial ha ?_),hq⟩;have:ren [] σ.length r=r:=by
  have:=hr σ.length
  simpa [ren] using this
 rw[this];simp
def qEV:K:=G [kO 3 0,kO 4 1,kMn 6,kMb 7 false] (G [J 13 4 3,⟨none,.brow (some 14) 31 3 1 [ki,ki,ki] [(0,3,(kt 13))]⟩,M 8 14] (Z (G [kMi 9 0] (K.block 0 (K.loop (Z (G [M 15 9,M 16 2,kN 17 16,kB 18 15 17 .lss] (Y 18 ks (K.exit 0))) (Z (K.block 1 (Z (K.wk (K.dops [(0,1,J 22 3 2),(1,0,M 23 2),(2,0,M 24 9),(3,1,kX 25 23 24 3),(4,1,J 26 25 3),(5,1,kC 27 13 [(kt 22),(kt 26)]),(6,0,M 21 27),(7,0,kE 28 21 0),(8,0,kE 29 21 1),(9,0,kE 30 21 2),(10,303,⟨none,.alr (some 10) 3 kz2⟩),(11,304,⟨none,.alr (some 11) 4 kz2⟩),(12,0,S 10 28 5),(13,0,S 11 29 5),(14,0,M 12 30)])) (Z (Z (K.dops [(0,0,M 31 12),(1,0,kR 32 31),(2,0,M 33 32),(3,0,T 33 false (D 34 10 1)),(4,0,T 33 false (J 35 34 3)),(5,0,T 33 false (M 36 8)),(6,0,T 33 false (M 37 8)),(7,0,T 33 false (kN 38 37)),(8,0,T 33 false (kBi 39 38 1 .sub)),(9,0,T 33 false (kX 40 36 39 3)),(10,0,T 33 false (J 41 40 3)),(11,0,⟨some (33,false),.eqs (some 42) true [.i,.i,.i] (kt 35) (kt 41)⟩),(12,0,kPt 43 33 42),(13,0,M 44 43),(14,0,T 44 false (M 45 8)),(15,0,T 44 false (D 46 11 1)),(16,0,T 44 false (J 47 46 3)),(17,0,T 44 false (kC 48 33 [(kt 45),(kt 47)])),(18,0,kPt 49 44 48)]) (Y 49 (G [M 50 8,M 6 50,kMb 7 false] kr) ks)) (K.ops [M 51 8,D 52 11 1,J 53 52 3,kd 54 31 3 1 [ki,ki,ki] [(0,3,(kt 53))],kP 55 31 3 24 51 54,M 8 55])))) (K.ops [M 19 9,kBi 20 19 1 .add,M 9 20])))))) (G [M 56 8,M 6 56,kMb 7 true] kr)))
def qNK:Nat→Option (List (Nat×Nat)):=fun r=>match r with | 5=>some [(0,1),(1,0),(2,0),(3,1),(4,1),(5,1),(6,0),(7,0),(8,0),(9,0),(10,303),(11,304),(12,0),(13,0),(14,0)] | _=>none
theorem qMb:qE prog Tryz.f32.ntmps qNK (Tryz.f32.body.getD .skip)=some qEV.erase:=by kernel_rfl
@[simp] theorem qMO:zA prog 32=true:=by kernel_rfl
def zFP (r:List Id×Bool):A:=.tup [.sl r.1.length (zL r.1),bl r.2]
theorem zTt (p:Prg)(hp:p.defs.length≤100)(a:Id)(q:List Id)(hq:q.length≤1000):Ret prog 32 [.agg (zM p),.agg (zC a),.sl q.length (zL q)] [] (zFP (zFg p [a] q)) []:=by
 have hP:=eP p;refine qL Tryz.func32 rfl qMb (rs:=[.slot 6,.slot 7]) (by kernel_rfl) ?_;unfold qEV;simp -implicitDefEqProofs [hP,zC];refine jM (S:=Nat×List Id) (fun s=>[(2,.sl q.length (zL q)),(3,.ptr 0 0),(8,.row 2 s.2.length),(9,int s.1)]) (fun s=>[.box (zM p),.box (zC a),.row true 31 3 s.2.length (zL s.2)])
  (fun s=>s.1≤q.length∧s.2.length=s.1+1∧zFg p [a] q=zFg p s.2 (q.drop s.1)) (fun s=>q.length-s.1) (0,[a]) ⟨by simp,by simp,by simp⟩
  ((zWn (l:=2) rfl).trans (zO [0,1,2] 0 (by decide) (by simp) (by simp[hP,zC,zL]) (by simp))) ?_
 rintro⟨i,out⟩ ⟨hi,hlen,hpv⟩;simp only at hi hlen hpv;by_cases h:i<q.length
 ·have hw:=zA0 i (by omega);have hle:=zVw p (by omega) q[i];have hne:¬q=[]:=fun e=>by rw[e]at h; simp at h
  have hone:¬out=[]:=fun e=>by rw[e]at hlen; simp at hlen
  have hgn:out.length-1<out.length:=by omega
  have wl:IntKind.i64.wrap ((out.length:Int)-1)=((out.length-1:Nat):Int):=by rw[show ((out.length-1:Nat):Int)=(out.length:Int)-1 by omega];exact IntWalk.i64_in _ (by omega)
  have hlast:out.getLastD .zero=out[out.length-1]:=by rw[List.getLastD_eq_getLast?,List.getLast?_eq_getElem?,jA2 hgn]; rfl
  rw[jAu h,zFg]at hpv;simp -implicitDefEqProofs [hP,zC,h,hne,yW h]
  intros
  refine⟨_,_,zAe 2,?_⟩;simp -implicitDefEqProofs [List.replicate,h,hne,yW h];refine zAJ hle (by simp[hP,zC]) (by simp[zCr,zU]) ?_;cases hv:yH p q[i]with
  | none =>
   rw[hv]at hpv;simp -implicitDefEqProofs [zCr,zU];exact zB 1 (by simp[zFP,hpv])
  | some ab =>
   obtain⟨x,y⟩:=ab;rw[hv]at hpv;simp only at hpv;rw[hlast]at hpv;have hcd:=yW hgn;have hb:(out.length-1)*3+3≤out.length*3:=by omega
   generalize out[out.length-1]=z at hcd hpv;by_cases hx:x.id=z
   ·simp -implicitDefEqProofs [zCr,zU,wl,hgn,hb,hone,hcd,zAS,hx];refine zWI rfl (zOI out y.id) (by simp[zC]) (by simp) ?_;by_cases hy:y.id∈out
    ·rw[if_neg (fun h=>h.2 hy)]at hpv;simp -implicitDefEqProofs [hy];exact zB 1 (by simp[zFP,hpv])
    ·rw[if_pos ⟨hx,hy⟩]at hpv;simp -implicitDefEqProofs [hy];refine⟨⟨by simp[maxLen]; omega,by omega⟩,?_⟩;exact zP (i+1,out++[y.id]) ⟨h,by simp[hlen],hpv⟩ (by simp only; omega) (zO [0,1,2] 0 (by decide) (by simp) (by simp[hP,zC,zAi,zL]) (by simp[hw]))
   ·rw[if_neg (fun h=>hx h.1)]at hpv;simp -implicitDefEqProofs [zCr,zU,wl,hgn,hb,hone,hcd,zAS,hx];exact zB 1 (by simp[zFP,hpv])
 ·have hie:i=q.length:=by omega
  subst hie;rw[List.drop_length,zFg]at hpv;simp -implicitDefEqProofs [hP,zC]
  intros
  exact zB 1 (by simp[zFP,hpv])
def zTV:K:=(G [kMi 22 0] (K.block 4 (K.loop (Z (G [M 130 22,M 131 21,kB 132 130 131 .lss] (Y 132 ks (K.exit 4))) (Z (K.block 5 (Z (K.dops [(0,0,M 135 15),(1,0,M 136 21),(2,0,kX 137 135 136 1),(3,0,L 138 137 1),(4,0,M 139 15),(5,0,M 140 22),(6,0,kX 141 139 140 1),(7,0,L 142 141 1),(8,0,kC 143 31 [(kt 138),(kt 142)])]) (Y 143 (G [kMb 8 false] kr) ks))) (K.ops [M 133 22,kBi 134 133 1 .add,M 22 134]))))))
def zTX:K:=(G [kMi 29 1] (K.block 8 (K.loop (Z (G [M 182 29,M 183 26,kN 184 183,kB 185 182 184 .lss] (Y 185 ks (K.exit 8))) (Z (K.block 9 (K.ops [M 188 28,M 189 188,T 189 true (M 190 23),T 189 true (M 191 26),T 189 true (M 192 29),T 189 true (kX 193 191 192 3),T 189 true (J 194 193 3),T 189 true (kC 195 33 [(kt 190),(kt 194)]),T 189 true (kR 196 195),kPf 197 189 196,M 28 197])) (K.ops [M 186 29,kBi 187 186 1 .add,M 29 187]))))))
def zTW:K:=(G [kMi 31 0] (K.block 10 (K.loop (Z (G [M 198 31,M 199 19,kN 200 199,kB 201 198 200 .lss] (Y 201 ks (K.exit 10))) (Z (K.block 11 (K.dops [(0,0,M 204 30),(1,0,M 205 204),(2,0,T 205 false (M 206 19)),(3,0,T 205 false (M 207 31)),(4,1,T 205 false (kX 208 206 207 1)),(5,1,T 205 false (L 209 208 1)),(7,0,T 205 false (M 211 15)),(8,0,T 205 false (M 212 21)),(9,1,T 205 false (kX 213 211 212 1)),(10,1,T 205 false (L 214 213 1)),(12,0,T 205 false (M 216 17)),(13,0,T 205 false (M 217 25)),(14,1,T 205 false (kX 218 216 217 1)),(15,1,T 205 false (L 219 218 1)),(6,0,⟨some (205,false),.bslice (some 210) 31 3 0 [] []⟩),(11,0,T 205 false (kP 215 31 3 24 210 214)),(16,0,T 205 false (kP 220 31 3 24 215 219)),(17,4,T 205 false (kC 221 31 [(kt 209),(kt 220)])),(18,0,kPt 222 205 221),(19,0,M 30 222)])) (K.ops [M 202 31,kBi 203 202 1 .add,M 31 203]))))))
def zTZ:K:=(G [kMi 25 0] (K.block 6 (K.loop (Z (G [M 166 25,M 167 17,kN 168 167,kB 169 166 168 .lss] (Y 169 ks (K.exit 6))) (Z (K.block 7 (Z (K.dops [(0,0,J 173 9 2),(1,0,J 174 13 3),(2,0,M 175 17),(3,0,M 176 25),(4,0,kX 177 175 176 1),(5,0,L 178 177 1),(6,0,kC 179 32 [(kt 173),(kt 174),(kt 178)]),(7,0,M 172 179),(8,0,kE 180 172 0),(9,0,kE 181 172 1),(10,0,M 26 180),(11,0,M 27 181)]) (G [kMb 28 true] (Z (K.wk zTX) (Z (K.wk (K.ops [kMb 30 false])) (Z (K.wk zTW) (Z (K.wk (K.ops [M 223 30,M 224 28,⟨none,.eqv (some 225) true .b (kt 223) (kt 224)⟩])) (Y 225 (G [kMb 8 false] kr) ks)))))))) (K.ops [M 170 25,kBi 171 170 1 .add,M 25 171]))))))
def zRs:K:=(Z (G [kMi 21 0] (K.block 2 (K.loop (Z (G [M 124 21,M 125 15,kN 126 125,kB 127 124 126 .lss] (Y 127 ks (K.exit 2))) (Z (K.block 3 (Z (K.wk zTV) (Z (K.wk (K.dops [(0,0,J 145 9 2),(1,0,J 146 12 3),(2,0,M 147 15),(3,0,M 148 21),(4,0,kX 149 147 148 1),(5,0,L 150 149 1),(6,0,kC 151 32 [(kt 145),(kt 146),(kt 150)]),(7,0,M 144 151),(8,0,kE 152 144 0),(9,0,kE 153 144 1),(10,0,M 23 152),(11,0,M 24 153)])) (Z (Z (K.dops [(0,0,M 154 24),(1,0,kR 155 154),(2,0,M 156 155),(3,0,T 156 false (M 157 23)),(4,0,T 156 false (M 158 23)),(5,0,T 156 false (kN 159 158)),(6,0,T 156 false (kBi 160 159 1 .sub)),(7,0,T 156 false (kX 161 157 160 3)),(8,0,T 156 false (J 162 161 3)),(9,0,T 156 false (J 163 13 3)),(10,0,⟨some (156,false),.eqs (some 164) true [.i,.i,.i] (kt 162) (kt 163)⟩),(11,0,kPt 165 156 164)]) (Y 165 (G [kMb 8 false] kr) ks)) (K.wk zTZ))))) (K.wk (K.ops [M 128 21,kBi 129 128 1 .add,M 21 129]))))))) (G [kC 226 19 [],M 8 226] kr))
def zTY:K:=(G [M 59 10,M 60 1,M 61 10,kN 62 61,kC 63 12 [(kt 60),(kt 62)],kX 64 59 63 3,J 65 64 3,kZ 12 [ki,ki,ki],S 12 65 3] (G [M 66 10,M 67 2,M 68 10,kN 69 68,kC 70 12 [(kt 67),(kt 69)],kX 71 66 70 3,J 72 71 3,kZ 13 [ki,ki,ki],S 13 72 3] (G [M 73 10,M 74 3,M 75 10,kN 76 75,kC 77 12 [(kt 74),(kt 76)],kX 78 73 77 3,J 79 78 3,kZ 14 [ki,ki,ki],S 14 79 3] (G [J 81 9 2,J 82 12 3,J 83 13 3,kC 84 20 [(kt 81),(kt 82),(kt 83)],M 80 84,kE 85 80 0,kE 86 80 1,M 15 85,M 16 86] (G [J 88 9 2,J 89 13 3,J 90 14 3,kC 91 20 [(kt 88),(kt 89),(kt 90)],M 87 91,kE 92 87 0,kE 93 87 1,M 17 92,M 18 93] (G [J 95 9 2,J 96 12 3,J 97 14 3,kC 98 20 [(kt 95),(kt 96),(kt 97)],M 94 98,kE 99 94 0,kE 100 94 1,M 19 99,M 20 100] (Z (G [M 101 16,kQi 102 101 0 true,M 103 102,T 103 false (M 104 18),T 103 false (kQi 105 104 0 true),kPt 106 103 105,M 107 106,T 107 false (M 108 20),T 107 false (kQi 109 108 0 true),kPt 110 107 109] (Y 110 (G [M 111 16,kQi 112 111 4 false,M 113 112,T 113 false (M 114 18),T 113 false (kQi 115 114 4 false),kPt 116 113 115,M 117 116,T 117 false (M 118 20),T 117 false (kQi 119 118 4 false),kPt 120 117 119,M 121 120,T 121 true (kC 122 19 []),kPf 123 121 122,M 8 123] kr) ks)) (K.wk zRs))))))))
def qFg:K:=G [kMb 8 false] (G [M 32 0,kC 33 28 [(kt 32)],kZ 9 [kl,kl],S 9 33 2] (G [kMn 10] (Z (G [kMi 11 0] (K.block 0 (K.loop (Z (G [M 34 11,D 35 9 1,L 36 35 1,kN 37 36,kB 38 34 37 .lss,M 39 38,T 39 true (D 40 9 1),T 39 true (L 41 40 1),T 39 true (M 42 11),T 39 true (kX 43 41 42 31),T 39 true (D 44 43 3),T 39 true (L 45 44 1),T 39 true (kQi 46 45 0 false),kPf 47 39 46] (Y 47 ks (K.exit 0))) (Z (K.block 1 (K.ops [M 50 10,D 51 9 1,L 52 51 1,M 53 11,kX 54 52 53 31,D 55 54 0,J 56 55 3,kd 57 31 3 1 [ki,ki,ki] [(0,3,(kt 56))],kP 58 31 3 24 50 57,M 10 58])) (K.ops [M 48 11,kBi 49 48 1 .add,M 11 49])))))) (K.wk zTY))))
def qNM:Nat→Option (List (Nat×Nat)):=fun r=>match r with | 39=>some [(0,0),(1,0),(2,0),(3,0),(4,1),(5,1),(7,0),(8,0),(9,1),(10,1),(12,0),(13,0),(14,1),(15,1),(6,0),(11,0),(16,0),(17,4),(18,0),(19,0)] | _=>none
theorem qMm:qE prog Tryz.f7.ntmps qNM (Tryz.f7.body.getD .skip)=some qFg.erase:=by kernel_rfl
@[simp] theorem qN6:zA prog 7=true:=by kernel_rfl
def wB (one two all:List (List Id))(i:Nat):List (Nat×A):=[(9,.ptr 0 0),(12,.ptr 1 0),(13,.ptr 2 0),(15,.sl one.length (zZ one)),(17,.sl two.length (zZ two)),(19,.sl all.length (zZ all)),(21,int i)]
def wS (p:Prg)(x y:Id):St:=[.box (zM p),.box (zC x),.box (zC y)]
def apB (u T:List Id):Bool:=T.all fun z=>!decide (z∈u)
section
variable {p:Prg}{x y:Id}{one two all:List (List Id)}{i:Nat}
theorem qCk (h1:one.Nodup)(hl:one.length≤64)(hi:i<one.length)(Q:Ex→Env→St→Prop)(hQ:∀E S,zA4 0 (qU (wB one two all i)) (wS p x y) E S→Q .norm E S) :
 wpK prog 0 zTV Q (qU (wB one two all i)) (wS p x y):=by
 have hP:=eP p;unfold zTV;unfold wB wS at *
 simp -implicitDefEqProofs [hP,zC];refine jM (S:=Nat) (fun k=>[(9,.ptr 0 0),(12,.ptr 1 0),(13,.ptr 2 0),(15,.sl one.length (zZ one)),(17,.sl two.length (zZ two)),(19,.sl all.length (zZ all)),(21,int i),(22,int k)]) (fun _=>[.box (zM p),.box (zC x),.box (zC y)])
  (fun k=>k≤i) (fun k=>i-k) 0 (by omega) (zO [0,1,2] 0 (by decide) (by simp) (by simp[hP,zC]) (by simp)) ?_
 intro k hk;by_cases h:k<i
 ·have hki:k<one.length:=by omega
  have hne:¬one=[]:=fun e=>by rw[e]at hi; simp at hi
  have hw:=zA0 k (by omega);have hd:¬one[i]=one[k]:=fun e=>by exact(jBv.1 h1) k i hki hi h e.symm
  simp -implicitDefEqProofs [hP,zC,h,hi,hki,hne,zAl hi,zAl hki]
  intros
  refine qK (zII one[i] one[k]) (by simp) (by simp) ?_;simp -implicitDefEqProofs [hd];exact zP (k+1) h (by omega) (zO [0,1,2] 0 (by decide) (by simp) (by simp[hP,zC]) (by simp[hw]))
 ·simp -implicitDefEqProofs [hP,zC,h];exact hQ _ _ (zO [0,1,2] 0 (by simp) (by decide) (by simp[hP,zC]) (by simp))
theorem qCm {k:Nat}(u T:List Id)(hT:T.length≤1000)(Q:Ex→Env→St→Prop)
 (hQ:∀E S,zA4 0 (qU (wB one two all i++[(23,.sl u.length (zL u)),(25,int k),(28,bl (apB u T))])) (wS p x y) E S→Q .norm E S) :
 wpK prog 0 zTX Q (qU (wB one two all i++[(23,.sl u.length (zL u)),(25,int k),(26,.sl (y::T).length (zL (y::T))),(28,bl true)])) (wS p x y):=by
 have hP:=eP p;obtain⟨W,hW⟩:∃W,W=y::T:=⟨_,rfl⟩;have hWl:W.length=T.length+1:=by rw[hW]; rfl
 rw[←hW];unfold zTX;simp only[wB,wS,jB0,jBj]at hQ ⊢;simp -implicitDefEqProofs [hP,zC];refine jM (S:=Nat) (fun n=>[(9,.ptr 0 0),(12,.ptr 1 0),(13,.ptr 2 0),(15,.sl one.length (zZ one)),(17,.sl two.length (zZ two)),(19,.sl all.length (zZ all)),(21,int i),(23,.sl u.length (zL u)),(25,int k),(26,.sl W.length (zL W)),(28,bl (apB u (T.take n))),(29,int (n+1))]) (fun _=>[.box (zM p),.box (zC x),.box (zC y)])
  (fun n=>n≤T.length) (fun n=>T.length-n) 0 (by omega) (zO [0,1,2] 0 (by decide) (by simp) (by simp[hP,zC]) (by simp[apB])) ?_
 intro n hn;by_cases h:n<T.length
 ·have h2:n+1<W.length:=by omega
  have h2':(n:Int)+1<W.length:=by omega
  have hne:¬W=[]:=fun e=>by rw[e]at h2; simp at h2
  have hw:=jS ((n:Int)+1+1) (by omega);have hcd:=yW h2;have hz:W[n+1]=T[n]:=by subst hW; rfl
  rw[hz]at hcd;have hha:=zOI u T[n];have hstep:apB u (T.take (n+1))=(apB u (T.take n)&&!decide (T[n]∈u)):=by rw[jAa h,apB,List.all_append];simp[apB]
  generalize T[n]=t at *
  generalize apB u (T.take n)=b at *
  have hb3:(n+1)*3+3≤W.length*3:=by omega
  have hi2:((n:Int)+1).toNat=n+1:=by omega
  have hi0:(0:Int)≤(n:Int)+1:=by omega
  cases b
  ·simp -implicitDefEqProofs [hP,zC,h2,h2',hne,hcd]
   intros
   exact zP (n+1) h (by omega) (zO [0,1,2] 0 (by decide) (by simp) (by simp[hP,zC]) (by simp[hw,hstep]))
  ·simp -implicitDefEqProofs [hP,zC,h2,h2',hne,hcd,hb3,hi2,hi0]
   intros
   refine qD hha (by simp[zC]) (by simp) ?_;simp -implicitDefEqProofs;exact zP (n+1) h (by omega) (zO [0,1,2] 0 (by decide) (by simp) (by simp[hP,zC]) (by simp[hw,hstep]))
 ·have hne:n=T.length:=by omega
  subst hne;have h2':¬(T.length:Int)+1<W.length:=by omega
  rw[jAv];simp -implicitDefEqProofs [hP,zC,h2']
  intros
  exact hQ _ _ (zO [0,1,2] 0 (by simp) (by decide) (by simp[hP,zC]) (by simp))
theorem qCl {k:Nat}(u:List Id)(ap:Bool)(hi:i<one.length)(hk:k<two.length)(hl:all.length≤64)(hq1:∀q∈one,q.length≤7)(hq2:∀q∈two,q.length≤7)(Q:Ex→Env→St→Prop)
 (hQ:∀E S,zA4 0 (qU (wB one two all i++[(23,.sl u.length (zL u)),(25,int k),(28,bl ap),(30,bl (decide (one[i]++two[k]∈all)))])) (wS p x y) E S→Q .norm E S) :
 wpK prog 0 zTW Q (qU (wB one two all i++[(23,.sl u.length (zL u)),(25,int k),(28,bl ap),(30,bl false)])) (wS p x y):=by
 have hP:=eP p;unfold zTW;simp only[wB,wS,jB0,jBj]at hQ ⊢;simp -implicitDefEqProofs [hP,zC];refine jM (S:=Nat) (fun j=>[(9,.ptr 0 0),(12,.ptr 1 0),(13,.ptr 2 0),(15,.sl one.length (zZ one)),(17,.sl two.length (zZ two)),(19,.sl all.length (zZ all)),(21,int i),(23,.sl u.length (zL u)),(25,int k),(28,bl ap),(30,bl (decide (one[i]++two[k]∈all.take j))),(31,int j)]) (fun _=>[.box (zM p),.box (zC x),.box (zC y)])
  (fun j=>j≤all.length) (fun j=>all.length-j) 0 (by omega) (zO [0,1,2] 0 (by decide) (by simp) (by simp[hP,zC]) (by simp)) ?_
 intro j hj;by_cases h:j<all.length
 ·have hw:=zA0 j (by omega);have hstep:decide (one[i]++two[k]∈all.take (j+1))=(decide (one[i]++two[k]∈all.take j)||decide (all[j]=one[i]++two[k])):=by rw[jAa h,Bool.eq_iff_iff];simp only[jAb,jAn,decide_eq_true_eq,jB3];rw[eq_comm (a:=all[j])]
  have hs:=zII all[j] (one[i]++two[k]);have l1:=hq1 _ (jA3 hi);have l2:=hq2 _ (jA3 hk);have n1:¬one=[]:=fun e=>by rw[e]at hi; simp at hi
  have n2:¬two=[]:=fun e=>by rw[e]at hk; simp at hk
  have n3:¬all=[]:=fun e=>by rw[e]at h; simp at h
  have d1:=zAl hi;have d2:=zAl hk;have d3:=zAl h;generalize one[i]=q1 at *
  generalize two[k]=q2 at *
  generalize all[j]=q3 at *
  obtain⟨c,hc⟩:∃c,c=q1++q2:=⟨_,rfl⟩;have hcl:zL c=zL q1++zL q2:=by rw[hc,zAi]
  have hcn:c.length=q1.length+q2.length:=by rw[hc,jA5]
  rw[←hc]at hs hstep;rw[←hc];rw[hcl,hcn]at hs;clear hcl hcn;cases hb:decide (c∈all.take j)<;>rw[hb]at hstep
  ·by_cases e1:q1=[]
   ·subst e1;by_cases e2:q2=[]
    ·subst e2;simp -implicitDefEqProofs [hP,zC,h,hi,hk,n1,n2,n3,d1,d2,d3,zL]
     intros
     refine⟨_,_,zA7 hs [] (by simp) trivial (by simp) ⟨rfl,rfl⟩,?_⟩;simp -implicitDefEqProofs;exact zP (j+1) h (by omega) (zO [0,1,2] 0 (by decide) (by simp) (by simp[hP,zC]) (by simp[hw,hstep]))
    ·simp -implicitDefEqProofs [hP,zC,h,hi,hk,n1,n2,n3,d1,d2,d3,zL,e2]
     intros
     refine⟨⟨by simp[maxLen]; omega,by omega⟩,_,_,zGM [_] (l:=3) rfl (zA7 hs [] (by simp) trivial (by simp) ⟨rfl,rfl⟩),?_⟩;simp -implicitDefEqProofs;exact zP (j+1) h (by omega) (zO [0,1,2] 0 (by decide) (by simp) (by simp[hP,zC]) (by simp[hw,hstep]))
   ·by_cases e2:q2=[]
    ·subst e2;simp -implicitDefEqProofs [hP,zC,h,hi,hk,n1,n2,n3,d1,d2,d3,zL,e1]
     intros
     refine⟨⟨by simp[maxLen]; omega,by omega⟩,_,_,zGM [_] (l:=3) rfl (zA7 hs [] (by simp) trivial (by simp) ⟨rfl,rfl⟩),?_⟩;simp -implicitDefEqProofs;exact zP (j+1) h (by omega) (zO [0,1,2] 0 (by decide) (by simp) (by simp[hP,zC]) (by simp[hw,hstep]))
    ·simp -implicitDefEqProofs [hP,zC,h,hi,hk,n1,n2,n3,d1,d2,d3,e1,e2]
     intros
     refine⟨⟨by simp[maxLen]; omega,by omega⟩,⟨by simp[maxLen]; omega,by omega⟩,_,_,zGM [_] (l:=3) rfl (zA7 hs [] (by simp) trivial (by simp[zAi]) ⟨rfl,rfl⟩),?_⟩;simp -implicitDefEqProofs;exact zP (j+1) h (by omega) (zO [0,1,2] 0 (by decide) (by simp) (by simp[hP,zC]) (by simp[hw,hstep]))
  ·simp -implicitDefEqProofs [hP,zC,h]
   intros
   exact zP (j+1) h (by omega) (zO [0,1,2] 0 (by decide) (by simp) (by simp[hP,zC]) (by simp[hw,hstep]))
 ·have hje:j=all.length:=by omega
  subst hje;rw[jAv];simp -implicitDefEqProofs [hP,zC]
  intros
  exact hQ _ _ (zO [0,1,2] 0 (by simp) (by decide) (by simp[hP,zC]) (by simp))
theorem qCp (u:List Id)(hi:i<one.length)(hl:all.length≤64)(hl2:two.length≤64)(hq1:∀q∈one,q.length≤7)(hq2:∀q∈two,q.length≤7)
 (hpa:∀q∈two,Ret prog 32 [.agg (zM p),.agg (zC y),.sl q.length (zL q)] [] (zFP (y::q.map (toI p),true)) [])
 (hj:∀q∈two,decide (one[i]++q∈all)=apB u (q.map (toI p)))(Q:Ex→Env→St→Prop)
 (hQ:∀E S,zA4 0 (qU (wB one two all i++[(23,.sl u.length (zL u))])) (wS p x y) E S→Q .norm E S) :
 wpK prog 0 zTZ Q (qU (wB one two all i++[(23,.sl u.length (zL u))])) (wS p x y):=by
 have hP:=eP p;unfold zTZ;simp only[wB,wS,jB0,jBj]at hQ ⊢;simp -implicitDefEqProofs [hP,zC];refine jM (S:=Nat) (fun k=>[(9,.ptr 0 0),(12,.ptr 1 0),(13,.ptr 2 0),(15,.sl one.length (zZ one)),(17,.sl two.length (zZ two)),(19,.sl all.length (zZ all)),(21,int i),(23,.sl u.length (zL u)),(25,int k)]) (fun _=>[.box (zM p),.box (zC x),.box (zC y)])
  (fun k=>k≤two.length) (fun k=>two.length-k) 0 (by omega) (zO [0,1,2] 0 (by decide) (by simp) (by simp[hP,zC]) (by simp)) ?_
 intro k hk;by_cases h:k<two.length
 ·have hw:=zA0 k (by omega);have hne:¬two=[]:=fun e=>by rw[e]at h; simp at h
  have hpk:=hpa _ (jA3 h);have hjk:=hj _ (jA3 h);have hql:=hq2 _ (jA3 h);have hF:=qCl (p:=p) (x:=x) (y:=y) (all:=all) u (apB u (two[k].map (toI p))) hi h hl hq1 hq2;have hJ:=qCm (p:=p) (x:=x) (y:=y) (one:=one) (two:=two) (all:=all) (i:=i) (k:=k) u (two[k].map (toI p)) (by simp; omega);rw[hjk]at hF;have hcd:=zAl h;generalize two[k]=q at *
  unfold zFP at hpk;simp only at hpk;generalize apB u (q.map (toI p))=b at *
  generalize q.map (toI p)=T at *
  simp -implicitDefEqProofs [hP,zC,h,hne,hcd]
  intros
  refine qK hpk (by simp[hP,zC]) (by simp) ?_;simp -implicitDefEqProofs;refine⟨_,_,zO [0,1,2] 0 (by simp) (by decide) ?_ ?_,hJ _ fun E S hw1=>?_⟩
  ·simp[wS,hP,zC]
  ·simp[wB]
  ·simp -implicitDefEqProofs;refine⟨_,_,hw1,?_⟩;simp -implicitDefEqProofs [wB,wS,hP,zC];refine⟨_,_,zO [0,1,2] 0 (by simp) (by decide) ?_ ?_,hF _ fun E S hw2=>?_⟩
   ·simp[wS,hP,zC]
   ·simp[wB]
   ·simp -implicitDefEqProofs;refine⟨_,_,hw2,?_⟩;simp -implicitDefEqProofs [wB,wS,hP,zC];exact zP (k+1) h (by omega) (zO [0,1,2] 0 (by decide) (by simp) (by simp[hP,zC]) (by simp[hw]))
 ·simp -implicitDefEqProofs [hP,zC,h]
  intros
  exact hQ _ _ (zO [0,1,2] 0 (by simp) (by decide) (by simp[hP,zC]) (by simp))
theorem qCn (h1:one.Nodup)(hl0:one.length≤64)(hl:all.length≤64)(hl2:two.length≤64)(hq1:∀q∈one,q.length≤7)(hq2:∀q∈two,q.length≤7)
 (hpx:∀q∈one,Ret prog 32 [.agg (zM p),.agg (zC x),.sl q.length (zL q)] [] (zFP (x::q.map (toI p),true)) [])
 (hla:∀q∈one,(x::q.map (toI p)).getLastD .zero=y)
 (hpa:∀q∈two,Ret prog 32 [.agg (zM p),.agg (zC y),.sl q.length (zL q)] [] (zFP (y::q.map (toI p),true)) [])
 (hj:∀r∈one,∀q∈two,decide (r++q∈all)=apB (x::r.map (toI p)) (q.map (toI p))) :
 wpK prog 0 zRs (fin [RS.slot 8] (zFq 0 (bl true) [])) (qU [(9,.ptr 0 0),(12,.ptr 1 0),(13,.ptr 2 0),(15,.sl one.length (zZ one)),(17,.sl two.length (zZ two)),(19,.sl all.length (zZ all))]) (wS p x y):=by
 have hP:=eP p;have hlv:=zQE;unfold zRs;simp -implicitDefEqProofs [hP,zC,wS];refine jM (S:=Nat) (fun i=>wB one two all i) (fun _=>wS p x y)
  (fun i=>i≤one.length) (fun i=>one.length-i) 0 (by omega) (zO [0,1,2] 0 (by decide) (by simp) (by simp[hP,zC,wS]) (by simp[wB])) ?_
 intro i hi0;by_cases h:i<one.length
 ·have hw:=zA0 i (by omega);have hne:¬one=[]:=fun e=>by rw[e]at h; simp at h
  have hA:=qCk (p:=p) (x:=x) (y:=y) (two:=two) (all:=all) h1 hl0 h;have hpk:=hpx _ (jA3 h);have hlk:=hla _ (jA3 h);have hql:=hq1 _ (jA3 h);have hT:=qCp (p:=p) (x:=x) (y:=y) (x::one[i].map (toI p)) h hl hl2 hq1 hq2 hpa (hj _ (jA3 h));have hcd:=zAl h;unfold zFP at hpk;simp only at hpk;obtain⟨U,hU⟩:∃U,U=x::one[i].map (toI p):=⟨_,rfl⟩;have hUl:U.length≤8∧0<U.length:=by rw[hU]; simp; omega
  have hUne:¬U=[]:=fun e=>by rw[e]at hU; cases hU
  rw[←hU]at hpk hlk hT;have hgn:U.length-1<U.length:=by omega
  rw[List.getLastD_eq_getLast?,List.getLast?_eq_getElem?,jA2 hgn,jB9]at hlk;have wl:IntKind.i64.wrap ((U.length:Int)-1)=((U.length-1:Nat):Int):=by rw[show ((U.length-1:Nat):Int)=(U.length:Int)-1 by omega];exact IntWalk.i64_in _ (by omega)
  have hb:(U.length-1)*3+3≤U.length*3:=by omega
  have hul:=yW hgn;rw[hlk]at hul;clear hU;generalize one[i]=q at *
  simp -implicitDefEqProofs [hP,zC,wB,wS,h]
  intros
  refine⟨_,_,zO [0,1,2] 0 (by simp) (by decide) ?_ ?_,hA _ fun E S hw1=>?_⟩
  ·simp[wS,hP,zC]
  ·simp[wB]
  ·simp -implicitDefEqProofs;refine⟨_,_,hw1,?_⟩;simp -implicitDefEqProofs [wB,wS,hP,zC,h,hne,hcd]
   intros
   refine qK hpk (by simp[hP,zC]) (by simp) ?_;simp -implicitDefEqProofs [wl,hgn,hb,hul,hUne,zAS];refine⟨_,_,zO [0,1,2] 0 (by simp) (by decide) ?_ ?_,hT _ fun E S hw2=>?_⟩
   ·simp[wS,hP,zC]
   ·simp[wB]
   ·simp -implicitDefEqProofs;refine⟨_,_,hw2,?_⟩;simp -implicitDefEqProofs [wB,wS,hP,zC];exact zP (i+1) h (by omega) (zO [0,1,2] 0 (by decide) (by simp) (by simp[hP,zC,wS]) (by simp[hw,wB]))
 ·simp -implicitDefEqProofs [hP,zC,wB,wS,h]
  intros
  refine qD hlv (by simp) (by simp) ?_;simp -implicitDefEqProofs;exact zB 0 (by simp)
end
theorem qCo {p:Prg}{I:List Id}(hI:I.length≤4){a b c:Int}{i1 i2 i3:Nat}(h1:i1<I.length)(h2:i2<I.length)(h3:i3<I.length)
 (r1:Ret prog 12 [int a,int I.length] [] (int i1) [])(r2:Ret prog 12 [int b,int I.length] [] (int i2) [])(r3:Ret prog 12 [int c,int I.length] [] (int i3) [])
 {one two all:List (List Id)}
 (p1:Ret prog 20 [.agg (zM p),.agg (zC I[i1]),.agg (zC I[i2])] [] (.tup [.sl one.length (zZ one),int 0]) [])
 (p2:Ret prog 20 [.agg (zM p),.agg (zC I[i2]),.agg (zC I[i3])] [] (.tup [.sl two.length (zZ two),int 0]) [])
 (p3:Ret prog 20 [.agg (zM p),.agg (zC I[i1]),.agg (zC I[i3])] [] (.tup [.sl all.length (zZ all),int 0]) [])
 (hL:wpK prog 0 zRs (fin [RS.slot 8] (zFq 0 (bl true) [])) (qU [(9,.ptr 0 0),(12,.ptr 1 0),(13,.ptr 2 0),(15,.sl one.length (zZ one)),(17,.sl two.length (zZ two)),(19,.sl all.length (zZ all))]) (wS p I[i1] I[i2])) :
 wpK prog 0 zTY (fin [RS.slot 8] (zFq 0 (bl true) [])) (qU [(1,int a),(2,int b),(3,int c),(9,.ptr 0 0),(10,.sl I.length (zL I))]) [.box (zM p)]:=by
 have hP:=eP p;have c1:=yW h1;have c2:=yW h2;have c3:=yW h3;have hne:¬I=[]:=fun e=>by rw[e]at h1; simp at h1
 generalize I[i1]=x at *
 generalize I[i2]=y at *
 generalize I[i3]=z at *
 unfold zTY;simp -implicitDefEqProofs [hP]
 intros
 refine qD r1 (by simp) (by simp) ?_;simp -implicitDefEqProofs [h1,hne,c1]
 intros
 refine qD r2 (by simp) (by simp) ?_;simp -implicitDefEqProofs [h2,hne,c2]
 intros
 refine qD r3 (by simp) (by simp) ?_;simp -implicitDefEqProofs [h3,hne,c3];refine qD p1 (by simp[hP,zC]) (by simp) ?_;simp -implicitDefEqProofs;refine qD p2 (by simp[hP,zC]) (by simp) ?_;simp -implicitDefEqProofs;refine qD p3 (by simp[hP,zC]) (by simp) ?_;simp -implicitDefEqProofs;refine⟨_,_,zO [0,1,2] 0 (by simp) (by decide) ?_ ?_,hL⟩
 ·simp[wS,hP,zC]
 ·simp
theorem qNP (l:List Int)(a b c:Int)(hl:∀x∈l,w64 x=x)(ha:w64 a=a)(hb:w64 b=b)(hc:w64 c=c) :
 Ret prog 7 [.sl l.length (zAM l),int a,int b,int c] [] (bl true) []:=by
 have hf:=zLX hl;have rP:=zVl hl;have hmany:=zCI hl;have hlen:=zI2 hl;have hM:jK l≤(jX l).length:=by unfold jX; rw[jA5,zBx]; omega
 obtain⟨I,hI⟩:∃I,I=((jX l).take (jK l)).map (·.id):=⟨_,rfl⟩;have hIl:I.length=jK l:=by rw[hI]; simp; omega
 have hIg:∀(i:Nat) (h:i<I.length) (h':i<(jX l).length),I[i]=(jX l)[i].id:=fun i h h'=>by subst hI; simp
 have hst:∀(i:Nat) (h:i<I.length),zAT (yM l) I[i]=true:=fun i h=>by rw[hIg i h (by omega)];exact(zEf hl (by omega) (by omega)).stored
 have hk0:∀(i:Nat) (h:i<(jX l).length),i<jK l→(jX l)[i].kind=0:=fun i h hi=>(zEf hl hi h).kind
 have hk5:∀(h:jK l<(jX l).length),¬(jX l)[jK l].kind=0:=fun h=>by
  rcases zC8 hl (jK l) h with ⟨hk,_⟩ | ⟨_,_,m,e⟩
  ·omega
  ·rw[e]; simp[zGD]
 have rp:∀(i j:Nat) (h:i<I.length) (h':j<I.length),Ret prog 20 [.agg (zM (yM l)),.agg (zC I[i]),.agg (zC I[j])] [] (.tup [.sl (yB (yM l) I[i] I[j]).length (zZ (yB (yM l) I[i] I[j])),int 0]) []:=fun i j h h'=>by have:=zHs hf I[i] I[j] (zEL hl _ _);unfold zCM at this;rw[if_pos ⟨hst i h,hst j h'⟩]at this;exact this
 have rpas:∀(x y:Id),∀q∈yB (yM l) x y,Ret prog 32 [.agg (zM (yM l)),.agg (zC x),.sl q.length (zL q)] [] (zFP (x::q.map (toI (yM l)),true)) []:=fun x y q hq=>by have:=zTt (yM l) hf.len8 x q (by have:=zEM hl x y q hq; omega);rw[zQ4 hl hq]at this;exact this
 have r1:=zGd a I.length (by omega);have r2:=zGd b I.length (by omega);have r3:=zGd c I.length (by omega);obtain⟨a0,a1⟩:=zCR (k:=(I.length:Int)) ha (by omega);obtain⟨b0,b1⟩:=zCR (k:=(I.length:Int)) hb (by omega);obtain⟨c0,c1⟩:=zCR (k:=(I.length:Int)) hc (by omega);obtain⟨i1,e1⟩:∃i:Nat,zBJ a I.length=i:=⟨(zBJ a I.length).toNat,by omega⟩;obtain⟨i2,e2⟩:∃i:Nat,zBJ b I.length=i:=⟨(zBJ b I.length).toNat,by omega⟩;obtain⟨i3,e3⟩:∃i:Nat,zBJ c I.length=i:=⟨(zBJ c I.length).toNat,by omega⟩;rw[e1]at r1 a1;rw[e2]at r2 b1;rw[e3]at r3 c1;have h1:i1<I.length:=by omega
 have h2:i2<I.length:=by omega
 have h3:i3<I.length:=by omega
 have hR:=qCo (p:=yM l) (by omega) h1 h2 h3 r1 r2 r3 (rp i1 i2 h1 h2) (rp i2 i3 h2 h3) (rp i1 i3 h1 h3)
  (qCn (zNa _ _ _) (zEL hl _ _) (zEL hl _ _) (zEL hl _ _) (zEM hl _ _) (zEM hl _ _) (rpas _ _) (fun q hq=>zQ3 hl hq) (rpas _ _)
   (fun r hr q hq=>by rw[Bool.eq_iff_iff,decide_eq_true_eq,zQ2 hl hr hq];simp[apB]))
 have hP:zM (yM l)=[.sl (yM l).mods.length (qQ (yM l).mods),.sl (jX l).length (qB (jX l))]:=rfl;clear rp rpas r1 r2 r3 hst;generalize jX l=D at *
 generalize yM l=p at *
 generalize jK l=M at *
 refine qL Tryz.func7 rfl qMm (rs:=[.slot 8]) (by kernel_rfl) ?_;unfold qFg;simp -implicitDefEqProofs;refine qD rP (by simp) (by simp[hP]) ?_;simp -implicitDefEqProofs [hP];refine jM (S:=Nat) (fun i=>[(1,int a),(2,int b),(3,int c),(9,.ptr 0 0),(10,.row 1 i),(11,int i)]) (fun i=>[.box (zM p),.row false 31 3 i (zL (I.take i))]) (fun i=>i≤M) (fun i=>M-i) 0 (by omega)
  ((zA9 (t:=10) (by simp) 31 3).trans (zO [0,1] 0 (by decide) (by simp) (by simp[hP]) (by simp))) ?_
 intro i hi;have hw:=zA0 i (by omega);by_cases h:i<M
 ·have hiD:i<D.length:=by omega
  have hiI:i<I.length:=by omega
  have hne:¬D=[]:=fun e=>by rw[e]at hiD; simp at hiD
  have hkd:=hk0 i hiD h;have hid:=hIg i hiI hiD;have hcd:=zA5 hiD;have htk:zL (I.take (i+1))=zL (I.take i)++zC D[i].id:=by rw[zIr hiI,hid]
  generalize D[i]=d at *
  simp -implicitDefEqProofs [hP,hiD,hne,hcd,zG,hkd]
  intros
  refine⟨⟨by simp[maxLen]; omega,by omega⟩,?_⟩;exact zP (i+1) h (by omega) (zO [0,1] 0 (by decide) (by simp) (by simp[hP,htk,zC]) (by simp[hw]))
 ·have hie:i=M:=by omega
  subst hie;rw[show I.take i=I from jAj (by omega)];by_cases hiD:i<D.length
  ·have hne:¬D=[]:=fun e=>by rw[e]at hiD; simp at hiD
   have hkd:=hk5 hiD;have hcd:=zA5 hiD;generalize D[i]=d at *
   simp -implicitDefEqProofs [hP,hiD,hne,hcd,zG,hkd]
   intros
   refine⟨_,_,zO [0] 1 (by simp) (by decide) ?_ ?_,hR⟩
   ·simp[hP]
   ·simp[hIl]
  ·simp -implicitDefEqProofs [hP,hiD]
   intros
   refine⟨_,_,zO [0] 1 (by simp) (by decide) ?_ ?_,hR⟩
   ·simp[hP]
   ·simp[hIl]
end Go.Proofs.YtdnelmeboihpkaaGreatDoor
