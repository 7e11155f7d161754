/-
  The example of the law on converters, evaluated.
  Small functions of the law on converters.
  What convert answers at the example.
  The examples of the law on converters hold.
  The second generator's programs have few paths.
  The converters of the second generator's programs; what the paths are.
  The values of a domain have its type; records of the second generator have few values.
  Calls of the second generator's converters: they end, or the fuel does; a path is followed in two parts.
  The law on agreement.
-/
import Derived.Test.YtdnelmeboihpkaaGreatDoorX22
import Derived.Test.YtdnelmeboihpkaaGreatDoorX12
import Derived.Test.YtdnelmeboihpkaaGreatDoorX19
import Derived.Test.YtdnelmeboihpkaaGreatDoorX13
import Derived.Test.YtdnelmeboihpkaaGreatDoorX21
import Derived.Test.YtdnelmeboihpkaaGreatDoorX17
import Derived.Test.YtdnelmeboihpkaaGreatDoorX16
set_option linter.unusedVariables false
set_option maxHeartbeats 8000000
set_option maxRecDepth 100000
set_option linter.unusedSimpArgs false
open Go.Proofs.Tryz (prog)
namespace Go.Proofs.YtdnelmeboihpkaaGreatDoor
open Go.Abs
def zUK:K:=G [kZ 2 [ki,ki,ki]] (G [M 3 0,kb 4 [ki,ki,ki] [(1,1,(kc 1)),(2,1,(kt 3))],S 2 4 3] kr)
theorem zZN:zO prog Tryz.f50.ntmps (Tryz.f50.body.getD .skip)=some zUK.erase:=by kernel_rfl
@[simp] theorem zXC:zA prog 50=true:=by kernel_rfl
def zZk:Entry:=⟨zUK,[.cell 2 3 true],false⟩
theorem zXV:zBO prog 50 zZk:=⟨zXC,_,_,zFf,Tryz.func50,rfl,zZN,by kernel_rfl⟩
def zZA:K:=G [kZ 2 kz2] (G [M 3 0,kC 4 50 [(kt 3)],kb 5 kz2 [(0,1,(kc 3)),(1,3,(kt 4))],S 2 5 5] kr)
theorem qHl:zO prog Tryz.f94.ntmps (Tryz.f94.body.getD .skip)=some zZA.erase:=by kernel_rfl
@[simp] theorem zXD:zA prog 94=true:=by kernel_rfl
def zZl:Entry:=⟨zZA,[.cell 2 5 true],false⟩
theorem zXW:zBO prog 94 zZl:=⟨zXD,_,_,zFf,Tryz.func94,rfl,qHl,by kernel_rfl⟩
def zUH:K:=G [kZ 8 kz1] (G [M 9 0,kC 10 50 [(kt 9)],M 11 1,M 12 2,kC 13 50 [(kt 12)],M 14 0,kBi 15 14 1 .add,kC 16 50 [(kt 15)],M 17 3,kC 18 50 [(kt 17)],kb 19 kz1 [(0,3,(kt 16)),(3,1,(kc 2)),(5,3,(kt 18))],kd 20 39 15 1 kz1 [(0,15,(kt 19))],kb 21 kz1 [(0,3,(kt 10)),(3,1,(kc 8)),(4,1,(kt 11)),(5,3,(kt 13)),(13,1,(kt 20))],S 8 21 15] kr)
theorem qBs:zO prog Tryz.f93.ntmps (Tryz.f93.body.getD .skip)=some zUH.erase:=by kernel_rfl
@[simp] theorem zVf:zA prog 93=true:=by kernel_rfl
def zUC:Entry:=⟨zUH,[.cell 8 15 true],false⟩
theorem zVG:zBO prog 93 zUC:=⟨zVf,_,_,zFf,Tryz.func93,rfl,qBs,by kernel_rfl⟩
def zUM:K:=G [kZ 6 kz0] (G [M 9 0,kC 10 50 [(kt 9)],kC 11 50 [(kc 0)],M 12 1,kb 13 kz0 [(0,3,(kt 10)),(3,1,(kc 0)),(4,3,(kt 11)),(7,1,(kt 12))],kZ 7 kz0,S 7 13 31] (Z (G [kMi 8 0] (K.block 0 (K.loop (Z (G [M 14 8,M 15 2,kN 16 15,kB 17 14 16 .lss] (Y 17 ks (K.exit 0))) (Z (K.block 1 (K.dops [(0,0,D 20 7 8),(1,0,L 21 20 1),(2,0,M 22 2),(3,0,M 23 8),(4,0,kX 24 22 23 1),(5,0,L 25 24 1),(6,0,kC 26 50 [(kt 25)]),(7,0,⟨none,.bslice (some 27) 9 1 2 [(.string ⟨#[]⟩),(.string ⟨#[]⟩)] [(0,1,(.const (.string ⟨#[120]⟩))),(1,1,(.const (.string ⟨#[121]⟩)))]⟩),(8,0,M 28 8),(9,0,kX 29 27 28 1),(10,0,L 30 29 1),(11,0,M 31 8),(12,0,kb 32 kz5 [(0,3,(kt 26)),(3,1,(kt 30)),(10,1,(kt 31))]),(13,0,kd 33 85 11 1 kz5 [(0,11,(kt 32))]),(14,0,kP 34 85 11 112 21 33),(15,0,D 35 7 8),(16,0,S 35 34 1)])) (K.ops [M 18 8,kBi 19 18 1 .add,M 8 19])))))) (G [J 36 7 31,S 6 36 31] kr)))
theorem qBw:zO prog Tryz.f95.ntmps (Tryz.f95.body.getD .skip)=some zUM.erase:=by kernel_rfl
@[simp] theorem zVh:zA prog 95=true:=by kernel_rfl
def zUE:Entry:=⟨zUM,[.cell 6 31 true],true⟩
theorem zVI:zBO prog 95 zUE:=⟨zVh,_,_,zFf,Tryz.func95,rfl,qBw,by kernel_rfl⟩
def zZ4:K:=G [kZ 0 [kl,kl]] (G [kC 5 50 [(kc 20)],kC 6 50 [(kc 11)],kC 7 93 [(kc 21),(kc 0),(kc 10),(kc 4)],kC 8 50 [(kc 23)],kb 9 kz1 [(0,3,(kt 8))],kd 10 39 15 2 kz6 [(0,15,(kt 7)),(15,15,(kt 9))],kb 11 kz1 [(0,3,(kt 5)),(3,1,(kc 7)),(5,3,(kt 6)),(13,1,(kt 10))],kZ 1 kz1,S 1 11 15] (G [kC 12 50 [(kc 24)],kC 13 93 [(kc 25),(kc 0),(kc 11),(kc 5)],kC 14 93 [(kc 27),(kc 1),(kc 11),(kc 5)],kd 15 39 15 2 kz6 [(0,15,(kt 13)),(15,15,(kt 14))],kb 16 kz1 [(0,3,(kt 12)),(3,1,(kc 4)),(4,1,(kc 0)),(13,1,(kt 15))],kZ 2 kz1,S 2 16 15] (G [kC 17 50 [(kc 29)],kC 18 93 [(kc 30),(kc 0),(kc 10),(kc 6)],kC 19 93 [(kc 16),(kc 0),(kc 10),(kc 6)],kd 20 39 15 2 kz6 [(0,15,(kt 18)),(15,15,(kt 19))],kb 21 kz1 [(0,3,(kt 17)),(3,1,(kc 4)),(4,1,(kc 2)),(13,1,(kt 20))],kZ 3 kz1,S 3 21 15] (G [kC 22 50 [(kc 0)],kC 23 50 [(kc 1)],kC 24 50 [(kc 2)],kC 25 50 [(kc 3)],kC 26 50 [(kc 10)],kC 27 50 [(kc 11)],kC 28 50 [(kc 12)],kd 29 31 3 6 [ki,ki,ki,ki,ki,ki,ki,ki,ki,ki,ki,ki,ki,ki,ki,ki,ki,ki] [(0,3,(kt 23)),(3,3,(kt 24)),(6,3,(kt 25)),(9,3,(kt 26)),(12,3,(kt 27)),(15,3,(kt 28))],⟨none,.build (some 30) kz9 [(0,3,(kt 22)),(3,1,(.const (.string ⟨#[109]⟩))),(5,1,(kt 29))]⟩,kd 31 112 6 1 kz9 [(0,6,(kt 30))],kb 32 [kl,kl] [(0,1,(kt 31))],kZ 4 [kl,kl],S 4 32 2] (Z (K.dops [(0,0,D 33 4 1),(1,0,
 L 34 33 1),(2,0,kC 35 50 [(kc 1)]),(3,0,kC 36 50 [(kc 0)]),(4,0,kC 37 50 [(kc 4)]),(5,0,kC 38 94 [(kc 10)]),(6,0,⟨none,.build (some 39) kz5 [(0,3,(kt 37)),(3,1,(.const (.string ⟨#[97]⟩))),(4,5,(kt 38))]⟩),(7,0,kd 40 85 11 1 kz5 [(0,11,(kt 39))]),(8,0,kC 41 94 [(kc 11)]),(9,0,J 42 1 15),(10,0,⟨none,.build (some 43) kz0 [(0,3,(kt 35)),(3,1,(kc 5)),(4,3,(kt 36)),(7,1,(.const (.string ⟨#[112]⟩))),(8,1,(kt 40)),(9,5,(kt 41)),(14,15,(kt 42))]⟩),(11,0,kd 44 41 31 1 kz0 [(0,31,(kt 43))]),(12,0,kP 45 41 31 352 34 44),(13,0,D 46 4 1),(14,0,S 46 45 1)]) (Z (K.dops [(0,0,D 47 4 1),(1,0,L 48 47 1),(2,0,kC 49 50 [(kc 2)]),(3,0,kC 50 50 [(kc 0)]),(4,0,kC 51 50 [(kc 5)]),(5,0,kC 52 94 [(kc 11)]),(6,0,⟨none,.build (some 53) kz5 [(0,3,(kt 51)),(3,1,(.const (.string ⟨#[97]⟩))),(4,5,(kt 52))]⟩),(7,0,kd 54 85 11 1 kz5 [(0,11,(kt 53))]),(8,0,kC 55 94 [(kc 12)]),(9,0,kC 56 50 [(kc 18)]),(10,0,kC 57 50 [(kc 12)]),(11,0,J 58 2 15),(12,0,kd 59 39 15 1 kz1 [(0,15,(kt 58))]),(13,0,kb 60 kz1 [(0,3,(kt 56)),(3,1,(kc 7)),(5,3,(kt 57)),(13,1,(kt 59))]),(14,0,⟨none,.build (some 61) kz0 [(0,3,(kt 49)),(3,1,(kc 5)),(4,3,(kt 50)),(7,1,(.const (.string ⟨#[113]⟩))),(8,1,(kt 54)),(9,5,(kt 55)),(14,15,(kt 60))]⟩),(15,0,kd 62 41 31 1 kz0 [(0,31,(kt 61))]),(16,0,kP 63 41 31 352 48 62),(17,0,D 64 4 1),(18,0,S 64 63 1)]) (Z (K.dops [(0,0,D 65 4 1),(1,0,
 L 66 65 1),(2,0,kC 67 50 [(kc 3)]),(3,0,kC 68 50 [(kc 0)]),(4,0,kC 69 50 [(kc 6)]),(5,0,kC 70 94 [(kc 10)]),(6,0,⟨none,.build (some 71) kz5 [(0,3,(kt 69)),(3,1,(.const (.string ⟨#[97]⟩))),(4,5,(kt 70))]⟩),(7,0,kd 72 85 11 1 kz5 [(0,11,(kt 71))]),(8,0,kC 73 94 [(kc 12)]),(9,0,kC 74 50 [(kc 19)]),(10,0,kC 75 50 [(kc 12)]),(11,0,J 76 3 15),(12,0,kd 77 39 15 1 kz1 [(0,15,(kt 76))]),(13,0,kb 78 kz1 [(0,3,(kt 74)),(3,1,(kc 7)),(5,3,(kt 75)),(13,1,(kt 77))]),(14,0,⟨none,.build (some 79) kz0 [(0,3,(kt 67)),(3,1,(kc 5)),(4,3,(kt 68)),(7,1,(.const (.string ⟨#[114]⟩))),(8,1,(kt 72)),(9,5,(kt 73)),(14,15,(kt 78))]⟩),(15,0,kd 80 41 31 1 kz0 [(0,31,(kt 79))]),(16,0,kP 81 41 31 352 66 80),(17,0,D 82 4 1),(18,0,S 82 81 1)]) (Z (K.dops [(0,0,D 83 4 1),(1,0,
 L 84 83 1),(2,0,kd 85 3 1 1 [ki] [(0,1,(kc 7))]),(3,0,kC 86 95 [(kc 10),(.const (.string ⟨#[65]⟩)),(kt 85)]),(4,0,kd 87 3 1 2 [ki,ki] [(0,1,(kc 8)),(1,1,(kc 9))]),(5,0,kC 88 95 [(kc 11),(.const (.string ⟨#[66]⟩)),(kt 87)]),(6,0,kd 89 3 1 1 [ki] [(0,1,(kc 13))]),(7,0,kC 90 95 [(kc 12),(.const (.string ⟨#[67]⟩)),(kt 89)]),(8,0,⟨none,.bslice (some 91) 41 31 3 [ki,ki,ki,ki,ki,ki,ki,(.string ⟨#[]⟩),kl,ki,ki,ki,ki,kl,ki,ki,ki,ki,ki,ki,ki,ki,ki,ki,ki,ki,kl,kl,kl,ki,kl,ki,ki,ki,ki,ki,ki,ki,(.string ⟨#[]⟩),kl,ki,ki,ki,ki,kl,ki,ki,ki,ki,ki,ki,ki,ki,ki,ki,ki,ki,kl,kl,kl,ki,kl,ki,ki,ki,ki,ki,ki,ki,(.string ⟨#[]⟩),kl,ki,ki,ki,ki,kl,ki,ki,ki,ki,ki,ki,ki,ki,ki,ki,ki,ki,kl,kl,kl,ki,kl] [(0,31,(kt 86)),(31,31,(kt 88)),(62,31,(kt 90))]⟩),(9,0,kP 92 41 31 352 84 91),(10,0,D 93 4 1),(11,0,S 93 92 1)]) (G [J 94 4 2,S 0 94 2] kr)))))))))
theorem qHc:zO prog Tryz.f49.ntmps (Tryz.f49.body.getD .skip)=some zZ4.erase:=by kernel_rfl
@[simp] theorem zXB:zA prog 49=true:=by kernel_rfl
def zZj:Entry:=⟨zZ4,[.cell 0 2 true],true⟩
theorem zXU:zBO prog 49 zZj:=⟨zXB,_,_,zFf,Tryz.func49,rfl,qHc,by kernel_rfl⟩
def zQy:K:=G [kZ 2 [ki,ki,kl]] (G [M 3 0,kb 4 [ki,ki,kl] [(1,1,(kt 3))],kd 5 46 3 1 [ki,ki,kl] [(0,3,(kt 4))],kb 6 [ki,ki,kl] [(0,1,(kc 2)),(2,1,(kt 5))],S 2 6 3] kr)
theorem zVe:zO prog Tryz.f51.ntmps (Tryz.f51.body.getD .skip)=some zQy.erase:=by kernel_rfl
@[simp] theorem zVg:zA prog 51=true:=by kernel_rfl
def zUD:Entry:=⟨zQy,[.cell 2 3 true],false⟩
theorem zVH:zBO prog 51 zUD:=⟨zVg,_,_,zFf,Tryz.func51,rfl,zVe,by kernel_rfl⟩
def qJI:List (Nat×Entry):=(49,zZj)::(50,zZk)::(94,zZl)::(93,zUC)::(95,zUE)::(51,zUD)::[]
theorem zXh:∀f e,Go.Abs.findTb f qJI=some e→zBO prog f e:=zEC zXU (zEC zXV (zEC zXW (zEC zVG (zEC zVI (zEC zVH zZa)))))
def qOS:Run:=fun _ _ _=>none
theorem zYI:zB4 prog qOS:=fun _ _ _ _ _ h=>by cases h
theorem zYe:Ret prog 49 [] [] (.agg (zM zAj)) []:=zWL (lf:=20) (n:=50) zXh zYI (by kernel_rfl)
theorem zC0 (n:Int):Ret prog 50 [int n] [] (.agg (zF (iD n))) []:=by refine zK Tryz.func50 rfl zZN (rs:=[.cell 2 3 true]) (by kernel_rfl) ?_;unfold zUK;simp -implicitDefEqProofs;exact zB 0 (by simp[zF,iD])
theorem zKZ (n:Int):Ret prog 51 [int n] [] (.agg (zC (zF2 n))) []:=by refine zK Tryz.func51 rfl zVe (rs:=[.cell 2 3 true]) (by kernel_rfl) ?_;unfold zQy;simp -implicitDefEqProofs;exact zB 0 (by simp[zC,zF2,Val.k,Val.n,Val.kids])
def zZ9:K:=G [kMb 4 false] (Z (G [M 6 0,kN 7 6,M 8 1,kN 9 8,kQ 10 7 9 true] (Y 10 (G [kMb 4 false] kr) ks)) (Z (G [kMi 5 0] (K.block 0 (K.loop (Z (G [M 11 5,M 12 0,kN 13 12,kB 14 11 13 .lss] (Y 14 ks (K.exit 0))) (Z (K.block 1 (Z (K.dops [(0,0,M 17 0),(1,0,M 18 5),(2,0,kX 19 17 18 1),(3,0,L 20 19 1),(4,0,M 21 1),(5,0,M 22 5),(6,0,kX 23 21 22 1),(7,0,L 24 23 1),(8,0,kC 25 31 [(kt 20),(kt 24)]),(9,0,kR 26 25)]) (Y 26 (G [kMb 4 false] kr) ks))) (K.ops [M 15 5,kBi 16 15 1 .add,M 5 16])))))) (G [kMb 4 true] kr)))
theorem qHi:zO prog Tryz.f22.ntmps (Tryz.f22.body.getD .skip)=some zZ9.erase:=by kernel_rfl
@[simp] theorem qKT:zA prog 22=true:=by kernel_rfl
theorem zYS (a b:List (List Id))(ha:a.length≤1000):Ret prog 22 [.sl a.length (jL a),.sl b.length (jL b)] [] (bl (decide (a=b))) []:=by
 refine zK Tryz.func22 rfl qHi (rs:=[.slot 4]) (by kernel_rfl) ?_;unfold zZ9;by_cases hab:a.length=b.length
 ·have hab':(a.length:Int)=b.length:=by omega
  simp -implicitDefEqProofs [hab];intro hlb;refine jX (S:=Nat) (fun i=>[(0,.sl a.length (jL a)),(1,.sl b.length (jL b)),(5,int i)]) (fun s=>[]) (fun i=>i≤a.length∧a.take i=b.take i) (fun i=>a.length-i) 0 (by simp)
   (zP [] 0 (by simp) (by simp) (by simp) (by simp[hab])) ?_
  rintro i ⟨hi,hn⟩;by_cases h:i<a.length
  ·have hb:i<b.length:=by omega
   have hs:=zUw a[i] b[i];have hpa:=zBR h;have hpb:=zBR hb;have hane:¬a=[]:=fun e=>by rw[e]at h; simp at h
   have hbne:¬b=[]:=fun e=>by rw[e]at hb; simp at hb
   have hw:=qO h (show a.length≤maxLen by simp[maxLen]; omega);simp -implicitDefEqProofs [h,hb,hpa,hpb,hane,hbne];intro _;refine qR hs (by simp) (by simp) ?_;by_cases hx:a[i]=b[i]
   ·simp -implicitDefEqProofs [hx];refine zU (i+1) ⟨h,?_⟩ (by omega) (zP [] 0 (by simp) (by simp) (by simp) (by simp[hw]));rw[jAh h,jAh hb,hn,hx]
   ·have hne:a≠b:=fun e=>hx (by subst e; rfl)
    simp -implicitDefEqProofs [hx];exact zB 0 (by simp[hne])
  ·have:i=a.length:=by omega
   subst this;simp -implicitDefEqProofs;have:a=b:=by rw[jBa,hab,jBa]at hn; exact hn
   exact fun _=>zB 0 (by simp[this])
 ·have hne:a≠b:=fun e=>hab (by rw[e])
  have hab':¬(a.length:Int)=b.length:=by omega
  simp -implicitDefEqProofs [hab'];exact fun _ _=>zB 0 (by simp[hne])
def zRj {β : Type}(cf : β→β→Int)(x : β):List β→List β
 | []=>[x]
 | y::l=>if cf y x<0 then y::zRj cf x l else x::y::l
def zNF {β : Type}(cf : β→β→Int):List β→List β
 | []=>[]
 | x::l=>zRj cf x (zNF cf l)
theorem zII {β : Type}(cf : β→β→Int)(x : β):∀l,(zRj cf x l).Perm (x::l)
 | []=>.refl _
 | y::l=>by
  unfold zRj;split
  ·exact((zII cf x l).cons y).trans (.swap x y l)
  ·exact .refl _
theorem zJw {β : Type}{cf : β→β→Int}(ho:Ord cf)(x : β):∀{l:List β},l.Pairwise (fun x y=>¬cf y x<0)→(zRj cf x l).Pairwise (fun x y=>¬cf y x<0)
 | [],_=>by simp[zRj]
 | y::l,h=>by
  obtain⟨h1,h2⟩:=jBy.1 h;unfold zRj;split
  ·rename_i hy;refine jBy.2 ⟨fun z hz=>?_,zJw ho x h2⟩;rcases jA6.1 ((zII cf x l).mem_iff.1 hz)with rfl | hz
   ·exact fun hh=>ho.irrefl _ (ho.trans _ _ _ hy hh)
   ·exact h1 z hz
  ·rename_i hy;refine jBy.2 ⟨fun z hz=>?_,h⟩;rcases jA6.1 hz with rfl | hz
   ·exact hy
   ·exact ho.ntrans _ _ _ (h1 z hz) hy
theorem zIJ {β : Type}{cf : β→β→Int}(ho:Ord cf):∀l:List β,(zNF cf l).Perm l∧(zNF cf l).Pairwise (fun x y=>¬cf y x<0)
 | []=>⟨.refl _,.nil⟩
 | x::l=>by obtain⟨h1,h2⟩:=zIJ ho l;exact⟨(zII cf x _).trans (h1.cons x),zJw ho x h2⟩
theorem zQc {β : Type}{cf : β→β→Int}(ho:Ord cf)(l:List β):zEb cf l=zNF cf l:=(zIm ho (zIJ ho l).1 (zIJ ho l).2).symm
theorem zYg:zOF zAj=[iD 1,iD 2,iD 3]:=by rw[zOF,zYV];kernel_rfl
def zYf:List Edg:=[⟨iD 1,iD 10,iD 11⟩,⟨iD 2,iD 11,iD 12⟩,⟨iD 3,iD 10,iD 12⟩]
theorem zOO:zAa zAj=zYf:=by unfold zAa;rw[zYg];kernel_rfl
def zCx:List (List Id):=[[iD 1,iD 2],[iD 3]]
theorem zFQ:zAd zAj (iD 10) (iD 12)=zCx:=by unfold zAd;rw[zOO];kernel_rfl
theorem zSv:zAd zAj (iD 12) (iD 10)=[]:=by unfold zAd;rw[zOO];kernel_rfl
theorem zVS:zEF zAj [iD 1,iD 2] (zF2 5) 100=(zF2 5,10,0):=by kernel_rfl
theorem zYi:zHf zAj (iD 2) 0=[0,1]:=by kernel_rfl
theorem zYh:zHf zAj (iD 1) 1=[]:=by kernel_rfl
theorem zYj:yS zAj (jZ (iD 10)) 1=([zF2 0,zF2 (-1),zF2 1],0):=by unfold yS;rw[zQc zKO.ord];kernel_rfl
theorem zVR:zEf zAj (iD 10) (iD 12) 1 100=(zF2 (-1),zCx,19):=by unfold zEf;rw[zYj,zFQ];kernel_rfl
def zZ8:K:=G [kMb 4 false] (Z (G [M 6 0,kN 7 6,M 8 1,kN 9 8,kQ 10 7 9 true] (Y 10 (G [kMb 4 false] kr) ks)) (Z (G [kMi 5 0] (K.block 0 (K.loop (Z (G [M 11 5,M 12 0,kN 13 12,kB 14 11 13 .lss] (Y 14 ks (K.exit 0))) (Z (K.block 1 (Z (K.dops [(0,0,M 17 0),(1,0,M 18 5),(2,0,kX 19 17 18 1),(3,0,L 20 19 1),(4,0,M 21 1),(5,0,M 22 5),(6,0,kX 23 21 22 1),(7,0,L 24 23 1),(8,0,kQ 25 20 24 true)]) (Y 25 (G [kMb 4 false] kr) ks))) (K.ops [M 15 5,kBi 16 15 1 .add,M 5 16])))))) (G [kMb 4 true] kr)))
theorem qHh:zO prog Tryz.f23.ntmps (Tryz.f23.body.getD .skip)=some zZ8.erase:=by kernel_rfl
@[simp] theorem qKS:zA prog 23=true:=by kernel_rfl
theorem zYR (a b:List Int)(ha:a.length≤1000):Ret prog 23 [.sl a.length (zBe a),.sl b.length (zBe b)] [] (bl (decide (a=b))) []:=by
 refine zK Tryz.func23 rfl qHh (rs:=[.slot 4]) (by kernel_rfl) ?_;unfold zZ8;by_cases hab:a.length=b.length
 ·have hab':(a.length:Int)=b.length:=by omega
  simp -implicitDefEqProofs [hab];intro hlb;refine jX (S:=Nat) (fun i=>[(0,.sl a.length (zBe a)),(1,.sl b.length (zBe b)),(5,int i)]) (fun s=>[]) (fun i=>i≤a.length∧a.take i=b.take i) (fun i=>a.length-i) 0 (by simp)
   (zP [] 0 (by simp) (by simp) (by simp) (by simp[hab])) ?_
  rintro i ⟨hi,hn⟩;by_cases h:i<a.length
  ·have hb:i<b.length:=by omega
   have hpa:=zGz h;have hpb:=zGz hb;have hane:¬a=[]:=fun e=>by rw[e]at h; simp at h
   have hbne:¬b=[]:=fun e=>by rw[e]at hb; simp at hb
   have hw:=qO h (show a.length≤maxLen by simp[maxLen]; omega);by_cases hx:a[i]=b[i]
   ·simp -implicitDefEqProofs [h,hb,hpa,hpb,hane,hbne,hx];intro _;refine zU (i+1) ⟨h,?_⟩ (by omega) (zP [] 0 (by simp) (by simp) (by simp) (by simp[hw]));rw[jAh h,jAh hb,hn,hx]
   ·have hne:a≠b:=fun e=>hx (by subst e; rfl)
    simp -implicitDefEqProofs [h,hb,hpa,hpb,hane,hbne,hx];exact fun _=>zB 0 (by simp[hne])
  ·have:i=a.length:=by omega
   subst this;simp -implicitDefEqProofs;have:a=b:=by rw[jBa,hab,jBa]at hn; exact hn
   exact fun _=>zB 0 (by simp[this])
 ·have hne:a≠b:=fun e=>hab (by rw[e])
  have hab':¬(a.length:Int)=b.length:=by omega
  simp -implicitDefEqProofs [hab'];exact fun _ _=>zB 0 (by simp[hne])
def zNl:K:=(Z (G [M 53 4,kQi 54 53 0 true,M 55 54,T 55 false (M 56 6),T 55 false (kQi 57 56 0 true),kPt 58 55 57,M 59 58,T 59 false (M 60 9),T 59 false (kQi 61 60 0 true),kPt 62 59 61,M 63 62,T 63 false (M 64 12),T 63 false (kQi 65 64 19 true),kPt 66 63 65,M 67 66,T 67 false (M 68 5),T 67 false (kN 69 68),T 67 false (kBi 70 69 0 .gtr),kPt 71 67 70,M 72 71,T 72 false (M 73 8),T 72 false (kQi 74 73 10 true),kPt 75 72 74] (Y 75 (G [kMb 0 false] kr) ks)) (Z (K.dops [(0,0,J 76 7 3),(1,0,kC 77 51 [(kc 5)]),(2,0,kC 78 18 [(kt 76),(kt 77)]),(3,0,kQi 79 78 0 false),(4,0,M 80 79),(5,0,T 80 true (J 81 10 3)),(6,0,T 80 true (kC 82 51 [(kc (-1))])),(7,0,T 80 true (kC 83 18 [(kt 81),(kt 82)])),(8,0,T 80 true (kQi 84 83 0 false)),(9,0,kPf 85 80 84),(10,0,M 13 85)]) (Z (K.dops [(0,0,M 86 13),(1,0,M 87 86),(2,0,T 87 true (M 88 3)),(3,0,T 87 true (M 89 2)),(4,0,T 87 true (kC 90 22 [(kt 88),(kt 89)])),(5,0,kPf 91 87 90),(6,0,M 92 91),(7,0,T 92 true (M 93 11)),(8,0,T 92 true (M 94 2)),(9,0,T 92 true (kC 95 22 [(kt 93),(kt 94)])),(10,0,kPf 96 92 95),(11,0,M 97 96),(12,0,T 97 true (J 98 1 2)),(13,0,T 97 true (kC 99 50 [(kc 2)])),(14,0,T 97 true (kC 100 24 [(kt 98),(kt 99),(kc 0)])),(15,0,⟨some (97,true),.bslice (some 101) 3 1 2 [ki,ki] [(0,1,(kc 0)),(1,1,(kc 1))]⟩),(16,0,T 97 true (kC 102 23 [(kt 100),(kt 101)])),(17,0,kPf 103 97 102),(18,0,M 104 103),(19,0,T 104 true (J 105 1 2)),(20,0,T 104 true (kC 106 50 [(kc 1)])),(21,0,T 104 true (kC 107 24 [(kt 105),(kt 106),(kc 1)])),(22,0,
 T 104 true (kN 108 107)),(23,0,T 104 true (kQi 109 108 0 false)),(24,0,kPf 110 104 109),(25,0,M 0 110)]) kr)))
def zUL:K:=G [kMb 0 false] (G [kC 14 49 [],kZ 1 [kl,kl],S 1 14 2] (G [kC 15 50 [(kc 1)],kC 16 50 [(kc 2)],kd 17 31 3 2 [ki,ki,ki,ki,ki,ki] [(0,3,(kt 15)),(3,3,(kt 16))],kC 18 50 [(kc 3)],kd 19 31 3 1 [ki,ki,ki] [(0,3,(kt 18))],kd 20 28 1 2 [kl,kl] [(0,1,(kt 17)),(1,1,(kt 19))],M 2 20] (Z (K.dops [(0,0,J 22 1 2),(1,0,kC 23 50 [(kc 10)]),(2,0,kC 24 50 [(kc 12)]),(3,0,kC 25 20 [(kt 22),(kt 23),(kt 24)]),(4,0,M 21 25),(5,0,kE 26 21 0),(6,0,kE 27 21 1),(7,0,M 3 26),(8,0,M 4 27)]) (Z (K.dops [(0,0,J 29 1 2),(1,0,kC 30 50 [(kc 12)]),(2,0,kC 31 50 [(kc 10)]),(3,0,kC 32 20 [(kt 29),(kt 30),(kt 31)]),(4,0,M 28 32),(5,0,kE 33 28 0),(6,0,kE 34 28 1),(7,0,M 5 33),(8,0,M 6 34)]) (Z (K.dops [(0,1,J 36 1 2),(1,0,M 37 2),(2,1,kXi 38 37 1 0),(3,1,L 39 38 1),(4,1,kC 40 51 [(kc 5)]),(5,1,kC 41 16 [(kt 36),(kt 39),(kt 40),(kc 100)]),(6,0,M 35 41),(7,0,kE 42 35 0),(8,0,kE 43 35 1),(9,0,kE 44 35 2),(10,0,kZ 7 [ki,ki,kl]),(11,0,S 7 42 3),(12,0,M 8 43),(13,0,M 9 44)]) (Z (K.dops [(0,1,J 46 1 2),(1,1,kC 47 50 [(kc 10)]),(2,1,kC 48 50 [(kc 12)]),(3,1,kC 49 26 [(kt 46),(kt 47),(kt 48),(kc 1),(kc 100)]),(4,0,M 45 49),(5,0,kE 50 45 0),(6,0,kE 51 45 1),(7,0,kE 52 45 2),(8,0,kZ 10 [ki,ki,kl]),(9,0,S 10 50 3),(10,0,M 11 51),(11,0,M 12 52)]) (K.wk zNl)))))))
theorem qBv:zO prog Tryz.f19.ntmps (Tryz.f19.body.getD .skip)=some zUL.erase:=by kernel_rfl
@[simp] theorem qH2:zA prog 19=true:=by kernel_rfl
theorem qCe:Sml zAj:=by unfold Sml; decide
theorem qC2:Ret prog 20 [.agg (zM zAj),.agg (zF (iD 10)),.agg (zF (iD 12))] [] (.tup [.sl 2 (jL zCx),int 0]) []:=by have:=zHz zHH (iD 10) (iD 12) (by rw[zFQ]; decide);unfold zCW at this;rw[zFQ,if_pos (by decide)]at this;exact this
theorem qC3:Ret prog 20 [.agg (zM zAj),.agg (zF (iD 12)),.agg (zF (iD 10))] [] (.tup [.sl 0 [],int 0]) []:=by have:=zHz zHH (iD 12) (iD 10) (by rw[zSv]; decide);unfold zCW at this;rw[zSv,if_pos (by decide)]at this;exact this
theorem qCz:Ret prog 16 [.agg (zM zAj),.sl 2 (zQ [iD 1,iD 2]),.agg (zC (zF2 5)),int 100] [] (.tup [.agg (zC (zF2 5)),int 10,int 0]) []:=by have:=zOv zHH [iD 1,iD 2] (by decide) (zF2 5) (by decide) 100 (by omega) (by omega);rw[zVS]at this;exact this
theorem qCy:Ret prog 26 [.agg (zM zAj),.agg (zF (iD 10)),.agg (zF (iD 12)),int 1,int 100] [] (.tup [.agg (zC (zF2 (-1))),.sl 2 (jL zCx),int 19]) []:=by have:=zOs zHH qCe (iD 10) (iD 12) (by rw[zFQ]; decide) (by rw[zFQ]; decide) 1 100 (by omega) (by omega) (zIr _ _ _);rw[zVR]at this;exact this
theorem qC1:Ret prog 24 [.agg (zM zAj),.agg (zF (iD 2)),int 0] [] (.sl 2 (zBe [0,1])) []:=by have:=zMa zAj (by decide) (iD 2) 0;rw[zYi]at this;exact this
theorem qC0:Ret prog 24 [.agg (zM zAj),.agg (zF (iD 1)),int 1] [] (.sl 0 []) []:=by have:=zMa zAj (by decide) (iD 1) 1;rw[zYh]at this;exact this
theorem qIF:wpK prog 0 zNl (fin [RS.slot 0] (zFz 0 (bl true) [])) (qC [(1,.ptr 0 0),(2,.sl 2 (jL zCx)),(3,.sl 2 (jL zCx)),(4,int 0),(5,.sl 0 []),(6,int 0),(7,.ptr 1 0),(8,int 10),(9,int 0),(10,.ptr 2 0),(11,.sl 2 (jL zCx)),(12,int 19)]) [.box (zM zAj),.box (zC (zF2 5)),.box (zC (zF2 (-1)))]:=by
 have hP:zM zAj=[.sl zAj.mods.length (jI zAj.mods),.sl zAj.defs.length (qM zAj.defs)]:=rfl;have f2:=qC1;have f1:=qC0;generalize zAj=P at *
 have c1:=zB1 (zF2 5) (zF2 5);have c2:=zB1 (zF2 (-1)) (zF2 (-1));rw[zCk]at c1 c2;have s1:Ret prog 22 [.sl 2 (jL zCx),.sl 2 (jL zCx)] [] (bl true) []:=by have:=zYS zCx zCx (by decide);rw[show decide (zCx=zCx)=true from decide_eq_true rfl]at this;exact this
 have s2:Ret prog 23 [.sl 2 (zBe [0,1]),.sl 2 (zBe [0,1])] [] (bl true) []:=by have:=zYR [0,1] [0,1] (by decide);rw[show decide ([0,1]=([0,1]:List Int))=true from decide_eq_true rfl]at this;exact this
 unfold zNl;simp -implicitDefEqProofs [hP,zC];refine qR (zKZ 5) (by simp) (by simp[zC]) ?_
 try simp -implicitDefEqProofs [zC]
 refine qR c1 (by simp[zC]) (by simp) ?_
 try simp -implicitDefEqProofs [zC]
 refine qR (zKZ (-1)) (by simp) (by simp[zC]) ?_
 try simp -implicitDefEqProofs [zC]
 refine qR c2 (by simp[zC]) (by simp) ?_
 try simp -implicitDefEqProofs [zC]
 refine qR s1 (by simp) (by simp) ?_
 try simp -implicitDefEqProofs
 refine qR s1 (by simp) (by simp) ?_
 try simp -implicitDefEqProofs
 refine qR (zC0 2) (by simp) (by simp[zF]) ?_
 try simp -implicitDefEqProofs [zF]
 refine qR f2 (by simp[hP,zF]) (by simp) ?_
 try simp -implicitDefEqProofs
 refine qR s2 (by simp[zBe]) (by simp) ?_
 try simp -implicitDefEqProofs
 refine qR (zC0 1) (by simp) (by simp[zF]) ?_
 try simp -implicitDefEqProofs [zF]
 refine qR f1 (by simp[hP,zF]) (by simp) ?_
 try simp -implicitDefEqProofs
 exact zB 0 (by simp)
theorem zRu:Ret prog 19 [] [] (bl true) []:=by
 have hP:zM zAj=[.sl zAj.mods.length (jI zAj.mods),.sl zAj.defs.length (qM zAj.defs)]:=rfl;have hx:=zYe;have p1:=qC2;have p2:=qC3;have pa:=qCz;have pg:=qCy;have hT:=qIF;generalize zAj=P at *
 refine qS Tryz.func19 rfl qBv (rs:=[.slot 0]) (by kernel_rfl) ?_;unfold zUL;simp -implicitDefEqProofs;refine qK hx (by simp) (by simp[hP]) ?_;simp -implicitDefEqProofs [hP];refine qK (zC0 1) (by simp) (by simp[zF]) ?_;simp -implicitDefEqProofs;refine qK (zC0 2) (by simp) (by simp[zF]) ?_;simp -implicitDefEqProofs [zF];refine qK (zC0 3) (by simp) (by simp[zF]) ?_;simp -implicitDefEqProofs [zF];refine qR (zC0 10) (by simp[hP,zF,zQ]) (by simp[zF,zQ]) ?_
 try simp -implicitDefEqProofs [zF,zC]
 refine qR (zC0 12) (by simp[hP,zF,zQ]) (by simp[zF,zQ]) ?_
 try simp -implicitDefEqProofs [zF,zC]
 refine qR (p1) (by simp[hP,zF,zQ]) (by simp[zF,zQ]) ?_
 try simp -implicitDefEqProofs [zF,zC]
 refine qR (zC0 12) (by simp[hP,zF,zQ]) (by simp[zF,zQ]) ?_
 try simp -implicitDefEqProofs [zF,zC]
 refine qR (zC0 10) (by simp[hP,zF,zQ]) (by simp[zF,zQ]) ?_
 try simp -implicitDefEqProofs [zF,zC]
 refine qR (p2) (by simp[hP,zF,zQ]) (by simp[zF,zQ]) ?_
 try simp -implicitDefEqProofs [zF,zC]
 refine zAo (zKZ 5) (by simp[hP,zF,zQ,zC]) (by simp[zF,zQ,zC]) ?_
 try simp -implicitDefEqProofs [zF,zC]
 refine zAo (pa) (by simp[hP,zF,zQ,zC]) (by simp[zF,zQ,zC]) ?_
 try simp -implicitDefEqProofs [zF,zC]
 refine zAo (zC0 10) (by simp[hP,zF,zQ]) (by simp[zF,zQ]) ?_
 try simp -implicitDefEqProofs [zF,zC]
 refine zAo (zC0 12) (by simp[hP,zF,zQ]) (by simp[zF,zQ]) ?_
 try simp -implicitDefEqProofs [zF,zC]
 refine zAo (pg) (by simp[hP,zF,zQ,zC]) (by simp[zF,zQ,zC]) ?_
 try simp -implicitDefEqProofs [zF,zC]
 refine⟨_,_,zP [0,1,2] 0 (by simp) (by decide) ?_ ?_,hT⟩
 ·simp[hP,zC]
 ·simp[zCx,jL,zQ]
theorem zKD {l:List Int}(hl:∀x∈l,w64 x=x):(zAa (zA3 l)).length≤7:=by
 have h1:(zAa (zA3 l)).length=(zCv (zA3 l)).length:=by rw[←zEa (zIF hl)]; exact(zCi _).length_eq
 rw[h1];have h2:zCv (zA3 l)=(jJ l).filterMap jS:=rfl;rw[h2];unfold jJ;rw[List.filterMap_append,jA7];have h3:((jU l (jO l) ⟨1,40⟩).1.filterMap jS)=[]:=by rw[List.filterMap_eq_nil_iff];intro a ha;have:=(zD4 hl a ha).kind;unfold jS;rw[if_neg (by omega)]
 rw[h3];have h4:=jDb jS (zAb l (jU l (jO l) ⟨1,40⟩).1 (gN l (jU l (jO l) ⟨1,40⟩).2 8).toNat (jU l (jO l) ⟨1,40⟩).2.tick).1;rw[zCf]at h4;obtain⟨v0,v1⟩:=zBd hl (jU l (jO l) ⟨1,40⟩).2 (n:=8) (by omega);simp only[jBq];omega
theorem zRg {l:List Int}(hl:∀x∈l,w64 x=x)(a b:Id):(zAd (zA3 l) a b).length≤64:=zUm (zKD hl) a b _
theorem zN8 {l:List Int}(hl:∀x∈l,w64 x=x)(a b:Id):∀q∈zAd (zA3 l) a b,q.length≤7:=fun q hq=>by have h1:=zMi _ _ _ q hq;have h2:=zKD hl;omega
structure GCv (p:Prg)(d a b:Dfn)(s:Slt):Prop where
 fa:Flat p a
 fb:Flat p b
 slots:d.slots=[s]
 typ:s.typ=jZ a.id
 res:d.res=jZ b.id
 body:WF p [⟨s.id,0,jZ a.id⟩] d.body (jZ b.id)
section
variable {l:List Int}(hl:∀x∈l,w64 x=x)
include hl
theorem zWb {d:Dfn}(hd:d∈(zA3 l).defs)(hk:d.kind=5):∃a b s,GCv (zA3 l) d a b s:=by
 change d∈jJ l at hd;obtain⟨k,hk',rfl⟩:=jB0 hd;have hlen:=zBT l ⟨1,40⟩ (jO l);have hm:=zCP hl;rcases zCG hl k hk' with ⟨_,m,e⟩ | ⟨hk2,hk7,m,e⟩
 ·rw[e]at hk;simp[zFv]at hk
 ·have hend:=zJu hl (jU l (jO l) ⟨1,40⟩).1.length (by omega) m;have hfl:=zD4 hl;refine⟨(jU l (jO l) ⟨1,40⟩).1.getD (zBw l (jU l (jO l) ⟨1,40⟩).1.length m).1 .zero,(jU l (jO l) ⟨1,40⟩).1.getD (zBw l (jU l (jO l) ⟨1,40⟩).1.length m).2.1 .zero,
   ⟨idR ((30+(k-jO l):Nat):Int),⟨#[111,108,100]⟩,jZ ((jU l (jO l) ⟨1,40⟩).1.getD (zBw l (jU l (jO l) ⟨1,40⟩).1.length m).1 .zero).id,0,0⟩,?_,?_,by rw[e]; rfl,rfl,by rw[e]; rfl,by rw[e]; exact zPe hl hfl hend.1 hend.2 _ _⟩
  ·rw[zCz hend.1]; exact hfl _ (jA3 _)
  ·rw[zCz hend.2]; exact hfl _ (jA3 _)
theorem qCo {x:Id}{t:Typ×Typ}(h:zA1 (zA3 l) x=some t):∃d a b s,qW (zA3 l).defs x=some d∧d.kind=5∧GCv (zA3 l) d a b s∧t=(jZ a.id,jZ b.id):=by
 obtain⟨d,s,hd,hk,hs,rfl⟩:=zKK h;obtain⟨a,b,s',hg⟩:=zWb hl (zAu hd).1 hk;have e:s=s':=by have:=hg.slots; rw[hs]at this; simpa using this
 subst e;exact⟨d,a,b,s,hd,hk,hg,by rw[hg.typ,hg.res]⟩
theorem qIc {e:Edg}(he:e∈zAa (zA3 l)):zA1 (zA3 l) e.id=some (jZ e.fro,jZ e.to):=by
 rw[zTu,jCe]at he;obtain⟨x,_,hx⟩:=he;unfold zSn at hx;cases h:zA1 (zA3 l) x with
 | none=>rw[h]at hx; cases hx
 | some t =>
  obtain⟨d,a,b,s,_,_,_,rfl⟩:=qCo hl h;rw[h]at hx;simp only[Typ.k,Typ.id,and_self,if_true,jA0]at hx;subst hx;exact h
end
inductive Chn (L:List Edg)(to:Id):Id→List Id→List Id→Prop
 | nil {a:Id} (met:List Id) (h:a=to):Chn L to a met []
 | cons {e:Edg} {a:Id} {met q:List Id} (ha:e.fro=a) (he:e∈L) (hn:e.to∉met) (h:Chn L to e.to (met++[e.to]) q):Chn L to a met (e.id::q)
section
variable {L:List Edg}{to:Id}
theorem Chn.end_ {at_:Id}{met q:List Id}(h:Chn L to at_ met q)(hm:to∈met):q=[]:=by
 induction h with
 | nil=>rfl
 | @cons e a met q ha he hn h ih =>
  have h0:=ih (by simp[hm]);subst h0;cases h with
  | nil _ h=>exact(hn (h▸hm)).elim
theorem zIB:∀(n:Nat) (at_:Id) (met q:List Id),at_∈met→zHP L met≤n→(q∈zAy L to n at_ met↔Chn L to at_ met q)
 | 0,at_,met,q,hm,hn=>by
  unfold zAy;constructor
  ·intro h;split at h
   ·rename_i e;simp only[jAp]at h;subst h;exact .nil _ e
   ·cases h
  ·intro h;cases h with
   | nil _ h=>simp[h]
   | cons ha he hn' _ =>
    have:=zCy he hn';omega
 | n+1,at_,met,q,hm,hn=>by
  unfold zAy;by_cases hat:at_=to
  ·rw[if_pos hat];subst hat;constructor
   ·intro h;simp only[jAp]at h;subst h;exact .nil _ rfl
   ·intro h;rw[h.end_ hm];simp
  ·rw[if_neg hat,List.mem_flatMap];constructor
   ·rintro⟨e,he,h⟩;split at h
    ·rename_i hc;rw[jAg]at h;obtain⟨q',h',rfl⟩:=h;have hlt:=zCy he hc.2;have:=(zIB n e.to (met++[e.to]) q' (by simp) (by omega)).1 h';exact .cons hc.1 he hc.2 this
    ·cases h
   ·intro h;cases h with
    | nil _ h=>exact(hat h).elim
    | @cons e _ _ q ha he hn' h =>
     have hlt:=zCy he hn';refine⟨e,he,?_⟩;rw[if_pos ⟨ha,hn'⟩,jAg];exact⟨q,(zIB n e.to (met++[e.to]) q (by simp) (by omega)).2 h,rfl⟩
end
def toI (p:Prg)(x:Id):Id:=(zWt p x).2.id
def zM9 (p:Prg):Id→List Id→Prop
 | _,[]=>True
 | a,x::q=>zA1 p x=some (jZ a,jZ (toI p x))∧zM9 p (toI p x) q
def zXP (p:Prg):Id→List Id→Id
 | a,[]=>a
 | _,x::q=>zXP p (toI p x) q
theorem zS1 {p:Prg}:∀{q:List Id} {a:Id},zM9 p a q→∀(i:Nat) (hi:i<q.length),zA1 p q[i]=some (jZ ((a::q.map (toI p)).getD i .zero),jZ (toI p q[i]))
 | x::q,a,h,0,_=>h.1
 | x::q,a,h,i+1,hi=>by
  have:=zS1 h.2 i (by simpa using hi)
  simpa using this
theorem zTJ {p:Prg}{q:List Id}{a:Id}(h:zM9 p a q):zGQ p q=true:=by
 have hat:=zS1 h;have key:∀n,n≤q.length→zD9 p q n=true:=by
  intro n;induction n with
  | zero=>intro _; rfl
  | succ n ih =>
   intro hn;rw[zD9,ih (by omega),jBd,zIn,zCz (show n<q.length by omega),hat n (by omega)];cases n with
   | zero=>simp
   | succ n =>
    rw[Nat.add_sub_cancel,zCz (show n<q.length by omega),hat n (by omega)];simp only[List.getD_cons_succ,Nat.add_eq_zero_iff,Nat.succ_ne_self,and_false,decide_false,jC2];rw[zMW,zCz (by simpa using (show n<q.length by omega)),jBk]
 exact key _ (jA _)
section
variable {p:Prg}{L:List Edg}(hlead:∀e∈L,zA1 p e.id=some (jZ e.fro,jZ e.to))
include hlead
theorem zQh {e:Edg}(he:e∈L):toI p e.id=e.to:=by unfold toI zWt;rw[hlead e he]; rfl
theorem zXO {e e':Edg}(he:e∈L)(he':e'∈L)(h:e.id=e'.id):e=e':=by have h1:=hlead e he;have h2:=hlead e' he';rw[h,h2]at h1;obtain⟨a,b,c⟩:=e;obtain⟨a',b',c'⟩:=e';simp only[jA0,jB8,Typ.mk.injEq,Edg.mk.injEq,and_true,true_and]at h1 h ⊢;exact⟨h,h1.1.symm,h1.2.symm⟩
theorem Chn.goes {to at_:Id}{met q:List Id}(h:Chn L to at_ met q):zM9 p at_ q∧zXP p at_ q=to:=by
 induction h with
 | nil _ h=>exact⟨trivial,h⟩
 | @cons e a met q ha he hn h ih =>
  subst ha;have ht:=zQh hlead he;have hd:=hlead e he;refine⟨⟨by rw[ht]; exact hd,by rw[ht]; exact ih.1⟩,?_⟩;show zXP p (toI p e.id) q=to;rw[ht]; exact ih.2
theorem Chn.app {y z at_:Id}{met q r:List Id}(h:Chn L y at_ met q):Chn L z at_ met (q++r)↔Chn L z y (met++q.map (toI p)) r:=by
 induction h with
 | nil met h=>subst h; simp
 | @cons e a met q ha he hn h ih =>
  subst ha;rw[jB9,jA9,zQh hlead he,show met++e.to::q.map (toI p)=met++[e.to]++q.map (toI p) by simp,←ih];constructor
  ·intro h';generalize hx:e.id::(q++r)=Q at h';cases h' with
   | nil=>cases hx
   | @cons e' _ _ q' ha' he' hn' h' =>
    simp only[jAu]at hx;obtain⟨h1,rfl⟩:=hx;have:=zXO hlead he he' h1;subst this;exact h'
  ·exact fun h'=>.cons rfl he hn h'
end
theorem zPD {p:Prg}{m:Int}{n:Nat}:∀(ss:List Slt),(∀s∈ss,∀v∈zA5 p m n s.typ,zAL p s.typ v=true)→∀t,OneOf t (ss.map fun s=>zA5 p m n s.typ)→t.length=ss.length∧zB8 p (ss.map Slt.typ) t=true
 | [],_,t,h=>by
  generalize hx:([]:List Slt).map (fun s=>zA5 p m n s.typ)=X at h;cases h with
  | nil=>exact⟨rfl,by simp[zB8]⟩
  | cons=>simp at hx
 | s::ss,hs,t,h=>by
  generalize hx:(s::ss).map (fun s=>zA5 p m n s.typ)=X at h;cases h with
  | nil=>simp at hx
  | cons hv ht =>
   simp only[jA9,jAu]at hx;obtain⟨rfl,rfl⟩:=hx;have:=zPD ss (fun x hx=>hs x (by simp[hx])) _ ht;refine⟨by simp[this.1],?_⟩;rw[jA9,zB8,hs s (by simp) _ hv,this.2];rfl
theorem zPQ {X:List Val}{q:Val→Bool}(h:∀v∈X,q v=true):∀(j:Nat) (t:List Val),OneOf t (List.replicate j X)→t.all q=true
 | 0,t,ht=>by
  generalize hx:List.replicate 0 X=Y at ht;cases ht with
  | nil=>rfl
  | cons=>simp at hx
 | j+1,t,ht=>by
  generalize hx:List.replicate (j+1) X=Y at ht;cases ht with
  | nil=>rfl
  | cons hv ht =>
   simp only[List.replicate_succ,jAu]at hx;obtain⟨rfl,rfl⟩:=hx;rw[List.all_cons,h _ hv,zPQ h j _ ht];rfl
theorem zLY:∀(l:List (List Val)) (i:Int),∀v∈jP i l,∃(j:Nat) (hj:j<l.length),∃w∈l[j],v=.mk 3 (i+j) [w]
 | [],i,v,h=>by simp[jP]at h
 | x::l,i,v,h=>by
  simp only[jP,jAj,jAg]at h;rcases h with ⟨w,hw,rfl⟩ | h
  ·exact⟨0,by simp,w,hw,by simp⟩
  ·obtain⟨j,hj,w,hw,rfl⟩:=zLY l (i+1) v h;exact⟨j+1,by simpa using hj,w,hw,by rw[show i+1+(j:Int)=i+((j+1:Nat):Int) by omega]⟩
theorem zLQ (p:Prg)(m:Int)(hm:0≤m∧m≤64):∀(n:Nat) (t:Typ),(jM p m n t).e=0→∀v∈zA5 p m n t,zAL p t v=true
 | 0,t,_,v,hv=>by simp[zA5]at hv
 | n+1,t,h,v,hv=>by
  have ih:=zLQ p m hm n;unfold jM at h;unfold zA5 at hv;by_cases hvt:validT p t=false
  ·rw[if_pos hvt]at h; simp at h
  ·rw[if_neg hvt]at h;have hvt2:validT p t=true:=by simpa using hvt
   rw[zCb,hvt2,jBd];by_cases h0:t.k=0
   ·rw[if_pos h0]at hv ⊢;simp only[zCR,jAg,jC7]at hv;obtain⟨i,hi,rfl⟩:=hv;simp[Val.k,Val.n,Val.kids];exact⟨decide_eq_true (by omega),decide_eq_true (by omega)⟩
   ·rw[if_neg h0]at h hv ⊢;by_cases h1:t.k=1
    ·rw[if_pos h1]at hv ⊢;simp only[jA6,jCx,or_false]at hv;rcases hv with rfl | rfl<;>simp[Val.k,Val.n,Val.kids]
    ·rw[if_neg h1]at h hv ⊢;by_cases h2:t.k=2
     ·rw[if_pos h2]at h hv ⊢;have hle:=(zDS h).1;have hke:(jM p m n (t.kids.headD Typ.zero)).e=0:=by
       unfold zBf at hle;split at hle
       ·rename_i hh; simpa using hle
       ·rename_i hh; simpa using hh
      simp only[zKP,List.mem_flatMap,jAg,jC7]at hv;obtain⟨j,hj,tt,htt,rfl⟩:=hv;have:=zPQ (ih _ hke) j tt (zId htt);simp only[Val.k,Val.n,Val.kids,decide_true,jBd];exact this
     ·rw[if_neg h2]at h hv ⊢;have e1:=(zDS h).1;have e3:zDf ((dfn p t.id).slots.map fun s=>jM p m n s.typ)=0:=by
       by_cases hz:zDf ((dfn p t.id).slots.map fun s=>jM p m n s.typ)=0
       ·exact hz
       ·exact absurd e1 (by simp[yQ,hz])
      have hs:∀s∈(dfn p t.id).slots,∀v∈zA5 p m n s.typ,zAL p s.typ v=true:=fun s hs=>ih _ (zCm e3 _ (jAg.2 ⟨s,hs,rfl⟩))
      have e5:=zFr hvt2 h0 h1 h2;unfold zEn at hv;rcases e5 with e5 | e5
      ·rw[if_pos e5]at hv;rw[if_neg (by omega)];simp only[zDY,jAg]at hv;obtain⟨tt,htt,rfl⟩:=hv;have ho:=zPD _ hs tt (zId htt);simp only[Val.k,Val.n,Val.kids,decide_true,jBd,ho.1,ho.2]
      ·rw[if_neg (by omega),if_pos e5]at hv;rw[if_pos e5];obtain⟨j,hj,w,hw,rfl⟩:=zLY _ 0 v hv;have hj':j<(dfn p t.id).slots.length:=by simpa using hj
       rw[jBk]at hw;have:=hs _ (jA3 hj') w hw;simp only[Val.k,Val.n,Val.kids,decide_true,jBd,jAl,jBq,Int.zero_add,jCn,jCl,jA2 hj',jCg,zOS,this,Bool.and_true,jA4,decide_eq_true_eq];omega
theorem zRT (p:Prg)(t:Typ)(m:Int):∀v∈(yS p t m).1,zAL p t v=true:=by
 intro v hv;unfold yS at hv;split at hv
 ·simp at hv
 ·rename_i hm;split at hv
  ·simp at hv
  ·rename_i he;have he':(size p m t).e=0:=by simpa using he
   exact zLQ p m (by omega) 24 t he' v ((List.mergeSort_perm _ _).mem_iff.1 hv)
theorem zU7 (p:Prg):validT p zAW=true:=by unfold validT; rw[yH]; simp[Typ.k,Typ.kids,Typ.id]
theorem zRP (p:Prg):validT p yZ=true:=by unfold validT; rw[yH]; simp[Typ.k,Typ.kids,Typ.id]
theorem Flat.valid {p:Prg}{d:Dfn}(h:Flat p d):validT p (jZ d.id)=true:=by unfold validT; rw[yH]; simp[Typ.k,Typ.kids,Typ.id,h.find,h.kind,zFW]
theorem Flat.dfn {p:Prg}{d:Dfn}(h:Flat p d):dfn p d.id=d:=by unfold Go.Proofs.YtdnelmeboihpkaaGreatDoor.dfn; rw[h.find]; rfl
theorem Flat.stored {p:Prg}{d:Dfn}(h:Flat p d):zBa p d.id=true:=by unfold zBa; rw[h.find]; simp[h.kind]
theorem zYl {p:Prg}{d:Dfn}(h:Flat p d){m:Int}(hm:0≤m∧m≤3)(n:Nat){s:Slt}(hs:s∈d.slots):∃a,0≤a∧a≤7∧jM p m (n+1) s.typ=⟨a,1,0⟩:=by
 rcases h.flat s hs with e | e<;>rw[e,jM]
 ·rw[zU7];exact⟨2*m+1,by omega,by omega,by simp[Typ.k]⟩
 ·rw[zRP];exact⟨2,by omega,by omega,by simp[Typ.k]⟩
theorem zT3 {p:Prg}{d:Dfn}(h:Flat p d)(h2:d.slots.length≤2){m:Int}(hm:0≤m∧m≤3):(size p m (jZ d.id)).e=0:=by
 have hk:=h.dfn;have hs:=fun s (hs:s∈d.slots)=>zYl h hm 22 hs
 have hkd:=h.kind;unfold size;rw[jM,h.valid];simp only[Typ.k,Typ.id,hk,Bool.true_eq_false,if_false,show ¬(3:Int)=0 by decide,show ¬(3:Int)=1 by decide,show ¬(3:Int)=2 by decide];rw[hkd,show decide ((0:Int)=0)=true from rfl]
 match hd:d.slots,h2 with
 | [],_=>simp[yQ,zDf,zDm,zBv]
 | [s],_ =>
  obtain⟨a,a0,a7,ha⟩:=hs s (by rw[hd]; simp);rw[jA9,jB7,ha];simp[yQ,zDf,zDm,show ¬a > 4096 by omega,zBv]
 | [s,u],_ =>
  obtain⟨a,a0,a7,ha⟩:=hs s (by rw[hd]; simp);obtain⟨b,b0,b7,hb⟩:=hs u (by rw[hd]; simp);have hab:a*b≤49:=by have:=Int.mul_le_mul a7 b7 b0 (by omega:(0:Int)≤7);omega
  rw[jA9,jA9,jB7,ha,hb];simp[yQ,zDf,zDm,show ¬a > 4096 by omega,show ¬a*b > 4096 by omega,zBv]
theorem zQz {p:Prg}{a:Id}{q:List Id}(hg:zM9 p a q){v:Val}(hv:zAL p (jZ a) v=true)(f:Int):zEF p q v f=zZ p q v f:=by
 unfold zEF;by_cases hn:q=[]
 ·rw[if_pos hn,hn]; rfl
 ·have hp:=zTJ hg;obtain⟨x,q',rfl⟩:∃x q',q=x::q':=by cases q with | nil=>exact(hn rfl).elim | cons x q'=>exact⟨x,q',rfl⟩
  rw[if_neg hn,if_neg (by rw[hp]; decide),List.getD_cons_zero,hg.1];simp only;rw[if_neg (by rw[hv]; decide)]
section
variable {l:List Int}(hl:∀x∈l,w64 x=x)
include hl
theorem zWa {k:Nat}(hk:k<jO l)(h:k<(jJ l).length):(jJ l)[k].slots.length≤2:=by
 rcases zCG hl k h with ⟨_,m,e⟩ | ⟨hk',_⟩
 ·have h2:=zDg hl m;have h3:(jJ l)[k].slots=(zAc l k (zBc l m) m.tick).1:=by rw[e]; rfl
  rw[h3,zCg]; omega
 ·omega
theorem zMz:Sml (zA3 l):=fun d hd=>by have:=(zIF hl).slots d hd;omega
theorem zRh {k:Nat}(hk:k<jO l)(h:k<(jJ l).length){m:Int}(hm:0≤m∧m≤3):(yS (zA3 l) (jZ (jJ l)[k].id) m).2=0:=by have:=zT3 (zDu hl hk h) (zWa hl hk h) hm;unfold yS;rw[if_neg (by omega),if_neg (by simp[this])]
theorem zRf {a b:Id}{q:List Id}(hq:q∈zAd (zA3 l) a b):zM9 (zA3 l) a q∧zXP (zA3 l) a q=b :=
 ((zIB _ _ _ _ (by simp) (zPa _)).1 hq).goes (fun e he=>qIc hl he)
end
theorem zKt {p:Prg}{all:List (List Id)}{v:Val}{f:Int}(h:zHC p all v f=none):∀q∈all.tail,zBB p (all.headD []) q v f=true:=fun q hq=>by
 have:=List.find?_eq_none.1 h q hq
 simpa using this
theorem zJb {p:Prg}{all:List (List Id)}{f:Int}:∀{L:List Val},zBD p all f L=none→∀v∈L,∀q∈all.tail,zBB p (all.headD []) q v f=true
 | w::L,h,v,hv=>by
  unfold zBD at h;cases hd:zHC p all w f with
  | some q=>rw[hd]at h; cases h
  | none =>
   rw[hd]at h;rcases jA6.1 hv with rfl | hv
   ·exact zKt hd
   ·exact zJb h v hv
theorem zF6 {p:Prg}{all:List (List Id)}{f:Int}{x:Val×List Id}:∀{L:List Val},zBD p all f L=some x→x.1∈L∧x.2∈all.tail∧zBB p (all.headD []) x.2 x.1 f=false ∧
 ∃i,i<L.length∧L[i]?=some x.1∧∀(j:Nat) (w:Val),j<i→L[j]?=some w→∀q∈all.tail,zBB p (all.headD []) q w f=true
 | w::L,h=>by
  unfold zBD at h;cases hd:zHC p all w f with
  | some q =>
   rw[hd]at h;simp only[jA0]at h;subst h;unfold zHC at hd;have h1:=List.find?_some hd;exact⟨by simp,List.mem_of_find?_eq_some hd,by simpa using h1,0,by simp,by simp,fun j w hj=>by omega⟩
  | none =>
   rw[hd]at h;obtain⟨h1,h2,h3,i,h4,h5,h6⟩:=zF6 h;refine⟨by simp[h1],h2,h3,i+1,by simpa using h4,by simpa using h5,fun j u hj hu=>?_⟩;cases j with
   | zero =>
    simp only[jAq,jA0]at hu;subst hu;exact zKt hd
   | succ j=>exact h6 j u (by omega) (by simpa using hu)
section
variable {l:List Int}(hl:∀x∈l,w64 x=x)
include hl
end
section
variable {l:List Int}(hl:∀x∈l,w64 x=x)
include hl
end
def zUO:K:=(G [kMi 30 1] (K.block 2 (K.loop (Z (G [M 152 30,M 153 19,kN 154 153,kB 155 152 154 .lss] (Y 155 ks (K.exit 2))) (Z (K.block 3 (Z (K.dops [(0,1,J 159 11 2),(1,0,M 160 19),(2,1,kXi 161 160 1 0),(3,1,L 162 161 1),(4,0,M 163 21),(5,0,M 164 29),(6,1,kX 165 163 164 3),(7,1,J 166 165 3),(8,0,M 167 15),(9,1,kC 168 16 [(kt 159),(kt 162),(kt 166),(kt 167)]),(10,0,M 158 168),(11,0,kE 169 158 0),(12,0,kE 170 158 1),(13,0,kE 171 158 2),(14,0,kZ 31 [ki,ki,kl]),(15,0,S 31 169 3),(16,0,M 32 170),(17,0,M 33 171)]) (Z (K.dops [(0,1,J 173 11 2),(1,0,M 174 19),(2,0,M 175 30),(3,1,kX 176 174 175 1),(4,1,L 177 176 1),(5,0,M 178 21),(6,0,M 179 29),(7,1,kX 180 178 179 3),(8,1,J 181 180 3),(9,0,M 182 15),(10,1,kC 183 16 [(kt 173),(kt 177),(kt 181),(kt 182)]),(11,0,M 172 183),(12,0,kE 184 172 0),(13,0,kE 185 172 1),(14,0,kE 186 172 2),(15,0,kZ 34 [ki,ki,kl]),(16,0,S 34 184 3),(17,0,M 35 185),(18,0,M 36 186)]) (G [M 187 33,M 188 36,kQ 189 187 188 true,M 190 189,T 190 false (J 191 31 3),T 190 false (J 192 34 3),T 190 false (kC 193 18 [(kt 191),(kt 192)]),T 190 false (kQi 194 193 0 true),kPt 195 190 194] (Y 195 (G [kMb 10 false] kr) ks))))) (K.ops [M 156 30,kBi 157 156 1 .add,M 30 157]))))))
def zUP:K:=(Z (G [kMi 29 0] (K.block 0 (K.loop (Z (G [M 134 29,M 135 21,kN 136 135,kB 137 134 136 .lss] (Y 137 ks (K.exit 0))) (Z (K.block 1 (Z (Z (K.dops [(0,0,M 140 18),(1,0,kQi 141 140 19 false),(2,0,M 142 141),(3,0,T 142 true (M 143 21)),(4,0,T 142 true (M 144 29)),(5,0,T 142 true (kX 145 143 144 3)),(6,0,T 142 true (J 146 145 3)),(7,0,T 142 true (J 147 16 3)),(8,0,T 142 true (kC 148 18 [(kt 146),(kt 147)])),(9,0,T 142 true (kQi 149 148 0 false)),(10,0,kPf 150 142 149)]) (Y 150 (G [kC 151 19 [],M 10 151] kr) ks)) (K.wk zUO))) (K.wk (K.ops [M 138 29,kBi 139 138 1 .add,M 29 139]))))))) (G [M 196 18,kQi 197 196 0 false,M 198 197,T 198 true (kC 199 19 []),kPf 200 198 199,M 10 200] kr))
def zSd:K:=(G [J 63 11 2,J 64 12 3,J 65 13 3,M 66 14,M 67 15,kC 68 26 [(kt 63),(kt 64),(kt 65),(kt 66),(kt 67)],M 62 68,kE 69 62 0,kE 70 62 1,kE 71 62 2,kZ 16 [ki,ki,kl],S 16 69 3,M 17 70,M 18 71] (G [J 73 11 2,J 74 12 3,J 75 13 3,kC 76 20 [(kt 73),(kt 74),(kt 75)],M 72 76,kE 77 72 0,kE 78 72 1,M 19 77,M 20 78] (G [J 80 11 2,J 81 12 3,kb 82 kz2 [(0,1,(kc 3)),(1,3,(kt 81))],M 83 14,kC 84 34 [(kt 80),(kt 82),(kt 83)],M 79 84,kE 85 79 0,kE 86 79 1,M 21 85,M 22 86] (Z (G [M 87 20,kQi 88 87 0 true,M 89 88,T 89 false (M 90 22),T 89 false (kQi 91 90 0 true),kPt 92 89 91] (Y 92 (G [M 93 18,kQi 94 93 4 false,M 95 94,T 95 true (kC 96 19 []),kPf 97 95 96,M 10 97] kr) ks)) (Z (G [M 98 18,kQi 99 98 19 false] (Y 99 (Z (G [M 100 17,kN 101 100,kQi 102 101 2 true] (Y 102 (G [kMb 10 false] kr) ks)) (Z (K.dops [(0,1,J 104 11 2),(1,0,M 105 17),(2,1,kXi 106 105 1 0),(3,1,L 107 106 1),(4,1,J 108 16 3),(5,0,M 109 15),(6,1,kC 110 16 [(kt 104),(kt 107),(kt 108),(kt 109)]),(7,0,M 103 110),(8,0,kE 111 103 0),(9,0,kE 112 103 1),(10,0,kE 113 103 2),(11,0,kZ 23 [ki,ki,kl]),(12,0,S 23 111 3),(13,0,M 24 112),(14,0,M 25 113)]) (Z (K.dops [(0,1,J 115 11 2),(1,0,M 116 17),(2,1,kXi 117 116 1 1),(3,1,L 118 117 1),(4,1,J 119 16 3),(5,0,M 120 15),(6,1,kC 121 16 [(kt 115),(kt 118),(kt 119),(kt 120)]),(7,0,M 114 121),(8,0,kE 122 114 0),(9,0,kE 123 114 1),(10,0,kE 124 114 2),(11,0,kZ 26 [ki,ki,kl]),(12,0,S 26 122 3),(13,0,M 27 123),(14,0,M 28 124)]) (G [M 125 25,M 126 28,kQ 127 125 126 false,M 128 127,T 128 true (J 129 23 3),
 T 128 true (J 130 26 3),T 128 true (kC 131 18 [(kt 129),(kt 130)]),T 128 true (kQi 132 131 0 false),kPf 133 128 132] (Y 133 (G [kMb 10 false] kr) ks))))) ks)) (K.wk zUP))))))
def qGg:K:=G [kMb 10 false] (G [M 37 0,kC 38 28 [(kt 37)],kZ 11 [kl,kl],S 11 38 2] (Z (K.dops [(0,1,D 39 11 1),(1,1,L 40 39 1),(2,0,M 41 1),(3,1,kC 42 12 [(kt 41),(kc 2)]),(4,1,kX 43 40 42 31),(5,1,D 44 43 0),(6,1,J 45 44 3),(7,0,kZ 12 [ki,ki,ki]),(8,0,S 12 45 3)]) (Z (K.dops [(0,1,D 46 11 1),(1,1,L 47 46 1),(2,0,M 48 2),(3,1,kC 49 12 [(kt 48),(kc 2)]),(4,1,kX 50 47 49 31),(5,1,D 51 50 0),(6,1,J 52 51 3),(7,0,kZ 13 [ki,ki,ki]),(8,0,S 13 52 3)]) (G [M 53 3,kC 54 12 [(kt 53),(kc 4)],M 14 54] (G [M 55 4,kC 56 12 [(kt 55),(kc 60)],kd 57 3 1 2 [ki,ki] [(0,1,(kc 500)),(1,1,(kt 56))],M 58 4,kC 59 12 [(kt 58),(kc 2)],kX 60 57 59 1,L 61 60 1,M 15 61] (K.wk zSd))))))
theorem qNf:zO prog Tryz.f8.ntmps (Tryz.f8.body.getD .skip)=some qGg.erase:=by kernel_rfl
@[simp] theorem qOn:zA prog 8=true:=by kernel_rfl
theorem zJ6 {p:Prg}{a b:List Id}{v:Val}{f:Int}:zBB p a b v f=true↔(zZ p a v f).2.2=(zZ p b v f).2.2∧(zZ p a v f).1=(zZ p b v f).1:=by unfold zBB;rw[jA4,decide_eq_true_eq,decide_eq_true_eq,zVx];exact⟨fun h=>⟨h.1,h.2.symm⟩,fun h=>⟨h.1,h.2.symm⟩⟩
def zDE (f e:Int)(all:List (List Id))(L:List Val)(i:Nat):List (Nat×A):=[(11,.ptr 0 0),(15,int f),(16,.ptr 3 0),(18,int e),(19,.sl all.length (jL all)),(21,.sl L.length (zJ L)),(29,int i)]
def zEB (p:Prg)(x y:Id)(v:Val):St:=[.box (zM p),.box (zF x),.box (zF y),.box (zC v)]
theorem zXf {p:Prg}(x y:Id)(f e:Int){all:List (List Id)}{L:List Val}{v:Val}(hall:all.length≤64){i:Nat}(hi:i<L.length)
 (ha:∀q∈all,Ret prog 16 [.agg (zM p),.sl q.length (zQ q),.agg (zC L[i]),int f] [] (zCU (zZ p q L[i] f)) [])
 (hs:∀q∈all.tail,zBB p (all.headD []) q L[i] f=true)(Q:Ex→Env→St→Prop)
 (hQ:∀E S,zA0 0 (qC (zDE f e all L i)) (zEB p x y v) E S→Q .norm E S) :
 wpK prog 0 zUO Q (qC (zDE f e all L i)) (zEB p x y v):=by
 have hP:=eP p;unfold zDE zEB at *
 unfold zUO;simp -implicitDefEqProofs [hP,zF,zC];refine jX (S:=Nat) (fun k=>[(11,.ptr 0 0),(15,int f),(16,.ptr 3 0),(18,int e),(19,.sl all.length (jL all)),(21,.sl L.length (zJ L)),(29,int i),(30,int k)]) (fun _=>[.box (zM p),.box (zF x),.box (zF y),.box (zC v)])
  (fun k=>1≤k) (fun k=>all.length-k) 1 (by omega)
  (zP [0,1,2,3] 0 (by decide) (by simp) (by simp[hP,zF,zC]) (by simp)) ?_
 intro k hk;have hcd:=qY hi;have hLne:¬L=[]:=fun e=>by rw[e]at hi; simp at hi
 by_cases hka:k<all.length
 ·have hwk:=zBg k (by omega);have h0:0<all.length:=by omega
  have h1l:1≤all.length:=by omega
  have hane:¬all=[]:=fun e=>by rw[e]at hka; simp at hka
  have hpk:=zBR hka;have hp0:List.take 1 (jL all)=[.sl all[0].length (zQ all[0])]:=by have:=zBR h0;rw[List.drop_zero]at this;rw[this]; rfl
  have c0:=ha _ (jA3 h0);have ck:=ha _ (jA3 hka);have hse:=zJ6.1 (hs all[k] (by
   obtain⟨j,rfl⟩:∃j,k=j+1:=⟨k-1,by omega⟩;rw[←List.getElem_tail (by simp; omega)]; exact jA3 _))
  rw[show all.headD []=all[0] by cases all with | nil=>simp at h0 | cons a l=>rfl]at hse;have hcm:=zB1 (zZ p all[0] L[i] f).1 (zZ p all[k] L[i] f).1;rw[hse.2,zCk]at hcm;rw[←hse.2]at hcm;generalize L[i]=w at *
  generalize all[0]=q0 at *
  generalize all[k]=qk at *
  obtain⟨hse1,hse2⟩:=hse;generalize zZ p q0 w f=r0 at *
  generalize zZ p qk w f=rk at *
  unfold zCU at c0 ck;rw[←hse2,←hse1]at ck;simp -implicitDefEqProofs [hP,zF,zC,hka,h0,h1l,hane,hLne,hp0,hpk,hcd,hi]
  intros
  refine zAo c0 (by simp[hP,zC]) (by simp[zC]) ?_;simp -implicitDefEqProofs [zC,hka,h0,h1l,hane,hLne,hp0,hpk,hcd,hi];refine zAo ck (by simp[hP,zC]) (by simp[zC]) ?_;simp -implicitDefEqProofs [zC];refine qK hcm (by simp[zC]) (by simp) ?_;simp -implicitDefEqProofs;exact zU (k+1) (by omega) (by omega) (zP [0,1,2,3] 0 (by decide) (by simp) (by simp[hP,zF,zC]) (by simp[hwk]))
 ·simp -implicitDefEqProofs [hka]
  intros
  exact hQ _ _ (zP [0,1,2,3] 0 (by simp) (by decide) (by simp[hP,zF,zC]) (by simp))
structure SurH (p:Prg)(f:Int)(all:List (List Id))(L:List Val)(v:Val)(e:Int):Prop where
 along:∀q∈all,∀w∈L,Ret prog 16 [.agg (zM p),.sl q.length (zQ q),.agg (zC w),int f] [] (zCU (zZ p q w f)) []
 ends:∃M,M≤L.length∧(∀(j:Nat) (hj:j<L.length),j<M→∀q∈all.tail,zBB p (all.headD []) q L[j] f=true)∧((e=0∧M=L.length)∨(e=19∧∃h:M<L.length,L[M]=v))
theorem zRN {p:Prg}(x y:Id)(f:Int){all:List (List Id)}{L:List Val}{v:Val}{e:Int}(hall:all.length≤64)(h:SurH p f all L v e) :
 wpK prog 0 zUP (fin [RS.slot 10] (zFz 0 (bl true) [])) (qC [(11,.ptr 0 0),(15,int f),(16,.ptr 3 0),(18,int e),(19,.sl all.length (jL all)),(21,.sl L.length (zJ L))]) (zEB p x y v):=by
 have hP:=eP p;have hlv:=zRu;obtain⟨hal,M,hM,hsm,hends⟩:=h;unfold zUP;simp -implicitDefEqProofs [hP,zF,zC,zEB];refine jX (S:=Nat) (fun i=>zDE f e all L i) (fun i=>zEB p x y v)
  (fun i=>i≤M) (fun i=>L.length-i) 0 (by omega)
  (zP [0,1,2,3] 0 (by decide) (by simp) (by simp[hP,zF,zC,zEB]) (by simp[zDE])) ?_
 intro i hi;by_cases hil:i<L.length
 ·have hcd:=qY hil;have hLne:¬L=[]:=fun e=>by rw[e]at hil; simp at hil
  rcases hends with ⟨rfl,hM2⟩ | ⟨rfl,hM2,hMv⟩
  ·simp -implicitDefEqProofs [hP,zF,zC,zEB,zDE,hil];intro hmx;have hw:=qO hil hmx;refine⟨_,_,zP [0,1,2,3] 0 (by decide) (by simp) ?_ ?_,zXf x y f 0 (v:=v) hall hil (fun q hq=>hal q hq _ (jA3 hil)) (hsm i hil (by omega)) _ fun E S hw'=>?_⟩
   ·simp[zEB,hP,zF,zC]
   ·simp[zDE]
   ·simp -implicitDefEqProofs;refine⟨_,_,hw',?_⟩;simp -implicitDefEqProofs [hP,zF,zC,zEB,zDE];exact zU (i+1) (by omega) (by omega) (zP [0,1,2,3] 0 (by decide) (by simp) (by simp[hP,zF,zC,zEB]) (by simp[hw,zDE]))
  ·have hcm:=zB1 L[i] v;by_cases hiv:L[i]=v
   ·rw[hiv,zCk]at hcm;rw[hiv]at hcd;simp -implicitDefEqProofs [hP,zF,zC,zEB,zDE,hil,hLne,hcd]
    intros
    refine qR hcm (by simp[zC]) (by simp) ?_;simp -implicitDefEqProofs;refine qK hlv (by simp) (by simp) ?_;simp -implicitDefEqProofs;exact zB 0 (by simp)
   ·have hiM:i<M:=by
     by_cases hiM:i=M
     ·subst hiM; exact(hiv hMv).elim
     ·omega
    have hc0:¬zBX L[i] v=0:=fun h=>hiv (zBS _ _ h)
    have hB:=zXf x y f 19 (v:=v) hall hil (fun q hq=>hal q hq _ (jA3 hil)) (hsm i hil hiM);generalize L[i]=w at hcd hcm hc0;simp -implicitDefEqProofs [hP,zF,zC,zEB,zDE,hil,hLne,hcd];intro hmx;have hw:=qO hil hmx;refine qR hcm (by simp[zC]) (by simp) ?_;simp -implicitDefEqProofs [hc0];refine⟨_,_,zP [0,1,2,3] 0 (by decide) (by simp) ?_ ?_,hB _ fun E S hw'=>?_⟩
    ·simp[zEB,hP,zF,zC]
    ·simp[zDE]
    ·simp -implicitDefEqProofs;refine⟨_,_,hw',?_⟩;simp -implicitDefEqProofs [hP,zF,zC,zEB,zDE];exact zU (i+1) (by omega) (by omega) (zP [0,1,2,3] 0 (by decide) (by simp) (by simp[hP,zF,zC,zEB]) (by simp[hw,zDE]))
 ·rcases hends with ⟨rfl,hM2⟩ | ⟨rfl,hM2,hMv⟩
  ·simp -implicitDefEqProofs [hP,zF,zC,zEB,zDE,hil]
   intros
   refine qK hlv (by simp) (by simp) ?_;simp -implicitDefEqProofs;exact zB 0 (by simp)
  ·omega
theorem qDm {p:Prg}{f:Int}{all:List (List Id)}{L:List Val}(hal:∀q∈all,∀w∈L,Ret prog 16 [.agg (zM p),.sl q.length (zQ q),.agg (zC w),int f] [] (zCU (zZ p q w f)) []) :
 match zBD p all f L with
 | none=>SurH p f all L vz 0
 | some x=>SurH p f all L x.1 19:=by
 cases h:zBD p all f L with
 | none=>exact⟨hal,L.length,jA _,fun j hj _ q hq=>zJb h _ (jA3 hj) q hq,.inl ⟨rfl,rfl⟩⟩
 | some x =>
  obtain⟨h1,h2,h3,i,h4,h5,h6⟩:=zF6 h;rw[jA2 h4,jA0]at h5;exact⟨hal,i,by omega,fun j hj hji q hq=>h6 j L[j] hji (jA2 hj) q hq,.inr ⟨rfl,h4,h5⟩⟩
theorem qDn {p:Prg}(x y:Id)(n f:Int){all:List (List Id)}{L:List Val}(hall:all.length≤64)
 (hal:∀q∈all,∀w∈L,Ret prog 16 [.agg (zM p),.sl q.length (zQ q),.agg (zC w),int f] [] (zCU (zZ p q w f)) [])
 (rag:Ret prog 26 [.agg (zM p),.agg (zF x),.agg (zF y),int n,int f] [] (zED (match zBD p all f L with | some z=>(z.1,[all.headD [],z.2],19) | none=>(vz,[],0))) [])
 (rp:Ret prog 20 [.agg (zM p),.agg (zF x),.agg (zF y)] [] (.tup [.sl all.length (jL all),int 0]) [])
 (rv:Ret prog 34 [.agg (zM p),.agg (zS (jZ x)),int n] [] (.tup [.sl L.length (zJ L),int 0]) []) :
 wpK prog 0 zSd (fin [RS.slot 10] (zFz 0 (bl true) [])) (qC [(11,.ptr 0 0),(12,.ptr 1 0),(13,.ptr 2 0),(14,int n),(15,int f)]) [.box (zM p),.box (zF x),.box (zF y)]:=by
 have hP:=eP p;have hS:=qDm hal;have hT:zS (jZ x)=[int 3,int x.a,int x.b,int x.c,.sl 0 []]:=by simp[zS,Typ.k,Typ.id,Typ.kids]
 unfold zSd;cases hag:zBD p all f L with
 | none =>
  rw[hag]at rag hS;unfold zED at rag;simp only at rag hS;have hvz:zC vz=[int 0,int 0,.sl 0 []]:=by simp[zC,vz,Val.k,Val.n,Val.kids]
  rw[hvz]at rag;simp -implicitDefEqProofs [hP,zF];refine qK rag (by simp[hP,zF]) (by simp) ?_;simp -implicitDefEqProofs;refine qK rp (by simp[hP,zF]) (by simp) ?_;simp -implicitDefEqProofs;refine qK rv (by simp[hP,hT]) (by simp) ?_;simp -implicitDefEqProofs;refine⟨_,_,zP [0,1,2,3] 0 (by decide) (by simp) ?_ ?_,zRN x y f hall hS⟩
  ·simp[zEB,hP,zF,hvz]
  ·simp
 | some wq =>
  obtain⟨w,q⟩:=wq;obtain⟨hw,hq,hne,_⟩:=zF6 hag;have hhd:all.headD []∈all:=by cases all with | nil=>simp at hq | cons a l=>simp
  have c0:=hal _ hhd w hw;have c1:=hal q (List.mem_of_mem_tail hq) w hw;have hnot:¬((zZ p (all.headD []) w f).2.2=(zZ p q w f).2.2∧(zZ p (all.headD []) w f).1=(zZ p q w f).1):=fun h=>by have:=zJ6.2 h;simp only at hne;rw[hne]at this; cases this
  have hcm:=zB1 (zZ p (all.headD []) w f).1 (zZ p q w f).1;rw[hag]at rag hS;unfold zED at rag;simp only at rag hS;generalize all.headD []=h0 at c0 hnot hcm rag;unfold zCU at c0 c1;generalize zZ p h0 w f=r0 at *
  generalize zZ p q w f=r1 at *
  simp -implicitDefEqProofs [hP,zF];refine qK rag (by simp[hP,zF]) (by simp[zC]) ?_;simp -implicitDefEqProofs [zC];refine qK rp (by simp[hP,zF]) (by simp) ?_;simp -implicitDefEqProofs;refine qK rv (by simp[hP,hT]) (by simp) ?_;simp -implicitDefEqProofs [zCs,zC]
  intros
  refine zAo c0 (by simp[hP,zC]) (by simp[zC]) ?_;simp -implicitDefEqProofs [zCs,zC]
  intros
  refine zAo c1 (by simp[hP,zC]) (by simp[zC]) ?_;by_cases he:r0.2.2=r1.2.2
  ·have hc0:¬zBX r0.1 r1.1=0:=fun h=>hnot ⟨he,zBS _ _ h⟩
   simp -implicitDefEqProofs [zC,he];refine qK hcm (by simp[zC]) (by simp) ?_;simp -implicitDefEqProofs [hc0];refine⟨_,_,zP [0,1,2,3] 0 (by decide) (by simp) ?_ ?_,zRN x y f hall hS⟩
   ·simp[zEB,hP,zF,zC]
   ·simp
  ·simp -implicitDefEqProofs [zC,he];refine⟨_,_,zP [0,1,2,3] 0 (by decide) (by simp) ?_ ?_,zRN x y f hall hS⟩
   ·simp[zEB,hP,zF,zC]
   ·simp
theorem qON (l:List Int)(a b most fuel:Int)(hl:∀x∈l,w64 x=x)(ha:w64 a=a)(hb:w64 b=b)(hm:w64 most=most)(hfu:w64 fuel=fuel) :
 Ret prog 8 [.sl l.length (zBe l),int a,int b,int most,int fuel] [] (bl true) []:=by
 have hf:=zIF hl;have rP:=zWi hl;have hmany:=zCP hl;have hlen:=zIE hl;have ra:=zDp a 2 (by omega);have rb:=zDp b 2 (by omega);have rm:=zDp most 4 (by omega);have rf:=zDp fuel 60 (by omega);have ru:=zDp fuel 2 (by omega);obtain⟨a0,a1⟩:=zBP (k:=2) ha (by omega);obtain⟨b0,b1⟩:=zBP (k:=2) hb (by omega);obtain⟨m0,m1⟩:=zBP (k:=4) hm (by omega);obtain⟨f0,f1⟩:=zBP (k:=60) hfu (by omega);obtain⟨u0,u1⟩:=zBP (k:=2) hfu (by omega);obtain⟨i,hi⟩:∃i:Nat,zAz a 2=i:=⟨(zAz a 2).toNat,by omega⟩;obtain⟨j,hj⟩:∃j:Nat,zAz b 2=j:=⟨(zAz b 2).toNat,by omega⟩;rw[hi]at ra a1;rw[hj]at rb b1;have hil:i<(jJ l).length:=by omega
 have hjl:j<(jJ l).length:=by omega
 have sx:=(zDu hl (show i<jO l by omega) hil).stored;have sy:=(zDu hl (show j<jO l by omega) hjl).stored;have hv0:=zRh hl (show i<jO l by omega) hil (m:=zAz most 4) (by omega);have hvs:=zIr (zA3 l) (jZ (jJ l)[i].id) (zAz most 4);have hvf:=zRT (zA3 l) (jZ (jJ l)[i].id) (zAz most 4);have h64:=zRg hl (jJ l)[i].id (jJ l)[j].id;have hsh:=zN8 hl (jJ l)[i].id (jJ l)[j].id;have rp:=zHz hf (jJ l)[i].id (jJ l)[j].id h64;unfold zCW at rp;rw[if_pos ⟨sx,sy⟩]at rp;have rv:=zNj (zA3 l) (zMz hl) (jZ (jJ l)[i].id) (zAz most 4);rw[hv0]at rv;have key:∀f:Int,-90000≤f→f≤90000→wpK prog 0 zSd (fin [RS.slot 10] (zFz 0 (bl true) [])) (qC [(11,.ptr 0 0),(12,.ptr 1 0),(13,.ptr 2 0),(14,int (zAz most 4)),(15,int f)]) [.box (zM (zA3 l)),.box (zF (jJ l)[i].id),.box (zF (jJ l)[j].id)]:=by intro f g0 g1;have rag:=zOs hf (zMz hl) (jJ l)[i].id (jJ l)[j].id h64 (fun q hq=>by have:=hsh q hq; omega) (zAz most 4) f g0 g1 hvs;unfold zEf at rag;rw[if_pos ⟨sx,sy⟩,if_neg (by simp[hv0])]at rag;refine qDn _ _ _ f h64 (fun q hq w hw=>?_) rag rp rv;have:=zOv hf q (by have:=hsh q hq; omega) w (hvs w hw) f g0 g1;rw[zQz (zRf hl hq).1 (hvf w hw)]at this;exact this
 have hP:zM (zA3 l)=[.sl (zA3 l).mods.length (jI (zA3 l).mods),.sl (jJ l).length (qM (jJ l))]:=rfl;have hci:=zAI hil;have hcj:=zAI hjl;have hne:¬jJ l=[]:=fun e=>by rw[e]at hil; simp at hil
 generalize (jJ l)[i]=di at *
 generalize (jJ l)[j]=dj at *
 generalize jJ l=ds at *
 generalize zA3 l=p at *
 refine zK Tryz.func8 rfl qNf (rs:=[.slot 10]) (by kernel_rfl) ?_;unfold qGg;simp -implicitDefEqProofs;refine qK rP (by simp) (by simp[hP]) ?_;simp -implicitDefEqProofs [hP];refine zAo ra (by simp) (by simp) ?_;simp -implicitDefEqProofs [hil,hne,hci,zH];refine zAo rb (by simp) (by simp) ?_;simp -implicitDefEqProofs [hjl,hne,hcj,zH];refine qK rm (by simp) (by simp) ?_;simp -implicitDefEqProofs;refine qK rf (by simp) (by simp) ?_;simp -implicitDefEqProofs;refine qK ru (by simp) (by simp) ?_;rcases (by omega:zAz fuel 2=0∨zAz fuel 2=1)with hu | hu
 ·simp -implicitDefEqProofs [hu];refine⟨_,_,zP [0,1,2] 0 (by decide) (by simp) ?_ ?_,key 500 (by omega) (by omega)⟩
  ·simp[hP,zF]
  ·simp
 ·simp -implicitDefEqProofs [hu];refine⟨_,_,zP [0,1,2] 0 (by decide) (by simp) ?_ ?_,key (zAz fuel 60) (by omega) (by omega)⟩
  ·simp[hP,zF]
  ·simp
end Go.Proofs.YtdnelmeboihpkaaGreatDoor
