/-
  The examples of the law on converters hold.
  The second generator's programs have few paths.
  The converters of the second generator's programs; what the paths are.
  The values of a domain have its type; records of the second generator have few values.
  Calls of the second generator's converters: they end, or the fuel does; a path is followed in two parts.
  The law on composition.
-/
import Derived.Test.YtdnelmeboihpkaaGreatDoorX22
import Derived.Test.YtdnelmeboihpkaaGreatDoorX21
import Derived.Test.YtdnelmeboihpkaaGreatDoorX20
import Derived.Test.YtdnelmeboihpkaaGreatDoorX16
import Derived.Test.YtdnelmeboihpkaaGreatDoorX15
import Derived.Test.YtdnelmeboihpkaaGreatDoorX17
set_option linter.unusedVariables false
set_option maxHeartbeats 8000000
set_option maxRecDepth 100000
set_option linter.unusedSimpArgs false
open Go.Proofs.Tryz (prog)
namespace Go.Proofs.YtdnelmeboihpkaaGreatDoor
open Go.Abs
def qAJ:K:=G [kMb 4 false] (Z (G [M 6 0,kN 7 6,M 8 1,kN 9 8,kQ 10 7 9 true] (Y 10 (G [kMb 4 false] kr) ks)) (Z (G [kMi 5 0] (K.block 0 (K.loop (Z (G [M 11 5,M 12 0,kN 13 12,kB 14 11 13 .lss] (Y 14 ks (K.exit 0))) (Z (K.block 1 (Z (K.dops [(0,0,M 17 0),(1,0,M 18 5),(2,0,kX 19 17 18 1),(3,0,L 20 19 1),(4,0,M 21 1),(5,0,M 22 5),(6,0,kX 23 21 22 1),(7,0,L 24 23 1),(8,0,kQ 25 20 24 true)]) (Y 25 (G [kMb 4 false] kr) ks))) (K.ops [M 15 5,kBi 16 15 1 .add,M 5 16])))))) (G [kMb 4 true] kr)))
theorem qI6:zQ prog Tryz.f23.ntmps (Tryz.f23.body.getD .skip)=some qAJ.erase:=by kernel_rfl
@[simp] theorem qMv:zB prog 23=true:=by kernel_rfl
theorem zZY (a b:List Int)(ha:a.length≤1000):Ret prog 23 [.sl a.length (zA3 a),.sl b.length (zA3 b)] [] (bl (decide (a=b))) []:=by
 refine zI Tryz.func23 rfl qI6 (rs:=[.slot 4]) (by kernel_rfl) ?_;unfold qAJ;by_cases hab:a.length=b.length
 ·have hab':(a.length:Int)=b.length:=by omega
  simp -implicitDefEqProofs [hab];intro hlb;refine jQ (S:=Nat) (fun i=>[(0,.sl a.length (zA3 a)),(1,.sl b.length (zA3 b)),(5,int i)]) (fun s=>[]) (fun i=>i≤a.length∧a.take i=b.take i) (fun i=>a.length-i) 0 (by simp)
   (zT [] 0 (by simp) (by simp) (by simp) (by simp[hab])) ?_
  rintro i ⟨hi,hn⟩;by_cases h:i<a.length
  ·have hb:i<b.length:=by omega
   have hpa:=zGF h;have hpb:=zGF hb;have hane:¬a=[]:=fun e=>by rw[e]at h; simp at h
   have hbne:¬b=[]:=fun e=>by rw[e]at hb; simp at hb
   have hw:=qD h (show a.length≤maxLen by simp[maxLen]; omega);by_cases hx:a[i]=b[i]
   ·simp -implicitDefEqProofs [h,hb,hpa,hpb,hane,hbne,hx];intro _;refine zR (i+1) ⟨h,?_⟩ (by omega) (zT [] 0 (by simp) (by simp) (by simp) (by simp[hw]));rw[jA9 h,jA9 hb,hn,hx]
   ·have hne:a≠b:=fun e=>hx (by subst e; rfl)
    simp -implicitDefEqProofs [h,hb,hpa,hpb,hane,hbne,hx];exact fun _=>zA 0 (by simp[hne])
  ·have:i=a.length:=by omega
   subst this;simp -implicitDefEqProofs;have:a=b:=by rw[jB1,hab,jB1]at hn; exact hn
   exact fun _=>zA 0 (by simp[this])
 ·have hne:a≠b:=fun e=>hab (by rw[e])
  have hab':¬(a.length:Int)=b.length:=by omega
  simp -implicitDefEqProofs [hab'];exact fun _ _=>zA 0 (by simp[hne])
def zNW:K:=(Z (G [M 53 4,kQi 54 53 0 true,M 55 54,T 55 false (M 56 6),T 55 false (kQi 57 56 0 true),kPt 58 55 57,M 59 58,T 59 false (M 60 9),T 59 false (kQi 61 60 0 true),kPt 62 59 61,M 63 62,T 63 false (M 64 12),T 63 false (kQi 65 64 19 true),kPt 66 63 65,M 67 66,T 67 false (M 68 5),T 67 false (kN 69 68),T 67 false (kBi 70 69 0 .gtr),kPt 71 67 70,M 72 71,T 72 false (M 73 8),T 72 false (kQi 74 73 10 true),kPt 75 72 74] (Y 75 (G [kMb 0 false] kr) ks)) (Z (K.dops [(0,0,J 76 7 3),(1,0,kC 77 51 [(kc 5)]),(2,0,kC 78 18 [(kt 76),(kt 77)]),(3,0,kQi 79 78 0 false),(4,0,M 80 79),(5,0,T 80 true (J 81 10 3)),(6,0,T 80 true (kC 82 51 [(kc (-1))])),(7,0,T 80 true (kC 83 18 [(kt 81),(kt 82)])),(8,0,T 80 true (kQi 84 83 0 false)),(9,0,kPf 85 80 84),(10,0,M 13 85)]) (Z (K.dops [(0,0,M 86 13),(1,0,M 87 86),(2,0,T 87 true (M 88 3)),(3,0,T 87 true (M 89 2)),(4,0,T 87 true (kC 90 22 [(kt 88),(kt 89)])),(5,0,kPf 91 87 90),(6,0,M 92 91),(7,0,T 92 true (M 93 11)),(8,0,T 92 true (M 94 2)),(9,0,T 92 true (kC 95 22 [(kt 93),(kt 94)])),(10,0,kPf 96 92 95),(11,0,M 97 96),(12,0,T 97 true (J 98 1 2)),(13,0,T 97 true (kC 99 50 [(kc 2)])),(14,0,T 97 true (kC 100 24 [(kt 98),(kt 99),(kc 0)])),(15,0,⟨some (97,true),.bslice (some 101) 3 1 2 [ki,ki] [(0,1,(kc 0)),(1,1,(kc 1))]⟩),(16,0,T 97 true (kC 102 23 [(kt 100),(kt 101)])),(17,0,kPf 103 97 102),(18,0,M 104 103),(19,0,T 104 true (J 105 1 2)),(20,0,T 104 true (kC 106 50 [(kc 1)])),(21,0,T 104 true (kC 107 24 [(kt 105),(kt 106),(kc 1)])),(22,0,
 T 104 true (kN 108 107)),(23,0,T 104 true (kQi 109 108 0 false)),(24,0,kPf 110 104 109),(25,0,M 0 110)]) kr)))
def zVJ:K:=G [kMb 0 false] (G [kC 14 49 [],kZ 1 [kl,kl],S 1 14 2] (G [kC 15 50 [(kc 1)],kC 16 50 [(kc 2)],kd 17 31 3 2 [ki,ki,ki,ki,ki,ki] [(0,3,(kt 15)),(3,3,(kt 16))],kC 18 50 [(kc 3)],kd 19 31 3 1 [ki,ki,ki] [(0,3,(kt 18))],kd 20 28 1 2 [kl,kl] [(0,1,(kt 17)),(1,1,(kt 19))],M 2 20] (Z (K.dops [(0,0,J 22 1 2),(1,0,kC 23 50 [(kc 10)]),(2,0,kC 24 50 [(kc 12)]),(3,0,kC 25 20 [(kt 22),(kt 23),(kt 24)]),(4,0,M 21 25),(5,0,kE 26 21 0),(6,0,kE 27 21 1),(7,0,M 3 26),(8,0,M 4 27)]) (Z (K.dops [(0,0,J 29 1 2),(1,0,kC 30 50 [(kc 12)]),(2,0,kC 31 50 [(kc 10)]),(3,0,kC 32 20 [(kt 29),(kt 30),(kt 31)]),(4,0,M 28 32),(5,0,kE 33 28 0),(6,0,kE 34 28 1),(7,0,M 5 33),(8,0,M 6 34)]) (Z (K.dops [(0,1,J 36 1 2),(1,0,M 37 2),(2,1,kXi 38 37 1 0),(3,1,L 39 38 1),(4,1,kC 40 51 [(kc 5)]),(5,1,kC 41 16 [(kt 36),(kt 39),(kt 40),(kc 100)]),(6,0,M 35 41),(7,0,kE 42 35 0),(8,0,kE 43 35 1),(9,0,kE 44 35 2),(10,0,kZ 7 [ki,ki,kl]),(11,0,S 7 42 3),(12,0,M 8 43),(13,0,M 9 44)]) (Z (K.dops [(0,1,J 46 1 2),(1,1,kC 47 50 [(kc 10)]),(2,1,kC 48 50 [(kc 12)]),(3,1,kC 49 26 [(kt 46),(kt 47),(kt 48),(kc 1),(kc 100)]),(4,0,M 45 49),(5,0,kE 50 45 0),(6,0,kE 51 45 1),(7,0,kE 52 45 2),(8,0,kZ 10 [ki,ki,kl]),(9,0,S 10 50 3),(10,0,M 11 51),(11,0,M 12 52)]) (K.wk zNW)))))))
theorem qCA:zQ prog Tryz.f19.ntmps (Tryz.f19.body.getD .skip)=some zVJ.erase:=by kernel_rfl
@[simp] theorem qIR:zB prog 19=true:=by kernel_rfl
theorem qDu:Sml zAs:=by unfold Sml; decide
theorem qDJ:Ret prog 20 [.agg (zK zAs),.agg (zF (iD 10)),.agg (zF (iD 12))] [] (.tup [.sl 2 (jV zC6),int 0]) []:=by have:=zKA zIh (iD 10) (iD 12) (by rw[zGe]; decide);unfold zDR at this;rw[zGe,if_pos (by decide)]at this;exact this
theorem qDK:Ret prog 20 [.agg (zK zAs),.agg (zF (iD 12)),.agg (zF (iD 10))] [] (.tup [.sl 0 [],int 0]) []:=by have:=zKA zIh (iD 12) (iD 10) (by rw[zTq]; decide);unfold zDR at this;rw[zTq,if_pos (by decide)]at this;exact this
theorem qDG:Ret prog 16 [.agg (zK zAs),.sl 2 (zO [iD 1,iD 2]),.agg (zC (zFI 5)),int 100] [] (.tup [.agg (zC (zFI 5)),int 10,int 0]) []:=by have:=zHQ zIh [iD 1,iD 2] (by decide) (zFI 5) (by decide) 100 (by omega) (by omega);rw[zWT]at this;exact this
theorem qDF:Ret prog 26 [.agg (zK zAs),.agg (zF (iD 10)),.agg (zF (iD 12)),int 1,int 100] [] (.tup [.agg (zC (zFI (-1))),.sl 2 (jV zC6),int 19]) []:=by have:=zVR zIh qDu (iD 10) (iD 12) (by rw[zGe]; decide) (by rw[zGe]; decide) 1 100 (by omega) (by omega) (zOT _ _ _);rw[zWS]at this;exact this
theorem qDI:Ret prog 24 [.agg (zK zAs),.agg (zF (iD 2)),int 0] [] (.sl 2 (zA3 [0,1])) []:=by have:=zMN zAs (by decide) (iD 2) 0;rw[zZo]at this;exact this
theorem qDH:Ret prog 24 [.agg (zK zAs),.agg (zF (iD 1)),int 1] [] (.sl 0 []) []:=by have:=zMN zAs (by decide) (iD 1) 1;rw[zZn]at this;exact this
theorem qKh:wpK prog 0 zNW (fin [RS.slot 0] (zGS 0 (bl true) [])) (qN [(1,.ptr 0 0),(2,.sl 2 (jV zC6)),(3,.sl 2 (jV zC6)),(4,int 0),(5,.sl 0 []),(6,int 0),(7,.ptr 1 0),(8,int 10),(9,int 0),(10,.ptr 2 0),(11,.sl 2 (jV zC6)),(12,int 19)]) [.box (zK zAs),.box (zC (zFI 5)),.box (zC (zFI (-1)))]:=by
 have hP:zK zAs=[.sl zAs.mods.length (jG zAs.mods),.sl zAs.defs.length (qK zAs.defs)]:=rfl;have f2:=qDI;have f1:=qDH;generalize zAs=P at *
 have c1:=zCW (zFI 5) (zFI 5);have c2:=zCW (zFI (-1)) (zFI (-1));rw[zD8]at c1 c2;have s1:Ret prog 22 [.sl 2 (jV zC6),.sl 2 (jV zC6)] [] (bl true) []:=by have:=zZZ zC6 zC6 (by decide);rw[show decide (zC6=zC6)=true from decide_eq_true rfl]at this;exact this
 have s2:Ret prog 23 [.sl 2 (zA3 [0,1]),.sl 2 (zA3 [0,1])] [] (bl true) []:=by have:=zZY [0,1] [0,1] (by decide);rw[show decide ([0,1]=([0,1]:List Int))=true from decide_eq_true rfl]at this;exact this
 unfold zNW;simp -implicitDefEqProofs [hP,zC];refine qU (zLG 5) (by simp) (by simp[zC]) ?_
 try simp -implicitDefEqProofs [zC]
 refine qU c1 (by simp[zC]) (by simp) ?_
 try simp -implicitDefEqProofs [zC]
 refine qU (zLG (-1)) (by simp) (by simp[zC]) ?_
 try simp -implicitDefEqProofs [zC]
 refine qU c2 (by simp[zC]) (by simp) ?_
 try simp -implicitDefEqProofs [zC]
 refine qU s1 (by simp) (by simp) ?_
 try simp -implicitDefEqProofs
 refine qU s1 (by simp) (by simp) ?_
 try simp -implicitDefEqProofs
 refine qU (zC7 2) (by simp) (by simp[zF]) ?_
 try simp -implicitDefEqProofs [zF]
 refine qU f2 (by simp[hP,zF]) (by simp) ?_
 try simp -implicitDefEqProofs
 refine qU s2 (by simp[zA3]) (by simp) ?_
 try simp -implicitDefEqProofs
 refine qU (zC7 1) (by simp) (by simp[zF]) ?_
 try simp -implicitDefEqProofs [zF]
 refine qU f1 (by simp[hP,zF]) (by simp) ?_
 try simp -implicitDefEqProofs
 exact zA 0 (by simp)
theorem zL6:Ret prog 19 [] [] (bl true) []:=by
 have hP:zK zAs=[.sl zAs.mods.length (jG zAs.mods),.sl zAs.defs.length (qK zAs.defs)]:=rfl;have hx:=zZk;have p1:=qDJ;have p2:=qDK;have pa:=qDG;have pg:=qDF;have hT:=qKh;generalize zAs=P at *
 refine qP Tryz.func19 rfl qCA (rs:=[.slot 0]) (by kernel_rfl) ?_;unfold zVJ;simp -implicitDefEqProofs;refine qA hx (by simp) (by simp[hP]) ?_;simp -implicitDefEqProofs [hP];refine qA (zC7 1) (by simp) (by simp[zF]) ?_;simp -implicitDefEqProofs;refine qA (zC7 2) (by simp) (by simp[zF]) ?_;simp -implicitDefEqProofs [zF];refine qA (zC7 3) (by simp) (by simp[zF]) ?_;simp -implicitDefEqProofs [zF];refine qU (zC7 10) (by simp[hP,zF,zO]) (by simp[zF,zO]) ?_
 try simp -implicitDefEqProofs [zF,zC]
 refine qU (zC7 12) (by simp[hP,zF,zO]) (by simp[zF,zO]) ?_
 try simp -implicitDefEqProofs [zF,zC]
 refine qU (p1) (by simp[hP,zF,zO]) (by simp[zF,zO]) ?_
 try simp -implicitDefEqProofs [zF,zC]
 refine qU (zC7 12) (by simp[hP,zF,zO]) (by simp[zF,zO]) ?_
 try simp -implicitDefEqProofs [zF,zC]
 refine qU (zC7 10) (by simp[hP,zF,zO]) (by simp[zF,zO]) ?_
 try simp -implicitDefEqProofs [zF,zC]
 refine qU (p2) (by simp[hP,zF,zO]) (by simp[zF,zO]) ?_
 try simp -implicitDefEqProofs [zF,zC]
 refine yX (zLG 5) (by simp[hP,zF,zO,zC]) (by simp[zF,zO,zC]) ?_
 try simp -implicitDefEqProofs [zF,zC]
 refine yX (pa) (by simp[hP,zF,zO,zC]) (by simp[zF,zO,zC]) ?_
 try simp -implicitDefEqProofs [zF,zC]
 refine yX (zC7 10) (by simp[hP,zF,zO]) (by simp[zF,zO]) ?_
 try simp -implicitDefEqProofs [zF,zC]
 refine yX (zC7 12) (by simp[hP,zF,zO]) (by simp[zF,zO]) ?_
 try simp -implicitDefEqProofs [zF,zC]
 refine yX (pg) (by simp[hP,zF,zO,zC]) (by simp[zF,zO,zC]) ?_
 try simp -implicitDefEqProofs [zF,zC]
 refine⟨_,_,zT [0,1,2] 0 (by simp) (by decide) ?_ ?_,hT⟩
 ·simp[hP,zC]
 ·simp[zC6,jV,zO]
structure GCv (p:Prg)(d a b:Dfn)(s:Slt):Prop where
 fa:Flat p a
 fb:Flat p b
 slots:d.slots=[s]
 typ:s.typ=jS a.id
 res:d.res=jS b.id
 body:WF p [⟨s.id,0,jS a.id⟩] d.body (jS b.id)
section
variable {l:List Int}(hl:∀x∈l,w64 x=x)
include hl
theorem zXe {d:Dfn}(hd:d∈(zZ l).defs)(hk:d.kind=5):∃a b s,GCv (zZ l) d a b s:=by
 change d∈zAe l at hd;obtain⟨k,hk',rfl⟩:=jAz hd;have hlen:=zCd l ⟨1,40⟩ (yD l);have hm:=zEj hl;rcases zDC hl k hk' with ⟨_,m,e⟩ | ⟨hk2,hk7,m,e⟩
 ·rw[e]at hk;simp[zFC]at hk
 ·have hend:=zJZ hl (yF l (yD l) ⟨1,40⟩).1.length (by omega) m;have hfl:=zFm hl;refine⟨(yF l (yD l) ⟨1,40⟩).1.getD (zB8 l (yF l (yD l) ⟨1,40⟩).1.length m).1 .zero,(yF l (yD l) ⟨1,40⟩).1.getD (zB8 l (yF l (yD l) ⟨1,40⟩).1.length m).2.1 .zero,
   ⟨idR ((30+(k-yD l):Nat):Int),⟨#[111,108,100]⟩,jS ((yF l (yD l) ⟨1,40⟩).1.getD (zB8 l (yF l (yD l) ⟨1,40⟩).1.length m).1 .zero).id,0,0⟩,?_,?_,by rw[e]; rfl,rfl,by rw[e]; rfl,by rw[e]; exact zPQ hl hfl hend.1 hend.2 _ _⟩
  ·rw[zBL hend.1]; exact hfl _ (jA3 _)
  ·rw[zBL hend.2]; exact hfl _ (jA3 _)
theorem zOv {x:Id}{t:Typ×Typ}(h:jT (zZ l) x=some t):∃d a b s,qY (zZ l).defs x=some d∧d.kind=5∧GCv (zZ l) d a b s∧t=(jS a.id,jS b.id):=by
 obtain⟨d,s,hd,hk,hs,rfl⟩:=zL1 h;obtain⟨a,b,s',hg⟩:=zXe hl (zAk hd).1 hk;have e:s=s':=by have:=hg.slots; rw[hs]at this; simpa using this
 subst e;exact⟨d,a,b,s,hd,hk,hg,by rw[hg.typ,hg.res]⟩
end
inductive Chn (L:List Edg)(to:Id):Id→List Id→List Id→Prop
 | nil {a:Id} (met:List Id) (h:a=to):Chn L to a met []
 | cons {e:Edg} {a:Id} {met q:List Id} (ha:e.fro=a) (he:e∈L) (hn:e.to∉met) (h:Chn L to e.to (met++[e.to]) q):Chn L to a met (e.id::q)
section
variable {L:List Edg}{to:Id}
end
def toI (p:Prg)(x:Id):Id:=(zCl p x).2.id
def zEk (p:Prg):Id→List Id→Prop
 | _,[]=>True
 | a,x::q=>jT p x=some (jS a,jS (toI p x))∧zEk p (toI p x) q
def zJe (p:Prg):Id→List Id→Id
 | a,[]=>a
 | _,x::q=>zJe p (toI p x) q
theorem zWC (p:Prg):∀(q r:List Id) (a:Id),zJe p a (q++r)=zJe p (zJe p a q) r
 | [],_,_=>rfl
 | _::q,r,_=>zWC p q r _
theorem zLx (p:Prg):∀(q r:List Id) (a:Id),zEk p a (q++r)↔zEk p a q∧zEk p (zJe p a q) r
 | [],r,a=>by simp[zEk,zJe]
 | x::q,r,a=>by simp only[jB4,zEk,zJe,zLx p q r,and_assoc]
theorem zTv {p:Prg}:∀{q:List Id} {a:Id},zEk p a q→∀(i:Nat) (hi:i<q.length),jT p q[i]=some (jS ((a::q.map (toI p)).getD i .zero),jS (toI p q[i]))
 | x::q,a,h,0,_=>h.1
 | x::q,a,h,i+1,hi=>by
  have:=zTv h.2 i (by simpa using hi)
  simpa using this
theorem zUF {p:Prg}{q:List Id}{a:Id}(h:zEk p a q):zHk p q=true:=by
 have hat:=zTv h;have key:∀n,n≤q.length→zDQ p q n=true:=by
  intro n;induction n with
  | zero=>intro _; rfl
  | succ n ih =>
   intro hn;rw[zDQ,ih (by omega),jBu,zIF,zBL (show n<q.length by omega),hat n (by omega)];cases n with
   | zero=>simp
   | succ n =>
    rw[Nat.add_sub_cancel,zBL (show n<q.length by omega),hat n (by omega)];simp only[List.getD_cons_succ,Nat.add_eq_zero_iff,Nat.succ_ne_self,and_false,decide_false,jC4];rw[zJ4,zBL (by simpa using (show n<q.length by omega)),jBl]
 exact key _ (jA _)
theorem zJl {p:Prg}:∀{q:List Id} {a:Id},zEk p a q→q≠[]→∃t,jT p (q.getLastD .zero)=some (t,jS (zJe p a q))
 | [x],a,h,_=>⟨_,h.1⟩
 | x::y::q,a,h,_=>by
  have:=zJl h.2 (by simp)
  simpa [zJe] using this
section
variable {p:Prg}{L:List Edg}(hlead:∀e∈L,jT p e.id=some (jS e.fro,jS e.to))
include hlead
theorem zYm {e:Edg}(he:e∈L):toI p e.id=e.to:=by unfold toI zCl;rw[hlead e he]; rfl
theorem zYV {e e':Edg}(he:e∈L)(he':e'∈L)(h:e.id=e'.id):e=e':=by have h1:=hlead e he;have h2:=hlead e' he';rw[h,h2]at h1;obtain⟨a,b,c⟩:=e;obtain⟨a',b',c'⟩:=e';simp only[jA0,jBb,Typ.mk.injEq,Edg.mk.injEq,and_true,true_and]at h1 h ⊢;exact⟨h,h1.1.symm,h1.2.symm⟩
theorem Chn.app {y z at_:Id}{met q r:List Id}(h:Chn L y at_ met q):Chn L z at_ met (q++r)↔Chn L z y (met++q.map (toI p)) r:=by
 induction h with
 | nil met h=>subst h; simp
 | @cons e a met q ha he hn h ih =>
  subst ha;rw[jB4,jAd,zYm hlead he,show met++e.to::q.map (toI p)=met++[e.to]++q.map (toI p) by simp,←ih];constructor
  ·intro h';generalize hx:e.id::(q++r)=Q at h';cases h' with
   | nil=>cases hx
   | @cons e' _ _ q' ha' he' hn' h' =>
    simp only[jB3]at hx;obtain⟨h1,rfl⟩:=hx;have:=zYV hlead he he' h1;subst this;exact h'
  ·exact fun h'=>.cons rfl he hn h'
end
theorem zV1 (p:Prg):validT p zAS=true:=by unfold validT; rw[jN]; simp[Typ.k,Typ.kids,Typ.id]
theorem zSF (p:Prg):validT p zAd=true:=by unfold validT; rw[jN]; simp[Typ.k,Typ.kids,Typ.id]
theorem Flat.valid {p:Prg}{d:Dfn}(h:Flat p d):validT p (jS d.id)=true:=by unfold validT; rw[jN]; simp[Typ.k,Typ.kids,Typ.id,h.find,h.kind,zDM]
theorem Flat.dfn {p:Prg}{d:Dfn}(h:Flat p d):dfn p d.id=d:=by unfold Go.Proofs.YtdnelmeboihpkaaGreatDoor.dfn; rw[h.find]; rfl
theorem Flat.stored {p:Prg}{d:Dfn}(h:Flat p d):zBn p d.id=true:=by unfold zBn; rw[h.find]; simp[h.kind]
theorem zEU {p:Prg}{a:Id}{q:List Id}(hg:zEk p a q){v:Val}(hv:zAj p (jS a) v=true)(f:Int):zCk p q v f=zH p q v f:=by
 unfold zCk;by_cases hn:q=[]
 ·rw[if_pos hn,hn]; rfl
 ·have hp:=zUF hg;obtain⟨x,q',rfl⟩:∃x q',q=x::q':=by cases q with | nil=>exact(hn rfl).elim | cons x q'=>exact⟨x,q',rfl⟩
  rw[if_neg hn,if_neg (by rw[hp]; decide),List.getD_cons_zero,hg.1];simp only;rw[if_neg (by rw[hv]; decide)]
section
variable {l:List Int}(hl:∀x∈l,w64 x=x)
include hl
end
theorem qAm {p:Prg}{t:Typ}{v:Val}(ht:zOZ p t)(h:TyV p t v):zAj p t v=true:=by
 have one:∀{u:Typ} {w:Val},u=zAS∨u=zAd→TyV p u w→zAj p u w=true:=by
  rintro u w (rfl | rfl) hw
  ·obtain⟨n,rfl,h1,h2⟩:=hw.int_inv;rw[zAl,zV1]; simp[Typ.k,Val.k,Val.n,Val.kids,h1,h2]
  ·obtain⟨n,rfl,h1⟩:=hw.bool_inv;rw[zAl,zSF]; simp[Typ.k,Val.k,Val.n,Val.kids]; exact h1.imp decide_eq_true decide_eq_true
 rcases ht with ht | ht | ⟨d,hd,rfl⟩
 ·exact one (.inl ht) h
 ·exact one (.inr ht) h
 ·rcases h.def_inv hd.find with ⟨_,vs,hl,rfl,hk⟩ | ⟨h1,_⟩
  ·have h2:=zJg (P:=p) (ts:=d.slots.map Slt.typ) (vs:=vs) (by simp[hl]) fun j h1 h2=>by rw[jBl]; exact one (hd.flat _ (jA3 _)) (hk j h2)
   rw[zAl,hd.valid];simp only[Typ.k,Typ.id,Val.k,Val.n,Val.kids,hd.dfn,hd.kind,h2,hl];simp
  ·have:=hd.kind;omega
theorem zTe {p:Prg}{hs:List Hd}(hf:Fit p hs){d:Dfn}(hd:d∈p.defs){s:Slt}(hs':s∈d.slots){v:Val}(hv:zAj p s.typ v=true):TyV p s.typ v:=zOn hf ((hf.slots d hd).2.2.2.2 s hs') v hv
section
variable {l:List Int}(hl:∀x∈l,w64 x=x)
include hl
theorem zKa {x:Id}{t:Typ×Typ}(hx:jT (zZ l) x=some t){v:Val}(hv:zAj (zZ l) t.1 v=true):zX v≤7∧yJ v≤2:=by obtain⟨d,a,b,s,hd,hk,hg,rfl⟩:=zOv hl hx;have h1:=zTe (zGE hl) (zAk hd).1 (s:=s) (by rw[hg.slots]; simp) (v:=v) (by rw[hg.typ]; exact hv);rw[hg.typ]at h1;exact zLn (.inr (.inr ⟨a,hg.fa,rfl⟩)) h1
theorem qJ1 {x:Id}{t:Typ×Typ}(hx:jT (zZ l) x=some t){v:Val}(hv:zAj (zZ l) t.1 v=true)(f:Int) :
 ((qI (zZ l) x [v] f).2.2=0∧zAj (zZ l) t.2 (qI (zZ l) x [v] f).1=true)∨(qI (zZ l) x [v] f).2.2=zCh:=by
 have hsm:=zKa hl hx hv;obtain⟨d,a,b,s,hd,hk,hg,rfl⟩:=zOv hl hx;have hf:=zGE hl;have hty:TyL (zZ l) (d.slots.map Slt.typ) [v]:=TyL.of (by simp[hg.slots]) fun j hj=>by
  have hj0:j=0:=by simpa using hj
  subst hj0;have:=zTe hf (zAk hd).1 (s:=s) (by rw[hg.slots]; simp) (v:=v) (by rw[hg.typ]; exact hv)
  simpa [hg.slots] using this
 have henv:=EnvT.args hty (fun w hw=>by
  have:w=v:=by simpa using hw
  subst this; omega)
 have hB:(d.slots.map fun s=>(⟨s.id,0,s.typ⟩:Bnd))=[⟨s.id,0,jS a.id⟩]:=by rw[hg.slots,←hg.typ]; rfl
 rw[hB]at henv;have hrun:zCg (zZ l) d [v] f=jU (zZ l) 2 f.toNat d.body (zCG d.slots [v]) ⟨f,0,[d.id],[]⟩:=by unfold zCg zAH; simp
 have hfl:=zN5 hf.bods 2 f.toNat hg.body henv (s:=⟨f,0,[d.id],[]⟩) rfl;have hvt:=zEE hf.bods 2 f.toNat d.body _ _ ⟨f,0,[d.id],[]⟩ (jS b.id) hg.body.we henv;rw[←hrun]at hfl hvt;have hfits:zAP (zZ l) (d.slots.map Slt.typ) [v]=true:=by rw[hg.slots]; simp[zAP,hg.typ]; exact hv
 have hbk:¬zOb d.kind=false:=by rw[hk]; decide
 have hlen:¬[v].length≠d.slots.length:=by rw[hg.slots]; simp
 have hU:qI (zZ l) x [v] f=if (zCg (zZ l) d [v] f).2.fail≠0 then (vz,0,(zCg (zZ l) d [v] f).2.fail) else ((zCg (zZ l) d [v] f).1,f-(zCg (zZ l) d [v] f).2.fuel,0):=by unfold qI;rw[hd];simp only;rw[if_neg hbk,if_neg hlen,if_neg (by rw[hfits]; decide)]
 rw[hU];rcases hfl with h0 | h0
 ·rw[if_neg (by simp[h0])];exact .inl ⟨rfl,qAm (.inr (.inr ⟨b,hg.fb,rfl⟩)) (hvt h0).1⟩
 ·rw[if_pos (by rw[h0]; decide)];exact .inr h0
theorem zIq:∀(q:List Id) (a:Id) (v:Val) (f:Int),zEk (zZ l) a q→zAj (zZ l) (jS a) v=true →
 ((zH (zZ l) q v f).2.2=0∧zAj (zZ l) (jS (zJe (zZ l) a q)) (zH (zZ l) q v f).1=true)∨(zH (zZ l) q v f).2.2=zCh
 | [],a,v,f,_,hv=>.inl ⟨rfl,hv⟩
 | x::q,a,v,f,hg,hv=>by
  rw[zDc];rcases qJ1 hl hg.1 hv f with ⟨h1,h2⟩ | h1
  ·rcases zIq q (toI (zZ l) x) (qI (zZ l) x [v] f).1 (f-(qI (zZ l) x [v] f).2.1) hg.2 h2 with ⟨h3,h4⟩ | h3
   ·rw[zBW h1 h3];exact .inl ⟨rfl,h4⟩
   ·rw[zCt h1 (by rw[h3]; decide)];exact .inr h3
  ·rw[zDE _ (by rw[h1]; decide)];exact .inr h1
end
theorem zH7 {a b:Val×Int×Int}(h:(zGk a b).2.2=0):a.2.2=0∧b.2.2=0:=by
 unfold zGk at h;by_cases h1:a.2.2=0
 ·rw[if_neg (by simp[h1])]at h;by_cases h2:b.2.2=0
  ·exact⟨h1,h2⟩
  ·rw[if_pos h2]at h; exact(h2 h).elim
 ·rw[if_pos h1]at h; exact(h1 h).elim
theorem zPM {p:Prg}{hs:List Hd}(hf:Fit p hs){q:List Id}{v:Val}(hv:zX v≤256∧yJ v≤24){f:Int}(h:(zH p q v f).2.2=0){i:Nat}(hi:i<q.length) :
 (zH p (q.take i) v f).2.2=0∧(qI p q[i] [(zH p (q.take i) v f).1] f).2.2=0 ∧
 zH p (q.take (i+1)) v f=((qI p q[i] [(zH p (q.take i) v f).1] f).1,(zH p (q.take i) v f).2.1+(qI p q[i] [(zH p (q.take i) v f).1] f).2.1,0):=by
 have e:q=q.take i++q[i]::q.drop (i+1):=by rw[←jAt hi,jBn]
 have h':=h;rw[e,zFi]at h';obtain⟨h1,h2⟩:=zH7 h';rw[zDc]at h2;obtain⟨h3,_⟩:=zH7 h2;have hsm:=zDy hf (q.take i) v f hv;have hm:=zSE p q[i] [(zH p (q.take i) v f).1] (show f-(zH p (q.take i) v f).2.1≤f by omega) h3;refine⟨h1,by rw[hm]; exact h3,?_⟩;rw[jA9 hi,zFi,zDc];have h4:(zH p [] (qI p q[i] [(zH p (q.take i) v f).1] (f-(zH p (q.take i) v f).2.1)).1 (f-(zH p (q.take i) v f).2.1-(qI p q[i] [(zH p (q.take i) v f).1] (f-(zH p (q.take i) v f).2.1)).2.1)).2.2=0:=rfl;rw[zBW h3 h4,zBW h1 rfl,hm];exact Prod.ext rfl (Prod.ext (by simp[zH]) rfl)
theorem zR7 {p:Prg}{x:Id}(h:x∈yG p):∃t,jT p x=some t:=by unfold yG at h;rw[zIB,jAm]at h;obtain⟨d,hd,rfl⟩:=h;exact Option.isSome_iff_exists.1 (List.mem_filter.1 hd).2
theorem zMC {p:Prg}(h:yG p≠[])(k:Nat):zCH p k∈yG p:=by have hlt:k % (yG p).length<(yG p).length:=Nat.mod_lt _ (List.length_pos_iff.2 h);unfold zCH;rw[zBL hlt];exact jA3 _
section
variable {l:List Int}(hl:∀x∈l,w64 x=x)
include hl
theorem qJ2 {q:List Id}{a:Id}{v:Val}(hg:zEk (zZ l) a q)(hv:zAj (zZ l) (jS a) v=true)(cut:Nat)(f:Int) :
 zCk (zZ l) q v f=zH (zZ l) q v f∧zCk (zZ l) (q.take cut) v f=zH (zZ l) (q.take cut) v f ∧
 (((zH (zZ l) q v f).2.2=0∧(zH (zZ l) (q.take cut) v f).2.2=0 ∧
  (zCk (zZ l) (q.drop cut) (zH (zZ l) (q.take cut) v f).1 (f-(zH (zZ l) (q.take cut) v f).2.1)).2.2=0 ∧
  (zH (zZ l) q v f).1=(zCk (zZ l) (q.drop cut) (zH (zZ l) (q.take cut) v f).1 (f-(zH (zZ l) (q.take cut) v f).2.1)).1 ∧
  (zH (zZ l) q v f).2.1=(zH (zZ l) (q.take cut) v f).2.1+(zCk (zZ l) (q.drop cut) (zH (zZ l) (q.take cut) v f).1 (f-(zH (zZ l) (q.take cut) v f).2.1)).2.1 ∧
  zAj (zZ l) (jS (zJe (zZ l) a q)) (zH (zZ l) q v f).1=true) ∨
 ((zH (zZ l) q v f).2.2=zCh∧((zH (zZ l) (q.take cut) v f).2.2≠0 ∨
  (zH (zZ l) (q.take cut) v f).2.2=0∧(zCk (zZ l) (q.drop cut) (zH (zZ l) (q.take cut) v f).1 (f-(zH (zZ l) (q.take cut) v f).2.1)).2.2=zCh))):=by
 have hg':=hg;rw[←jBn cut q,zLx]at hg';refine⟨zEU hg hv f,zEU hg'.1 hv f,?_⟩;have hfull:zH (zZ l) q v f=zGk (zH (zZ l) (q.take cut) v f) (zH (zZ l) (q.drop cut) (zH (zZ l) (q.take cut) v f).1 (f-(zH (zZ l) (q.take cut) v f).2.1)):=by rw[←zFi,jBn]
 rcases zIq hl q a v f hg hv with ⟨h1,h2⟩ | h1
 ·have h3:=h1;rw[hfull]at h3;obtain⟨h4,h5⟩:=zH7 h3;rcases zIq hl (q.take cut) a v f hg'.1 hv with ⟨h6,h7⟩ | h6
  ·rw[zEU hg'.2 h7];refine .inl ⟨h1,h4,h5,?_,?_,h2⟩
   ·rw[hfull,zBW h4 h5]
   ·rw[hfull,zBW h4 h5]
  ·rw[h4]at h6; exact absurd h6 (by decide)
 ·refine .inr ⟨h1,?_⟩;rcases zIq hl (q.take cut) a v f hg'.1 hv with ⟨h6,h7⟩ | h6
  ·right;refine⟨h6,?_⟩;rw[zEU hg'.2 h7];rcases zIq hl (q.drop cut) _ _ (f-(zH (zZ l) (q.take cut) v f).2.1) hg'.2 h7 with ⟨h8,_⟩ | h8
   ·rw[hfull,zBW h6 h8]at h1;exact absurd (show (0:Int)=zCh from h1) (by decide)
   ·exact h8
  ·left;rw[h6]; decide
theorem zPZ {x:Id}(h:x∈yG (zZ l)):∃a,jT (zZ l) x=some (jS a,jS (toI (zZ l) x)):=by
 obtain⟨t,ht⟩:=zR7 h;obtain⟨d,a,b,s,_,_,_,rfl⟩:=zOv hl ht;refine⟨a.id,?_⟩;have:toI (zZ l) x=b.id:=by unfold toI zCl; rw[ht]; rfl
 rw[this]; exact ht
theorem zQD (m:List Int)(hne:yG (zZ l)≠[]):∀i,∃a,zEk (zZ l) a (zCn (zZ l) m i)
 | 0=>by obtain⟨a,ha⟩:=zPZ hl (zMC hne (atV m 0 (yG (zZ l)).length).toNat);exact⟨a,ha,trivial⟩
 | i+1=>by
  obtain⟨a,ha⟩:=zQD m hne i;refine⟨a,?_⟩;unfold zCn;split
  ·rename_i j hj;rw[zLx];refine⟨ha,?_,trivial⟩;have h1:=List.find?_some (show (List.range _).find? _=some j from hj);obtain⟨b,hb⟩:=zPZ hl (zMC hne (zQB (zZ l) m i+j));obtain⟨t,ht⟩:=zJl ha (List.length_pos_iff.1 (zGM (zZ l) m i).2);rw[zJ4]at h1;unfold zND zCl at h1;rw[hb,ht]at h1;simp only[jBa,Typ.mk.injEq,and_true,true_and]at h1;rw[←h1]; exact hb
  ·exact ha
end
def zVB:K:=(Z (G [kMi 30 0] (K.block 0 (K.loop (Z (G [M 129 30,M 130 10,kN 131 130,kB 132 129 131 .lss] (Y 132 ks (K.exit 0))) (Z (K.block 1 (Z (K.dops [(0,1,J 136 9 2),(1,0,M 137 10),(2,0,M 138 30),(3,1,kX 139 137 138 3),(4,1,J 140 139 3),(5,1,J 141 28 3),(6,0,kd 142 46 3 1 [ki,ki,kl] [(0,3,(kt 141))]),(7,1,kC 143 29 [(kt 136),(kt 140),(kt 142),(kc 2000)]),(8,0,M 135 143),(9,0,kE 144 135 0),(10,0,kE 145 135 1),(11,0,kE 146 135 2),(12,0,kZ 31 [ki,ki,kl]),(13,0,S 31 144 3),(14,0,M 32 145),(15,0,M 33 146)]) (Z (G [M 147 33,kQi 148 147 0 true] (Y 148 (G [kMb 8 false] kr) ks)) (G [J 149 31 3,S 28 149 3] (K.ops [M 150 29,M 151 32,kB 152 150 151 .add,M 29 152]))))) (K.ops [M 133 30,kBi 134 133 1 .add,M 30 134])))))) (G [J 153 18 3,J 154 25 3,kC 155 18 [(kt 153),(kt 154)],kQi 156 155 0 false,M 157 156,T 157 true (J 158 18 3),T 157 true (J 159 28 3),T 157 true (kC 160 18 [(kt 158),(kt 159)]),T 157 true (kQi 161 160 0 false),kPf 162 157 161,M 34 162] (G [M 163 34,M 164 163,T 164 true (M 165 19),T 164 true (M 166 23),T 164 true (M 167 26),T 164 true (kB 168 166 167 .add),T 164 true (kQ 169 165 168 false),kPf 170 164 169,M 171 170,T 171 true (M 172 19),T 171 true (M 173 29),T 171 true (kQ 174 172 173 false),kPf 175 171 174,M 176 175,T 176 true (J 177 9 2),T 176 true (J 178 15 5),T 176 true (J 179 18 3),T 176 true (kC 180 30 [(kt 177),(kt 178),(kt 179)]),kPf 181 176 180,M 182 181,T 182 true (kC 183 19 []),kPf 184 182 183,M 8 184] kr)))
def qHe:K:=G [kMb 8 false] (G [M 35 0,kC 36 28 [(kt 35)],kZ 9 [kl,kl],S 9 36 2] (G [J 37 9 2,M 38 1,kC 39 11 [(kt 37),(kt 38),(kc 5)],M 10 39] (Z (G [M 40 10,kN 41 40,kQi 42 41 0 false] (Y 42 (G [kC 43 19 [],M 8 43] kr) ks)) (Z (K.wk (K.dops [(0,1,J 45 9 2),(1,0,M 46 10),(2,1,kXi 47 46 3 0),(3,1,J 48 47 3),(4,1,kC 49 13 [(kt 45),(kt 48)]),(5,0,M 44 49),(6,0,kE 50 44 0),(7,0,kE 51 44 1),(8,0,kE 52 44 2),(9,301,⟨none,.alr (some 11) 1 kz2⟩),(10,302,⟨none,.alr (some 12) 2 kz2⟩),(11,0,S 11 50 5),(12,0,S 12 51 5),(13,0,M 13 52)])) (Z (K.wk (K.dops [(0,1,J 54 9 2),(1,0,M 55 10),(2,0,M 56 10),(3,1,kN 57 56),(4,0,kBi 58 57 1 .sub),(5,1,kX 59 55 58 3),(6,1,J 60 59 3),(7,1,kC 61 13 [(kt 54),(kt 60)]),(8,0,M 53 61),(9,0,kE 62 53 0),(10,0,kE 63 53 1),(11,0,kE 64 53 2),(12,303,⟨none,.alr (some 14) 3 kz2⟩),(13,304,⟨none,.alr (some 15) 4 kz2⟩),(14,0,S 14 62 5),(15,0,S 15 63 5),(16,0,M 16 64)])) (G [J 65 9 2,J 66 11 5,M 67 2,kC 68 14 [(kt 65),(kt 66),(kt 67)],kZ 17 [ki,ki,kl],S 17 68 3] (G [J 70 9 2,M 71 10,J 72 17 3,kC 73 16 [(kt 70),(kt 71),(kt 72),(kc 2000)],M 69 73,kE 74 69 0,kE 75 69 1,kE 76 69 2,kZ 18 [ki,ki,kl],S 18 74 3,M 19 75,M 20 76] (G [M 77 3,M 78 10,kN 79 78,kBi 80 79 1 .add,kC 81 12 [(kt 77),(kt 80)],M 21 81] (Z (K.dops [(0,1,J 83 9 2),(1,0,M 84 10),(2,0,M 85 21),(3,0,⟨none,.slc (some 86) (kt 84) 3 none (some (kt 85)) none⟩),(4,1,J 87 17 3),(5,1,kC 88 16 [(kt 83),(kt 86),(kt 87),(kc 2000)]),(6,0,M 82 88),(7,0,kE 89 82 0),(8,0,kE 90 82 1),(9,0,kE 91 82 2),(10,0,kZ 22 [ki,ki,kl]),(11,0,
 S 22 89 3),(12,0,M 23 90),(13,0,M 24 91)]) (Z (K.dops [(0,1,J 93 9 2),(1,0,M 94 10),(2,0,M 95 21),(3,0,⟨none,.slc (some 96) (kt 94) 3 (some (kt 95)) none none⟩),(4,1,J 97 22 3),(5,0,M 98 23),(6,0,⟨none,.bin (some 99) .sub (kc 2000) (kt 98)⟩),(7,1,kC 100 16 [(kt 93),(kt 96),(kt 97),(kt 99)]),(8,0,M 92 100),(9,0,kE 101 92 0),(10,0,kE 102 92 1),(11,0,kE 103 92 2),(12,0,kZ 25 [ki,ki,kl]),(13,0,S 25 101 3),(14,0,M 26 102),(15,0,M 27 103)]) (Z (G [M 104 20,kQi 105 104 0 true,M 106 105,T 106 false (M 107 24),T 106 false (kQi 108 107 0 true),kPt 109 106 108,M 110 109,T 110 false (M 111 27),T 110 false (kQi 112 111 0 true),kPt 113 110 112] (Y 113 (G [M 114 20,kQi 115 114 18 false,M 116 115,T 116 true (M 117 24),T 116 true (kQi 118 117 0 true),T 116 true (M 119 118),T 119 false (M 120 27),T 119 false (M 121 20),T 119 false (kQ 122 120 121 false),T 116 true (kPt 123 119 122),kPf 124 116 123,M 125 124,T 125 true (kC 126 19 []),kPf 127 125 126,M 8 127] kr) ks)) (G [J 128 17 3,kZ 28 [ki,ki,kl],S 28 128 3] (G [kMi 29 0] (K.wk zVB))))))))))))))
def qQq:Nat→Option (List (Nat×Nat)):=fun r=>match r with | 5=>some [(0,1),(1,0),(2,1),(3,1),(4,1),(5,0),(6,0),(7,0),(8,0),(9,301),(10,302),(11,0),(12,0),(13,0)] | 6=>some [(0,1),(1,0),(2,0),(3,1),(4,0),(5,1),(6,1),(7,1),(8,0),(9,0),(10,0),(11,0),(12,303),(13,304),(14,0),(15,0),(16,0)] | _=>none
theorem qOq:qG prog Tryz.f6.ntmps qQq (Tryz.f6.body.getD .skip)=some qHe.erase:=by kernel_rfl
@[simp] theorem qOU:zB prog 6=true:=by kernel_rfl
section
variable {l:List Int}(hl:∀x∈l,w64 x=x)
include hl
theorem qD4 {x:Id}{t:Typ×Typ}(hx:jT (zZ l) x=some t){k:List Int}(hk:∀x∈k,w64 x=x) :
 zAj (zZ l) t.1 (zJA (zZ l) t.1 k)=true∧Ret prog 14 [.agg (zK (zZ l)),.agg (zM t.1),.sl k.length (zA3 k)] [] (.agg (zC (zJA (zZ l) t.1 k))) []:=by
 obtain⟨d,a,b,s,hd,_,hg,rfl⟩:=zOv hl hx;have hf:=zGE hl;have ht:=(hf.slots d (zAk hd).1).2.2.2.2 s (by rw[hg.slots]; simp);rw[hg.typ]at ht;have h8:=hf.len8;refine⟨?_,zYp (zZ l) (by omega) k hk _ (qAk hf ht (by omega) 10 (by omega)) (qAl hf ht (by omega) 5 (by omega))⟩;simp only[zJA];split
 ·exact zV6 hf ht (by omega) 5 (by omega)
 ·exact zUY hf hk ht (by omega) 10 (by omega) 0 1
end
def zP5 (p:Prg)(te:Typ)(x z w:Val):St:=[.box (zK p),.box (zM te),.box (zC x),.box (zC z),.box (zC w)]
theorem qDe {p:Prg}{hs:List Hd}(hf:Fit p hs)(te:Typ)(q:List Id)(hq:q.length≤100)(v:Val)(hv:zX v≤256∧yJ v≤24)(h0:(zH p q v 2000).2.2=0)(hfit:zAj p te (zH p q v 2000).1=true)
 (o r:Int)(hor:(zH p q v 2000).2.1=o+r) :
 wpK prog 0 zVB (fin [RS.slot 8] (zGS 0 (bl true) [])) (qN [(9,.ptr 0 0),(10,.sl q.length (zO q)),(15,.ptr 1 0),(18,.ptr 2 0),(19,int (zH p q v 2000).2.1),(23,int o),(25,.ptr 3 0),(26,int r),(28,.ptr 4 0),(29,int 0)])
  (zP5 p te (zH p q v 2000).1 (zH p q v 2000).1 v):=by
 have hP:=eP p;have hlv:=zL6;have hsm:=fun i=>zDy hf (q.take i) v 2000 hv
 have hstep:=fun i (hi:i<q.length)=>zPM hf hv h0 hi
 obtain⟨W,hW⟩:∃W:Nat→Val×Int×Int,W=fun i=>zH p (q.take i) v 2000:=⟨_,rfl⟩
 have hWl:zH p q v 2000=W q.length:=by rw[hW]; simp
 have hW0:W 0=(v,0,0):=by rw[hW]; simp[zH]
 have hsm:∀i,(zX (W i).1≤256∧yJ (W i).1≤24)∧0≤(W i).2.1∧(W i).2.1≤2000:=fun i=>by have:=hsm i;rw[hW];exact⟨this.1,this.2.1,by simp only; omega⟩
 have hstep:∀i (hi:i<q.length),(qI p q[i] [(W i).1] 2000).2.2=0∧(W (i+1)).1=(qI p q[i] [(W i).1] 2000).1∧(W (i+1)).2.1=(W i).2.1+(qI p q[i] [(W i).1] 2000).2.1:=fun i hi=>by have:=hstep i hi;rw[hW];exact⟨this.2.1,by show (zH p (q.take (i+1)) v 2000).1=_; rw[this.2.2],by show (zH p (q.take (i+1)) v 2000).2.1=_; rw[this.2.2]⟩
 rw[hWl]at h0 hfit hor ⊢;clear hW hWl;have hT:zM te=[int te.k,int te.id.a,int te.id.b,int te.id.c,.sl te.kids.length (yA te.kids)]:=by simp[zM]
 have hcm:=zCW (W q.length).1 (W q.length).1;rw[zD8]at hcm;have hval:=zJ9 p te (W q.length).1 (hsm _).1.1 (hsm _).1.2;rw[hfit]at hval;unfold zVB;simp -implicitDefEqProofs [zP5,hP,hT,zC];refine jQ (S:=Nat) (fun i=>[(9,.ptr 0 0),(10,.sl q.length (zO q)),(15,.ptr 1 0),(18,.ptr 2 0),(19,int (W q.length).2.1),(23,int o),(25,.ptr 3 0),(26,int r),(28,.ptr 4 0),(29,int (W i).2.1),(30,int i)])
  (fun i=>zP5 p te (W q.length).1 (W q.length).1 (W i).1) (fun i=>i≤q.length) (fun i=>q.length-i) 0 (by omega)
  (zT [0,1,2,3,4] 0 (by decide) (by simp) (by simp[zP5,hP,hT,zC,hW0]) (by simp[hW0])) ?_
 intro i hi;by_cases h:i<q.length
 ·have hw:=zA9 i (by omega);obtain⟨s1,s2,s3⟩:=hstep i h;have hs1:=hsm (i+1);have hw2:IntKind.i64.wrap ((W i).2.1+(qI p q[i] [(W i).1] 2000).2.1)=(W (i+1)).2.1:=by rw[s3]; exact IntWalk.i64_in _ (by omega)
  have hcall:=zLk hf q[i] [(W i).1] (gas:=2000) (fuel:=2000) rfl (by omega) (by simpa using (hsm i).1);have hcu:=zTb hf q[i] [(W i).1] 2000;rw[show max (2000:Int) 0=2000 from rfl]at hcu;rw[hcu]at hcall;unfold zCF at hcall;rw[s1,←s2]at hcall;generalize (qI p q[i] [(W i).1] 2000).2.1=st at *
  have hne:¬q=[]:=fun e=>by rw[e]at h; simp at h
  have hcd:=jZ h;generalize q[i]=x at hcd hcall;simp -implicitDefEqProofs [zP5,hP,hT,zC,h,hne,hcd];intro _;refine yX hcall (by simp[hP,zF,zC,zDa]) (by simp[zC]) ?_;simp -implicitDefEqProofs [zC];exact zR (i+1) h (by omega) (zT [0,1,2,3,4] 0 (by decide) (by simp) (by simp[zP5,hP,hT,zC]) (by simp[hw,hw2]))
 ·have hie:i=q.length:=by omega
  subst hie;have hs1:=hsm q.length;have hor':IntKind.i64.wrap (o+r)=(W q.length).2.1:=by rw[hor]; exact IntWalk.i64_in _ (by omega)
  simp -implicitDefEqProofs [zP5,hP,hT,zC]
  intros
  refine qA hcm (by simp[zC]) (by simp) ?_;simp -implicitDefEqProofs;refine qA hcm (by simp[zC]) (by simp) ?_;simp -implicitDefEqProofs [hor'];refine qA hval (by simp[hP,hT,zC]) (by simp) ?_;simp -implicitDefEqProofs;refine qA hlv (by simp) (by simp) ?_;simp -implicitDefEqProofs;exact zA 0 (by simp)
theorem qQy (l m k:List Int)(at_:Int)(hl:∀x∈l,w64 x=x)(hm:∀x∈m,w64 x=x)(hk:∀x∈k,w64 x=x)(hat:w64 at_=at_) :
 Ret prog 6 [.sl l.length (zA3 l),.sl m.length (zA3 m),.sl k.length (zA3 k),int at_] [] (bl true) []:=by
 have hf:=zGE hl;have h8:=hf.len8;have hlv:=zL6;have rP:=zXl hl;have rPth:=qEf (zZ l) h8 m hm 5 (by omega) (by omega);obtain⟨q,hqe⟩:∃q,q=zQC (zZ l) m 5:=⟨_,rfl⟩;have hql:q.length≤10:=by
  have hr:=zAz (i:=1) hm (show (0:Int)<5 by omega);have:=(zGM (zZ l) m (atV m 1 5).toNat).1;rw[hqe]; unfold zQC;split
  ·simp
  ·omega
 have hgo:q≠[]→∃a,zEk (zZ l) a q:=fun hne=>by
  rw[hqe]at hne ⊢;unfold zQC at hne ⊢;split at hne
  ·exact(hne rfl).elim
  ·rename_i hc;rw[if_neg hc];exact zQD hl m hc _
 rw[←hqe]at rPth;clear hqe;have hP:zK (zZ l)=[.sl (zZ l).mods.length (jG (zZ l).mods),.sl (zZ l).defs.length (qK (zZ l).defs)]:=rfl;refine qP Tryz.func6 rfl qOq (rs:=[.slot 8]) (by kernel_rfl) ?_;unfold qHe;by_cases hq0:q=[]
 ·subst hq0;simp -implicitDefEqProofs;refine qA rP (by simp) (by simp[hP]) ?_;simp -implicitDefEqProofs [hP];refine qA rPth (by simp[hP]) (by simp) ?_;simp -implicitDefEqProofs;refine qA hlv (by simp) (by simp) ?_;simp -implicitDefEqProofs;exact zA 0 (by simp)
 ·obtain⟨a,ha⟩:=hgo hq0;have hpos:0<q.length:=List.length_pos_iff.2 hq0;have hlast:q.length-1<q.length:=by omega
  have l0:∃t,jT (zZ l) q[0]=some (jS a,t):=by
   cases q with
   | nil=>exact(hq0 rfl).elim
   | cons x q'=>exact⟨_,ha.1⟩
  obtain⟨t1,l0⟩:=l0;obtain⟨t2,l1⟩:=zJl ha hq0;have hgl:q.getLastD .zero=q[q.length-1]:=by rw[List.getLastD_eq_getLast?,List.getLast?_eq_getElem?,jA2 hlast]; rfl
  rw[hgl]at l1;have r0:=zGl (zZ l) (by omega) q[0];have r1:=zGl (zZ l) (by omega) q[q.length-1];rw[l0]at r0;rw[l1]at r1;obtain⟨vfit,rv⟩:=qD4 hl l0 hk;have vsm:=zKa hl l0 vfit;simp only at vfit rv vsm;generalize zJA (zZ l) (jS a) k=v at *
  obtain⟨c0,c1⟩:=zHS (k:=(q.length:Int)+1) hat (by omega);have rc:=zME at_ ((q.length:Int)+1) (by omega)
  obtain⟨cut,hcut⟩:∃c:Nat,zDr at_ ((q.length:Int)+1)=c:=⟨(zDr at_ ((q.length:Int)+1)).toNat,by omega⟩
  rw[hcut]at rc c1;obtain⟨e1,e2,hcase⟩:=qJ2 hl ha vfit cut 2000;have rx:=zHQ hf q (by omega) v (by omega) 2000 (by omega) (by omega);have ry:=zHQ hf (q.take cut) (by simp; omega) v (by omega) 2000 (by omega) (by omega);rw[e1]at rx;rw[e2]at ry;rw[show (q.take cut).length=cut by rw[jAs]; omega]at ry;have ysm:=zDy hf (q.take cut) v 2000 (by omega);have rz:=zHQ hf (q.drop cut) (by simp; omega) (zH (zZ l) (q.take cut) v 2000).1 ysm.1 (2000-(zH (zZ l) (q.take cut) v 2000).2.1) (by omega) (by omega);have hLp:=fun h0 hfit=>qDe hf (jS (zJe (zZ l) a q)) q (by omega) v (by omega) h0 hfit (zH (zZ l) (q.take cut) v 2000).2.1
  have hw1:IntKind.i64.wrap ((q.length:Int)-1)=((q.length-1:Nat):Int):=by rw[show ((q.length-1:Nat):Int)=(q.length:Int)-1 by omega];exact IntWalk.i64_in _ (by omega)
  have hw2:=jP ((q.length:Int)+1) (by omega);have hw3:IntKind.i64.wrap (2000-(zH (zZ l) (q.take cut) v 2000).2.1)=2000-(zH (zZ l) (q.take cut) v 2000).2.1:=IntWalk.i64_in _ (by omega);generalize zJe (zZ l) a q=z at *
  generalize zCk (zZ l) (q.drop cut) (zH (zZ l) (q.take cut) v 2000).1 (2000-(zH (zZ l) (q.take cut) v 2000).2.1)=Z at *
  generalize zH (zZ l) (q.take cut) v 2000=Y at *
  have hd0:List.take 3 (zO q)=[int q[0].a,int q[0].b,int q[0].c]:=by have:=jZ hpos;rw[show (zO q).drop (0*3)=zO q from rfl]at this;rw[this]; rfl
  have h1l:3≤q.length*3:=by omega
  have hd1:=jZ hlast;generalize q[0]=x0 at *
  generalize q[q.length-1]=x1 at *
  have hT:∀i:Id,zM (jS i)=[int 3,int i.a,int i.b,int i.c,.sl 0 []]:=fun i=>by simp[zM,Typ.k,Typ.id,Typ.kids]
  have hlen0:¬(q.length:Int)=0:=by omega
  have ht1:=zJK q cut;have ht2:=zDu q cut;have ht3:List.take ((q.length-cut)*3) (zO (q.drop cut))=zO (q.drop cut):=jAj (by simp);generalize zH (zZ l) q v 2000=X at *
  generalize zZ l=p at *
  simp -implicitDefEqProofs;refine qA rP (by simp) (by simp[hP]) ?_;simp -implicitDefEqProofs [hP];refine qA rPth (by simp[hP]) (by simp) ?_;simp -implicitDefEqProofs [hlen0,hq0];intro _;refine⟨_,_,yM 2,?_⟩;simp -implicitDefEqProofs [List.replicate,hpos,h1l,hq0,hd0];refine yX r0 (by simp[hP,zF]) (by simp[zBX,zM]) ?_;simp -implicitDefEqProofs [zBX,zM]
  intros
  refine⟨_,_,yM 2,?_⟩;simp -implicitDefEqProofs [List.replicate,hlast,hq0,hw1,hd1];refine yX r1 (by simp[hP,zF]) (by simp[zBX,zM]) ?_;simp -implicitDefEqProofs [zBX,zM];refine qA rv (by simp[hP,zM]) (by simp[zC]) ?_;simp -implicitDefEqProofs [zC];refine qA rx (by simp[hP,zC]) (by simp[zCF,zC]) ?_;simp -implicitDefEqProofs [zCF,zC,hw2]
  intros
  refine qA rc (by simp) (by simp) ?_;simp -implicitDefEqProofs
  intros
  refine⟨by omega,?_⟩;refine yX ry (by simp[hP,zC,ht1]) (by simp[zCF,zC]) ?_;simp -implicitDefEqProofs [zCF,zC,hw3]
  intros
  refine⟨by omega,?_⟩;refine yX rz (by simp[hP,zC,ht2,ht3]) (by simp[zCF,zC]) ?_;rcases hcase with ⟨x1,y1,z1,x2,x3,x4⟩ | ⟨x1,yz⟩
  ·simp -implicitDefEqProofs [zCF,zC,x1,y1,z1];refine⟨_,_,zT [0,4,6,8,9] 0 (by simp) (by decide) ?_ ?_,hLp x1 x4 _ x3⟩
   ·simp[zP5,hP,zM,zC,x2]
   ·simp
  ·have x1:X.2.2=18:=x1;rcases yz with y1 | ⟨y1,z1⟩
   ·simp -implicitDefEqProofs [zCF,zC,x1,y1];refine qA hlv (by simp) (by simp) ?_;simp -implicitDefEqProofs;exact zA 0 (by simp)
   ·have z1:Z.2.2=18:=z1;simp -implicitDefEqProofs [zCF,zC,x1,y1,z1];refine qA hlv (by simp) (by simp) ?_;simp -implicitDefEqProofs;exact zA 0 (by simp)
end Go.Proofs.YtdnelmeboihpkaaGreatDoor
