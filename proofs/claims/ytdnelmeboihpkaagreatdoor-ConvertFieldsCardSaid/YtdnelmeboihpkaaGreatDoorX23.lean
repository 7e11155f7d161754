/-
  The examples of the law on converters hold.
  The second generator's programs have few paths.
  The converters of the second generator's programs; what the paths are.
  The values of a domain have its type; records of the second generator have few values.
  Calls of the second generator's converters: they end, or the fuel does; a path is followed in two parts.
  Fields that are not read do not matter.
  The law on composition.
  The law on fields: what a field does not depend on does not matter.
  The law on fields.
  The law on fields, walked.
  The law on fields: all converters.
-/
import Derived.Test.YtdnelmeboihpkaaGreatDoorX22
import Derived.Test.YtdnelmeboihpkaaGreatDoorX21
import Derived.Test.YtdnelmeboihpkaaGreatDoorX20
import Derived.Test.YtdnelmeboihpkaaGreatDoorX16
import Derived.Test.YtdnelmeboihpkaaGreatDoorX15
import Derived.Test.YtdnelmeboihpkaaGreatDoorX19
import Derived.Test.YtdnelmeboihpkaaGreatDoorX17
import Derived.Test.YtdnelmeboihpkaaGreatDoorX18
set_option linter.unusedVariables false
set_option maxHeartbeats 8000000
set_option maxRecDepth 100000
set_option linter.unusedSimpArgs false
open Go.Proofs.Tryz (prog)
namespace Go.Proofs.YtdnelmeboihpkaaGreatDoor
open Go.Abs
def qAx:K:=G [kMb 4 false] (Z (G [M 6 0,kN 7 6,M 8 1,kN 9 8,kQ 10 7 9 true] (Y 10 (G [kMb 4 false] kr) ks)) (Z (G [kMi 5 0] (K.block 0 (K.loop (Z (G [M 11 5,M 12 0,kN 13 12,kB 14 11 13 .lss] (Y 14 ks (K.exit 0))) (Z (K.block 1 (Z (K.dops [(0,0,M 17 0),(1,0,M 18 5),(2,0,kX 19 17 18 1),(3,0,L 20 19 1),(4,0,M 21 1),(5,0,M 22 5),(6,0,kX 23 21 22 1),(7,0,L 24 23 1),(8,0,kQ 25 20 24 true)]) (Y 25 (G [kMb 4 false] kr) ks))) (K.ops [M 15 5,kBi 16 15 1 .add,M 5 16])))))) (G [kMb 4 true] kr)))
theorem qIk:zQ prog Tryz.f23.ntmps (Tryz.f23.body.getD .skip)=some qAx.erase:=by kernel_rfl
@[simp] theorem qLZ:zB prog 23=true:=by kernel_rfl
theorem zZD (a b:List Int)(ha:a.length≤1000):Ret prog 23 [.sl a.length (zAl a),.sl b.length (zAl b)] [] (bl (decide (a=b))) []:=by
 refine zH Tryz.func23 rfl qIk (rs:=[.slot 4]) (by kernel_rfl) ?_;unfold qAx;by_cases hab:a.length=b.length
 ·have hab':(a.length:Int)=b.length:=by omega
  simp -implicitDefEqProofs [hab];intro hlb;refine jR (S:=Nat) (fun i=>[(0,.sl a.length (zAl a)),(1,.sl b.length (zAl b)),(5,int i)]) (fun s=>[]) (fun i=>i≤a.length∧a.take i=b.take i) (fun i=>a.length-i) 0 (by simp)
   (zP [] 0 (by simp) (by simp) (by simp) (by simp[hab])) ?_
  rintro i ⟨hi,hn⟩;by_cases h:i<a.length
  ·have hb:i<b.length:=by omega
   have hpa:=zE9 h;have hpb:=zE9 hb;have hane:¬a=[]:=fun e=>by rw[e]at h; simp at h
   have hbne:¬b=[]:=fun e=>by rw[e]at hb; simp at hb
   have hw:=qC h (show a.length≤maxLen by simp[maxLen]; omega);by_cases hx:a[i]=b[i]
   ·simp -implicitDefEqProofs [h,hb,hpa,hpb,hane,hbne,hx];intro _;refine zO (i+1) ⟨h,?_⟩ (by omega) (zP [] 0 (by simp) (by simp) (by simp) (by simp[hw]));rw[jA9 h,jA9 hb,hn,hx]
   ·have hne:a≠b:=fun e=>hx (by subst e; rfl)
    simp -implicitDefEqProofs [h,hb,hpa,hpb,hane,hbne,hx];exact fun _=>zA 0 (by simp[hne])
  ·have:i=a.length:=by omega
   subst this;simp -implicitDefEqProofs;have:a=b:=by rw[jB0,hab,jB0]at hn; exact hn
   exact fun _=>zA 0 (by simp[this])
 ·have hne:a≠b:=fun e=>hab (by rw[e])
  have hab':¬(a.length:Int)=b.length:=by omega
  simp -implicitDefEqProofs [hab'];exact fun _ _=>zA 0 (by simp[hne])
def zN7:K:=(Z (G [M 53 4,kQi 54 53 0 true,M 55 54,T 55 false (M 56 6),T 55 false (kQi 57 56 0 true),kPt 58 55 57,M 59 58,T 59 false (M 60 9),T 59 false (kQi 61 60 0 true),kPt 62 59 61,M 63 62,T 63 false (M 64 12),T 63 false (kQi 65 64 19 true),kPt 66 63 65,M 67 66,T 67 false (M 68 5),T 67 false (kN 69 68),T 67 false (kBi 70 69 0 .gtr),kPt 71 67 70,M 72 71,T 72 false (M 73 8),T 72 false (kQi 74 73 10 true),kPt 75 72 74] (Y 75 (G [kMb 0 false] kr) ks)) (Z (K.dops [(0,0,J 76 7 3),(1,0,kC 77 51 [(kc 5)]),(2,0,kC 78 18 [(kt 76),(kt 77)]),(3,0,kQi 79 78 0 false),(4,0,M 80 79),(5,0,T 80 true (J 81 10 3)),(6,0,T 80 true (kC 82 51 [(kc (-1))])),(7,0,T 80 true (kC 83 18 [(kt 81),(kt 82)])),(8,0,T 80 true (kQi 84 83 0 false)),(9,0,kPf 85 80 84),(10,0,M 13 85)]) (Z (K.dops [(0,0,M 86 13),(1,0,M 87 86),(2,0,T 87 true (M 88 3)),(3,0,T 87 true (M 89 2)),(4,0,T 87 true (kC 90 22 [(kt 88),(kt 89)])),(5,0,kPf 91 87 90),(6,0,M 92 91),(7,0,T 92 true (M 93 11)),(8,0,T 92 true (M 94 2)),(9,0,T 92 true (kC 95 22 [(kt 93),(kt 94)])),(10,0,kPf 96 92 95),(11,0,M 97 96),(12,0,T 97 true (J 98 1 2)),(13,0,T 97 true (kC 99 50 [(kc 2)])),(14,0,T 97 true (kC 100 24 [(kt 98),(kt 99),(kc 0)])),(15,0,⟨some (97,true),.bslice (some 101) 3 1 2 [ki,ki] [(0,1,(kc 0)),(1,1,(kc 1))]⟩),(16,0,T 97 true (kC 102 23 [(kt 100),(kt 101)])),(17,0,kPf 103 97 102),(18,0,M 104 103),(19,0,T 104 true (J 105 1 2)),(20,0,T 104 true (kC 106 50 [(kc 1)])),(21,0,T 104 true (kC 107 24 [(kt 105),(kt 106),(kc 1)])),(22,0,
 T 104 true (kN 108 107)),(23,0,T 104 true (kQi 109 108 0 false)),(24,0,kPf 110 104 109),(25,0,M 0 110)]) kr)))
def zVv:K:=G [kMb 0 false] (G [kC 14 49 [],kZ 1 [kl,kl],S 1 14 2] (G [kC 15 50 [(kc 1)],kC 16 50 [(kc 2)],kd 17 31 3 2 [ki,ki,ki,ki,ki,ki] [(0,3,(kt 15)),(3,3,(kt 16))],kC 18 50 [(kc 3)],kd 19 31 3 1 [ki,ki,ki] [(0,3,(kt 18))],kd 20 28 1 2 [kl,kl] [(0,1,(kt 17)),(1,1,(kt 19))],M 2 20] (Z (K.dops [(0,0,J 22 1 2),(1,0,kC 23 50 [(kc 10)]),(2,0,kC 24 50 [(kc 12)]),(3,0,kC 25 20 [(kt 22),(kt 23),(kt 24)]),(4,0,M 21 25),(5,0,kE 26 21 0),(6,0,kE 27 21 1),(7,0,M 3 26),(8,0,M 4 27)]) (Z (K.dops [(0,0,J 29 1 2),(1,0,kC 30 50 [(kc 12)]),(2,0,kC 31 50 [(kc 10)]),(3,0,kC 32 20 [(kt 29),(kt 30),(kt 31)]),(4,0,M 28 32),(5,0,kE 33 28 0),(6,0,kE 34 28 1),(7,0,M 5 33),(8,0,M 6 34)]) (Z (K.dops [(0,1,J 36 1 2),(1,0,M 37 2),(2,1,kXi 38 37 1 0),(3,1,L 39 38 1),(4,1,kC 40 51 [(kc 5)]),(5,1,kC 41 16 [(kt 36),(kt 39),(kt 40),(kc 100)]),(6,0,M 35 41),(7,0,kE 42 35 0),(8,0,kE 43 35 1),(9,0,kE 44 35 2),(10,0,kZ 7 [ki,ki,kl]),(11,0,S 7 42 3),(12,0,M 8 43),(13,0,M 9 44)]) (Z (K.dops [(0,1,J 46 1 2),(1,1,kC 47 50 [(kc 10)]),(2,1,kC 48 50 [(kc 12)]),(3,1,kC 49 26 [(kt 46),(kt 47),(kt 48),(kc 1),(kc 100)]),(4,0,M 45 49),(5,0,kE 50 45 0),(6,0,kE 51 45 1),(7,0,kE 52 45 2),(8,0,kZ 10 [ki,ki,kl]),(9,0,S 10 50 3),(10,0,M 11 51),(11,0,M 12 52)]) (K.wk zN7)))))))
theorem qCq:zQ prog Tryz.f19.ntmps (Tryz.f19.body.getD .skip)=some zVv.erase:=by kernel_rfl
@[simp] theorem qI5:zB prog 19=true:=by kernel_rfl
theorem qCZ:Sml zAt:=by unfold Sml; decide
theorem qDx:Ret prog 20 [.agg (zK zAt),.agg (zG (iD 10)),.agg (zG (iD 12))] [] (.tup [.sl 2 (jU zC4),int 0]) []:=by have:=zKv zHW (iD 10) (iD 12) (by rw[zGc]; decide);unfold zDL at this;rw[zGc,if_pos (by decide)]at this;exact this
theorem qDy:Ret prog 20 [.agg (zK zAt),.agg (zG (iD 12)),.agg (zG (iD 10))] [] (.tup [.sl 0 [],int 0]) []:=by have:=zKv zHW (iD 12) (iD 10) (by rw[zSO]; decide);unfold zDL at this;rw[zSO,if_pos (by decide)]at this;exact this
theorem qDu:Ret prog 16 [.agg (zK zAt),.sl 2 (zS [iD 1,iD 2]),.agg (zC (zFH 5)),int 100] [] (.tup [.agg (zC (zFH 5)),int 10,int 0]) []:=by have:=zV4 zHW [iD 1,iD 2] (by decide) (zFH 5) (by decide) 100 (by omega) (by omega);rw[zW3]at this;exact this
theorem qDt:Ret prog 26 [.agg (zK zAt),.agg (zG (iD 10)),.agg (zG (iD 12)),int 1,int 100] [] (.tup [.agg (zC (zFH (-1))),.sl 2 (jU zC4),int 19]) []:=by have:=zV3 zHW qCZ (iD 10) (iD 12) (by rw[zGc]; decide) (by rw[zGc]; decide) 1 100 (by omega) (by omega) (zO6 _ _ _);rw[zW2]at this;exact this
theorem qDw:Ret prog 24 [.agg (zK zAt),.agg (zG (iD 2)),int 0] [] (.sl 2 (zAl [0,1])) []:=by have:=zIM zAt (by decide) (iD 2) 0;rw[zYT]at this;exact this
theorem qDv:Ret prog 24 [.agg (zK zAt),.agg (zG (iD 1)),int 1] [] (.sl 0 []) []:=by have:=zIM zAt (by decide) (iD 1) 1;rw[zYS]at this;exact this
theorem qJL:wpK prog 0 zN7 (fin [RS.slot 0] (zHe 0 (bl true) [])) (qG [(1,.ptr 0 0),(2,.sl 2 (jU zC4)),(3,.sl 2 (jU zC4)),(4,int 0),(5,.sl 0 []),(6,int 0),(7,.ptr 1 0),(8,int 10),(9,int 0),(10,.ptr 2 0),(11,.sl 2 (jU zC4)),(12,int 19)]) [.box (zK zAt),.box (zC (zFH 5)),.box (zC (zFH (-1)))]:=by
 have hP:zK zAt=[.sl zAt.mods.length (jE zAt.mods),.sl zAt.defs.length (qI zAt.defs)]:=rfl;have f2:=qDw;have f1:=qDv;generalize zAt=P at *
 have c1:=zCV (zFH 5) (zFH 5);have c2:=zCV (zFH (-1)) (zFH (-1));rw[zD3]at c1 c2;have s1:Ret prog 22 [.sl 2 (jU zC4),.sl 2 (jU zC4)] [] (bl true) []:=by have:=zZE zC4 zC4 (by decide);rw[show decide (zC4=zC4)=true from decide_eq_true rfl]at this;exact this
 have s2:Ret prog 23 [.sl 2 (zAl [0,1]),.sl 2 (zAl [0,1])] [] (bl true) []:=by have:=zZD [0,1] [0,1] (by decide);rw[show decide ([0,1]=([0,1]:List Int))=true from decide_eq_true rfl]at this;exact this
 unfold zN7;simp -implicitDefEqProofs [hP,zC];refine qU (zL1 5) (by simp) (by simp[zC]) ?_
 try simp -implicitDefEqProofs [zC]
 refine qU c1 (by simp[zC]) (by simp) ?_
 try simp -implicitDefEqProofs [zC]
 refine qU (zL1 (-1)) (by simp) (by simp[zC]) ?_
 try simp -implicitDefEqProofs [zC]
 refine qU c2 (by simp[zC]) (by simp) ?_
 try simp -implicitDefEqProofs [zC]
 refine qU s1 (by simp) (by simp) ?_
 try simp -implicitDefEqProofs
 refine qU s1 (by simp) (by simp) ?_
 try simp -implicitDefEqProofs
 refine qU (zC5 2) (by simp) (by simp[zG]) ?_
 try simp -implicitDefEqProofs [zG]
 refine qU f2 (by simp[hP,zG]) (by simp) ?_
 try simp -implicitDefEqProofs
 refine qU s2 (by simp[zAl]) (by simp) ?_
 try simp -implicitDefEqProofs
 refine qU (zC5 1) (by simp) (by simp[zG]) ?_
 try simp -implicitDefEqProofs [zG]
 refine qU f1 (by simp[hP,zG]) (by simp) ?_
 try simp -implicitDefEqProofs
 exact zA 0 (by simp)
theorem zRK:Ret prog 19 [] [] (bl true) []:=by
 have hP:zK zAt=[.sl zAt.mods.length (jE zAt.mods),.sl zAt.defs.length (qI zAt.defs)]:=rfl;have hx:=zYP;have p1:=qDx;have p2:=qDy;have pa:=qDu;have pg:=qDt;have hT:=qJL;generalize zAt=P at *
 refine qP Tryz.func19 rfl qCq (rs:=[.slot 0]) (by kernel_rfl) ?_;unfold zVv;simp -implicitDefEqProofs;refine qE hx (by simp) (by simp[hP]) ?_;simp -implicitDefEqProofs [hP];refine qE (zC5 1) (by simp) (by simp[zG]) ?_;simp -implicitDefEqProofs;refine qE (zC5 2) (by simp) (by simp[zG]) ?_;simp -implicitDefEqProofs [zG];refine qE (zC5 3) (by simp) (by simp[zG]) ?_;simp -implicitDefEqProofs [zG];refine qU (zC5 10) (by simp[hP,zG,zS]) (by simp[zG,zS]) ?_
 try simp -implicitDefEqProofs [zG,zC]
 refine qU (zC5 12) (by simp[hP,zG,zS]) (by simp[zG,zS]) ?_
 try simp -implicitDefEqProofs [zG,zC]
 refine qU (p1) (by simp[hP,zG,zS]) (by simp[zG,zS]) ?_
 try simp -implicitDefEqProofs [zG,zC]
 refine qU (zC5 12) (by simp[hP,zG,zS]) (by simp[zG,zS]) ?_
 try simp -implicitDefEqProofs [zG,zC]
 refine qU (zC5 10) (by simp[hP,zG,zS]) (by simp[zG,zS]) ?_
 try simp -implicitDefEqProofs [zG,zC]
 refine qU (p2) (by simp[hP,zG,zS]) (by simp[zG,zS]) ?_
 try simp -implicitDefEqProofs [zG,zC]
 refine zAn (zL1 5) (by simp[hP,zG,zS,zC]) (by simp[zG,zS,zC]) ?_
 try simp -implicitDefEqProofs [zG,zC]
 refine zAn (pa) (by simp[hP,zG,zS,zC]) (by simp[zG,zS,zC]) ?_
 try simp -implicitDefEqProofs [zG,zC]
 refine zAn (zC5 10) (by simp[hP,zG,zS]) (by simp[zG,zS]) ?_
 try simp -implicitDefEqProofs [zG,zC]
 refine zAn (zC5 12) (by simp[hP,zG,zS]) (by simp[zG,zS]) ?_
 try simp -implicitDefEqProofs [zG,zC]
 refine zAn (pg) (by simp[hP,zG,zS,zC]) (by simp[zG,zS,zC]) ?_
 try simp -implicitDefEqProofs [zG,zC]
 refine⟨_,_,zP [0,1,2] 0 (by simp) (by decide) ?_ ?_,hT⟩
 ·simp[hP,zC]
 ·simp[zC4,jU,zS]
structure GCv (p:Prg)(d a b:Dfn)(s:Slt):Prop where
 fa:Flat p a
 fb:Flat p b
 slots:d.slots=[s]
 typ:s.typ=jP a.id
 res:d.res=jP b.id
 body:WF p [⟨s.id,0,jP a.id⟩] d.body (jP b.id)
section
variable {l:List Int}(hl:∀x∈l,w64 x=x)
include hl
theorem zWE {d:Dfn}(hd:d∈(jQ l).defs)(hk:d.kind=5):∃a b s,GCv (jQ l) d a b s:=by
 change d∈zAg l at hd;obtain⟨k,hk',rfl⟩:=jAo hd;have hlen:=zCg l ⟨1,40⟩ (yB l);have hm:=zEe hl;rcases zD8 hl k hk' with ⟨_,m,e⟩ | ⟨hk2,hk7,m,e⟩
 ·rw[e]at hk;simp[zFC]at hk
 ·have hend:=zJK hl (yC l (yB l) ⟨1,40⟩).1.length (by omega) m;have hfl:=zFl hl;refine⟨(yC l (yB l) ⟨1,40⟩).1.getD (zBE l (yC l (yB l) ⟨1,40⟩).1.length m).1 .zero,(yC l (yB l) ⟨1,40⟩).1.getD (zBE l (yC l (yB l) ⟨1,40⟩).1.length m).2.1 .zero,
   ⟨idR ((30+(k-yB l):Nat):Int),⟨#[111,108,100]⟩,jP ((yC l (yB l) ⟨1,40⟩).1.getD (zBE l (yC l (yB l) ⟨1,40⟩).1.length m).1 .zero).id,0,0⟩,?_,?_,by rw[e]; rfl,rfl,by rw[e]; rfl,by rw[e]; exact zP2 hl hfl hend.1 hend.2 _ _⟩
  ·rw[zAP hend.1]; exact hfl _ (jA3 _)
  ·rw[zAP hend.2]; exact hfl _ (jA3 _)
theorem zNY {x:Id}{t:Typ×Typ}(h:yE (jQ l) x=some t):∃d a b s,qQ (jQ l).defs x=some d∧d.kind=5∧GCv (jQ l) d a b s∧t=(jP a.id,jP b.id):=by
 obtain⟨d,s,hd,hk,hs,rfl⟩:=zLm h;obtain⟨a,b,s',hg⟩:=zWE hl (zAd hd).1 hk;have e:s=s':=by have:=hg.slots; rw[hs]at this; simpa using this
 subst e;exact⟨d,a,b,s,hd,hk,hg,by rw[hg.typ,hg.res]⟩
end
inductive Chn (L:List Edg)(to:Id):Id→List Id→List Id→Prop
 | nil {a:Id} (met:List Id) (h:a=to):Chn L to a met []
 | cons {e:Edg} {a:Id} {met q:List Id} (ha:e.fro=a) (he:e∈L) (hn:e.to∉met) (h:Chn L to e.to (met++[e.to]) q):Chn L to a met (e.id::q)
section
variable {L:List Edg}{to:Id}
end
def toI (p:Prg)(x:Id):Id:=(zXa p x).2.id
section
variable {p:Prg}{L:List Edg}(hlead:∀e∈L,yE p e.id=some (jP e.fro,jP e.to))
include hlead
theorem zXT {e:Edg}(he:e∈L):toI p e.id=e.to:=by unfold toI zXa;rw[hlead e he]; rfl
theorem zYA {e e':Edg}(he:e∈L)(he':e'∈L)(h:e.id=e'.id):e=e':=by have h1:=hlead e he;have h2:=hlead e' he';rw[h,h2]at h1;obtain⟨a,b,c⟩:=e;obtain⟨a',b',c'⟩:=e';simp only[jA0,jBa,Typ.mk.injEq,Edg.mk.injEq,and_true,true_and]at h1 h ⊢;exact⟨h,h1.1.symm,h1.2.symm⟩
theorem Chn.app {y z at_:Id}{met q r:List Id}(h:Chn L y at_ met q):Chn L z at_ met (q++r)↔Chn L z y (met++q.map (toI p)) r:=by
 induction h with
 | nil met h=>subst h; simp
 | @cons e a met q ha he hn h ih =>
  subst ha;rw[jB5,jAc,zXT hlead he,show met++e.to::q.map (toI p)=met++[e.to]++q.map (toI p) by simp,←ih];constructor
  ·intro h';generalize hx:e.id::(q++r)=Q at h';cases h' with
   | nil=>cases hx
   | @cons e' _ _ q' ha' he' hn' h' =>
    simp only[jB6]at hx;obtain⟨h1,rfl⟩:=hx;have:=zYA hlead he he' h1;subst this;exact h'
  ·exact fun h'=>.cons rfl he hn h'
end
theorem zVb (p:Prg):validT p zAU=true:=by unfold validT; rw[jN]; simp[Typ.k,Typ.kids,Typ.id]
theorem zSq (p:Prg):validT p zAc=true:=by unfold validT; rw[jN]; simp[Typ.k,Typ.kids,Typ.id]
theorem Flat.valid {p:Prg}{d:Dfn}(h:Flat p d):validT p (jP d.id)=true:=by unfold validT; rw[jN]; simp[Typ.k,Typ.kids,Typ.id,h.find,h.kind,zDH]
theorem Flat.dfn {p:Prg}{d:Dfn}(h:Flat p d):dfn p d.id=d:=by unfold Go.Proofs.YtdnelmeboihpkaaGreatDoor.dfn; rw[h.find]; rfl
theorem Flat.stored {p:Prg}{d:Dfn}(h:Flat p d):zBr p d.id=true:=by unfold zBr; rw[h.find]; simp[h.kind]
section
variable {l:List Int}(hl:∀x∈l,w64 x=x)
include hl
end
theorem zZR {p:Prg}{t:Typ}{v:Val}(ht:zOC p t)(h:TyV p t v):yX p t v=true:=by
 have one:∀{u:Typ} {w:Val},u=zAU∨u=zAc→TyV p u w→yX p u w=true:=by
  rintro u w (rfl | rfl) hw
  ·obtain⟨n,rfl,h1,h2⟩:=hw.int_inv;rw[zAf,zVb]; simp[Typ.k,Val.k,Val.n,Val.kids,h1,h2]
  ·obtain⟨n,rfl,h1⟩:=hw.bool_inv;rw[zAf,zSq]; simp[Typ.k,Val.k,Val.n,Val.kids]; exact h1.imp decide_eq_true decide_eq_true
 rcases ht with ht | ht | ⟨d,hd,rfl⟩
 ·exact one (.inl ht) h
 ·exact one (.inr ht) h
 ·rcases h.def_inv hd.find with ⟨_,vs,hl,rfl,hk⟩ | ⟨h1,_⟩
  ·have h2:=zG9 (P:=p) (ts:=d.slots.map Slt.typ) (vs:=vs) (by simp[hl]) fun j h1 h2=>by rw[jBn]; exact one (hd.flat _ (jA3 _)) (hk j h2)
   rw[zAf,hd.valid];simp only[Typ.k,Typ.id,Val.k,Val.n,Val.kids,hd.dfn,hd.kind,h2,hl];simp
  ·have:=hd.kind;omega
theorem zSC {p:Prg}{hs:List Hd}(hf:Fit p hs){d:Dfn}(hd:d∈p.defs){s:Slt}(hs':s∈d.slots){v:Val}(hv:yX p s.typ v=true):TyV p s.typ v:=zNQ hf ((hf.slots d hd).2.2.2.2 s hs') v hv
section
variable {l:List Int}(hl:∀x∈l,w64 x=x)
include hl
theorem zJL {x:Id}{t:Typ×Typ}(hx:yE (jQ l) x=some t){v:Val}(hv:yX (jQ l) t.1 v=true):zW v≤7∧yV v≤2:=by obtain⟨d,a,b,s,hd,hk,hg,rfl⟩:=zNY hl hx;have h1:=zSC (zE6 hl) (zAd hd).1 (s:=s) (by rw[hg.slots]; simp) (v:=v) (by rw[hg.typ]; exact hv);rw[hg.typ]at h1;exact zKZ (.inr (.inr ⟨a,hg.fa,rfl⟩)) h1
theorem qBh {x:Id}{t:Typ×Typ}(hx:yE (jQ l) x=some t){v:Val}(hv:yX (jQ l) t.1 v=true)(f:Int) :
 ((jG (jQ l) x [v] f).2.2=0∧yX (jQ l) t.2 (jG (jQ l) x [v] f).1=true)∨(jG (jQ l) x [v] f).2.2=zE1:=by
 have hsm:=zJL hl hx hv;obtain⟨d,a,b,s,hd,hk,hg,rfl⟩:=zNY hl hx;have hf:=zE6 hl;have hty:TyL (jQ l) (d.slots.map Slt.typ) [v]:=TyL.of (by simp[hg.slots]) fun j hj=>by
  have hj0:j=0:=by simpa using hj
  subst hj0;have:=zSC hf (zAd hd).1 (s:=s) (by rw[hg.slots]; simp) (v:=v) (by rw[hg.typ]; exact hv)
  simpa [hg.slots] using this
 have henv:=EnvT.args hty (fun w hw=>by
  have:w=v:=by simpa using hw
  subst this; omega)
 have hB:(d.slots.map fun s=>(⟨s.id,0,s.typ⟩:Bnd))=[⟨s.id,0,jP a.id⟩]:=by rw[hg.slots,←hg.typ]; rfl
 rw[hB]at henv;have hrun:zCS (jQ l) d [v] f=qH (jQ l) 2 f.toNat d.body (zC2 d.slots [v]) ⟨f,0,[d.id],[]⟩:=by unfold zCS zBv; simp
 have hfl:=zNi hf.bods 2 f.toNat hg.body henv (s:=⟨f,0,[d.id],[]⟩) rfl;have hvt:=zEC hf.bods 2 f.toNat d.body _ _ ⟨f,0,[d.id],[]⟩ (jP b.id) hg.body.we henv;rw[←hrun]at hfl hvt;have hfits:zAA (jQ l) (d.slots.map Slt.typ) [v]=true:=by rw[hg.slots]; simp[zAA,hg.typ]; exact hv
 have hbk:¬zNE d.kind=false:=by rw[hk]; decide
 have hlen:¬[v].length≠d.slots.length:=by rw[hg.slots]; simp
 have hU:jG (jQ l) x [v] f=if (zCS (jQ l) d [v] f).2.fail≠0 then (vz,0,(zCS (jQ l) d [v] f).2.fail) else ((zCS (jQ l) d [v] f).1,f-(zCS (jQ l) d [v] f).2.fuel,0):=by unfold jG;rw[hd];simp only;rw[if_neg hbk,if_neg hlen,if_neg (by rw[hfits]; decide)]
 rw[hU];rcases hfl with h0 | h0
 ·rw[if_neg (by simp[h0])];exact .inl ⟨rfl,zZR (.inr (.inr ⟨b,hg.fb,rfl⟩)) (hvt h0).1⟩
 ·rw[if_pos (by rw[h0]; decide)];exact .inr h0
end
theorem zRi {p:Prg}{x:Id}(h:x∈zBC p):∃t,yE p x=some t:=by unfold zBC at h;rw[zI2,jAn]at h;obtain⟨d,hd,rfl⟩:=h;exact Option.isSome_iff_exists.1 (List.mem_filter.1 hd).2
section
variable {l:List Int}(hl:∀x∈l,w64 x=x)
include hl
end
theorem zAe {p:Prg}{fl n:Nat}{e:Exp}{V:List EVar}{s:XS}(h:(qH p fl n e V s).2.fail=0) :
 ∃m,(qN p fl (qH p fl m) e V (zAF e s)).2.fail=0∧(qH p fl n e V s).1=(qN p fl (qH p fl m) e V (zAF e s)).1:=by
 cases n with
 | zero =>
  rw[qH]at h;split at h
  ·rename_i h'; exact(h' h).elim
  ·cases h
 | succ n =>
  rw[qH]at h⊢;split at h
  ·rename_i h'; exact(h' h).elim
  ·rename_i h0;rw[if_neg h0];split at h
   ·cases h
   ·rename_i h1;rw[if_neg h1];have h2:(zCF (qN p fl (qH p fl n) e V (zAF e s))).fail=0:=h;refine⟨n,(zLo h2).2,?_⟩;show zf (fl==2) (zCF _) _=_;rw[zDg h2]
theorem zFK {ev:Evl}(hst:zDS ev){V:List EVar}:∀{l:List Exp} {s:XS},(qX ev V l s).2.fail=0→∀(j:Nat) (hj:j<l.length) (hj':j<(qX ev V l s).1.length),∃s',(ev l[j] V s').2.fail=0∧(qX ev V l s).1[j]=(ev l[j] V s').1
 | e::l,s,h,0,_,_=>⟨s,zNB hst h,rfl⟩
 | e::l,s,h,j+1,hj,hj'=>by simp only[qX]at h hj' ⊢;exact zFK hst h j (by simpa using hj) (by simpa using hj')
structure Alk (s:Id)(v w:Val)(e:Exp):Prop where
 whole:zCt s e false=true→v=w
 met:∀x∈zDc s e,v.kids.getD x.toNat vz=w.kids.getD x.toNat vz
theorem zLX {s:Id}{f:Bool}{e:Exp}:∀{l:List Exp},e∈l→zCt s e (f&&isS s e)=true→zCc s f l=true
 | x::l,he,h=>by
  simp only[zCc,jAu];rcases jA5.1 he with rfl | he
  ·exact .inl h
  ·exact .inr (zLX he h)
theorem zTh {s:Id}{f:Bool}{n x:Int}{e:Exp}:∀{l:List Exp},e∈l→x∈zDc s e→x∈zDv s f n l
 | y::l,he,h=>by
  simp only[zDv,jAe];rcases jA5.1 he with rfl | he
  ·exact .inl (.inr h)
  ·exact .inr (zTh he h)
theorem Alk.kid {s:Id}{v w:Val}{i:Id}{k n:Int}{r:Id}{u:Typ}{ks:List Exp}{ns:List ByteArray}(h:Alk s v w (.mk i k n r u ks ns)){e:Exp}(he:e∈ks)(hs:k≠8∨isS s e=false):Alk s v w e:=by
 refine⟨fun hw=>h.whole ?_,fun x hx=>h.met x ?_⟩
 ·rw[zCt,jAu];refine .inr (zLX he ?_);have:(decide (k=8)&&isS s e)=false:=by
   rcases hs with hs | hs
   ·simp[hs]
   ·simp[hs]
  rw[this]; exact hw
 ·rw[zDc];exact zTh he hx
theorem zIa (s:Id)(v:Val){r:Id}{n:Int}{t u:Typ}(h:zC7 [⟨s,0,t⟩] r n=some u):r=s∧n=0∧zCH [⟨s,0,v⟩] r n=v:=by
 unfold zC7 at h;by_cases hc:s=r∧(0:Int)=n
 ·obtain⟨rfl,rfl⟩:=hc;exact⟨rfl,rfl,by simp[zCH]⟩
 ·rw[jAa]at h;obtain⟨b,h1,_⟩:=h;have h2:=jDa h1;have h3:=jDj h1;simp only[List.reverse_cons,List.reverse_nil,jBm,jAh]at h3;subst h3;simp only[jA4,decide_eq_true_eq]at h2;exact(hc h2).elim
theorem zOL {p:Prg}{s:Id}{t0:Typ}{v w:Val}{e:Exp}{t:Typ}(h:WF p [⟨s,0,t0⟩] e t):Alk s v w e→∀(n m:Nat) (x y:XS),
 (qH p 2 n e [⟨s,0,v⟩] x).2.fail=0→(qH p 2 m e [⟨s,0,w⟩] y).2.fail=0→(qH p 2 n e [⟨s,0,v⟩] x).1=(qH p 2 m e [⟨s,0,w⟩] y).1:=by
 have lists:∀{ks:List Exp} {n m:Nat} {x y:XS},(∀(j:Nat) (hj:j<ks.length),∀(x y:XS),(qH p 2 n ks[j] [⟨s,0,v⟩] x).2.fail=0→(qH p 2 m ks[j] [⟨s,0,w⟩] y).2.fail=0→(qH p 2 n ks[j] [⟨s,0,v⟩] x).1=(qH p 2 m ks[j] [⟨s,0,w⟩] y).1) →
  (qX (qH p 2 n) [⟨s,0,v⟩] ks x).2.fail=0→(qX (qH p 2 m) [⟨s,0,w⟩] ks y).2.fail=0→(qX (qH p 2 n) [⟨s,0,v⟩] ks x).1=(qX (qH p 2 m) [⟨s,0,w⟩] ks y).1:=by
  intro ks n m x y hk hx hy;refine List.ext_getElem (by rw[zAE,zAE]) fun j h1 h2=>?_
  have hj:j<ks.length:=by rw[zAE]at h1; exact h1
  obtain⟨x',a1,a2⟩:=zFK (zBn p 2 n) hx j hj h1;obtain⟨y',b1,b2⟩:=zFK (zBn p 2 m) hy j hj h2;rw[a2,b2];exact hk j hj x' y' a1 b1
 induction h with
 | int | bool =>
  intro _ n m x y hx hy;obtain⟨n',_,e1⟩:=zAe hx;obtain⟨m',_,e2⟩:=zAe hy;rw[e1,e2];rfl
 | var i n' r u ns t hr ht =>
  intro ha n m x y hx hy;obtain⟨n1,_,e1⟩:=zAe hx;obtain⟨m1,_,e2⟩:=zAe hy;obtain⟨rfl,rfl,f1⟩:=zIa s v hr;obtain⟨_,_,f2⟩:=zIa r w hr;have hvw:=ha.whole (by simp[zCt]);rw[e1,e2];show zCH _ r 0=zCH _ r 0;rw[f1,f2,hvw]
 | arith i k r u a b ns h1 h2 hwa hwb iha ihb =>
  intro ha n m x y hx hy;obtain⟨n1,d1,e1⟩:=zAe hx;obtain⟨m1,d2,e2⟩:=zAe hy;have key:=lists (ks:=[a,b]) (n:=n1) (m:=m1) (x:=zAF (.mk i 4 k r u [a,b] ns) x) (y:=zAF (.mk i 4 k r u [a,b] ns) y) (fun j hj x y=>by
   match j,hj with
   | 0,_=>exact iha (ha.kid (by simp) (.inl (by decide))) n1 m1 x y
   | 1,_=>exact ihb (ha.kid (by simp) (.inl (by decide))) n1 m1 x y) d1 d2
  rw[e1,e2];show zf true _ (opV k _)=zf true _ (opV k _);exact(zDg (by exact d1)).trans ((congrArg (opV k) key).trans (zDg (by exact d2)).symm)
 | andor i k r u a b ns h1 hwa hwb iha ihb =>
  intro ha n m x y hx hy;obtain⟨n1,d1,e1⟩:=zAe hx;obtain⟨m1,d2,e2⟩:=zAe hy;have key:=lists (ks:=[a,b]) (n:=n1) (m:=m1) (x:=zAF (.mk i 4 k r u [a,b] ns) x) (y:=zAF (.mk i 4 k r u [a,b] ns) y) (fun j hj x y=>by
   match j,hj with
   | 0,_=>exact iha (ha.kid (by simp) (.inl (by decide))) n1 m1 x y
   | 1,_=>exact ihb (ha.kid (by simp) (.inl (by decide))) n1 m1 x y) d1 d2
  rw[e1,e2];show zf true _ (opV k _)=zf true _ (opV k _);exact(zDg (by exact d1)).trans ((congrArg (opV k) key).trans (zDg (by exact d2)).symm)
 | ite i k r u a b c ns t hwa hwb hwc iha ihb ihc =>
  intro ha n m x y hx hy;obtain⟨n1,d1,e1⟩:=zAe hx;obtain⟨m1,d2,e2⟩:=zAe hy;rw[e1,e2];generalize zAF (.mk i 5 k r u [a,b,c] ns) x=x at d1;generalize zAF (.mk i 5 k r u [a,b,c] ns) y=y at d2;have sh:∀(V:List EVar) (q:Nat) (z:XS),qN p 2 (qH p 2 q) (.mk i 5 k r u [a,b,c] ns) V z=if (qH p 2 q a V z).2.fail≠0 then (vz,(qH p 2 q a V z).2) else qH p 2 q ([a,b,c].getD (if (qH p 2 q a V z).1.n=1 then 1 else 2) .zero) V (qH p 2 q a V z).2:=fun V q z=>rfl
  rw[sh]at d1 d2;rw[sh,sh];have hc:=iha (ha.kid (by simp) (.inl (by decide))) n1 m1 x y;generalize qH p 2 n1 a [⟨s,0,v⟩] x=X at *
  generalize qH p 2 m1 a [⟨s,0,w⟩] y=Y at *
  by_cases g1:X.2.fail=0
  ·by_cases g2:Y.2.fail=0
   ·have hc:=hc g1 g2;rw[if_neg (show ¬X.2.fail≠0 by simp[g1])]at d1;rw[if_neg (show ¬Y.2.fail≠0 by simp[g2])]at d2;rw[if_neg (show ¬X.2.fail≠0 by simp[g1]),if_neg (show ¬Y.2.fail≠0 by simp[g2])];rw[←hc]at d2 ⊢;by_cases h1:X.1.n=1
    ·rw[if_pos h1]at d1 d2 ⊢;exact ihb (ha.kid (by simp) (.inl (by decide))) n1 m1 _ _ d1 d2
    ·rw[if_neg h1]at d1 d2 ⊢;exact ihc (ha.kid (by simp) (.inl (by decide))) n1 m1 _ _ d1 d2
   ·rw[if_pos g2]at d2;exact(g2 d2).elim
  ·rw[if_pos g1]at d1;exact(g1 d1).elim
 | record i k r u ks ns hn d hd hr hlen hw ih =>
  intro ha n m x y hx hy;obtain⟨n1,d1,e1⟩:=zAe hx;obtain⟨m1,d2,e2⟩:=zAe hy;have key:=lists (ks:=ks) (n:=n1) (m:=m1) (x:=zAF (.mk i 7 k r u ks ns) x) (y:=zAF (.mk i 7 k r u ks ns) y) (fun j hj x y=>ih j hj (ha.kid (jA3 hj) (.inl (by decide))) n1 m1 x y) d1 d2;rw[e1,e2];exact congrArg (Val.mk 2 0) key
 | field i r u a ns d j hd hr hj hwa iha =>
  intro ha n m x y hx hy;obtain⟨n1,d1,e1⟩:=zAe hx;obtain⟨m1,d2,e2⟩:=zAe hy;rw[e1,e2];generalize zAF (.mk i 8 j r u [a] ns) x=x at d1;generalize zAF (.mk i 8 j r u [a] ns) y=y at d2;have sh:∀(V:List EVar) (q:Nat) (z:XS),qN p 2 (qH p 2 q) (.mk i 8 j r u [a] ns) V z=if (qH p 2 q a V z).2.fail≠0 then (vz,(qH p 2 q a V z).2) else ((qH p 2 q a V z).1.kids.getD (j:Int).toNat vz,(qH p 2 q a V z).2):=fun V q z=>rfl
  rw[sh]at d1 d2;rw[sh,sh];by_cases g1:(qH p 2 n1 a [⟨s,0,v⟩] x).2.fail=0
  ·by_cases g2:(qH p 2 m1 a [⟨s,0,w⟩] y).2.fail=0
   ·rw[if_neg (by simp[g1]),if_neg (by simp[g2])];simp only;cases his:isS s a with
    | false =>
     rw[iha (ha.kid (by simp) (.inr his)) n1 m1 x y g1 g2]
    | true =>
     obtain⟨n2,_,e3⟩:=zAe g1;obtain⟨m2,_,e4⟩:=zAe g2;have hmet:=ha.met j (by simp[zDc,zDv,his]);have hk:a.k=2∧a.ref=s:=by simpa [isS] using his
     obtain⟨q,hq⟩:=zXX hwa.we hk.1;have va:∀(z:Val) (N:Nat) (c:XS),(qN p 2 (qH p 2 N) a [⟨s,0,z⟩] (zAF a c)).1=zCH [⟨s,0,z⟩] a.ref a.n:=fun z N c=>by unfold qN;rw[if_neg (by omega),if_neg (by omega),if_pos hk.1]
     have hn:zC7 [⟨s,0,t0⟩] a.ref a.n=some (jP r):=by generalize hu:jP r=u' at hwa;cases hwa<;>simp only[Exp.k]at hk<;>first | (exact absurd hk.1 (by decide)) | assumption
     have f1:=(zIa s v hn).2.2;have f2:=(zIa s w hn).2.2;rw[e3,e4,va,va,f1,f2];exact hmet
   ·rw[if_pos g2]at d2;exact(g2 d2).elim
  ·rw[if_pos g1]at d1;exact(g1 d1).elim
@[simp] theorem qO8:zB prog 6=true:=by kernel_rfl
section
variable {l:List Int}(hl:∀x∈l,w64 x=x)
include hl
theorem zWN {x:Id}{t:Typ×Typ}(hx:yE (jQ l) x=some t){k:List Int}(hk:∀x∈k,w64 x=x) :
 yX (jQ l) t.1 (zHB (jQ l) t.1 k)=true∧Ret prog 14 [.agg (zK (jQ l)),.agg (zM t.1),.sl k.length (zAl k)] [] (.agg (zC (zHB (jQ l) t.1 k))) []:=by
 obtain⟨d,a,b,s,hd,_,hg,rfl⟩:=zNY hl hx;have hf:=zE6 hl;have ht:=(hf.slots d (zAd hd).1).2.2.2.2 s (by rw[hg.slots]; simp);rw[hg.typ]at ht;have h8:=hf.len8;refine⟨?_,zXW (jQ l) (by omega) k hk _ (zZP hf ht (by omega) 10 (by omega)) (zZQ hf ht (by omega) 5 (by omega))⟩;simp only[zHB];split
 ·exact zVg hf ht (by omega) 5 (by omega)
 ·exact zU9 hf hk ht (by omega) 10 (by omega) 0 1
end
theorem zDe {p:Prg}{d:Dfn}(hd:Flat p d){v:Val}:yX p (jP d.id) v=true↔v.k=2∧v.n=0∧v.kids.length=d.slots.length∧zAA p (d.slots.map Slt.typ) v.kids=true:=by
 have e:yX p (jP d.id) v=(decide (v.k=2)&&decide (v.n=0)&&decide (v.kids.length=d.slots.length)&&zAA p (d.slots.map Slt.typ) v.kids):=by rw[zAf,hd.valid];simp[Typ.k,Typ.id,hd.dfn,hd.kind]
 rw[e,jA4,jA4,jA4,decide_eq_true_eq,decide_eq_true_eq,decide_eq_true_eq,and_assoc,and_assoc]
def zIn (K O:List Val)(deps:List Int):List Val:=K.mapIdx fun j x=>if (j:Int)∈deps then x else O.getD j vz
def zGN (v o:Val)(deps:List Int):Val:=.mk v.k v.n (zIn v.kids o.kids deps)
theorem zJg (v o:Val)(deps:List Int):(zGN v o deps).kids=zIn v.kids o.kids deps:=rfl
theorem zDd (K O:List Val)(deps:List Int):(zIn K O deps).length=K.length:=by simp[zIn]
theorem zGm (K O:List Val)(deps:List Int){j:Nat}(h:j<K.length)(h':j<(zIn K O deps).length):(zIn K O deps)[j]=if (j:Int)∈deps then K[j] else O.getD j vz:=by simp[zIn]
theorem zQa {p:Prg}{d:Dfn}(hd:Flat p d){v o:Val}(hv:yX p (jP d.id) v=true)(ho:yX p (jP d.id) o=true)(deps:List Int):yX p (jP d.id) (zGN v o deps)=true:=by
 obtain⟨v1,v2,v3,v4⟩:=(zDe hd).1 hv;obtain⟨o1,o2,o3,o4⟩:=(zDe hd).1 ho;have hl:=zDd v.kids o.kids deps;rw[zDe hd];refine⟨v1,v2,by rw[zJg]; omega,?_⟩;rw[zJg];refine zG9 (by rw[hl,v3,jB2]) fun j h1 h2=>?_
 have hj:j<v.kids.length:=by omega
 rw[zGm _ _ _ hj h2];split
 ·exact zD6 v4 j h1 hj
 ·rw[zAP (show j<o.kids.length by omega)];exact zD6 o4 j h1 _
theorem zXj {K O:List Val}{deps:List Int}(h:∀(j:Nat),j<K.length→(j:Int)∈deps):zIn K O deps=K:=by
 refine List.ext_getElem (zDd _ _ _) fun j h1 h2=>?_
 rw[zGm _ _ _ h2,if_pos (h j h2)]
theorem zN4 {p:Prg}{d a b:Dfn}{s:Slt}{x:Id}(hd:qQ p.defs x=some d)(hg:GCv p d a b s){v:Val}{f:Int}(h:(jG p x [v] f).2.2=0) :
 yX p (jP a.id) v=true∧(qH p 2 f.toNat d.body [⟨s.id,0,v⟩] ⟨f,0,[d.id],[]⟩).2.fail=0∧(jG p x [v] f).1=(qH p 2 f.toNat d.body [⟨s.id,0,v⟩] ⟨f,0,[d.id],[]⟩).1:=by
 have hrun:zCS p d [v] f=qH p 2 f.toNat d.body [⟨s.id,0,v⟩] ⟨f,0,[d.id],[]⟩:=by unfold zCS zBv; rw[hg.slots]; simp[zC2]
 rw[←hrun];unfold jG at h⊢;rw[hd]at h⊢;simp only at h⊢;by_cases h1:zNE d.kind=false
 ·rw[if_pos h1]at h; exact absurd h (by decide)
 rw[if_neg h1]at h⊢;by_cases h2:[v].length≠d.slots.length
 ·rw[if_pos h2]at h; exact absurd h (by decide)
 rw[if_neg h2]at h⊢;by_cases h3:zAA p (d.slots.map Slt.typ) [v]=false
 ·rw[if_pos h3]at h; exact absurd h (by decide)
 rw[if_neg h3]at h⊢;have hfi:yX p (jP a.id) v=true:=by
  have:zAA p (d.slots.map Slt.typ) [v]=true:=by simpa using h3
  rw[hg.slots]at this;simp only[jAc,jBc,zAA,Bool.and_true,hg.typ]at this;exact this
 by_cases h4:(zCS p d [v] f).2.fail=0
 ·rw[if_neg (by simp[h4])];exact⟨hfi,h4,rfl⟩
 ·rw[if_pos h4]at h;exact(h4 h).elim
theorem zTF {p:Prg}{B:List Bnd}{e:Exp}{b:Dfn}(hb:Flat p b)(h:WF p B e (jP b.id)){n:Nat}(hn:n<b.slots.length):∃t,WF p B (zBi e n) t:=by
 generalize ht:jP b.id=t at h;cases h with
 | record i m r u ks ns hk d hd hr hl hw =>
  simp only[Typ.mk.injEq,and_true,true_and]at ht;have hdb:d=b:=by have h1:=hd.find;rw[hr,←ht,hb.find]at h1;exact(jAs h1).symm
  subst hdb;have hnk:n<ks.length:=by rw[hl]; simpa using hn
  refine⟨(d.slots.map Slt.typ)[n]'(by omega),?_⟩;unfold zBi;rw[if_pos ⟨rfl,by simp only[Exp.kids]; omega⟩];simp only[Exp.kids,jCd];rw[zAP hnk];exact hw n hnk
 | int _ _ _ _ _ h1 h2=>simp at ht
 | bool=>simp at ht
 | var i m r u ns t h1 h2=>exact⟨_,by unfold zBi; rw[if_neg (by simp[Exp.k])]; exact .var _ _ _ _ _ _ h1 h2⟩
 | arith=>simp at ht
 | andor=>simp at ht
 | ite i m r u x y z ns t h1 h2 h3=>exact⟨_,by unfold zBi; rw[if_neg (by simp[Exp.k])]; exact .ite _ _ _ _ _ _ _ _ _ h1 h2 h3⟩
 | field i r u x ns d j h1 h2 h3 h4=>exact⟨_,by unfold zBi; rw[if_neg (by simp[Exp.k])]; exact .field _ _ _ _ _ _ _ h1 h2 h3 h4⟩
theorem zKX {p:Prg}{d a b:Dfn}{s:Slt}{x:Id}(hd:qQ p.defs x=some d)(hk:d.kind=5)(hg:GCv p d a b s){n:Nat}(hn:n<b.slots.length):zBk p x n=zEj s.id (zBi d.body n) a.slots.length:=by
 have ra:zIw p (jP a.id)=true:=by unfold zIw; simp[Typ.k,Typ.id,hg.fa.find,hg.fa.kind]
 have rb:zIw p (jP b.id)=true:=by unfold zIw; simp[Typ.k,Typ.id,hg.fb.find,hg.fb.kind]
 have ea:(qQ p.defs (jP a.id).id).getD .zero=a:=by simp[Typ.id,hg.fa.find]
 have eb:(qQ p.defs (jP b.id).id).getD .zero=b:=by simp[Typ.id,hg.fb.find]
 unfold zBk;rw[hd];simp only;rw[if_pos hk,hg.slots];simp only;rw[hg.typ,hg.res,ea,eb,if_pos ⟨ra,rb,by omega,by omega⟩]
theorem zRr {p:Prg}{d a b:Dfn}{s:Slt}{x:Id}(hd:qQ p.defs x=some d)(hk:d.kind=5)(hg:GCv p d a b s){n:Nat}(hn:n<b.slots.length){v o:Val}(hv:yX p (jP a.id) v=true){f g:Int}
 (h1:(jG p x [v] f).2.2=0)(h2:(jG p x [zGN v o (zBk p x n)] g).2.2=0):(jG p x [v] f).1.kids.getD n vz=(jG p x [zGN v o (zBk p x n)] g).1.kids.getD n vz:=by
 obtain⟨_,r1,e1⟩:=zN4 hd hg h1;obtain⟨_,r2,e2⟩:=zN4 hd hg h2;rw[e1,e2];obtain⟨v1,v2,v3,v4⟩:=(zDe hg.fa).1 hv;have hdep:=zKX hd hk hg hn;obtain⟨t,hty⟩:=zTF hg.fb hg.body hn;have halk:Alk s.id v (zGN v o (zBk p x n)) (zBi d.body n):=by
  have hmem:∀(j:Nat),j<a.slots.length→(zCt s.id (zBi d.body n) false=true∨(j:Int)∈zDc s.id (zBi d.body n))→(j:Int)∈zBk p x n:=fun j hj h=>by rw[hdep];unfold zEj;rw[List.mem_filter];refine⟨by simp[zF0]; exact⟨j,hj,rfl⟩,?_⟩;rw[jAu,decide_eq_true_eq];exact h
  refine⟨fun hw=>?_,fun y hy=>?_⟩
  ·unfold zGN;rw[zXj fun j hj=>hmem j (by omega) (.inl hw)];cases v; rfl
  ·obtain⟨y0,y1⟩:=qEv hg.fa.find hty.we ⟨_,jAh.2 rfl,rfl⟩ (fun b hb _=>by rw[jAh.1 hb]) y hy;obtain⟨j,rfl⟩:∃j:Nat,y=j:=⟨y.toNat,by omega⟩;have hj:j<v.kids.length:=by omega
   rw[zJg,jCd];rw[zAP hj,zAP (by rw[zDd]; exact hj),zGm _ _ _ hj,if_pos (hmem j (by omega) (.inr hy))]
 by_cases hb:d.body.k=7∧(n:Int)<d.body.kids.length
 ·have hbe:zBi d.body n=d.body.kids.getD n .zero:=by unfold zBi; rw[if_pos hb,jCd]
  rw[hbe]at halk hty;have hnk:n<d.body.kids.length:=by omega
  rw[zAP hnk]at halk hty;obtain⟨m1,f1,g1⟩:=zAe r1;obtain⟨m2,f2,g2⟩:=zAe r2;rw[g1,g2];generalize zAF d.body ⟨f,0,[d.id],[]⟩=s1 at *
  generalize zAF d.body ⟨g,0,[d.id],[]⟩=s2 at *
  have sh:∀(V:List EVar) (q:Nat) (z:XS),qN p 2 (qH p 2 q) d.body V z=(zf (2==1) (qX (qH p 2 q) V d.body.kids z).2 (.mk 2 0 (qX (qH p 2 q) V d.body.kids z).1),(qX (qH p 2 q) V d.body.kids z).2):=fun V q z=>by unfold qN;rw[if_neg (by omega),if_neg (by omega),if_neg (by omega),if_neg (by omega),if_neg (by omega),if_neg (by omega),if_pos hb.1]
  rw[sh]at f1 f2;rw[sh,sh];have k1:∀(V:List EVar) (q:Nat) (z:XS),(zf (2==1) (qX (qH p 2 q) V d.body.kids z).2 (.mk 2 0 (qX (qH p 2 q) V d.body.kids z).1)).kids=(qX (qH p 2 q) V d.body.kids z).1:=fun V q z=>rfl
  simp only[k1];rw[zAP (by rw[zAE]; exact hnk),zAP (by rw[zAE]; exact hnk)];obtain⟨x',a1,a2⟩:=zFK (zBn p 2 m1) f1 n hnk (by rw[zAE]; exact hnk);obtain⟨y',b1,b2⟩:=zFK (zBn p 2 m2) f2 n hnk (by rw[zAE]; exact hnk);rw[a2,b2];exact zOL hty halk m1 m2 x' y' a1 b1
 ·have hbe:zBi d.body n=d.body:=by unfold zBi; rw[if_neg hb]
  rw[hbe]at halk;rw[zOL hg.body halk _ _ _ _ r1 r2]
def zVq:K:=(G [kMi 22 0] (K.block 6 (K.loop (Z (G [M 91 22,M 92 18,kN 93 92,kB 94 91 93 .lss] (Y 94 ks (K.exit 6))) (Z (K.block 7 (K.ops [M 97 21,M 98 97,T 98 false (M 99 18),T 98 false (M 100 22),T 98 false (kX 101 99 100 1),T 98 false (L 102 101 1),T 98 false (M 103 20),T 98 false (kQ 104 102 103 false),kPt 105 98 104,M 21 105])) (K.ops [M 95 22,kBi 96 95 1 .add,M 22 96]))))))
def zVo:K:=(G [kMi 20 0] (K.block 4 (K.loop (Z (G [M 84 20,D 85 19 2,L 86 85 1,kN 87 86,kB 88 84 87 .lss] (Y 88 ks (K.exit 4))) (Z (K.block 5 (G [kMb 21 false] (Z (K.wk zVq) (Z (K.wk (K.ops [M 106 21,kR 107 106])) (Y 107 (K.dops [(0,0,D 108 19 2),(1,0,L 109 108 1),(2,0,M 110 20),(3,0,D 111 16 2),(4,0,L 112 111 1),(5,0,M 113 20),(6,0,kX 114 112 113 3),(7,0,J 115 114 3),(8,0,kX 116 109 110 3),(9,0,S 116 115 3)]) ks))))) (K.ops [M 89 20,kBi 90 89 1 .add,M 20 90]))))))
def zVp:K:=(G [kMi 17 0] (K.block 2 (K.loop (Z (G [M 64 17,D 65 13 8,L 66 65 1,kN 67 66,kB 68 64 67 .lss] (Y 68 ks (K.exit 2))) (Z (K.block 3 (Z (K.dops [(0,0,J 71 7 2),(1,0,M 72 8),(2,0,M 73 9),(3,0,kX 74 72 73 3),(4,0,J 75 74 3),(5,0,M 76 17),(6,0,kC 77 24 [(kt 71),(kt 75),(kt 76)]),(7,0,M 18 77)]) (G [J 78 15 3,kZ 19 [ki,ki,kl],S 19 78 3] (G [kd 79 46 3 0 [] [],D 80 15 2,L 81 80 1,kP 82 46 3 40 79 81,D 83 19 2,S 83 82 1] (Z (K.wk zVo) (Z (K.wk (K.dops [(0,1,J 118 7 2),(1,0,M 119 8),(2,0,M 120 9),(3,1,kX 121 119 120 3),(4,1,J 122 121 3),(5,1,J 123 15 3),(6,0,kd 124 46 3 1 [ki,ki,kl] [(0,3,(kt 123))]),(7,1,kC 125 29 [(kt 118),(kt 122),(kt 124),(kc 1000)]),(8,0,M 117 125),(9,0,kE 126 117 0),(10,0,kE 127 117 1),(11,0,kE 128 117 2),(12,0,kZ 23 [ki,ki,kl]),(13,0,S 23 126 3),(14,0,M 24 127),(15,0,M 25 128)])) (Z (K.dops [(0,1,J 130 7 2),(1,0,M 131 8),(2,0,M 132 9),(3,1,kX 133 131 132 3),(4,1,J 134 133 3),(5,1,J 135 19 3),(6,0,kd 136 46 3 1 [ki,ki,kl] [(0,3,(kt 135))]),(7,1,kC 137 29 [(kt 130),(kt 134),(kt 136),(kc 1000)]),(8,0,M 129 137),(9,0,kE 138 129 0),(10,0,kE 139 129 1),(11,0,kE 140 129 2),(12,0,kZ 26 [ki,ki,kl]),(13,0,S 26 138 3),(14,0,M 27 139),(15,0,M 28 140)]) (Z (G [M 141 25,kQi 142 141 0 true,M 143 142,T 143 false (M 144 28),T 143 false (kQi 145 144 0 true),kPt 146 143 145] (Y 146 (K.exit 3) ks)) (Z (K.dops [(0,0,D 147 23 2),(1,0,L 148 147 1),(2,0,kN 149 148),(3,0,M 150 17),(4,0,kB 151 149 150 .leq),(5,0,M 152 151),(6,0,T 152 false (D 153 26 2)),(7,0,
 T 152 false (L 154 153 1)),(8,0,T 152 false (kN 155 154)),(9,0,T 152 false (M 156 17)),(10,0,T 152 false (kB 157 155 156 .leq)),(11,0,kPt 158 152 157),(12,0,M 159 158),(13,0,T 159 false (D 160 23 2)),(14,0,T 159 false (L 161 160 1)),(15,0,T 159 false (M 162 17)),(16,0,T 159 false (kX 163 161 162 3)),(17,0,T 159 false (J 164 163 3)),(18,0,T 159 false (D 165 26 2)),(19,0,T 159 false (L 166 165 1)),(20,0,T 159 false (M 167 17)),(21,0,T 159 false (kX 168 166 167 3)),(22,0,T 159 false (J 169 168 3)),(23,0,T 159 false (kC 170 18 [(kt 164),(kt 169)])),(24,0,T 159 false (kQi 171 170 0 true)),(25,0,kPt 172 159 171)]) (Y 172 (G [kMb 6 false] kr) ks)))))))))) (K.ops [M 69 17,kBi 70 69 1 .add,M 17 70]))))))
def qGX:K:=G [kMb 6 false] (G [M 29 0,kC 30 28 [(kt 29)],kZ 7 [kl,kl],S 7 30 2] (G [J 31 7 2,kC 32 35 [(kt 31)],M 8 32] (Z (G [kMi 9 0] (K.block 0 (K.loop (Z (G [M 33 9,M 34 8,kN 35 34,kB 36 33 35 .lss] (Y 36 ks (K.exit 0))) (Z (K.block 1 (Z (K.wk (K.dops [(0,1,J 40 7 2),(1,0,M 41 8),(2,0,M 42 9),(3,1,kX 43 41 42 3),(4,1,J 44 43 3),(5,1,kC 45 13 [(kt 40),(kt 44)]),(6,0,M 39 45),(7,0,kE 46 39 0),(8,0,kE 47 39 1),(9,0,kE 48 39 2),(10,301,⟨none,.alr (some 10) 1 kz2⟩),(11,302,⟨none,.alr (some 11) 2 kz2⟩),(12,0,S 10 46 5),(13,0,S 11 47 5),(14,0,M 12 48)])) (G [J 50 7 2,D 51 11 1,J 52 51 3,kC 53 36 [(kt 50),(kt 52)],M 49 53,kE 54 49 0,kE 55 49 1,kZ 13 kz0,S 13 54 31,M 14 55] (G [J 56 7 2,J 57 10 5,M 58 1,kC 59 14 [(kt 56),(kt 57),(kt 58)],kZ 15 [ki,ki,kl],S 15 59 3] (G [J 60 7 2,J 61 10 5,M 62 2,kC 63 14 [(kt 60),(kt 61),(kt 62)],kZ 16 [ki,ki,kl],S 16 63 3] (K.wk zVp)))))) (K.wk (K.ops [M 37 9,kBi 38 37 1 .add,M 9 38]))))))) (G [kC 173 19 [],M 6 173] kr))))
def qPZ:Nat→Option (List (Nat×Nat)):=fun r=>match r with | 6=>some [(0,1),(1,0),(2,0),(3,1),(4,1),(5,1),(6,0),(7,0),(8,0),(9,0),(10,301),(11,302),(12,0),(13,0),(14,0)] | _=>none
theorem qOi:qD prog Tryz.f9.ntmps qPZ (Tryz.f9.body.getD .skip)=some qGX.erase:=by kernel_rfl
@[simp] theorem qOV:zB prog 9=true:=by kernel_rfl
def flE (k n:List Int)(C:List Id)(i:Nat):List (Nat×A):=[(1,.sl k.length (zAl k)),(2,.sl n.length (zAl n)),(7,.ptr 0 0),(8,.sl C.length (zS C)),(9,int i),(13,.ptr 1 0),(15,.ptr 2 0),(16,.ptr 3 0)]
def flS (p:Prg)(b:Dfn)(v o:Val):St:=[.box (zK p),.box (zF b),.box (zC v),.box (zC o)]
def flR (v:Val)(X:List Val):St:=[.box [int v.k,int v.n,.row 5 X.length],.row false 46 3 X.length (zJ X)]
section
variable {p:Prg}{b:Dfn}{v o:Val}{k n:List Int}{C:List Id}{i pl:Nat}{D:List Int}
theorem qJg (X:List Val)(j:Nat)(hD:D.length≤1000)(Q:Ex→Env→St→Prop)
 (hQ:∀E S,zA7 0 (qG (flE k n C i++[(17,int pl),(18,.sl D.length (zAl D)),(19,.ptr 4 0),(20,int j),(21,bl (decide ((j:Int)∈D)))])) (flS p b v o++flR v X) E S→Q .norm E S) :
 wpK prog 0 zVq Q (qG (flE k n C i++[(17,int pl),(18,.sl D.length (zAl D)),(19,.ptr 4 0),(20,int j),(21,bl false)])) (flS p b v o++flR v X):=by
 have hP:=eP p;unfold zVq;simp only[flE,flS,flR,jB5,jBm]at hQ ⊢;simp -implicitDefEqProofs [hP,zF,zC];refine jR (S:=Nat) (fun q=>flE k n C i++[(17,int pl),(18,.sl D.length (zAl D)),(19,.ptr 4 0),(20,int j),(21,bl (decide ((j:Int)∈D.take q))),(22,int q)]) (fun _=>flS p b v o++flR v X)
  (fun q=>q≤D.length) (fun q=>D.length-q) 0 (by omega) (zP [0,1,2,3,4,5] 0 (by decide) (by simp) (by simp[hP,zF,zC,flS,flR]) (by simp[flE])) ?_
 intro q hq;by_cases h:q<D.length
 ·have hw:=zAz q (by omega);have hne:¬D=[]:=fun e=>by rw[e]at h; simp at h
  have hcd:=zE9 h;have hstep:decide ((j:Int)∈D.take (q+1))=(decide ((j:Int)∈D.take q)||decide (D[q]=(j:Int))):=by rw[jA9 h,Bool.eq_iff_iff];simp only[jAe,jAh,decide_eq_true_eq,jAu];rw[eq_comm (a:=D[q])]
  generalize D[q]=y at *
  cases hb:decide ((j:Int)∈D.take q)<;>rw[hb]at hstep
  ·simp -implicitDefEqProofs [hP,zF,zC,flE,flS,flR,h,hne,hcd]
   intros
   exact zO (q+1) h (by omega) (zP [0,1,2,3,4,5] 0 (by decide) (by simp) (by simp[hP,zF,zC,flS,flR]) (by simp[flE,hw,hstep]))
  ·simp -implicitDefEqProofs [hP,zF,zC,flE,flS,flR,h,hne,hcd]
   intros
   exact zO (q+1) h (by omega) (zP [0,1,2,3,4,5] 0 (by decide) (by simp) (by simp[hP,zF,zC,flS,flR]) (by simp[flE,hw,hstep]))
 ·have hqe:q=D.length:=by omega
  subst hqe;rw[jB0];simp -implicitDefEqProofs [hP,zF,zC,flE,flS,flR]
  intros
  exact hQ _ _ (zP [0,1,2,3,4,5] 0 (by simp) (by decide) (by simp[hP,zF,zC]) (by simp))
theorem zSR:∀(R:List Val) (k:Nat),(zJ R).take (k*3)=zJ (R.take k)
 | [],k=>by simp
 | v::R,0=>by simp
 | v::R,k+1=>by rw[show (k+1)*3=k*3+3 by omega];simp[zSR R k]
theorem zSQ:∀(R:List Val) (k:Nat),(zJ R).drop (k*3)=zJ (R.drop k)
 | [],k=>by simp
 | v::R,0=>by simp
 | v::R,k+1=>by rw[show (k+1)*3=k*3+3 by omega];simp[zSQ R k]
def zDV (v o:Val)(D:List Int)(j:Nat):List Val:=(zIn v.kids o.kids D).take j++v.kids.drop j
theorem zPZ (v o:Val)(D:List Int){j:Nat}(h:j≤v.kids.length):(zDV v o D j).length=v.kids.length:=by have:=zDd v.kids o.kids D;simp only[zDV,jA7,jAp,jC]; omega
theorem zXk {v o:Val}{D:List Int}{j:Nat}(h:j<v.kids.length)(hd:(j:Int)∈D):zDV v o D (j+1)=zDV v o D j:=by have hl:=zDd v.kids o.kids D;unfold zDV;rw[jA9 (by omega),zGm _ _ _ h,if_pos hd,jAv h];simp
theorem zXl {v o:Val}{D:List Int}{j:Nat}(h:j<v.kids.length)(h2:j<o.kids.length)(hd:¬(j:Int)∈D) :
 (zJ (zDV v o D j)).take (j*3)++(.lit (.int .i64 o.kids[j].k)::.lit (.int .i64 o.kids[j].n)::.sl o.kids[j].kids.length (zJ o.kids[j].kids)::(zJ (zDV v o D j)).drop (j*3+3))=zJ (zDV v o D (j+1)):=by
 have hl:=zDd v.kids o.kids D;have e1:(zDV v o D j).take j=(zIn v.kids o.kids D).take j:=by unfold zDV;rw[jBr (by rw[jAp]; omega),List.take_take,Nat.min_self]
 have e2:(zDV v o D j).drop (j+1)=v.kids.drop (j+1):=by unfold zDV;rw[List.drop_append,jCm (by rw[jAp]; omega),jAp,show min j (zIn v.kids o.kids D).length=j by omega,List.drop_drop,jBm,show j+(j+1-j)=j+1 by omega]
 rw[zSR,show j*3+3=(j+1)*3 by omega,zSQ,e1,e2];have e3:zDV v o D (j+1)=(zIn v.kids o.kids D).take j++o.kids[j]::v.kids.drop (j+1):=by unfold zDV;rw[jA9 (by omega),zGm _ _ _ h,if_neg hd,zAP h2];simp
 rw[e3,zAI,zCZ]
theorem qJe (hD:D.length≤1000)(hL:v.kids.length≤1000)(ho:o.kids.length=v.kids.length)(Q:Ex→Env→St→Prop)
 (hQ:∀E S,zA7 0 (qG (flE k n C i++[(17,int pl),(18,.sl D.length (zAl D)),(19,.ptr 4 0)])) (flS p b v o++flR v (zIn v.kids o.kids D)) E S→Q .norm E S) :
 wpK prog 0 zVo Q (qG (flE k n C i++[(17,int pl),(18,.sl D.length (zAl D)),(19,.ptr 4 0)])) (flS p b v o++flR v v.kids):=by
 have hP:=eP p;have hall:zDV v o D v.kids.length=zIn v.kids o.kids D:=by unfold zDV;rw[List.drop_length,jBw,jAk (by rw[zDd]; exact jA _)]
 have h0:zDV v o D 0=v.kids:=by simp[zDV]
 unfold zVo;simp only[flE,flS,flR,jB5,jBm]at hQ ⊢;simp -implicitDefEqProofs [hP,zF,zC];refine jR (S:=Nat) (fun j=>flE k n C i++[(17,int pl),(18,.sl D.length (zAl D)),(19,.ptr 4 0),(20,int j)]) (fun j=>flS p b v o++flR v (zDV v o D j))
  (fun j=>j≤v.kids.length) (fun j=>v.kids.length-j) 0 (by omega) (zP [0,1,2,3,4,5] 0 (by decide) (by simp) (by simp[hP,zF,zC,flS,flR,h0]) (by simp[flE])) ?_
 intro j hj;have hml:=zPZ v o D hj;by_cases h:j<v.kids.length
 ·have hw:=zAz j (by omega);have hjo:j<o.kids.length:=by omega
  have hne:¬v.kids=[]:=fun e=>by rw[e]at h; simp at h
  have hnm:¬zDV v o D j=[]:=fun e=>by rw[e]at hml; simp at hml; omega
  have hno:¬o.kids=[]:=fun e=>by rw[e]at hjo; simp at hjo
  have hm:j<(zDV v o D j).length:=by omega
  have hcd:=qY hjo;have hset:=zXl (D:=D) h hjo;have hown:=zXk (o:=o) (D:=D) h;have hQq:=qJg (p:=p) (b:=b) (v:=v) (o:=o) (k:=k) (n:=n) (C:=C) (i:=i) (pl:=pl) (zDV v o D j) j hD;have hb3:j*3+3≤v.kids.length*3:=by omega
  simp -implicitDefEqProofs [hP,zF,zC,flE,flS,flR,h,hml,hm]
  intros
  refine⟨_,_,zP [0,1,2,3,4,5] 0 (by simp) (by decide) ?_ ?_,hQq _ fun E S hw1=>?_⟩
  ·simp[hP,zF,zC,flS,flR,hml]
  ·simp[flE]
  ·simp -implicitDefEqProofs;refine⟨_,_,hw1,?_⟩;by_cases hd:(j:Int)∈D
   ·rw[←hown hd]at hml ⊢;simp -implicitDefEqProofs [hP,zF,zC,flE,flS,flR,hd];exact zO (j+1) h (by omega) (zP [0,1,2,3,4,5] 0 (by decide) (by simp) (by simp[hP,zF,zC,flS,flR]) (by simp[flE,hw]))
   ·have hset:=hset hd;have hml2:=zPZ v o D (show j+1≤v.kids.length from h);simp -implicitDefEqProofs [hP,zF,zC,flE,flS,flR,hd,h,hjo,hml,hne,hno,hnm,hcd,hm,hb3];exact zO (j+1) h (by omega) (zP [0,1,2,3,4,5] 0 (by decide) (by simp) (by simp[hP,zF,zC,flS,flR,hml,hml2,hset]) (by simp[flE,hw]))
 ·have hje:j=v.kids.length:=by omega
  subst hje;rw[hall]at hml ⊢;simp -implicitDefEqProofs [hP,zF,zC,flE,flS,flR,hml]
  intros
  exact hQ _ _ (zP [0,1,2,3,4,5] 0 (by simp) (by decide) (by simp[hP,zF,zC,hml]) (by simp))
end
section
variable {p:Prg}{b:Dfn}{v o:Val}{k n:List Int}{C:List Id}{i:Nat}
theorem qJf (hC:i<C.length)(hb:b.slots.length≤1000)(hL:v.kids.length≤1000)(hL0:v.kids≠[])(ho:o.kids.length=v.kids.length)
 (hF:∀(q:Nat),q<b.slots.length→(zBk p C[i] q).length≤1000∧Ret prog 24 [.agg (zK p),.agg (zG C[i]),int q] [] (.sl (zBk p C[i] q).length (zAl (zBk p C[i] q))) [])
 (hE:∀(D:List Int),Ret prog 29 [.agg (zK p),.agg (zG C[i]),.sl 1 (zJ [zGN v o D]),int 1000] [] (zCE (jG p C[i] [zGN v o D] 1000)) [])
 (hV:Ret prog 29 [.agg (zK p),.agg (zG C[i]),.sl 1 (zJ [v]),int 1000] [] (zCE (jG p C[i] [v] 1000)) [])
 (hS:∀(q:Nat),q<b.slots.length→(jG p C[i] [v] 1000).2.2=0→(jG p C[i] [zGN v o (zBk p C[i] q)] 1000).2.2=0 →
  q<(jG p C[i] [v] 1000).1.kids.length∧q<(jG p C[i] [zGN v o (zBk p C[i] q)] 1000).1.kids.length∧(jG p C[i] [v] 1000).1.kids.getD q vz=(jG p C[i] [zGN v o (zBk p C[i] q)] 1000).1.kids.getD q vz)
 (Q:Ex→Env→St→Prop)(hQ:∀E S,zA7 0 (qG (flE k n C i)) (flS p b v o) E S→Q .norm E S) :
 wpK prog 0 zVp Q (qG (flE k n C i)) (flS p b v o):=by
 have hP:=eP p;have hCne:¬C=[]:=fun e=>by rw[e]at hC; simp at hC
 have hCd:=yZ hC;generalize C[i]=x at *
 generalize hX:jG p x [v] 1000=X at *
 unfold zVp;simp only[flE,flS]at hQ ⊢;simp -implicitDefEqProofs [hP,zF,zC];refine jR (S:=Nat) (fun q=>flE k n C i++[(17,int q)]) (fun _=>flS p b v o)
  (fun q=>q≤b.slots.length) (fun q=>b.slots.length-q) 0 (by omega) (zP [0,1,2,3] 0 (by decide) (by simp) (by simp[hP,zF,zC,flS]) (by simp[flE])) ?_
 intro q hq;by_cases h:q<b.slots.length
 ·have hw:=zAz q (by omega);obtain⟨hDl,rF⟩:=hF q h;have hSq:=hS q h;generalize zBk p x q=D at *
  have rE:=hE D;generalize jG p x [zGN v o D] 1000=Y at *
  have hJ:=qJe (p:=p) (b:=b) (v:=v) (o:=o) (k:=k) (n:=n) (C:=C) (i:=i) (pl:=q) hDl hL ho;have hml:=zDd v.kids o.kids D;simp -implicitDefEqProofs [hP,zF,zC,flE,flS,h,hC,hCne,hCd]
  intros
  refine qU rF (by simp[hP,zG]) (by simp) ?_;simp -implicitDefEqProofs [hL0];refine⟨⟨by simp[maxLen]; omega,by omega⟩,?_⟩;refine⟨_,_,zP [0,1,2,3,4,5] 0 (by simp) (by decide) ?_ ?_,hJ _ fun E S hw1=>?_⟩
  ·simp[hP,zF,zC,flS,flR]
  ·simp[flE]
  ·simp -implicitDefEqProofs;refine⟨_,_,hw1.trans (zP (l:=flE k n C i++[(17,int q),(19,.ptr 4 0)]) (σ':=flS p b v o++[.box (zC (zGN v o D))]) [0,1,2,3,4] 1 (by simp) (by decide) (by simp[hP,zF,zC,flS,flR,zGN,qV,qA,zR]) (by simp[flE])),?_⟩;have e1:(zGN v o D).k=v.k:=rfl;have e2:(zGN v o D).n=v.n:=rfl;simp -implicitDefEqProofs [hP,zF,zC,flE,flS,hC,hCne,hCd]
   intros
   refine zAn hV (by simp[hP,zG]) (by simp[zCE,zC]) ?_;simp -implicitDefEqProofs [zCE,zC,hC,hCne,hCd]
   intros
   refine zAn rE (by simp[hP,zG]) (by simp[zCE,zC]) ?_;by_cases hx0:X.2.2=0
   ·by_cases hy0:Y.2.2=0
    ·obtain⟨l1,l2,l3⟩:=hSq hx0 hy0;rw[zAP l1,zAP l2]at l3;have c1:=qY l1;have c2:=qY l2;rw[←l3]at c2;have hcm:=zCV X.1.kids[q] X.1.kids[q];rw[zD3]at hcm;have n1:¬X.1.kids=[]:=fun e=>by rw[e]at l1; simp at l1
     have n2:¬Y.1.kids=[]:=fun e=>by rw[e]at l2; simp at l2
     have g1:¬X.1.kids.length≤q:=by omega
     have g2:¬Y.1.kids.length≤q:=by omega
     generalize X.1.kids[q]=z at *
     simp -implicitDefEqProofs [zCE,zC,hx0,hy0,l1,l2,c1,c2,n1,n2,g1,g2]
     intros
     refine qU hcm (by simp[zC]) (by simp) ?_;simp -implicitDefEqProofs;exact zO (q+1) h (by omega) (zP [0,1,2,3] 0 (by decide) (by simp) (by simp[hP,zF,zC,flS]) (by simp[flE,hw]))
    ·simp -implicitDefEqProofs [zCE,zC,hx0,hy0];exact zO (q+1) h (by omega) (zP [0,1,2,3] 0 (by decide) (by simp) (by simp[hP,zF,zC,flS]) (by simp[flE,hw]))
   ·simp -implicitDefEqProofs [zCE,zC,hx0];exact zO (q+1) h (by omega) (zP [0,1,2,3] 0 (by decide) (by simp) (by simp[hP,zF,zC,flS]) (by simp[flE,hw]))
 ·simp -implicitDefEqProofs [hP,zF,zC,flE,flS,h]
  intros
  exact hQ _ _ (zP [0,1,2,3] 0 (by simp) (by decide) (by simp[hP,zF,zC]) (by simp))
end
theorem qQd (l k n:List Int)(hl:∀x∈l,w64 x=x)(hk:∀x∈k,w64 x=x)(hn:∀x∈n,w64 x=x) :
 Ret prog 9 [.sl l.length (zAl l),.sl k.length (zAl k),.sl n.length (zAl n)] [] (bl true) []:=by
 have hf:=zE6 hl;have h8:=hf.len8;have rP:=zWL hl;have rC:=zVY (jQ l) h8;have hlv:=zRK;have hP:zK (jQ l)=[.sl (jQ l).mods.length (jE (jQ l).mods),.sl (jQ l).defs.length (qI (jQ l).defs)]:=rfl;refine qP Tryz.func9 rfl qOi (rs:=[.slot 6]) (by kernel_rfl) ?_;unfold qGX;simp -implicitDefEqProofs;refine qE rP (by simp) (by simp[hP]) ?_;simp -implicitDefEqProofs [hP];refine qE rC (by simp[hP]) (by simp) ?_;simp -implicitDefEqProofs;refine jR (S:=Nat) (fun i=>[(1,.sl k.length (zAl k)),(2,.sl n.length (zAl n)),(7,.ptr 0 0),(8,.sl (zBC (jQ l)).length (zS (zBC (jQ l)))),(9,int i)]) (fun _=>[.box (zK (jQ l))])
  (fun i=>i≤(zBC (jQ l)).length) (fun i=>(zBC (jQ l)).length-i) 0 (by omega) (zP [0] 0 (by simp) (by simp) (by simp[hP]) (by simp)) ?_
 intro i hi;by_cases h:i<(zBC (jQ l)).length
 ·have hCl:(zBC (jQ l)).length≤100:=by have h1:=zSE (jQ l) (jQ l).defs.length;rw[zSD]at h1; omega
  have hw:=zAz i (by omega);obtain⟨t,ht⟩:=zRi (jA3 h);obtain⟨d,a,b,s,hd,hkd,hg,rfl⟩:=zNY hl ht;have rL:=zPO (jQ l) (by omega) (zBC (jQ l))[i];rw[ht]at rL;have rD:=zEH (jQ l) (by omega) b.id;unfold zAS at rD;rw[hg.fb.find]at rD;obtain⟨fv,rv⟩:=zWN hl ht hk;obtain⟨fo,ro⟩:=zWN hl ht hn;simp only at fv rv fo ro;generalize zHB (jQ l) (jP a.id) k=v at *
  generalize zHB (jQ l) (jP a.id) n=o at *
  obtain⟨v1,v2,v3,v4⟩:=(zDe hg.fa).1 fv;obtain⟨o1,o2,o3,o4⟩:=(zDe hg.fa).1 fo;have ha6:=hg.fa.few;have hb6:=hg.fb.few;have ha1:=((zE6 hl).slots a (zAd hg.fa.find).1).1;have hcall:∀w,yX (jQ l) (jP a.id) w=true→Ret prog 29 [.agg (zK (jQ l)),.agg (zG (zBC (jQ l))[i]),.sl 1 (zJ [w]),int 1000] [] (zCE (jG (jQ l) (zBC (jQ l))[i] [w] 1000)) []:=fun w hw=>by have hsm:=zJL hl ht hw;have:=zKV hf (zBC (jQ l))[i] [w] (gas:=1000) (fuel:=1000) rfl (by omega) (fun x hx=>by rw[jAh.1 hx]; omega);have hcu:=zS9 hf (zBC (jQ l))[i] [w] 1000;rw[show max (1000:Int) 0=1000 from rfl]at hcu;rw[hcu]at this;exact this
  have hPl:=qJf (p:=jQ l) (b:=b) (v:=v) (o:=o) (k:=k) (n:=n) (C:=zBC (jQ l)) (i:=i) h (by omega) (by omega) (fun e=>by rw[e]at v3; simp at v3; omega) (by omega)
   (fun q hq=>⟨by
    rw[zKX hd hkd hg hq];refine jBx (jD7 _ _) ?_;simp[zF0]; omega,zIM (jQ l) (fun d hd=>by have:=hf.slots d hd; omega) _ _⟩)
   (fun D=>hcall _ (zQa hg.fa fv fo D)) (hcall v fv)
   (fun q hq e1 e2=>by
    have g1:=qBh hl ht fv 1000;have g2:=qBh hl ht (zQa hg.fa fv fo (zBk (jQ l) (zBC (jQ l))[i] q)) 1000;rcases g1 with ⟨_,g1⟩ | g1
    ·rcases g2 with ⟨_,g2⟩ | g2
     ·have k1:=((zDe hg.fb).1 g1).2.2.1;have k2:=((zDe hg.fb).1 g2).2.2.1;exact⟨by omega,by omega,zRr hd hkd hg hq fv e1 e2⟩
     ·rw[e2]at g2; exact absurd g2 (by decide)
    ·rw[e1]at g1; exact absurd g1 (by decide))
  have hne:¬zBC (jQ l)=[]:=fun e=>by rw[e]at h; simp at h
  have hcd:=yZ h;have hT:∀i:Id,zM (jP i)=[int 3,int i.a,int i.b,int i.c,.sl 0 []]:=fun i=>by simp[zM,Typ.k,Typ.id,Typ.kids]
  clear hcall;generalize (zBC (jQ l))[i]=x at rL hcd;simp -implicitDefEqProofs [hP,h]
  intros
  refine⟨_,_,yW 2,?_⟩;simp -implicitDefEqProofs [List.replicate,h,hne,hcd];refine zAn rL (by simp[hP,zG]) (by simp[zCr,zM]) ?_;simp -implicitDefEqProofs [zCr,hT];refine qE rD (by simp[hP,zG]) (by simp[zF]) ?_;simp -implicitDefEqProofs;refine qE rv (by simp[hP,hT]) (by simp[zC]) ?_;simp -implicitDefEqProofs [zC];refine qE ro (by simp[hP,hT]) (by simp[zC]) ?_;simp -implicitDefEqProofs [zC];refine⟨_,_,zP [0,3,4,5] 0 (by simp) (by decide) ?_ ?_,hPl _ fun E S hw1=>?_⟩
  ·simp[hP,zF,zC,flS]
  ·simp[flE]
  ·simp -implicitDefEqProofs;refine⟨_,_,hw1,?_⟩;simp -implicitDefEqProofs [flE,flS,hP,zF,zC];exact zO (i+1) h (by omega) (zP [0] 0 (by decide) (by simp) (by simp[hP]) (by simp[hw]))
 ·simp -implicitDefEqProofs [hP,h]
  intros
  refine qE hlv (by simp) (by simp) ?_;simp -implicitDefEqProofs;exact zA 0 (by simp)
end Go.Proofs.YtdnelmeboihpkaaGreatDoor
