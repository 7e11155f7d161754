/-
  The zero value of a type, by the reference.
  The maker's fields and calls.
  Values made of numbers, by the reference.
  The maker's calls.
-/
import Derived.Test.YthglhccibdlccaaGreatDoorX14
import Derived.Test.YthglhccibdlccaaGreatDoorX12
set_option linter.unusedVariables false
set_option maxHeartbeats 8000000
set_option maxRecDepth 100000
set_option linter.unusedSimpArgs false
open Go.Proofs.Tryz (prog)
namespace Go.Proofs.YthglhccibdlccaaGreatDoor
open Go.Abs
@[simp] theorem zBe:∀(a b:List Val),zV (a++b)=zV a++zV b
 | [],b=>by simp
 | x::a,b=>by simp[zBe a b]
theorem qG {k n:Int}{l:List Val}:(Val.mk k n l).k=k:=rfl
theorem zZ {k n:Int}{l:List Val}:(Val.mk k n l).n=n:=rfl
theorem zM {k n:Int}{l:List Val}:(Val.mk k n l).kids=l:=rfl
def qH8:K:=G [kO 4 0,kO 5 1,kZ 8 [ki,ki,kl],kMi 9 0,kMi 10 0] (Z (G [J 19 4 2,J 20 5 5,kC 21 157 [(kt 19),(kt 20)],kR 22 21] (Y 22 (G [kb 23 [ki,ki,kl] [],M 24 3,S 8 23 3,M 9 24,kMi 10 1] kr) ks)) (G [M 25 3,kBi 26 25 1 .add,M 3 26] (Z (G [M 27 3,kBi 28 27 256 .gtr,M 29 28,T 29 false (M 30 2),T 29 false (kBi 31 30 24 .gtr),kPt 32 29 31] (Y 32 (G [kb 33 [ki,ki,kl] [],M 34 3,S 8 33 3,M 9 34,kMi 10 4] kr) ks)) (Z (G [D 35 5 0,L 36 35 1,kQi 37 36 0 false] (Y 37 (G [kb 38 [ki,ki,kl] [(0,1,(kc 0))],M 39 3,S 8 38 3,M 9 39,kMi 10 0] kr) ks)) (Z (G [D 40 5 0,L 41 40 1,kQi 42 41 1 false] (Y 42 (G [kb 43 [ki,ki,kl] [(0,1,(kc 1))],M 44 3,S 8 43 3,M 9 44,kMi 10 0] kr) ks)) (Z (G [D 45 5 0,L 46 45 1,kQi 47 46 2 false] (Y 47 (G [kb 48 [ki,ki,kl] [(0,1,(kc 4))],M 49 3,S 8 48 3,M 9 49,kMi 10 0] kr) ks)) (G [J 51 4 2,D 52 5 1,J 53 52 3,kC 54 26 [(kt 51),(kt 53)],M 50 54,kE 55 50 0,kE 56 50 1,kZ 11 kz0,S 11 55 31,M 12 56] (G [kb 57 [ki,ki,kl] [(0,1,(kc 2))],kZ 13 [ki,ki,kl],S 13 57 3] (G [D 58 11 8,L 59 58 1,kN 60 59,M 14 60] (Z (G [D 61 11 3,L 62 61 1,kQi 63 62 1 false] (Y 63 (G [D 64 13 0,⟨none,.st none (kt 64) (kc 3) 1⟩] (Z (G [M 65 14,kQi 66 65 0 false] (Y 66 (G [kb 67 [ki,ki,kl] [],M 68 3,S 8 67 3,M 9 68,kMi 10 1] kr) ks)) (K.ops [kMi 14 1]))) ks)) (Z (G [kMi 15 0] (K.block 0 (K.loop (Z (G [M 69 15,M 70 14,kB 71 69 70 .lss] (Y 71 ks (K.exit 0))) (Z (K.block 1 (Z (K.dops [(0,1,J 75 4 2),(1,1,D 76 11 8),(2,1,L 77 76 1),(3,0,M 78 15),(4,1,kX 79 77 78 11),(5,1,D 80 79 4),(6,1,J 81 80 5),(7,0,
 M 82 2),(8,0,kBi 83 82 1 .add),(9,0,M 84 3),(10,1,kC 85 142 [(kt 75),(kt 81),(kt 83),(kt 84)]),(11,0,M 74 85),(12,0,kE 86 74 0),(13,0,kE 87 74 1),(14,0,kE 88 74 2),(15,0,kZ 16 [ki,ki,kl]),(16,0,S 16 86 3),(17,0,M 17 87),(18,0,M 18 88)]) (Z (G [M 89 18,kQi 90 89 0 true] (Y 90 (G [kb 91 [ki,ki,kl] [],M 92 17,M 93 18,S 8 91 3,M 9 92,M 10 93] kr) ks)) (G [M 94 17,M 3 94] (K.ops [D 95 13 2,L 96 95 1,J 97 16 3,kd 98 47 3 1 [ki,ki,kl] [(0,3,(kt 97))],kP 99 47 3 40 96 98,D 100 13 2,S 100 99 1]))))) (K.ops [M 72 15,kBi 73 72 1 .add,M 15 73])))))) (G [J 101 13 3,M 102 3,S 8 101 3,M 9 102,kMi 10 0] kr))))))))))))
theorem qO4:zL prog Tryz.f142.ntmps (Tryz.f142.body.getD .skip)=some qH8.erase:=by kernel_rfl
@[simp] theorem qPM:zA prog 142=true:=by kernel_rfl
def qH9:K:=G [kO 2 0,kO 3 1,kZ 4 [ki,ki,kl],kMi 5 0] (G [J 10 2 2,J 11 3 5,kC 12 142 [(kt 10),(kt 11),(kc 1),(kc 0)],M 9 12,kE 13 9 0,kE 14 9 1,kE 15 9 2,kZ 6 [ki,ki,kl],S 6 13 3,M 7 14,M 8 15] (Z (G [M 16 8,kQi 17 16 0 true] (Y 17 (G [kb 18 [ki,ki,kl] [],M 19 8,S 4 18 3,M 5 19] kr) ks)) (G [J 20 6 3,S 4 20 3,kMi 5 0] kr)))
theorem qO5:zL prog Tryz.f123.ntmps (Tryz.f123.body.getD .skip)=some qH9.erase:=by kernel_rfl
@[simp] theorem qPN:zA prog 123=true:=by kernel_rfl
def Wz (p:Prg):Nat→Typ→Prop
 | 0,_=>False
 | f+1,t=>validT p t=true∧(t.k=0∨t.k=1∨t.k=2∨(t.k=3∧((dfn p t.id).kind=0∨(dfn p t.id).kind=1)∧1≤(dfn p t.id).slots.length∧(dfn p t.id).slots.length≤3∧∀s∈(dfn p t.id).slots,Wz p f s.typ))
def zAH (p:Prg):Nat→Typ→Val
 | 0,_=>.mk 0 0 []
 | f+1,t=>if t.k=0 then .mk 0 0 [] else if t.k=1 then .mk 1 0 [] else if t.k=2 then .mk 4 0 []
  else if (dfn p t.id).kind=1 then .mk 3 0 (((dfn p t.id).slots.map fun s=>zAH p f s.typ).take 1) else .mk 2 0 ((dfn p t.id).slots.map fun s=>zAH p f s.typ)
def zcN:Nat→Nat
 | 0=>0
 | f+1=>1+3*zcN f
theorem zGN {l:List Val}{c:Nat}(h:∀v∈l,qI v≤c):qY l≤l.length*c:=by
 induction l with
 | nil=>simp[qY]
 | cons v l ih =>
  have h1:=h v (jAn ..);have h2:=ih fun x hx=>h x (jAm _ hx)
  simp only[qY,jAd,jBk,Nat.one_mul];omega
theorem zGR (p:Prg):∀(f:Nat) (t:Typ),Wz p f t→qI (zAH p f t)≤zcN f
 | 0,t,h=>h.elim
 | f+1,t,h=>by
  unfold Wz at h;unfold zAH zcN;obtain⟨_,h⟩:=h;by_cases h0:t.k=0
  ·rw[if_pos h0]; simp[qI,qY]
  by_cases h1:t.k=1
  ·rw[if_neg h0,if_pos h1]; simp[qI,qY]
  by_cases h2:t.k=2
  ·rw[if_neg h0,if_neg h1,if_pos h2]; simp[qI,qY]
  rw[if_neg h0,if_neg h1,if_neg h2];obtain⟨_,_,_,g3,g4⟩:=h.resolve_left h0|>.resolve_left h1|>.resolve_left h2;have hm:∀v∈(dfn p t.id).slots.map fun s=>zAH p f s.typ,qI v≤zcN f:=fun v hv=>by obtain⟨s,hs,rfl⟩:=jAi.1 hv;exact zGR p f s.typ (g4 s hs)
  have hl:((dfn p t.id).slots.map fun s=>zAH p f s.typ).length≤3:=by simpa using g3
  generalize ((dfn p t.id).slots.map fun s=>zAH p f s.typ)=L at hm hl;split
  ·have:=zGN (l:=L.take 1) fun v hv=>hm v (jBa hv)
   have e:(L.take 1).length*zcN f≤3*zcN f:=jBl _ (by simp; omega);simp only[qI]; omega
  ·have:=zGN hm;have e:L.length*zcN f≤3*zcN f:=jBl _ hl;simp only[qI]; omega
theorem zTj (p:Prg)(hL:p.defs.length≤1000000):∀(f:Nat) (t:Typ) (d:Int) (u:Nat),Wz p f t→1≤d→d+f≤25→u+zcN f≤256 →
 Ret prog 142 [.agg (zS p),.agg (zB t),int d,int u] [] (.tup [.agg (zJ (zAH p f t)),int (u+qI (zAH p f t):Nat),int 0]) []
 | 0,t,d,u,h,_,_,_=>h.elim
 | f+1,t,d,u,h,hd,hdf,hu=>by
  have hz:=zGR p (f+1) t h;unfold Wz at h;obtain⟨hv,h⟩:=h;simp only[zcN]at hu hz;refine zK Tryz.func142 rfl qO4 (rs:=[.cell 8 3 true,.slot 9,.slot 10]) (by kernel_rfl) ?_;unfold qH8;have hwu:=zAk u (by omega);have hu1:¬(256:Int)<(u:Int)+1:=by omega
  have hd1:¬24<d:=by omega
  simp[zS,zB];refine zT (zPZ p hL t) (by simp[zS,zB]) (by simp) ?_;by_cases h0:t.k=0
  ·have e:zAH p (f+1) t=.mk 0 0 []:=by rw[zAH,if_pos h0]
   rw[e];simp[hv,hwu,hu1,hd1,h0];exact zC 0 (by simp[zJ,qG,zZ,zM,qI,qY])
  by_cases h1:t.k=1
  ·have e:zAH p (f+1) t=.mk 1 0 []:=by rw[zAH,if_neg h0,if_pos h1]
   rw[e];simp[hv,hwu,hu1,hd1,h1];exact zC 0 (by simp[zJ,qG,zZ,zM,qI,qY])
  by_cases h2:t.k=2
  ·have e:zAH p (f+1) t=.mk 4 0 []:=by rw[zAH,if_neg h0,if_neg h1,if_pos h2]
   rw[e];simp[hv,hwu,hu1,hd1,h2];exact zC 0 (by simp[zJ,qG,zZ,zM,qI,qY])
  obtain⟨_,gk,g1,g3,g4⟩:=h.resolve_left h0|>.resolve_left h1|>.resolve_left h2;simp[hv,hwu,hu1,hd1,h0,h1,h2];refine zT (zJp p hL t.id) (by simp[zS,jF]) (by simp[zBf]) ?_;have hD:(jO p.defs t.id).getD .zero=dfn p t.id:=rfl;have hzl:∀s∈(dfn p t.id).slots,qI (zAH p f s.typ)≤zcN f:=fun s hs=>zGR p f s.typ (g4 s hs)
  have hLl:((dfn p t.id).slots.map fun s=>zAH p f s.typ).length=(dfn p t.id).slots.length:=by simp
  have hLg:∀i (h:i<(dfn p t.id).slots.length),((dfn p t.id).slots.map fun s=>zAH p f s.typ)[i]?=some (zAH p f (dfn p t.id).slots[i].typ):=fun i h=>by simp[h]
  have e:∃(Q:Nat) (K:Int),zAH p (f+1) t=.mk K 0 (((dfn p t.id).slots.map fun s=>zAH p f s.typ).take Q)∧Q≤(dfn p t.id).slots.length∧(((dfn p t.id).kind=1∧Q=1∧K=3)∨((dfn p t.id).kind=0∧Q=(dfn p t.id).slots.length∧K=2)):=by
   rcases gk with gk | gk
   ·exact⟨_,2,by rw[zAH,if_neg h0,if_neg h1,if_neg h2,if_neg (by omega),jAk (by simp)],jA _,.inr ⟨gk,rfl,rfl⟩⟩
   ·exact⟨1,3,by rw[zAH,if_neg h0,if_neg h1,if_neg h2,if_pos gk],g1,.inl ⟨gk,rfl,rfl⟩⟩
  obtain⟨Q,K,e,hQ,hQK⟩:=e;rw[e]at hz ⊢;clear e gk;generalize ((dfn p t.id).slots.map fun s=>zAH p f s.typ)=L at hLl hLg hz;generalize dfn p t.id=D at hD g1 g3 g4 hzl hLl hLg hQ hQK;have hs0:∀i,i≤D.slots.length→qY (L.take i)≤i*zcN f:=fun i hi=>by
   have:=zGN (l:=L.take i) (c:=zcN f) fun v hv=>by obtain⟨j,hj,rfl⟩:=List.mem_iff_getElem.1 (jBa hv);have:=hLg j (by omega);rw[jA2 hj]at this;rw[jB4 this];exact hzl _ (jA0 _)
   simpa [jB9 (show i≤L.length by omega)] using this
  rcases hQK with ⟨hk,hQ1,hK⟩ | ⟨hk,hQ1,hK⟩
  case' inl =>
   have hn0:¬D.slots=[]:=fun e=>by rw[e]at g1; simp at g1
   simp[zBf,hD,zO,hk,hn0];intro _
  case' inr =>
   simp[zBf,hD,zO,hk];intro _
  all_goals
   refine qW (S:=Nat) (fun i=>[(2,int d),(3,int ((u+1+qY (L.take i):Nat):Int)),(4,.ptr 0 0),(8,.ptr 2 0),(11,.ptr 3 0),(13,.ptr 4 0),(14,int Q),(15,int i)])
    (fun i=>[.box (zS p),.box (zB t),.box [int 0,int 0,.nil],.box (zO D),.box [int K,int 0,.row 5 i],.row false 47 3 i (zV (L.take i))]) (fun i=>i≤Q) (fun i=>Q-i) 0 (by simp)
    ((zAv (l:=4) (o:=2) rfl rfl 47 3).trans (zR [0,1,2,3,4,5] 0 (by simp) (by simp) (by simp[zS,zB,zO,hk,hK]) (by simp[qY,hQ1]))) ?_
   intro i hi;by_cases hiQ:i<Q
   ·have hiD:i<D.slots.length:=by omega
    have hiL:i<L.length:=by omega
    have hLi:=hLg i hiD;rw[jA2 hiL]at hLi;have hLi:=jB4 hLi;have htL:zV (L.take (i+1))=zV (L.take i)++zJ (zAH p f D.slots[i].typ):=by rw[jA9 hiL,hLi]; simp[zJ]
    have hsz:=zGp hiL;rw[hLi]at hsz;have b1:=hs0 i (by omega);have b2:i*zcN f≤2*zcN f:=jBl _ (by omega);have hwd:=qF (d+1) (by omega);have hwi:=zAk i (by omega);simp[hiQ,hiD,jU hiD,zS,zO,zAu,hwd];refine zAw (zTj p hL f D.slots[i].typ (d+1) (u+1+qY (L.take i)) (g4 _ (jA0 hiD)) (by omega) (by omega) (by omega)) (by simp[zS,zB]) (by simp[zJ]) ?_;simp[zIW,zJ];refine⟨⟨by simp[maxLen]; omega,by omega⟩,?_⟩;exact zU (i+1) hiQ (by omega) (zR [0,1,2,3,4,5] 0 (by simp) (by simp) (by simp[zS,zB,zO,htL,zJ]) (by simp[hwi,hsz]; omega))
   ·have hiQ:i=Q:=by omega
    subst hiQ;have hlt:(L.take i).length=i:=by simp; omega
    simp;exact zC 1 (by simp[zJ,hlt,qG,zZ,zM,qI,jBe]; omega)
theorem qEM {f:Nat}(h:f≤5):zcN f≤121:=by
 have:f=0∨f=1∨f=2∨f=3∨f=4∨f=5:=by omega
 rcases this with rfl | rfl | rfl | rfl | rfl | rfl<;>decide
theorem zQ7 (p:Prg)(hL:p.defs.length≤1000000)(f:Nat)(hf:f≤5)(t:Typ)(h:Wz p f t):Ret prog 123 [.agg (zS p),.agg (zB t)] [] (.tup [.agg (zJ (zAH p f t)),int 0]) []:=by refine zK Tryz.func123 rfl qO5 (rs:=[.cell 4 3 true,.slot 5]) (by kernel_rfl) ?_;unfold qH9;have hz:=qEM hf;simp[zS,zB];refine zT (zTj p hL f t 1 0 h (by omega) (by omega) (by omega)) (by simp[zS,zB]) (by simp[zJ]) ?_;simp[zJ];exact zC 0 (by simp)
def qHq:K:=G [kO 6 1,kZ 10 kz1] (Z (G [kMi 11 0] (K.block 0 (K.loop (Z (G [M 16 11,M 17 0,kU 18 17,D 19 18 0,D 20 19 1,L 21 20 1,kN 22 21,kB 23 16 22 .lss] (Y 23 ks (K.exit 0))) (Z (K.block 1 (G [M 26 3,M 27 11,kB 28 26 27 .add,M 29 0,kU 30 29,D 31 30 0,D 32 31 1,L 33 32 1,kN 34 33,kB 35 28 34 .rem,M 12 35] (G [M 36 0,kU 37 36,D 38 37 0,D 39 38 1,L 40 39 1,M 41 12,kX 42 40 41 31,J 43 42 31,kZ 13 kz0,S 13 43 31] (G [kMi 14 0] (K.block 2 (K.loop (Z (G [M 44 14,D 45 13 8,L 46 45 1,kN 47 46,kB 48 44 47 .lss,M 49 48,T 49 true (D 50 13 3),T 49 true (L 51 50 1),T 49 true (kQi 52 51 0 false),kPf 53 49 52,M 54 53,T 54 true (M 55 0),T 54 true (M 56 12),T 54 true (kC 57 119 [(kt 55),(kt 56)]),kPf 58 54 57] (Y 58 ks (K.exit 2))) (Z (K.block 3 (Z (K.dops [(0,0,D 61 13 8),(1,0,L 62 61 1),(2,0,M 63 14),(3,0,kX 64 62 63 11),(4,0,D 65 64 4),(5,0,J 66 65 5),(6,0,J 67 6 5),(7,0,kC 68 109 [(kt 66),(kt 67)])]) (Y 68 (G [M 69 0,M 70 14,M 71 0,D 72 13 0,J 73 72 3,kC 74 72 [(kt 73)],M 75 2,M 76 4,kBi 77 76 1 .sub,kC 78 34 [(kt 71),(kt 74),(kt 75),(kt 77)],kd 79 37 15 1 kz1 [(0,15,(kt 78))],kC 80 80 [(kt 69),(kc 8),(kt 70),(kt 79)],kZ 15 kz1,S 15 80 15] (G [D 81 13 0,J 82 81 3,D 83 15 5,S 83 82 3] (G [J 84 15 15,S 10 84 15] kr))) ks))) (K.ops [M 59 14,kBi 60 59 1 .add,M 14 60]))))))))) (K.ops [M 24 11,kBi 25 24 1 .add,M 11 25])))))) (G [M 85 0,J 86 6 5,M 87 2,M 88 3,M 89 4,kC 90 86 [(kt 85),(kt 86),(kt 87),(kt 88),(kt 89)],S 10 90 15] kr))
theorem qOm:zL prog Tryz.f84.ntmps (Tryz.f84.body.getD .skip)=some qHq.erase:=by kernel_rfl
@[simp] theorem qPq:zA prog 84=true:=by kernel_rfl
abbrev zWB:FuncId:=84
theorem zSE {p:Nat→Bool}:∀{n:Nat},(∃i,i<n∧p i=true)→∃i,i<n∧p i=true∧∀j<i,p j=false
 | 0,⟨i,hi,_⟩=>by omega
 | n+1,⟨i,hi,hp⟩=>by
  by_cases h:∃i,i<n∧p i=true
  ·obtain⟨j,h1,h2,h3⟩:=zSE h;exact⟨j,by omega,h2,h3⟩
  ·have hin:i=n:=by
    by_cases e:i=n
    ·exact e
    ·exact(h ⟨i,by omega,hp⟩).elim
   subst hin;refine⟨i,by omega,hp,fun j hj=>?_⟩;cases hpj:p j
   ·rfl
   ·exact(h ⟨j,hj,hpj⟩).elim
def zWG (m:Mk)(t:Typ)(k:Nat):Bool:=match m.defs[k]? with
 | some d=>decide (d.kind=0)&&(zHC m k&&d.slots.any fun s=>yT s.typ t)
 | none=>false
theorem zWC {hs:List Hd}{R:Nat}{m:Mk}{env:List Bnd}{c depth:Int}{len:Nat}(hc:0≤c)(hl:Lim m (7*c+7))(x:Nat)(hx1:x≤65536)(hk:zB1 hs R c (depth-1) (fun r=>r≤R) len)
 (hx:Cx hs R m)(he:EnvOk hs R m.temp env)(h1:0<env.length)(h2:env.length≤len)(h3:env.length≤1000)(hd1 : -1000≤depth)(hd2:depth≤1000)(t:Typ)(ht:TyOk hs R t)
 (hop:zAP hs m.own opF m [.ptr 0 0,.agg (zB t),.sl env.length (zQ env),int x,int depth] env t (7*c+7)) :
 zAP hs m.own zWB m [.ptr 0 0,.agg (zB t),.sl env.length (zQ env),int x,int depth] env t (7*c+7):=by
 have hdl:=hx.dlen;have hd100:=hx.len;have hd0:=hx.len0;have hN:0<m.defs.length:=by omega
 have wd:=qF (depth-1) (by omega);obtain⟨i0,e,m',hi0,hlow,hfull,hhit,hA,hW,hS,hZ⟩:∃(i0:Nat) (e:Exp) (m':Mk),i0≤m.defs.length∧(∀i<i0,zWG m t ((x+i) % m.defs.length)=false) ∧
  (i0=m.defs.length→Ret prog opF [.ptr 0 0,.agg (zB t),.sl env.length (zQ env),int x,int depth] (mkS m) (.agg (zF e)) (mkS m')) ∧
  (∀(hlt:i0<m.defs.length) (D:Dfn),m.defs[(x+i0) % m.defs.length]?=some D→D.kind=0∧zHC m ((x+i0) % m.defs.length)=true∧∃(j0:Nat) (hj0:j0<D.slots.length) (a:Exp) (m1:Mk),yT D.slots[j0].typ t=true∧(∀(j:Nat) (hj:j<j0),yT D.slots[j].typ t=false) ∧
   Ret prog zAg [.ptr 0 0,.agg (zB (zBA D.id)),.sl env.length (zQ env),int (depth-1)] (mkS m) (.agg (zF a)) (mkS m1)∧Lim m1 1 ∧
   e=.mk ⟨0,0,m1.temp⟩ 8 j0 D.id Typ.zero [a] []∧m'={m1 with temp:=m1.temp+1,left:=m1.left-1}) ∧
  Adv m m' (7*c+7)∧WT hs m.own env e t∧Seg m.temp m'.temp (tmps e)∧e.num0:=by
  by_cases hex:∃i,i<m.defs.length∧zWG m t ((x+i) % m.defs.length)=true
  ·obtain⟨i0,hi0,hp,hlow⟩:=zSE hex;have hkm:=Nat.mod_lt (x+i0) hN;generalize hkk:(x+i0) % m.defs.length=k at hkm hp;have hks:k<hs.length:=by omega
   have hget:=hx.get hkm;unfold zWG at hp;rw[jA2 hkm]at hp;simp only[jA6,decide_eq_true_eq]at hp;generalize hD:m.defs[k]=D at hget hp;obtain⟨hkind,hvis,hany⟩:=hp;have eid:hs[k].id=D.id:=by rw[hget]; rfl
   have eslots:hs[k].slots=D.slots:=by rw[hget]; rfl
   have ekind:hs[k].kind=0:=by rw[hget]; exact hkind
   obtain⟨j0,hj0,hpj,hlj⟩:=zSE (p:=fun j=>match D.slots[j]? with | some s=>yT s.typ t | none=>false) (n:=D.slots.length) (by
    rw[List.any_eq_true]at hany;obtain⟨s,hs1,hs2⟩:=hany;obtain⟨j,hj,rfl⟩:=jAh hs1;exact⟨j,hj,by simp only[jA2 hj]; exact hs2⟩)
   simp only[jA2 hj0]at hpj;obtain⟨a,m1,g1,g2,g3,g4,g5⟩:=hk m R (zBA hs[k].id) env hx (hl.mono (by omega)) (hx.typs k hks (.inl ekind)) (jA _) he h1 h2;refine⟨i0,.mk ⟨0,0,m1.temp⟩ 8 j0 D.id Typ.zero [a] [],{m1 with temp:=m1.temp+1,left:=m1.left-1},by omega,hlow,fun h=>by omega,fun hlt D' hD'=>?_,(g2.trans (zAd _)).mono (by omega),?_,zOz g4 g2.temp1,zL0 g5⟩
   ·rw[hkk,jA2 hkm,hD]at hD';injection hD' with hD'
    subst hD';rw[hkk];refine⟨hkind,hvis,j0,hj0,a,m1,hpj,fun j hj=>?_,by rw[←eid]; exact g1,Lim.adv (c:=c) (hl.mono (by omega)) g2,rfl,rfl⟩;have:=hlj j hj;simp only[jA2 (show j<D.slots.length by omega)]at this;exact this
   ·have hjs:j0<hs[k].slots.length:=by rw[eslots]; exact hj0
    have:=WT.field (own:=m.own) env ⟨0,0,m1.temp⟩ k hks j0 hjs a ekind g3;rw[eid]at this;have e2:hs[k].slots[j0].typ=t:=by rw[←(zEH _ _).1 hpj];simp only[eslots]
    rw[e2]at this;exact this
  ·obtain⟨e,m',g1,g2,g3,g4,g5⟩:=hop;refine⟨m.defs.length,e,m',jA _,fun i hi=>?_,fun _=>g1,fun h=>by omega,g2,g3,g4,g5⟩;cases hp:zWG m t ((x+i) % m.defs.length)
   ·rfl
   ·exact(hex ⟨i,hi,hp⟩).elim
 refine⟨e,m',?_,hA,hW,hS,hZ⟩;refine zI Tryz.func84 rfl qOm (rs:=[.cell 10 15 true]) (by kernel_rfl) ?_;unfold qHq;simp[mkS,mkB,zB];refine qW (S:=Nat) (fun i=>[(0,.ptr 0 0),(2,.sl env.length (zQ env)),(3,int x),(4,int depth),(6,.ptr 2 0),(10,.ptr 3 0),(11,int i)])
  (fun _=>mkS m++[.box (zB t),.box (zF Exp.zero)]) (fun i=>i≤i0) (fun i=>i0-i) 0 (by simp)
  (zR [0,1,2,3] 0 (by decide) (by simp) (by simp[mkS,mkB,zB,zF,Exp.zero,Id.zero,Typ.zero]) (by simp)) ?_
 intro i hi;by_cases h:i<m.defs.length
 ·have hkm:=Nat.mod_lt (x+i) hN;have w1:=qF ((x:Int)+i) (by omega);have w2:=zAk i (by omega);have e1:Int.tmod ((x:Int)+i) (m.defs.length:Int)=(((x+i) % m.defs.length:Nat):Int):=by rw[tmN (by omega)]; simp
  have hnil:m.defs≠[]:=fun e=>by rw[e]at hN; simp at hN
  have hne:¬((m.defs.length:Int)=0):=by omega
  have hlow':=fun hlt:i<i0=>hlow i hlt
  have hhit':i=i0→_:=fun e=>hhit (by omega) m.defs[(x+i) % m.defs.length] (by rw[←e,jA2 hkm])
  unfold zWG at hlow';rw[jA2 hkm]at hlow';have hsl:m.defs[(x+i) % m.defs.length].slots.length≤6:=by have:=(hx.slots ((x+i) % m.defs.length) (by omega)).1;rw[hx.get hkm]at this;exact this
  generalize hkk:(x+i) % m.defs.length=k at hkm e1 hlow' hhit' hsl;generalize hD:m.defs[k]=D at hlow' hhit' hsl;have hdr:=yI hkm;rw[hD]at hdr;have hb31:k*31+31≤m.defs.length*31:=by omega
  simp[mkS,mkB,h,w1,e1,hne,hkm,hdr,hb31,zO,hnil];by_cases hlt:i<i0
  ·have hno:=hlow' hlt;refine qW (S:=Nat) (fun j=>[(0,.ptr 0 0),(2,.sl env.length (zQ env)),(3,int x),(4,int depth),(6,.ptr 2 0),(10,.ptr 3 0),(11,int i),(12,int k),(13,.ptr 4 0),(14,int j)])
    (fun _=>mkS m++[.box (zB t),.box (zF Exp.zero),.box (zO D)]) (fun j=>j≤D.slots.length) (fun j=>D.slots.length-j) 0 (by simp)
    (zR [0,1,2,3,4] 0 (by decide) (by simp) (by simp[mkS,mkB,zB,zF,Exp.zero,Id.zero,Typ.zero,zO]) (by simp)) ?_
   intro j hj;by_cases hjl:j<D.slots.length
   ·have hdS:List.drop (j*11+4) (yE D.slots)=(zAu D.slots[j]++yE (D.slots.drop (j+1))).drop 4:=by rw[←jAs,jU hjl]
    have hbS:j*11+4+5≤D.slots.length*11:=by omega
    by_cases hkd:D.kind=0
    ·simp[mkS,mkB,zO,zB,hjl,hkd];intro _;refine zN (zMi m k hkm hx.mods) [0,1] (by decide) (by simp[mkS,mkB]) (by simp) ?_;cases hv:zHC m k
     ·simp[mkS,mkB];exact zU (i+1) (by omega) (by omega) (zR [0,1,2,3] 0 (by decide) (by simp) (by simp[mkS,mkB,zB,zF,Exp.zero,Id.zero,Typ.zero]) (by simp[w2]))
     ·have hsf:yT D.slots[j].typ t=false:=by
       simp only[hkd,hv,decide_true,jCn]at hno;rw[jDh]at hno
       simpa using hno D.slots[j] (jA0 hjl)
      have hw:=zAk j (by omega);simp[mkS,mkB,zO,zB,hjl,hdS,hbS,zAu];refine qK (zDG D.slots[j].typ t) (by simp[zB]) (by simp) ?_;rw[hsf];simp[mkS,mkB];exact zU (j+1) hjl (by omega) (zR [0,1,2,3,4] 0 (by decide) (by simp) (by simp[mkS,mkB,zB,zF,Exp.zero,Id.zero,Typ.zero,zO,hkd]) (by simp[hw]))
    ·simp[mkS,mkB,zO,zB,hjl,hkd];intro _;exact zU (i+1) (by omega) (by omega) (zR [0,1,2,3] 0 (by decide) (by simp) (by simp[mkS,mkB,zB,zF,Exp.zero,Id.zero,Typ.zero]) (by simp[w2]))
   ·simp[mkS,mkB,zO,zB,hjl];intro _;exact zU (i+1) (by omega) (by omega) (zR [0,1,2,3] 0 (by decide) (by simp) (by simp[mkS,mkB,zB,zF,Exp.zero,Id.zero,Typ.zero]) (by simp[w2]))
  ·have hie:i=i0:=by omega
   subst hie;obtain⟨hkd,hv,j0,hj0,a,m1,hj1,hj2,g1,hln,he1,he2⟩:=hhit' rfl;rw[hkk]at hv;obtain⟨l1,l2,l3,l4,l5,l6,l7,l8⟩:=hln;subst he1 he2;refine qW (S:=Nat) (fun j=>[(0,.ptr 0 0),(2,.sl env.length (zQ env)),(3,int x),(4,int depth),(6,.ptr 2 0),(10,.ptr 3 0),(11,int i),(12,int k),(13,.ptr 4 0),(14,int j)])
    (fun _=>mkS m++[.box (zB t),.box (zF Exp.zero),.box (zO D)]) (fun j=>j≤j0) (fun j=>j0-j) 0 (by simp)
    (zR [0,1,2,3,4] 0 (by decide) (by simp) (by simp[mkS,mkB,zB,zF,Exp.zero,Id.zero,Typ.zero,zO]) (by simp)) ?_
   intro j hj;have hjl:j<D.slots.length:=by omega
   have hdS:List.drop (j*11+4) (yE D.slots)=(zAu D.slots[j]++yE (D.slots.drop (j+1))).drop 4:=by rw[←jAs,jU hjl]
   have hbS:j*11+4+5≤D.slots.length*11:=by omega
   have hw:=zAk j (by omega);simp[mkS,mkB,zO,zB,hjl,hkd];intro _;refine zN (zMi m k hkm hx.mods) [0,1] (by decide) (by simp[mkS,mkB]) (by simp) ?_;rw[hv];simp[mkS,mkB,zO,zB,hjl,hdS,hbS,zAu];refine qK (zDG D.slots[j].typ t) (by simp[zB]) (by simp) ?_;by_cases hjj:j<j0
   ·rw[hj2 j hjj];simp[mkS,mkB];exact zU (j+1) hjj (by omega) (zR [0,1,2,3,4] 0 (by decide) (by simp) (by simp[mkS,mkB,zB,zF,Exp.zero,Id.zero,Typ.zero,zO,hkd]) (by simp[hw]))
   ·have hje:j=j0:=by omega
    subst hje;rw[hj1];simp[mkS,mkB];refine zT (zNy D.id) (by simp[jF]) (by simp) ?_;simp[mkS,mkB,wd];refine zN g1 [0,1] (by decide) (by simp[mkS,mkB]) (by simp[zB,zBA]) ?_;simp[mkS,mkB];refine zN (yQ m1 8 j [a] l3 (by omega) (by omega) l6) [0,1] (by decide) (by simp[mkS,mkB]) (by simp[zH]) ?_;simp[mkS,mkB,zF];exact zG [0,1] 0 (by decide) (by simp) (by simp) (by simp[zF,zH])
 ·have hii:i=m.defs.length:=by omega
  have hi0':i0=m.defs.length:=by omega
  subst hii;simp[mkS,mkB,zB];refine zN (hfull hi0') [0,1] (by decide) (by simp[mkS,mkB]) (by simp[zB]) ?_;simp[mkS,mkB];exact zG [0,1] 0 (by decide) (by simp) (by simp) (by simp[zF])
def qH4:K:=G [kO 5 0,kO 6 1,kZ 10 [ki,ki,kl],kMi 11 0] (G [M 25 2,M 26 3,kC 27 31 [(kt 25),(kt 26),(kc 1048576)],M 12 27] (G [M 28 3,kBi 29 28 1 .add,M 3 29] (Z (G [D 30 6 0,L 31 30 1,kQi 32 31 0 false] (Y 32 (Z (G [M 33 12,kBi 34 33 16 .rem,kQi 35 34 0 false] (Y 35 (G [M 36 12,kBi 37 36 16 .quo,kBi 38 37 3 .rem,⟨none,.bin (some 39) .sub (kc 1099511627776) (kt 38)⟩,kb 40 [ki,ki,kl] [(0,1,(kc 0)),(1,1,(kt 39))],M 41 3,S 10 40 3,M 11 41] kr) ks)) (Z (G [M 42 12,kBi 43 42 16 .rem,kQi 44 43 1 false] (Y 44 (G [M 45 12,kBi 46 45 16 .quo,kBi 47 46 3 .rem,⟨none,.bin (some 48) .add (kc (-1099511627776)) (kt 47)⟩,kb 49 [ki,ki,kl] [(0,1,(kc 0)),(1,1,(kt 48))],M 50 3,S 10 49 3,M 11 50] kr) ks)) (G [M 51 12,kBi 52 51 16 .quo,kBi 53 52 9 .rem,kBi 54 53 4 .sub,kb 55 [ki,ki,kl] [(0,1,(kc 0)),(1,1,(kt 54))],M 56 3,S 10 55 3,M 11 56] kr))) ks)) (Z (G [D 57 6 0,L 58 57 1,kQi 59 58 1 false] (Y 59 (G [M 60 12,kBi 61 60 2 .rem,kb 62 [ki,ki,kl] [(0,1,(kc 1)),(1,1,(kt 61))],M 63 3,S 10 62 3,M 11 63] kr) ks)) (G [kb 64 [ki,ki,kl] [(0,1,(kc 4))],kZ 13 [ki,ki,kl],S 13 64 3] (Z (G [D 65 6 0,L 66 65 1,kQi 67 66 2 false] (Y 67 (G [M 68 12,kBi 69 68 3 .rem,M 14 69] (Z (G [M 70 4,kBi 71 70 3 .gtr] (Y 71 (K.ops [kMi 14 0]) ks)) (Z (G [kMi 15 0] (K.block 0 (K.loop (Z (G [M 72 15,M 73 14,kB 74 72 73 .lss] (Y 74 ks (K.exit 0))) (Z (K.block 1 (Z (K.dops [(0,1,J 78 5 2),(1,1,D 79 6 4),(2,1,L 80 79 1),(3,1,kXi 81 80 5 0),(4,1,J 82 81 5),(5,0,M 83 2),(6,0,M 84 3),(7,0,
 M 85 4),(8,0,kBi 86 85 1 .add),(9,1,kC 87 120 [(kt 78),(kt 82),(kt 83),(kt 84),(kt 86)]),(10,0,M 77 87),(11,0,kE 88 77 0),(12,0,kE 89 77 1),(13,0,kZ 16 [ki,ki,kl]),(14,0,S 16 88 3),(15,0,M 17 89)]) (G [M 90 17,M 3 90] (K.ops [D 91 13 2,L 92 91 1,J 93 16 3,kd 94 47 3 1 [ki,ki,kl] [(0,3,(kt 93))],kP 95 47 3 40 92 94,D 96 13 2,S 96 95 1])))) (K.ops [M 75 15,kBi 76 75 1 .add,M 15 76])))))) (G [J 97 13 3,M 98 3,S 10 97 3,M 11 98] kr)))) ks)) (G [J 100 5 2,D 101 6 1,J 102 101 3,kC 103 26 [(kt 100),(kt 102)],M 99 103,kE 104 99 0,kE 105 99 1,kZ 18 kz0,S 18 104 31,M 19 105] (Z (G [D 106 18 3,L 107 106 1,kQi 108 107 1 false] (Y 108 (G [D 109 13 0,⟨none,.st none (kt 109) (kc 3) 1⟩] (G [M 110 12,D 111 18 8,L 112 111 1,kN 113 112,kB 114 110 113 .rem,D 115 13 1,S 115 114 1] (Z (K.dops [(0,1,J 117 5 2),(1,1,D 118 18 8),(2,1,L 119 118 1),(3,1,D 120 13 1),(4,1,L 121 120 1),(5,1,kX 122 119 121 11),(6,1,D 123 122 4),(7,1,J 124 123 5),(8,0,M 125 2),(9,0,M 126 3),(10,0,M 127 4),(11,0,kBi 128 127 1 .add),(12,1,kC 129 120 [(kt 117),(kt 124),(kt 125),(kt 126),(kt 128)]),(13,0,M 116 129),(14,0,kE 130 116 0),(15,0,kE 131 116 1),(16,0,kZ 20 [ki,ki,kl]),(17,0,S 20 130 3),(18,0,M 21 131)]) (G [J 132 20 3,kd 133 47 3 1 [ki,ki,kl] [(0,3,(kt 132))],D 134 13 2,S 134 133 1] (G [J 135 13 3,M 136 21,S 10 135 3,M 11 136] kr))))) ks)) (G [D 137 13 0,⟨none,.st none (kt 137) (kc 2) 1⟩] (Z (G [kMi 22 0] (K.block 2 (K.loop (Z (G [M 138 22,D 139 18 8,
 L 140 139 1,kN 141 140,kB 142 138 141 .lss] (Y 142 ks (K.exit 2))) (Z (K.block 3 (Z (K.dops [(0,1,J 146 5 2),(1,1,D 147 18 8),(2,1,L 148 147 1),(3,0,M 149 22),(4,1,kX 150 148 149 11),(5,1,D 151 150 4),(6,1,J 152 151 5),(7,0,M 153 2),(8,0,M 154 3),(9,0,M 155 4),(10,0,kBi 156 155 1 .add),(11,1,kC 157 120 [(kt 146),(kt 152),(kt 153),(kt 154),(kt 156)]),(12,0,M 145 157),(13,0,kE 158 145 0),(14,0,kE 159 145 1),(15,0,kZ 23 [ki,ki,kl]),(16,0,S 23 158 3),(17,0,M 24 159)]) (G [M 160 24,M 3 160] (K.ops [D 161 13 2,L 162 161 1,J 163 23 3,kd 164 47 3 1 [ki,ki,kl] [(0,3,(kt 163))],kP 165 47 3 40 162 164,D 166 13 2,S 166 165 1])))) (K.ops [M 143 22,kBi 144 143 1 .add,M 22 144])))))) (G [J 167 13 3,M 168 3,S 10 167 3,M 11 168] kr)))))))))))
theorem qO0:zL prog Tryz.f120.ntmps (Tryz.f120.body.getD .skip)=some qH4.erase:=by kernel_rfl
@[simp] theorem qPA:zA prog 120=true:=by kernel_rfl
def qH6:K:=G [kO 3 0,kO 4 1,kZ 6 [ki,ki,kl]] (G [J 10 3 2,J 11 4 5,M 12 2,kC 13 120 [(kt 10),(kt 11),(kt 12),(kc 0),(kc 1)],M 9 13,kE 14 9 0,kE 15 9 1,kZ 7 [ki,ki,kl],S 7 14 3,M 8 15] (Z (G [J 16 7 3,kC 17 121 [(kt 16)],kBi 18 17 256 .gtr,M 19 18,T 19 false (J 20 7 3),T 19 false (kC 21 122 [(kt 20)]),T 19 false (kBi 22 21 24 .gtr),kPt 23 19 22] (Y 23 (K.ops [J 25 3 2,J 26 4 5,kC 27 123 [(kt 25),(kt 26)],M 24 27,kE 28 24 0,kE 29 24 1,S 7 28 3]) ks)) (G [J 30 7 3,S 6 30 3] kr)))
theorem qO2:zL prog Tryz.f87.ntmps (Tryz.f87.body.getD .skip)=some qH6.erase:=by kernel_rfl
@[simp] theorem qPI:zA prog 87=true:=by kernel_rfl
def Wf (p:Prg):Nat→Typ→Prop
 | 0,_=>False
 | f+1,t=>validT p t=true∧(t.k=0∨t.k=1∨(t.k=2∧∃x,t.kids=[x]∧Wf p f x)∨(t.k=3∧((dfn p t.id).kind=0∨(dfn p t.id).kind=1)∧1≤(dfn p t.id).slots.length∧(dfn p t.id).slots.length≤3∧∀s∈(dfn p t.id).slots,Wf p f s.typ))
def zBl (g:Typ→Int→Val×Int):List Typ→Int→List Val×Int
 | [],a=>([],a)
 | t::l,a=>((g t a).1::(zBl g l (g t a).2).1,(zBl g l (g t a).2).2)
theorem zJt (g:Typ→Int→Val×Int):∀(l:List Typ) (t:Typ) (a:Int),zBl g (l++[t]) a=((zBl g l a).1++[(g t (zBl g l a).2).1],(g t (zBl g l a).2).2)
 | [],t,a=>rfl
 | x::l,t,a=>by simp only[jBi,zBl,zJt g l t]
theorem zLJ (g:Typ→Int→Val×Int):∀(l:List Typ) (a:Int),(zBl g l a).1.length=l.length
 | [],a=>rfl
 | x::l,a=>by simp only[zBl,jAd,zLJ g l]
def zXh (x:Int):Int:=if x.tmod 16=0 then w64 (1099511627776-(x.tdiv 16).tmod 3) else if x.tmod 16=1 then w64 (-1099511627776+(x.tdiv 16).tmod 3) else w64 ((x.tdiv 16).tmod 9-4)
def yN (p:Prg)(l:List Int):Nat→Typ→Int→Int→Val×Int
 | 0,_,a,_=>(.mk 0 0 [],a)
 | f+1,t,a,d =>
  if t.k=0 then (.mk 0 (zXh (atV l a 1048576)) [],w64 (a+1)) else if t.k=1 then (.mk 1 ((atV l a 1048576).tmod 2) [],w64 (a+1)) else
  if t.k=2 then (.mk 4 0 (zBl (fun t b=>yN p l f t b (w64 (d+1))) (List.replicate (if 3<d then 0 else ((atV l a 1048576).tmod 3).toNat) (t.kids.headD Typ.zero)) (w64 (a+1))).1,
   (zBl (fun t b=>yN p l f t b (w64 (d+1))) (List.replicate (if 3<d then 0 else ((atV l a 1048576).tmod 3).toNat) (t.kids.headD Typ.zero)) (w64 (a+1))).2)
  else if (dfn p t.id).kind=1 then
   (.mk 3 ((atV l a 1048576).tmod (dfn p t.id).slots.length) [(yN p l f ((((dfn p t.id).slots.map Slt.typ).getD ((atV l a 1048576).tmod (dfn p t.id).slots.length).toNat Typ.zero)) (w64 (a+1)) (w64 (d+1))).1],
    (yN p l f ((((dfn p t.id).slots.map Slt.typ).getD ((atV l a 1048576).tmod (dfn p t.id).slots.length).toNat Typ.zero)) (w64 (a+1)) (w64 (d+1))).2)
  else (.mk 2 0 (zBl (fun t b=>yN p l f t b (w64 (d+1))) ((dfn p t.id).slots.map Slt.typ) (w64 (a+1))).1,(zBl (fun t b=>yN p l f t b (w64 (d+1))) ((dfn p t.id).slots.map Slt.typ) (w64 (a+1))).2)
theorem zKt (p:Prg)(hL:p.defs.length≤1000000)(l:List Int)(hl:∀x∈l,w64 x=x):∀(f:Nat) (t:Typ) (a d:Int),Wf p f t →
 Ret prog 120 [.agg (zS p),.agg (zB t),.sl l.length (yH l),int a,int d] [] (.tup [.agg (zJ (yN p l f t a d).1),int (yN p l f t a d).2]) []
 | 0,t,a,d,h=>h.elim
 | f+1,t,a,d,h=>by
  unfold Wf at h;obtain⟨hv,h⟩:=h;refine zK Tryz.func120 rfl qO0 (rs:=[.cell 10 3 true,.slot 11]) (by kernel_rfl) ?_;unfold qH4;have hx:=yM (i:=a) hl (show (0:Int)<1048576 by omega);simp[zS,zB];refine zT (zB2 l a 1048576 (by decide)) (by simp) (by simp) ?_;by_cases h0:t.k=0
  ·have e:yN p l (f+1) t a d=(.mk 0 (zXh (atV l a 1048576)) [],w64 (a+1)):=by rw[yN,if_pos h0]
   rw[e];generalize atV l a 1048576=x at hx;have hw16:IntKind.i64.wrap (x.tdiv 16)=x.tdiv 16:=by rw[Int.tdiv_eq_ediv_of_nonneg hx.1]; exact IntWalk.i64_in _ (by omega)
   by_cases h16:x.tmod 16=0
   ·simp[h0,h16,hw16];exact zC 0 (by simp[zJ,qG,zZ,zM,zXh,h16,w64])
   by_cases h17:x.tmod 16=1
   ·simp[h0,h17,hw16];exact zC 0 (by simp[zJ,qG,zZ,zM,zXh,h17,w64])
   ·simp[h0,h16,h17,hw16];exact zC 0 (by simp[zJ,qG,zZ,zM,zXh,h16,h17,w64])
  by_cases h1:t.k=1
  ·have e:yN p l (f+1) t a d=(.mk 1 ((atV l a 1048576).tmod 2) [],w64 (a+1)):=by rw[yN,if_neg h0,if_pos h1]
   rw[e];generalize atV l a 1048576=x at hx;simp[h1];exact zC 0 (by simp[zJ,qG,zZ,zM,w64])
  by_cases h2:t.k=2
  ·obtain⟨_,y,hy,hwf⟩:=h.resolve_left h0|>.resolve_left h1|>.resolve_right (fun e=>by omega);have e:yN p l (f+1) t a d=(.mk 4 0 (zBl (fun t b=>yN p l f t b (w64 (d+1))) (List.replicate (if 3<d then 0 else ((atV l a 1048576).tmod 3).toNat) y) (w64 (a+1))).1,
    (zBl (fun t b=>yN p l f t b (w64 (d+1))) (List.replicate (if 3<d then 0 else ((atV l a 1048576).tmod 3).toNat) y) (w64 (a+1))).2):=by rw[yN,if_neg h0,if_neg h1,if_pos h2,hy]; rfl
   rw[e];clear e;have hih:∀b,Ret prog 120 [.agg (zS p),.agg (zB y),.sl l.length (yH l),int b,int (w64 (d+1))] [] (.tup [.agg (zJ (yN p l f y b (w64 (d+1))).1),int (yN p l f y b (w64 (d+1))).2]) []:=fun b=>zKt p hL l hl f y b _ hwf
   have hx3:0≤(atV l a 1048576).tmod 3∧(atV l a 1048576).tmod 3<3:=by rw[jDw hx.1]; omega
   generalize atV l a 1048576=x at hx hx3;generalize hg:(fun t b=>yN p l f t b (w64 (d+1)))=g;have hih:∀b,Ret prog 120 [.agg (zS p),.agg (zB y),.sl l.length (yH l),int b,int (w64 (d+1))] [] (.tup [.agg (zJ (g y b).1),int (g y b).2]) []:=by subst hg; exact hih
   clear hg;obtain⟨Q,hQ,hQ2⟩:∃Q:Nat,(if 3<d then 0 else (x.tmod 3).toNat)=Q∧Q≤2:=⟨_,rfl,by split<;>omega⟩;rw[hQ];have hsn:∀i,zBl g (List.replicate (i+1) y) (w64 (a+1))=((zBl g (List.replicate i y) (w64 (a+1))).1++[(g y (zBl g (List.replicate i y) (w64 (a+1))).2).1],(g y (zBl g (List.replicate i y) (w64 (a+1))).2).2):=fun i=>by rw[List.replicate_succ',zJt]
   have hln:∀i,(zBl g (List.replicate i y) (w64 (a+1))).1.length=i:=fun i=>by rw[zLJ,List.length_replicate]
   have hd3:3<d∨¬3<d:=by omega
   rcases hd3 with hd3 | hd3
   case' inl =>
    have hQ':(0:Int)=Q:=by rw[if_pos hd3]at hQ; omega
    simp[h2,hd3]
   case' inr =>
    have hQ':x.tmod 3=Q:=by rw[if_neg hd3]at hQ; omega
    simp[h2,hd3]
   all_goals
    refine qW (S:=Nat) (fun i=>[(2,.sl l.length (yH l)),(3,int (zBl g (List.replicate i y) (w64 (a+1))).2),(4,int d),(5,.ptr 0 0),(6,.ptr 1 0),(10,.ptr 2 0),(13,.ptr 3 0),(14,int Q),(15,int i)])
     (fun i=>[.box (zS p),.box (zB t),.box [int 0,int 0,.nil],.box [int 4,int 0,.row 4 i],.row false 47 3 i (zV (zBl g (List.replicate i y) (w64 (a+1))).1)]) (fun i=>i≤Q) (fun i=>Q-i) 0 (by simp)
     ((zAv (l:=3) (o:=2) rfl rfl 47 3).trans (zR [0,1,2,3,4] 0 (by simp) (by simp) (by simp[zS,zB,h2,hy,zBl]) (by simp[zBl,w64,hQ']))) ?_
    intro i hi;by_cases hiQ:i<Q
    ·have hwi:=zAk i (by omega);have hsn:=hsn i;have hln:=hln i;generalize zBl g (List.replicate i y) (w64 (a+1))=R at hsn hln;simp[hiQ,zS,zB,hy];refine zAw (hih R.2) (by simp[zS,zB,w64,qN]) (by simp[zJ]) ?_;simp[zIW,zJ];refine⟨⟨by simp[maxLen]; omega,by omega⟩,?_⟩;exact zU (i+1) hiQ (by omega) (zR [0,1,2,3,4] 0 (by simp) (by simp) (by simp[zS,zB,hy,hsn]) (by simp[hwi,hsn]))
    ·have hiQ:i=Q:=by omega
     subst hiQ;have hln:=hln i;generalize zBl g (List.replicate i y) (w64 (a+1))=R at hln;simp;exact zC 1 (by simp[zJ,hln,qG,zZ,zM])
  obtain⟨_,gk,g1,g3,g4⟩:=h.resolve_left h0|>.resolve_left h1|>.resolve_left (fun e=>h2 e.1);simp[h0,h1,h2];refine zT (zJp p hL t.id) (by simp[zS,jF]) (by simp[zBf]) ?_;have hD:(jO p.defs t.id).getD .zero=dfn p t.id:=rfl;rcases gk with gk | gk
  ·have e:yN p l (f+1) t a d=(.mk 2 0 (zBl (fun t b=>yN p l f t b (w64 (d+1))) ((dfn p t.id).slots.map Slt.typ) (w64 (a+1))).1,(zBl (fun t b=>yN p l f t b (w64 (d+1))) ((dfn p t.id).slots.map Slt.typ) (w64 (a+1))).2):=by rw[yN,if_neg h0,if_neg h1,if_neg h2,if_neg (by omega)]
   rw[e];clear e;generalize dfn p t.id=D at hD g1 g3 g4 gk;obtain⟨TS,hTS⟩:∃TS,TS=D.slots.map Slt.typ:=⟨_,rfl⟩;have hTl:TS.length=D.slots.length:=by rw[hTS]; simp
   have hTg:∀i (h:i<D.slots.length),TS[i]?=some D.slots[i].typ:=fun i h=>by rw[hTS]; simp[h]
   have hih:∀i (h:i<D.slots.length) b,Ret prog 120 [.agg (zS p),.agg (zB D.slots[i].typ),.sl l.length (yH l),int b,int (w64 (d+1))] [] (.tup [.agg (zJ (yN p l f D.slots[i].typ b (w64 (d+1))).1),int (yN p l f D.slots[i].typ b (w64 (d+1))).2]) []:=fun i h b=>zKt p hL l hl f D.slots[i].typ b _ (g4 _ (jA0 h))
   obtain⟨g,hg⟩:∃g,g=fun t b=>yN p l f t b (w64 (d+1)):=⟨_,rfl⟩
   have hih:∀i (h:i<D.slots.length) b,Ret prog 120 [.agg (zS p),.agg (zB D.slots[i].typ),.sl l.length (yH l),int b,int (w64 (d+1))] [] (.tup [.agg (zJ (g D.slots[i].typ b).1),int (g D.slots[i].typ b).2]) []:=by subst hg; exact hih
   rw[←hTS,←hg];clear hg hTS;have hsn:∀i (h:i<D.slots.length),zBl g (TS.take (i+1)) (w64 (a+1))=((zBl g (TS.take i) (w64 (a+1))).1++[(g D.slots[i].typ (zBl g (TS.take i) (w64 (a+1))).2).1],(g D.slots[i].typ (zBl g (TS.take i) (w64 (a+1))).2).2):=fun i h=>by
    have h1:i<TS.length:=by omega
    have h2:=hTg i h;rw[jA2 h1]at h2;rw[jA9 h1,jB4 h2,zJt]
   have hln:∀i,i≤D.slots.length→(zBl g (TS.take i) (w64 (a+1))).1.length=i:=fun i h=>by rw[zLJ,jAt]; omega
   have htk:TS.take D.slots.length=TS:=jAk (by omega);simp[zBf,hD,zO,gk];refine qW (S:=Nat) (fun i=>[(2,.sl l.length (yH l)),(3,int (zBl g (TS.take i) (w64 (a+1))).2),(4,int d),(5,.ptr 0 0),(6,.ptr 1 0),(10,.ptr 2 0),(13,.ptr 3 0),(18,.ptr 4 0),(22,int i)])
    (fun i=>[.box (zS p),.box (zB t),.box [int 0,int 0,.nil],.box [int 2,int 0,.row 5 i],.box (zO D),.row false 47 3 i (zV (zBl g (TS.take i) (w64 (a+1))).1)]) (fun i=>i≤D.slots.length) (fun i=>D.slots.length-i) 0 (by simp)
    ((zAv (l:=3) (o:=2) rfl rfl 47 3).trans (zR [0,1,2,3,4,5] 0 (by simp) (by simp) (by simp[zS,zB,zO,gk,zBl]) (by simp[zBl,w64]))) ?_
   intro i hi;by_cases hiQ:i<D.slots.length
   ·have hwi:=zAk i (by omega);have hsn:=hsn i hiQ;have hln:=hln i hi;have hih:=hih i hiQ;generalize zBl g (TS.take i) (w64 (a+1))=R at hsn hln;simp[hiQ,jU hiQ,zS,zO,zAu];intro _;refine zAw (hih R.2) (by simp[zS,zB,w64,qN]) (by simp[zJ]) ?_;simp[zIW,zJ];refine⟨⟨by simp[maxLen]; omega,by omega⟩,?_⟩;exact zU (i+1) hiQ (by omega) (zR [0,1,2,3,4,5] 0 (by simp) (by simp) (by simp[zS,zB,zO,hsn]) (by simp[hwi,hsn]))
   ·have hiQ:i=D.slots.length:=by omega
    subst hiQ;have hln:=hln _ (jA _);rw[htk]at hln ⊢;generalize zBl g TS (w64 (a+1))=R at hln;simp[zO];exact fun _=>zC 1 (by simp[zJ,hln,qG,zZ,zM])
  ·have hlt:(atV l a 1048576).tmod ((dfn p t.id).slots.length:Int)=((atV l a 1048576) % ((dfn p t.id).slots.length:Int)):=jDw hx.1;have hl1:=jCo (atV l a 1048576) (show ((dfn p t.id).slots.length:Int)≠0 by omega);have hl2:=jCz (atV l a 1048576) (show (0:Int)<((dfn p t.id).slots.length:Int) by omega);obtain⟨Q,hQ⟩:∃Q:Nat,(atV l a 1048576).tmod ((dfn p t.id).slots.length:Int)=(Q:Int):=⟨((atV l a 1048576).tmod ((dfn p t.id).slots.length:Int)).toNat,by omega⟩;have hQl:Q<(dfn p t.id).slots.length:=by omega
   have e:yN p l (f+1) t a d=(.mk 3 Q [(yN p l f (dfn p t.id).slots[Q].typ (w64 (a+1)) (w64 (d+1))).1],(yN p l f (dfn p t.id).slots[Q].typ (w64 (a+1)) (w64 (d+1))).2):=by rw[yN,if_neg h0,if_neg h1,if_neg h2,if_pos gk,hQ];simp[hQl]
   rw[e];have hih:=zKt p hL l hl f (dfn p t.id).slots[Q].typ (w64 (a+1)) (w64 (d+1)) (g4 _ (jA0 hQl));clear e hlt hl1 hl2;generalize dfn p t.id=D at hD g1 g3 g4 gk hQl hih hQ;have hn0:¬D.slots=[]:=fun e=>by rw[e]at g1; simp at g1
   simp[zBf,hD,zO,gk,hn0,hQ,hQl,jU hQl,zAu];intro _;refine zAw hih (by simp[zS,zB,w64,qN]) (by simp[zJ]) ?_;simp[zIW,zJ];exact zC 1 (by simp[zJ,qG,zZ,zM])
def zDU (p:Prg)(t:Typ)(l:List Int):Val:=if 256<zDu (yN p l 10 t 0 1).1∨24<zBS (yN p l 10 t 0 1).1 then zAH p 5 t else (yN p l 10 t 0 1).1
theorem zXU (p:Prg)(hL:p.defs.length≤1000000)(l:List Int)(hl:∀x∈l,w64 x=x)(t:Typ)(hf:Wf p 10 t)(hz:Wz p 5 t):Ret prog 87 [.agg (zS p),.agg (zB t),.sl l.length (yH l)] [] (.agg (zJ (zDU p t l))) []:=by
 refine zK Tryz.func87 rfl qO2 (rs:=[.cell 6 3 true]) (by kernel_rfl) ?_;unfold qH6;simp[zS,zB];refine zT (zKt p hL l hl 10 t 0 1 hf) (by simp[zS,zB]) (by simp[zJ]) ?_;have e:zDU p t l=if 256<zDu (yN p l 10 t 0 1).1∨24<zBS (yN p l 10 t 0 1).1 then zAH p 5 t else (yN p l 10 t 0 1).1:=rfl
 generalize (yN p l 10 t 0 1)=R at e;obtain⟨v,b⟩:=R;simp only at e;simp[zJ];refine zT (zLD v) (by simp[zJ]) (by simp) ?_;by_cases h1:256<zDu v
 ·rw[if_pos (.inl h1)]at e;rw[e];simp[h1];refine zT (zQ7 p hL 5 (by decide) t hz) (by simp[zS,zB]) (by simp[zJ]) ?_;simp[zJ];exact zC 0 (by simp[zJ])
 ·simp[h1];refine zT (zJY v) (by simp[zJ]) (by simp) ?_;by_cases h2:24<zBS v
  ·rw[if_pos (.inr h2)]at e;rw[e];simp[h2];refine zT (zQ7 p hL 5 (by decide) t hz) (by simp[zS,zB]) (by simp[zJ]) ?_;simp[zJ];exact zC 0 (by simp[zJ])
  ·rw[if_neg (by simp[h1,h2])]at e;rw[e];simp[h2];exact zC 0 (by simp[zJ])
def qGX:K:=G [kO 6 1,kZ 10 kz1] (Z (G [kMi 11 0] (K.block 0 (K.loop (Z (G [M 16 11,M 17 0,kU 18 17,D 19 18 0,D 20 19 1,L 21 20 1,kN 22 21,kB 23 16 22 .lss] (Y 23 ks (K.exit 0))) (Z (K.block 1 (G [M 26 0,kU 27 26,D 28 27 0,D 29 28 1,L 30 29 1,M 31 11,kX 32 30 31 31,J 33 32 31,kZ 12 kz0,S 12 33 31] (G [D 34 12 3,L 35 34 1,kQi 36 35 2 false,M 37 36,T 37 true (M 38 0),T 37 true (M 39 11),T 37 true (kC 40 119 [(kt 38),(kt 39)]),kPf 41 37 40,M 42 41,T 42 true (D 43 12 9),T 42 true (J 44 43 5),T 42 true (J 45 6 5),T 42 true (kC 46 109 [(kt 44),(kt 45)]),kPf 47 42 46] (Y 47 (G [kMn 13] (Z (G [kMi 14 0] (K.block 2 (K.loop (Z (G [M 48 14,D 49 12 8,L 50 49 1,kN 51 50,kB 52 48 51 .lss] (Y 52 ks (K.exit 2))) (Z (K.block 3 (K.ops [M 55 13,M 56 0,D 57 12 8,L 58 57 1,M 59 14,kX 60 58 59 11,D 61 60 4,J 62 61 5,M 63 2,M 64 4,kBi 65 64 1 .sub,kC 66 34 [(kt 56),(kt 62),(kt 63),(kt 65)],kd 67 37 15 1 kz1 [(0,15,(kt 66))],kP 68 37 15 168 55 67,M 13 68])) (K.ops [M 53 14,kBi 54 53 1 .add,M 14 54])))))) (Z (K.wk (K.ops [M 69 0,M 70 13,kC 71 80 [(kt 69),(kc 3),(kc 0),(kt 70)],kZ 15 kz1,S 15 71 15])) (G [D 72 12 0,J 73 72 3,D 74 15 5,S 74 73 3] (G [J 75 15 15,S 10 75 15] kr))))) ks)))) (K.ops [M 24 11,kBi 25 24 1 .add,M 11 25])))))) (G [M 76 0,J 77 6 5,M 78 2,M 79 3,M 80 4,kC 81 86 [(kt 76),(kt 77),(kt 78),(kt 79),(kt 80)],S 10 81 15] kr))
theorem qNU:zL prog Tryz.f85.ntmps (Tryz.f85.body.getD .skip)=some qGX.erase:=by kernel_rfl
@[simp] theorem qOS:zA prog 85=true:=by kernel_rfl
abbrev zVK:FuncId:=85
def zVA (m:Mk)(t:Typ)(k:Nat):Bool:=match m.defs[k]? with
 | some d=>decide (d.kind=2)&&(zHC m k&&yT d.res t)
 | none=>false
theorem zSr {hs:List Hd}{R:Nat}{m:Mk}{env:List Bnd}{c depth:Int}{len:Nat}(hc:0≤c)(hl:Lim m (7*c+7))(x:Nat)(hk:zB1 hs R c (depth-1) (fun r=>r≤R) len)
 (hx:Cx hs R m)(he:EnvOk hs R m.temp env)(h1:0<env.length)(h2:env.length≤len)(hd1 : -1000≤depth)(hd2:depth≤1000)(t:Typ)
 (hop:zAP hs m.own opF m [.ptr 0 0,.agg (zB t),.sl env.length (zQ env),int x,int depth] env t (7*c+7)) :
 zAP hs m.own zVK m [.ptr 0 0,.agg (zB t),.sl env.length (zQ env),int x,int depth] env t (7*c+7):=by
 have hdl:=hx.dlen;have hd100:=hx.len;have hd0:=hx.len0;have hN:0<m.defs.length:=by omega
 have wd:=qF (depth-1) (by omega);obtain⟨i0,e,m',hi0,hlow,hfull,hhit,hA,hW,hS,hZ⟩:∃(i0:Nat) (e:Exp) (m':Mk),i0≤m.defs.length∧(∀i<i0,zVA m t i=false) ∧
  (i0=m.defs.length→Ret prog opF [.ptr 0 0,.agg (zB t),.sl env.length (zQ env),int x,int depth] (mkS m) (.agg (zF e)) (mkS m')) ∧
  (∀(D:Dfn),m.defs[i0]?=some D→D.kind=2∧zHC m i0=true∧D.res=t∧∃(es:List Exp) (ms:Nat→Mk),es.length=D.slots.length∧ms 0=m∧Lim (ms es.length) 1 ∧
   (∀(j:Nat) (hj:j<es.length) (hj':j<D.slots.length),Ret prog zAg [.ptr 0 0,.agg (zB D.slots[j].typ),.sl env.length (zQ env),int (depth-1)] (mkS (ms j)) (.agg (zF es[j])) (mkS (ms (j+1)))) ∧
   e=.mk ⟨0,0,(ms es.length).temp⟩ 3 0 D.id Typ.zero es []∧m'={ms es.length with temp:=(ms es.length).temp+1,left:=(ms es.length).left-1}) ∧
  Adv m m' (7*c+7)∧WT hs m.own env e t∧Seg m.temp m'.temp (tmps e)∧e.num0:=by
  by_cases hex:∃i,i<m.defs.length∧zVA m t i=true
  ·obtain⟨k,hkm,hp,hlow⟩:=zSE hex;have hks:k<hs.length:=by omega
   have hget:=hx.get hkm;unfold zVA at hp;rw[jA2 hkm]at hp;simp only[jA6,decide_eq_true_eq]at hp;generalize hD:m.defs[k]=D at hget hp;obtain⟨hkind,hvis,hst⟩:=hp;have hres:=(zEH _ _).1 hst;have eid:hs[k].id=D.id:=by rw[hget]; rfl
   have eslots:hs[k].slots=D.slots:=by rw[hget]; rfl
   have eres:hs[k].res=D.res:=by rw[hget]; rfl
   have ekind:hs[k].kind=2:=by rw[hget]; exact hkind
   obtain⟨hs6,hsT⟩:=hx.slots k hks;rw[eslots]at hs6 hsT;have hsc:((D.slots.length:Int))*c≤6*c:=jDd (by omega) hc;obtain⟨es,ms,q1,q2,q3,q4,q5⟩:=zSB hk hc env h1 h2 (D.slots.map (·.typ)) m hx (hl.mono (by rw[jAa]; omega)) (fun t ht=>by obtain⟨s,hs',rfl⟩:=jAi.1 ht;exact⟨R,hsT s hs',jA _⟩) he
   rw[jAa]at q1 q3 q4;have ha:=(q3 D.slots.length (jA _)).mono hsc;have hl1:Lim (ms es.length) 1:=by rw[q1]; exact Lim.adv (c:=6*c) (c':=1) (hl.mono (by omega)) ha
   refine⟨k,.mk ⟨0,0,(ms es.length).temp⟩ 3 0 D.id Typ.zero es [],{ms es.length with temp:=(ms es.length).temp+1,left:=(ms es.length).left-1},by omega,hlow,fun h=>by omega,fun D' hD'=>?_,by rw[q1]; exact(ha.trans (zAd _)).mono (by omega),?_,
    by simp only[tmps]; rw[q1]; exact q4.append (Seg.one _) ha.temp1 (by omega),zCB (zIo rfl fun j hj=>(q5 j hj (by rw[jAa]; omega)).2.2)⟩
   ·rw[jA2 hkm,hD]at hD';injection hD' with hD'
    subst hD';refine⟨hkind,hvis,hres,es,ms,q1,q2,hl1,fun j hj hj'=>?_,rfl,rfl⟩;have:=(q5 j hj (by rw[jAa]; omega)).1;rw[jAr]at this;exact this
   ·have:=WT.call (own:=m.own) env ⟨0,0,(ms es.length).temp⟩ k hks es (qAk hvis) ekind (by rw[eslots,q1]) (fun j hj=>by
     have:=(q5 j hj (by rw[jAa]; omega)).2.1;rw[jAr]at this
     simpa only[eslots] using this)
    rw[eid,eres,hres]at this;exact this
  ·obtain⟨e,m',g1,g2,g3,g4,g5⟩:=hop;refine⟨m.defs.length,e,m',jA _,fun i hi=>?_,fun _=>g1,(fun D h=>by rw[jBj (jA _)]at h; cases h),g2,g3,g4,g5⟩;cases hp:zVA m t i
   ·rfl
   ·exact(hex ⟨i,hi,hp⟩).elim
 refine⟨e,m',?_,hA,hW,hS,hZ⟩;refine zI Tryz.func85 rfl qNU (rs:=[.cell 10 15 true]) (by kernel_rfl) ?_;unfold qGX;simp[mkS,mkB,zB];refine qW (S:=Nat) (fun i=>[(0,.ptr 0 0),(2,.sl env.length (zQ env)),(3,int x),(4,int depth),(6,.ptr 2 0),(10,.ptr 3 0),(11,int i)])
  (fun _=>mkS m++[.box (zB t),.box (zF Exp.zero)]) (fun i=>i≤i0) (fun i=>i0-i) 0 (by simp)
  (zR [0,1,2,3] 0 (by decide) (by simp) (by simp[mkS,mkB,zB,zF,Exp.zero,Id.zero,Typ.zero]) (by simp)) ?_
 intro i hi;by_cases h:i<m.defs.length
 ·have w2:=zAk i (by omega);have hlow':=fun hlt:i<i0=>hlow i hlt
  have hhit':i=i0→_:=fun e=>hhit m.defs[i] (by rw[←e,jA2 h])
  unfold zVA at hlow';rw[jA2 h]at hlow';have hsl:m.defs[i].slots.length≤6:=by have:=(hx.slots i (by omega)).1;rw[hx.get h]at this;exact this
  have hdr:=yI h;have hb31:i*31+31≤m.defs.length*31:=by omega
  generalize m.defs[i]=D at hlow' hhit' hsl hdr;by_cases hlt:i<i0
  ·have hno:=hlow' hlt;simp only at hno;by_cases hkd:D.kind=2
   ·simp[mkS,mkB,h,hdr,hb31,zO,hkd];refine zN (zMi m i h hx.mods) [0,1] (by decide) (by simp[mkS,mkB]) (by simp) ?_;cases hv:zHC m i
    ·simp[mkS,mkB];exact zU (i+1) (by omega) (by omega) (zR [0,1,2,3] 0 (by decide) (by simp) (by simp[mkS,mkB,zB,zF,Exp.zero,Id.zero,Typ.zero]) (by simp[w2]))
    ·have hsf:yT D.res t=false:=by simpa [hkd,hv] using hno
     simp[mkS,mkB,zO,zB];refine zT (zDG D.res t) (by simp[zB]) (by simp) ?_;rw[hsf];simp[mkS,mkB];exact zU (i+1) (by omega) (by omega) (zR [0,1,2,3] 0 (by decide) (by simp) (by simp[mkS,mkB,zB,zF,Exp.zero,Id.zero,Typ.zero]) (by simp[w2]))
   ·simp[mkS,mkB,h,hdr,hb31,zO,hkd];exact zU (i+1) (by omega) (by omega) (zR [0,1,2,3] 0 (by decide) (by simp) (by simp[mkS,mkB,zB,zF,Exp.zero,Id.zero,Typ.zero]) (by simp[w2]))
  ·have hie:i=i0:=by omega
   subst hie;obtain⟨hkd,hv,hres,es,ms,q1,q2,hln,g1,he1,he2⟩:=hhit' rfl;obtain⟨l1,l2,l3,l4,l5,l6,l7,l8⟩:=hln;subst he1 he2;simp[mkS,mkB,h,hdr,hb31,zO,hkd];refine zN (zMi m i h hx.mods) [0,1] (by decide) (by simp[mkS,mkB]) (by simp) ?_;rw[hv];simp[mkS,mkB,zO,zB];refine zT (zDG D.res t) (by simp[zB]) (by simp) ?_;rw[show yT D.res t=true from (zEH _ _).2 hres];simp[mkS,mkB];refine qW (S:=Nat) (fun j=>[(0,.ptr 0 0),(2,.sl env.length (zQ env)),(4,int depth),(10,.ptr 3 0),(12,.ptr 4 0),(13,.row 5 j),(14,int j)])
    (fun j=>mkS (ms j)++[.box (zB t),.box (zF Exp.zero),.box (zO D),.row false 37 15 j (qL (es.take j))]) (fun j=>j≤es.length) (fun j=>es.length-j) 0 (by simp)
    ((yG (t:=13) (by simp) 37 15).trans (zR [0,1,2,3,4,5] 0 (by decide) (by simp) (by simp[mkS,mkB,zB,q2,zF,Exp.zero,Id.zero,Typ.zero,zO,hkd]) (by simp))) ?_
   intro j hj;by_cases hj2:j<es.length
   ·have hjd:j<D.slots.length:=by omega
    have g1':=g1 j hj2 hjd;have hst:qL (es.take (j+1))=qL (es.take j)++zF es[j]:=zAz hj2;have hw:=zAk j (by omega);have hdS:List.drop (j*11+4) (yE D.slots)=(zAu D.slots[j]++yE (D.slots.drop (j+1))).drop 4:=by rw[←jAs,jU hjd]
    have hbS:j*11+4+5≤D.slots.length*11:=by omega
    simp[mkS,mkB,zO,hjd,hdS,hbS,zAu,wd];intro _;refine zN g1' [0,1] (by decide) (by simp[mkS,mkB]) (by simp[zB]) ?_;simp[mkS,mkB];refine⟨⟨by simp[maxLen]; omega,by omega⟩,?_⟩;exact zU (j+1) hj2 (by omega) (zR [0,1,2,3,4,5] 0 (by decide) (by simp) (by simp[mkS,mkB,zB,zF,Exp.zero,Id.zero,Typ.zero,hst,zO]) (by simp[hw]))
   ·have hje:j=es.length:=by omega
    subst hje;have hid:¬es.length<D.slots.length:=by omega
    simp[mkS,mkB,zO,hid];intro _;refine⟨qT [(0,.ptr 0 0),(10,.ptr 3 0),(12,.ptr 4 0),(13,.sl es.length (qL es))],mkS (ms es.length)++[.box (zB t),.box (zF Exp.zero),.box (zO D)],zR [0,1,2,3,4] 1 (by decide) (by simp) (by simp[mkS,mkB,zB,zF,Exp.zero,Id.zero,Typ.zero,zO]) (by simp),?_⟩;simp[mkS,mkB];refine zN (yQ (ms es.length) 3 0 es l3 (by omega) (by omega) l6) [0,1] (by decide) (by simp[mkS,mkB]) (by simp) ?_;simp[mkS,mkB,zF,zO];exact zG [0,1] 0 (by decide) (by simp) (by simp) (by simp[zF])
 ·have hii:i=m.defs.length:=by omega
  have hi0':i0=m.defs.length:=by omega
  subst hii;simp[mkS,mkB,zB];refine zN (hfull hi0') [0,1] (by decide) (by simp[mkS,mkB]) (by simp[zB]) ?_;simp[mkS,mkB];exact zG [0,1] 0 (by decide) (by simp) (by simp) (by simp[zF])
end Go.Proofs.YthglhccibdlccaaGreatDoor
