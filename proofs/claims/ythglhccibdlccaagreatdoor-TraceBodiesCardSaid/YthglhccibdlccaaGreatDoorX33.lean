/-
  The zero value of a type, by the reference.
  The maker's fields and calls.
-/
import Derived.Test.YthglhccibdlccaaGreatDoorX32
set_option linter.unusedVariables false
set_option linter.unusedSimpArgs false
namespace Go.Proofs.YthglhccibdlccaaGreatDoor
open Go.Abs
@[simp] theorem zBB:∀(a b:List Val),zZ (a++b)=zZ a++zZ b
 | [],b=>by simp
 | x::a,b=>by simp[zBB a b]
theorem jX {k n:Int}{l:List Val}:(Val.mk k n l).k=k:=rfl
theorem jC {k n:Int}{l:List Val}:(Val.mk k n l).n=n:=rfl
theorem qH {k n:Int}{l:List Val}:(Val.mk k n l).kids=l:=rfl
def qET:K:=G [kO 4 0,kO 5 1,kZ 8 [ki,ki,kl],kMi 9 0,kMi 10 0] (Z (G [J 19 4 2,J 20 5 5,kC 21 157 [(kt 19),(kt 20)],kR 22 21] (Y 22 (G [kb 23 [ki,ki,kl] [],M 24 3,S 8 23 3,M 9 24,kMi 10 1] kr) ks)) (G [M 25 3,kBi 26 25 1 .add,M 3 26] (Z (G [M 27 3,kBi 28 27 256 .gtr,M 29 28,T 29 false (M 30 2),T 29 false (kBi 31 30 24 .gtr),kPt 32 29 31] (Y 32 (G [kb 33 [ki,ki,kl] [],M 34 3,S 8 33 3,M 9 34,kMi 10 4] kr) ks)) (Z (G [D 35 5 0,L 36 35 1,kQi 37 36 0 false] (Y 37 (G [kb 38 [ki,ki,kl] [(0,1,(kc 0))],M 39 3,S 8 38 3,M 9 39,kMi 10 0] kr) ks)) (Z (G [D 40 5 0,L 41 40 1,kQi 42 41 1 false] (Y 42 (G [kb 43 [ki,ki,kl] [(0,1,(kc 1))],M 44 3,S 8 43 3,M 9 44,kMi 10 0] kr) ks)) (Z (G [D 45 5 0,L 46 45 1,kQi 47 46 2 false] (Y 47 (G [kb 48 [ki,ki,kl] [(0,1,(kc 4))],M 49 3,S 8 48 3,M 9 49,kMi 10 0] kr) ks)) (G [J 51 4 2,D 52 5 1,J 53 52 3,kC 54 26 [(kt 51),(kt 53)],M 50 54,kE 55 50 0,kE 56 50 1,kZ 11 kz0,S 11 55 31,M 12 56] (G [kb 57 [ki,ki,kl] [(0,1,(kc 2))],kZ 13 [ki,ki,kl],S 13 57 3] (G [D 58 11 8,L 59 58 1,kN 60 59,M 14 60] (Z (G [D 61 11 3,L 62 61 1,kQi 63 62 1 false] (Y 63 (G [D 64 13 0,⟨none,.st none (kt 64) (kc 3) 1⟩] (Z (G [M 65 14,kQi 66 65 0 false] (Y 66 (G [kb 67 [ki,ki,kl] [],M 68 3,S 8 67 3,M 9 68,kMi 10 1] kr) ks)) (K.ops [kMi 14 1]))) ks)) (Z (G [kMi 15 0] (K.block 0 (K.loop (Z (G [M 69 15,M 70 14,kB 71 69 70 .lss] (Y 71 ks (K.exit 0))) (Z (K.block 1 (Z (K.dops [(0,1,J 75 4 2),(1,1,D 76 11 8),(2,1,L 77 76 1),(3,0,M 78 15),(4,1,kX 79 77 78 11),(5,1,D 80 79 4),(6,1,J 81 80 5),(7,0,
 M 82 2),(8,0,kBi 83 82 1 .add),(9,0,M 84 3),(10,1,kC 85 142 [(kt 75),(kt 81),(kt 83),(kt 84)]),(11,0,M 74 85),(12,0,kE 86 74 0),(13,0,kE 87 74 1),(14,0,kE 88 74 2),(15,0,kZ 16 [ki,ki,kl]),(16,0,S 16 86 3),(17,0,M 17 87),(18,0,M 18 88)]) (Z (G [M 89 18,kQi 90 89 0 true] (Y 90 (G [kb 91 [ki,ki,kl] [],M 92 17,M 93 18,S 8 91 3,M 9 92,M 10 93] kr) ks)) (G [M 94 17,M 3 94] (K.ops [D 95 13 2,L 96 95 1,J 97 16 3,kd 98 47 3 1 [ki,ki,kl] [(0,3,(kt 97))],kP 99 47 3 40 96 98,D 100 13 2,S 100 99 1]))))) (K.ops [M 72 15,kBi 73 72 1 .add,M 15 73])))))) (G [J 101 13 3,M 102 3,S 8 101 3,M 9 102,kMi 10 0] kr))))))))))))
theorem qLz:zL Tryz.prog Tryz.f142.ntmps (Tryz.f142.body.getD .skip)=some qET.erase:=by kernel_rfl
@[simp] theorem qM7:zA Tryz.prog 142=true:=by kernel_rfl
def qEU:K:=G [kO 2 0,kO 3 1,kZ 4 [ki,ki,kl],kMi 5 0] (G [J 10 2 2,J 11 3 5,kC 12 142 [(kt 10),(kt 11),(kc 1),(kc 0)],M 9 12,kE 13 9 0,kE 14 9 1,kE 15 9 2,kZ 6 [ki,ki,kl],S 6 13 3,M 7 14,M 8 15] (Z (G [M 16 8,kQi 17 16 0 true] (Y 17 (G [kb 18 [ki,ki,kl] [],M 19 8,S 4 18 3,M 5 19] kr) ks)) (G [J 20 6 3,S 4 20 3,kMi 5 0] kr)))
theorem qL0:zL Tryz.prog Tryz.f123.ntmps (Tryz.f123.body.getD .skip)=some qEU.erase:=by kernel_rfl
@[simp] theorem qM8:zA Tryz.prog 123=true:=by kernel_rfl
def Wz (p:Prg):Nat→Typ→Prop
 | 0,_=>False
 | f+1,t=>validT p t=true∧(t.k=0∨t.k=1∨t.k=2∨(t.k=3∧((dfn p t.id).kind=0∨(dfn p t.id).kind=1)∧1≤(dfn p t.id).slots.length∧(dfn p t.id).slots.length≤3∧∀s∈(dfn p t.id).slots,Wz p f s.typ))
def yY (p:Prg):Nat→Typ→Val
 | 0,_=>.mk 0 0 []
 | f+1,t=>if t.k=0 then .mk 0 0 [] else if t.k=1 then .mk 1 0 [] else if t.k=2 then .mk 4 0 []
  else if (dfn p t.id).kind=1 then .mk 3 0 (((dfn p t.id).slots.map fun s=>yY p f s.typ).take 1) else .mk 2 0 ((dfn p t.id).slots.map fun s=>yY p f s.typ)
def zcN:Nat→Nat
 | 0=>0
 | f+1=>1+3*zcN f
theorem zFD {l:List Val}{c:Nat}(h:∀v∈l,qB v≤c):qN l≤l.length*c:=by
 induction l with
 | nil=>simp[qN]
 | cons v l ih =>
  have h1:=h v (List.mem_cons_self ..);have h2:=ih fun x hx=>h x (List.mem_cons_of_mem _ hx)
  simp only[qN,List.length_cons,Nat.add_mul,Nat.one_mul];omega
theorem zFF (p:Prg):∀(f:Nat) (t:Typ),Wz p f t→qB (yY p f t)≤zcN f
 | 0,t,h=>h.elim
 | f+1,t,h=>by
  unfold Wz at h;unfold yY zcN;obtain⟨_,h⟩:=h;by_cases h0:t.k=0
  ·rw[if_pos h0]; simp[qB,qN]
  by_cases h1:t.k=1
  ·rw[if_neg h0,if_pos h1]; simp[qB,qN]
  by_cases h2:t.k=2
  ·rw[if_neg h0,if_neg h1,if_pos h2]; simp[qB,qN]
  rw[if_neg h0,if_neg h1,if_neg h2];obtain⟨_,_,_,g3,g4⟩:=h.resolve_left h0|>.resolve_left h1|>.resolve_left h2;have hm:∀v∈(dfn p t.id).slots.map fun s=>yY p f s.typ,qB v≤zcN f:=fun v hv=>by obtain⟨s,hs,rfl⟩:=List.mem_map.1 hv;exact zFF p f s.typ (g4 s hs)
  have hl:((dfn p t.id).slots.map fun s=>yY p f s.typ).length≤3:=by simpa using g3
  generalize ((dfn p t.id).slots.map fun s=>yY p f s.typ)=L at hm hl;split
  ·have:=zFD (l:=L.take 1) fun v hv=>hm v (List.mem_of_mem_take hv)
   have e:(L.take 1).length*zcN f≤3*zcN f:=Nat.mul_le_mul_right _ (by simp; omega);simp only[qB]; omega
  ·have:=zFD hm;have e:L.length*zcN f≤3*zcN f:=Nat.mul_le_mul_right _ hl;simp only[qB]; omega
theorem zRl (p:Prg)(hL:p.defs.length≤1000000):∀(f:Nat) (t:Typ) (d:Int) (u:Nat),Wz p f t→1≤d→d+f≤25→u+zcN f≤256 →
 Ret Tryz.prog 142 [.agg (zU p),.agg (zB t),int d,int u] [] (.tup [.agg (zP (yY p f t)),int (u+qB (yY p f t):Nat),int 0]) []
 | 0,t,d,u,h,_,_,_=>h.elim
 | f+1,t,d,u,h,hd,hdf,hu=>by
  have hz:=zFF p (f+1) t h;unfold Wz at h;obtain⟨hv,h⟩:=h;simp only[zcN]at hu hz;refine zI Tryz.func142 rfl qLz (rs:=[.cell 8 3 true,.slot 9,.slot 10]) (by kernel_rfl) ?_;unfold qET;have hwu:IntKind.i64.wrap ((u:Int)+1)=(u:Int)+1:=IntWalk.i64_in _ (by omega);have hu1:¬(256:Int)<(u:Int)+1:=by omega
  have hd1:¬24<d:=by omega
  simp[zU,zB];refine zQ (zOj p hL t) (by simp[zU,zB]) (by simp) ?_;by_cases h0:t.k=0
  ·have e:yY p (f+1) t=.mk 0 0 []:=by rw[yY,if_pos h0]
   rw[e];simp[hv,hwu,hu1,hd1,h0];exact zC 0 (by simp[zP,jX,jC,qH,qB,qN])
  by_cases h1:t.k=1
  ·have e:yY p (f+1) t=.mk 1 0 []:=by rw[yY,if_neg h0,if_pos h1]
   rw[e];simp[hv,hwu,hu1,hd1,h1];exact zC 0 (by simp[zP,jX,jC,qH,qB,qN])
  by_cases h2:t.k=2
  ·have e:yY p (f+1) t=.mk 4 0 []:=by rw[yY,if_neg h0,if_neg h1,if_pos h2]
   rw[e];simp[hv,hwu,hu1,hd1,h2];exact zC 0 (by simp[zP,jX,jC,qH,qB,qN])
  obtain⟨_,gk,g1,g3,g4⟩:=h.resolve_left h0|>.resolve_left h1|>.resolve_left h2;simp[hv,hwu,hu1,hd1,h0,h1,h2];refine zQ (zF9 p hL t.id) (by simp[zU,qF]) (by simp[zBj]) ?_;have hD:(zAg p.defs t.id).getD .zero=dfn p t.id:=rfl;have hzl:∀s∈(dfn p t.id).slots,qB (yY p f s.typ)≤zcN f:=fun s hs=>zFF p f s.typ (g4 s hs)
  have hLl:((dfn p t.id).slots.map fun s=>yY p f s.typ).length=(dfn p t.id).slots.length:=by simp
  have hLg:∀i (h:i<(dfn p t.id).slots.length),((dfn p t.id).slots.map fun s=>yY p f s.typ)[i]?=some (yY p f (dfn p t.id).slots[i].typ):=fun i h=>by simp[h]
  have e:∃(Q:Nat) (K:Int),yY p (f+1) t=.mk K 0 (((dfn p t.id).slots.map fun s=>yY p f s.typ).take Q)∧Q≤(dfn p t.id).slots.length∧(((dfn p t.id).kind=1∧Q=1∧K=3)∨((dfn p t.id).kind=0∧Q=(dfn p t.id).slots.length∧K=2)):=by
   rcases gk with gk | gk
   ·exact⟨_,2,by rw[yY,if_neg h0,if_neg h1,if_neg h2,if_neg (by omega),List.take_of_length_le (by simp)],Nat.le_refl _,.inr ⟨gk,rfl,rfl⟩⟩
   ·exact⟨1,3,by rw[yY,if_neg h0,if_neg h1,if_neg h2,if_pos gk],g1,.inl ⟨gk,rfl,rfl⟩⟩
  obtain⟨Q,K,e,hQ,hQK⟩:=e;rw[e]at hz ⊢;clear e gk;generalize ((dfn p t.id).slots.map fun s=>yY p f s.typ)=L at hLl hLg hz;generalize dfn p t.id=D at hD g1 g3 g4 hzl hLl hLg hQ hQK;have hs0:∀i,i≤D.slots.length→qN (L.take i)≤i*zcN f:=fun i hi=>by
   have:=zFD (l:=L.take i) (c:=zcN f) fun v hv=>by obtain⟨j,hj,rfl⟩:=List.mem_iff_getElem.1 (List.mem_of_mem_take hv);have:=hLg j (by omega);rw[List.getElem?_eq_getElem hj]at this;rw[Option.some.inj this];exact hzl _ (List.getElem_mem _)
   simpa [Nat.min_eq_left (show i≤L.length by omega)] using this
  rcases hQK with ⟨hk,hQ1,hK⟩ | ⟨hk,hQ1,hK⟩
  case' inl =>
   have hn0:¬D.slots=[]:=fun e=>by rw[e]at g1; simp at g1
   simp[zBj,hD,zO,hk,hn0];intro _
  case' inr =>
   simp[zBj,hD,zO,hk];intro _
  all_goals
   refine qY (S:=Nat) (fun i=>[(2,int d),(3,int ((u+1+qN (L.take i):Nat):Int)),(4,.ptr 0 0),(8,.ptr 2 0),(11,.ptr 3 0),(13,.ptr 4 0),(14,int Q),(15,int i)])
    (fun i=>[.box (zU p),.box (zB t),.box [int 0,int 0,.nil],.box (zO D),.box [int K,int 0,.row 5 i],.row false 47 3 i (zZ (L.take i))]) (fun i=>i≤Q) (fun i=>Q-i) 0 (by simp)
    ((zAa (l:=4) (o:=2) rfl rfl 47 3).trans (zR [0,1,2,3,4,5] 0 (by simp) (by simp) (by simp[zU,zB,zO,hk,hK]) (by simp[qN,hQ1]))) ?_
   intro i hi;by_cases hiQ:i<Q
   ·have hiD:i<D.slots.length:=by omega
    have hiL:i<L.length:=by omega
    have hLi:=hLg i hiD;rw[List.getElem?_eq_getElem hiL]at hLi;have hLi:=Option.some.inj hLi;have htL:zZ (L.take (i+1))=zZ (L.take i)++zP (yY p f D.slots[i].typ):=by rw[List.take_succ_eq_append_getElem hiL,hLi]; simp[zP]
    have hsz:=zFk hiL;rw[hLi]at hsz;have b1:=hs0 i (by omega);have b2:i*zcN f≤2*zcN f:=Nat.mul_le_mul_right _ (by omega);have hwd:IntKind.i64.wrap (d+1)=d+1:=IntWalk.i64_in _ (by omega);have hwi:IntKind.i64.wrap ((i:Int)+1)=(i:Int)+1:=IntWalk.i64_in _ (by omega);simp[hiQ,hiD,jP hiD,zU,zO,zAi,hwd];refine zAr (zRl p hL f D.slots[i].typ (d+1) (u+1+qN (L.take i)) (g4 _ (List.getElem_mem hiD)) (by omega) (by omega) (by omega)) (by simp[zU,zB]) (by simp[zP]) ?_;simp[zHL,zP];refine⟨⟨by simp[maxLen]; omega,by omega⟩,?_⟩;exact zT (i+1) hiQ (by omega) (zR [0,1,2,3,4,5] 0 (by simp) (by simp) (by simp[zU,zB,zO,htL,zP]) (by simp[hwi,hsz]; omega))
   ·have hiQ:i=Q:=by omega
    subst hiQ;have hlt:(L.take i).length=i:=by simp; omega
    simp;exact zC 1 (by simp[zP,hlt,jX,jC,qH,qB,Nat.add_assoc]; omega)
theorem qCp {f:Nat}(h:f≤5):zcN f≤121:=by
 have:f=0∨f=1∨f=2∨f=3∨f=4∨f=5:=by omega
 rcases this with rfl | rfl | rfl | rfl | rfl | rfl<;>decide
theorem zOD (p:Prg)(hL:p.defs.length≤1000000)(f:Nat)(hf:f≤5)(t:Typ)(h:Wz p f t):Ret Tryz.prog 123 [.agg (zU p),.agg (zB t)] [] (.tup [.agg (zP (yY p f t)),int 0]) []:=by refine zI Tryz.func123 rfl qL0 (rs:=[.cell 4 3 true,.slot 5]) (by kernel_rfl) ?_;unfold qEU;have hz:=qCp hf;simp[zU,zB];refine zQ (zRl p hL f t 1 0 h (by omega) (by omega) (by omega)) (by simp[zU,zB]) (by simp[zP]) ?_;simp[zP];exact zC 0 (by simp)
def qEC:K:=G [kO 6 1,kZ 10 kz1] (Z (G [kMi 11 0] (K.block 0 (K.loop (Z (G [M 16 11,M 17 0,kU 18 17,D 19 18 0,D 20 19 1,L 21 20 1,kN 22 21,kB 23 16 22 .lss] (Y 23 ks (K.exit 0))) (Z (K.block 1 (G [M 26 3,M 27 11,kB 28 26 27 .add,M 29 0,kU 30 29,D 31 30 0,D 32 31 1,L 33 32 1,kN 34 33,kB 35 28 34 .rem,M 12 35] (G [M 36 0,kU 37 36,D 38 37 0,D 39 38 1,L 40 39 1,M 41 12,kX 42 40 41 31,J 43 42 31,kZ 13 kz0,S 13 43 31] (G [kMi 14 0] (K.block 2 (K.loop (Z (G [M 44 14,D 45 13 8,L 46 45 1,kN 47 46,kB 48 44 47 .lss,M 49 48,T 49 true (D 50 13 3),T 49 true (L 51 50 1),T 49 true (kQi 52 51 0 false),kPf 53 49 52,M 54 53,T 54 true (M 55 0),T 54 true (M 56 12),T 54 true (kC 57 119 [(kt 55),(kt 56)]),kPf 58 54 57] (Y 58 ks (K.exit 2))) (Z (K.block 3 (Z (K.dops [(0,0,D 61 13 8),(1,0,L 62 61 1),(2,0,M 63 14),(3,0,kX 64 62 63 11),(4,0,D 65 64 4),(5,0,J 66 65 5),(6,0,J 67 6 5),(7,0,kC 68 109 [(kt 66),(kt 67)])]) (Y 68 (G [M 69 0,M 70 14,M 71 0,D 72 13 0,J 73 72 3,kC 74 72 [(kt 73)],M 75 2,M 76 4,kBi 77 76 1 .sub,kC 78 34 [(kt 71),(kt 74),(kt 75),(kt 77)],kd 79 37 15 1 kz1 [(0,15,(kt 78))],kC 80 80 [(kt 69),(kc 8),(kt 70),(kt 79)],kZ 15 kz1,S 15 80 15] (G [D 81 13 0,J 82 81 3,D 83 15 5,S 83 82 3] (G [J 84 15 15,S 10 84 15] kr))) ks))) (K.ops [M 59 14,kBi 60 59 1 .add,M 14 60]))))))))) (K.ops [M 24 11,kBi 25 24 1 .add,M 11 25])))))) (G [M 85 0,J 86 6 5,M 87 2,M 88 3,M 89 4,kC 90 86 [(kt 85),(kt 86),(kt 87),(kt 88),(kt 89)],S 10 90 15] kr))
theorem qLi:zL Tryz.prog Tryz.f84.ntmps (Tryz.f84.body.getD .skip)=some qEC.erase:=by kernel_rfl
@[simp] theorem qMa:zA Tryz.prog 84=true:=by kernel_rfl
abbrev zU1:FuncId:=84
theorem zQF {p:Nat→Bool}:∀{n:Nat},(∃i,i<n∧p i=true)→∃i,i<n∧p i=true∧∀j<i,p j=false
 | 0,⟨i,hi,_⟩=>by omega
 | n+1,⟨i,hi,hp⟩=>by
  by_cases h:∃i,i<n∧p i=true
  ·obtain⟨j,h1,h2,h3⟩:=zQF h;exact⟨j,by omega,h2,h3⟩
  ·have hin:i=n:=by
    by_cases e:i=n
    ·exact e
    ·exact(h ⟨i,by omega,hp⟩).elim
   subst hin;refine⟨i,by omega,hp,fun j hj=>?_⟩;cases hpj:p j
   ·rfl
   ·exact(h ⟨j,hj,hpj⟩).elim
def zU6 (m:Mk)(t:Typ)(k:Nat):Bool:=match m.defs[k]? with
 | some d=>decide (d.kind=0)&&(zGz m k&&d.slots.any fun s=>yG s.typ t)
 | none=>false
set_option maxHeartbeats 4000000 in
theorem zU2 {hs:List Hd}{R:Nat}{m:Mk}{env:List Bnd}{c depth:Int}{len:Nat}(hc:0≤c)(hl:Lim m (7*c+7))(x:Nat)(hx1:x≤65536)(hk:zBa hs R c (depth-1) (fun r=>r≤R) len)
 (hx:Cx hs R m)(he:EnvOk hs R m.temp env)(h1:0<env.length)(h2:env.length≤len)(h3:env.length≤1000)(hd1 : -1000≤depth)(hd2:depth≤1000)(t:Typ)(ht:TyOk hs R t)
 (hop:zA0 hs m.own opF m [.ptr 0 0,.agg (zB t),.sl env.length (zM env),int x,int depth] env t (7*c+7)) :
 zA0 hs m.own zU1 m [.ptr 0 0,.agg (zB t),.sl env.length (zM env),int x,int depth] env t (7*c+7):=by
 have hdl:=hx.dlen;have hd100:=hx.len;have hd0:=hx.len0;have hN:0<m.defs.length:=by omega
 have wd:IntKind.i64.wrap (depth-1)=depth-1:=IntWalk.i64_in _ (by omega);obtain⟨i0,e,m',hi0,hlow,hfull,hhit,hA,hW,hS,hZ⟩:∃(i0:Nat) (e:Exp) (m':Mk),i0≤m.defs.length∧(∀i<i0,zU6 m t ((x+i) % m.defs.length)=false) ∧
  (i0=m.defs.length→Ret Tryz.prog opF [.ptr 0 0,.agg (zB t),.sl env.length (zM env),int x,int depth] (mkS m) (.agg (zF e)) (mkS m')) ∧
  (∀(hlt:i0<m.defs.length) (D:Dfn),m.defs[(x+i0) % m.defs.length]?=some D→D.kind=0∧zGz m ((x+i0) % m.defs.length)=true∧∃(j0:Nat) (hj0:j0<D.slots.length) (a:Exp) (m1:Mk),yG D.slots[j0].typ t=true∧(∀(j:Nat) (hj:j<j0),yG D.slots[j].typ t=false) ∧
   Ret Tryz.prog yM [.ptr 0 0,.agg (zB (zAy D.id)),.sl env.length (zM env),int (depth-1)] (mkS m) (.agg (zF a)) (mkS m1)∧Lim m1 1 ∧
   e=.mk ⟨0,0,m1.temp⟩ 8 j0 D.id Typ.zero [a] []∧m'={m1 with temp:=m1.temp+1,left:=m1.left-1}) ∧
  Adv m m' (7*c+7)∧WT hs m.own env e t∧Seg m.temp m'.temp (tmps e)∧e.num0:=by
  by_cases hex:∃i,i<m.defs.length∧zU6 m t ((x+i) % m.defs.length)=true
  ·obtain⟨i0,hi0,hp,hlow⟩:=zQF hex;have hkm:=Nat.mod_lt (x+i0) hN;generalize hkk:(x+i0) % m.defs.length=k at hkm hp;have hks:k<hs.length:=by omega
   have hget:=hx.get hkm;unfold zU6 at hp;rw[List.getElem?_eq_getElem hkm]at hp;simp only[Bool.and_eq_true,decide_eq_true_eq]at hp;generalize hD:m.defs[k]=D at hget hp;obtain⟨hkind,hvis,hany⟩:=hp;have eid:hs[k].id=D.id:=by rw[hget]; rfl
   have eslots:hs[k].slots=D.slots:=by rw[hget]; rfl
   have ekind:hs[k].kind=0:=by rw[hget]; exact hkind
   obtain⟨j0,hj0,hpj,hlj⟩:=zQF (p:=fun j=>match D.slots[j]? with | some s=>yG s.typ t | none=>false) (n:=D.slots.length) (by
    rw[List.any_eq_true]at hany;obtain⟨s,hs1,hs2⟩:=hany;obtain⟨j,hj,rfl⟩:=List.getElem_of_mem hs1;exact⟨j,hj,by simp only[List.getElem?_eq_getElem hj]; exact hs2⟩)
   simp only[List.getElem?_eq_getElem hj0]at hpj;obtain⟨a,m1,g1,g2,g3,g4,g5⟩:=hk m R (zAy hs[k].id) env hx (hl.mono (by omega)) (hx.typs k hks (.inl ekind)) (Nat.le_refl _) he h1 h2;refine⟨i0,.mk ⟨0,0,m1.temp⟩ 8 j0 D.id Typ.zero [a] [],{m1 with temp:=m1.temp+1,left:=m1.left-1},by omega,hlow,fun h=>by omega,fun hlt D' hD'=>?_,(g2.trans (yL _)).mono (by omega),?_,zM2 g4 g2.temp1,zJP g5⟩
   ·rw[hkk,List.getElem?_eq_getElem hkm,hD]at hD';injection hD' with hD'
    subst hD';rw[hkk];refine⟨hkind,hvis,j0,hj0,a,m1,hpj,fun j hj=>?_,by rw[←eid]; exact g1,Lim.adv (c:=c) (hl.mono (by omega)) g2,rfl,rfl⟩;have:=hlj j hj;simp only[List.getElem?_eq_getElem (show j<D.slots.length by omega)]at this;exact this
   ·have hjs:j0<hs[k].slots.length:=by rw[eslots]; exact hj0
    have:=WT.field (own:=m.own) env ⟨0,0,m1.temp⟩ k hks j0 hjs a ekind g3;rw[eid]at this;have e2:hs[k].slots[j0].typ=t:=by rw[←(zDW _ _).1 hpj];simp only[eslots]
    rw[e2]at this;exact this
  ·obtain⟨e,m',g1,g2,g3,g4,g5⟩:=hop;refine⟨m.defs.length,e,m',Nat.le_refl _,fun i hi=>?_,fun _=>g1,fun h=>by omega,g2,g3,g4,g5⟩;cases hp:zU6 m t ((x+i) % m.defs.length)
   ·rfl
   ·exact(hex ⟨i,hi,hp⟩).elim
 refine⟨e,m',?_,hA,hW,hS,hZ⟩;refine zH Tryz.func84 rfl qLi (rs:=[.cell 10 15 true]) (by kernel_rfl) ?_;unfold qEC;simp[mkS,mkB,zB];refine qY (S:=Nat) (fun i=>[(0,.ptr 0 0),(2,.sl env.length (zM env)),(3,int x),(4,int depth),(6,.ptr 2 0),(10,.ptr 3 0),(11,int i)])
  (fun _=>mkS m++[.box (zB t),.box (zF Exp.zero)]) (fun i=>i≤i0) (fun i=>i0-i) 0 (by simp)
  (zR [0,1,2,3] 0 (by decide) (by simp) (by simp[mkS,mkB,zB,zF,Exp.zero,Id.zero,Typ.zero]) (by simp)) ?_
 intro i hi;by_cases h:i<m.defs.length
 ·have hkm:=Nat.mod_lt (x+i) hN;have w1:IntKind.i64.wrap ((x:Int)+i)=(x:Int)+i:=IntWalk.i64_in _ (by omega);have w2:IntKind.i64.wrap ((i:Int)+1)=(i:Int)+1:=IntWalk.i64_in _ (by omega);have e1:Int.tmod ((x:Int)+i) (m.defs.length:Int)=(((x+i) % m.defs.length:Nat):Int):=by rw[tmN (by omega)]; simp
  have hnil:m.defs≠[]:=fun e=>by rw[e]at hN; simp at hN
  have hne:¬((m.defs.length:Int)=0):=by omega
  have hlow':=fun hlt:i<i0=>hlow i hlt
  have hhit':i=i0→_:=fun e=>hhit (by omega) m.defs[(x+i) % m.defs.length] (by rw[←e,List.getElem?_eq_getElem hkm])
  unfold zU6 at hlow';rw[List.getElem?_eq_getElem hkm]at hlow';have hsl:m.defs[(x+i) % m.defs.length].slots.length≤6:=by have:=(hx.slots ((x+i) % m.defs.length) (by omega)).1;rw[hx.get hkm]at this;exact this
  generalize hkk:(x+i) % m.defs.length=k at hkm e1 hlow' hhit' hsl;generalize hD:m.defs[k]=D at hlow' hhit' hsl;have hdr:=jV hkm;rw[hD]at hdr;have hb31:k*31+31≤m.defs.length*31:=by omega
  simp[mkS,mkB,h,w1,e1,hne,hkm,hdr,hb31,zO,hnil];by_cases hlt:i<i0
  ·have hno:=hlow' hlt;refine qY (S:=Nat) (fun j=>[(0,.ptr 0 0),(2,.sl env.length (zM env)),(3,int x),(4,int depth),(6,.ptr 2 0),(10,.ptr 3 0),(11,int i),(12,int k),(13,.ptr 4 0),(14,int j)])
    (fun _=>mkS m++[.box (zB t),.box (zF Exp.zero),.box (zO D)]) (fun j=>j≤D.slots.length) (fun j=>D.slots.length-j) 0 (by simp)
    (zR [0,1,2,3,4] 0 (by decide) (by simp) (by simp[mkS,mkB,zB,zF,Exp.zero,Id.zero,Typ.zero,zO]) (by simp)) ?_
   intro j hj;by_cases hjl:j<D.slots.length
   ·have hdS:List.drop (j*11+4) (jT D.slots)=(zAi D.slots[j]++jT (D.slots.drop (j+1))).drop 4:=by rw[←List.drop_drop,jP hjl]
    have hbS:j*11+4+5≤D.slots.length*11:=by omega
    by_cases hkd:D.kind=0
    ·simp[mkS,mkB,zO,zB,hjl,hkd];intro _;refine zN (zKw m k hkm hx.mods) [0,1] (by decide) (by simp[mkS,mkB]) (by simp) ?_;cases hv:zGz m k
     ·simp[mkS,mkB];exact zT (i+1) (by omega) (by omega) (zR [0,1,2,3] 0 (by decide) (by simp) (by simp[mkS,mkB,zB,zF,Exp.zero,Id.zero,Typ.zero]) (by simp[w2]))
     ·have hsf:yG D.slots[j].typ t=false:=by
       simp only[hkd,hv,decide_true,Bool.true_and]at hno;rw[List.any_eq_false]at hno
       simpa using hno D.slots[j] (List.getElem_mem hjl)
      have hw:IntKind.i64.wrap ((j:Int)+1)=(j:Int)+1:=IntWalk.i64_in _ (by omega);simp[mkS,mkB,zO,zB,hjl,hdS,hbS,zAi];refine qO (zDd D.slots[j].typ t) (by simp[zB]) (by simp) ?_;rw[hsf];simp[mkS,mkB];exact zT (j+1) hjl (by omega) (zR [0,1,2,3,4] 0 (by decide) (by simp) (by simp[mkS,mkB,zB,zF,Exp.zero,Id.zero,Typ.zero,zO,hkd]) (by simp[hw]))
    ·simp[mkS,mkB,zO,zB,hjl,hkd];intro _;exact zT (i+1) (by omega) (by omega) (zR [0,1,2,3] 0 (by decide) (by simp) (by simp[mkS,mkB,zB,zF,Exp.zero,Id.zero,Typ.zero]) (by simp[w2]))
   ·simp[mkS,mkB,zO,zB,hjl];intro _;exact zT (i+1) (by omega) (by omega) (zR [0,1,2,3] 0 (by decide) (by simp) (by simp[mkS,mkB,zB,zF,Exp.zero,Id.zero,Typ.zero]) (by simp[w2]))
  ·have hie:i=i0:=by omega
   subst hie;obtain⟨hkd,hv,j0,hj0,a,m1,hj1,hj2,g1,hln,he1,he2⟩:=hhit' rfl;rw[hkk]at hv;obtain⟨l1,l2,l3,l4,l5,l6,l7,l8⟩:=hln;subst he1 he2;refine qY (S:=Nat) (fun j=>[(0,.ptr 0 0),(2,.sl env.length (zM env)),(3,int x),(4,int depth),(6,.ptr 2 0),(10,.ptr 3 0),(11,int i),(12,int k),(13,.ptr 4 0),(14,int j)])
    (fun _=>mkS m++[.box (zB t),.box (zF Exp.zero),.box (zO D)]) (fun j=>j≤j0) (fun j=>j0-j) 0 (by simp)
    (zR [0,1,2,3,4] 0 (by decide) (by simp) (by simp[mkS,mkB,zB,zF,Exp.zero,Id.zero,Typ.zero,zO]) (by simp)) ?_
   intro j hj;have hjl:j<D.slots.length:=by omega
   have hdS:List.drop (j*11+4) (jT D.slots)=(zAi D.slots[j]++jT (D.slots.drop (j+1))).drop 4:=by rw[←List.drop_drop,jP hjl]
   have hbS:j*11+4+5≤D.slots.length*11:=by omega
   have hw:IntKind.i64.wrap ((j:Int)+1)=(j:Int)+1:=IntWalk.i64_in _ (by omega);simp[mkS,mkB,zO,zB,hjl,hkd];intro _;refine zN (zKw m k hkm hx.mods) [0,1] (by decide) (by simp[mkS,mkB]) (by simp) ?_;rw[hv];simp[mkS,mkB,zO,zB,hjl,hdS,hbS,zAi];refine qO (zDd D.slots[j].typ t) (by simp[zB]) (by simp) ?_;by_cases hjj:j<j0
   ·rw[hj2 j hjj];simp[mkS,mkB];exact zT (j+1) hjj (by omega) (zR [0,1,2,3,4] 0 (by decide) (by simp) (by simp[mkS,mkB,zB,zF,Exp.zero,Id.zero,Typ.zero,zO,hkd]) (by simp[hw]))
   ·have hje:j=j0:=by omega
    subst hje;rw[hj1];simp[mkS,mkB];refine zQ (zL6 D.id) (by simp[qF]) (by simp) ?_;simp[mkS,mkB,wd];refine zN g1 [0,1] (by decide) (by simp[mkS,mkB]) (by simp[zB,zAy]) ?_;simp[mkS,mkB];refine zN (yC m1 8 j [a] l3 (by omega) (by omega) l6) [0,1] (by decide) (by simp[mkS,mkB]) (by simp[zJ]) ?_;simp[mkS,mkB,zF];exact zG [0,1] 0 (by decide) (by simp) (by simp) (by simp[zF,zJ])
 ·have hii:i=m.defs.length:=by omega
  have hi0':i0=m.defs.length:=by omega
  subst hii;simp[mkS,mkB,zB];refine zN (hfull hi0') [0,1] (by decide) (by simp[mkS,mkB]) (by simp[zB]) ?_;simp[mkS,mkB];exact zG [0,1] 0 (by decide) (by simp) (by simp) (by simp[zF])
end Go.Proofs.YthglhccibdlccaaGreatDoor
