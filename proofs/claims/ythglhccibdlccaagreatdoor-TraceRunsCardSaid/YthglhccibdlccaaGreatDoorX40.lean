/-
  What a run asks is bounded by its fuel; the three evaluators have the same states, and the same values where nothing fails.
  The program's operations: numbers, truth values, lists.
  The reference's operations.
-/
import Derived.Test.YthglhccibdlccaaGreatDoorX39
import Derived.Test.YthglhccibdlccaaGreatDoorX20
import Derived.Test.YthglhccibdlccaaGreatDoorX17
set_option linter.unusedVariables false
set_option linter.unusedSimpArgs false
namespace Go.Proofs.YthglhccibdlccaaGreatDoor
open Go.Abs
structure Bn (c:Nat)(m:Int)(s:XS):Prop where
 ns:s.ns.length+s.fuel.toNat≤c
 ds:s.ds.length+s.fuel.toNat≤c
 fu:s.fuel≤m
structure Bd (c:Nat)(m:Int)(s:XS):Prop where
 ns:s.ns.length+s.fuel.toNat≤c
 ds:s.ds.length+s.fuel.toNat≤c
 fu:s.fuel≤m
 ok:s.fail=0→s.ds.length+s.fuel.toNat+1≤c
theorem Bd.bn {c:Nat}{m:Int}{s:XS}(h:Bd c m s):Bn c m s:=⟨h.ns,h.ds,h.fu⟩
theorem Bd.mono {c:Nat}{m m':Int}{s:XS}(h:Bd c m s)(hm:m≤m'):Bd c m' s:=⟨h.ns,h.ds,by have:=h.fu; omega,h.ok⟩
theorem Bn.bad {c:Nat}{m:Int}{s:XS}(h:Bn c m s)(hf:s.fail≠0):Bd c m s:=⟨h.ns,h.ds,h.fu,fun e=>(hf e).elim⟩
theorem Bn.fail {c:Nat}{m:Int}{s:XS}(h:Bn c m s){x:Int}(hx:x≠0):Bd c m {s with fail:=x}:=⟨h.ns,h.ds,h.fu,fun e=>(hx e).elim⟩
theorem Bn.tick {c:Nat}{m:Int}{s:XS}(h:Bn c m s)(e:Exp)(hf:¬s.fuel≤0):Bd c (m-1) (zD4 e s):=by obtain⟨h1,h2,h3⟩:=h;unfold zD4;exact⟨by simp only[List.length_append,List.length_singleton]; omega,by dsimp only; omega,by dsimp only; omega,fun _=>by dsimp only; omega⟩
theorem Bd.def {c:Nat}{m:Int}{s:XS}(h:Bd c m s)(d:Id)(hf:s.fail=0):Bn c m {s with ds:=s.ds++[d]}:=by have:=h.ok hf;exact⟨h.ns,by simp only[List.length_append,List.length_singleton]; omega,h.fu⟩
section
variable {p:Prg}{ev:Evl}{c:Nat}{m:Int}
theorem zJ0 (h:∀e V s,Bn c m s→Bd c m (ev e V s).2)(V:List EVar):∀(l:List Exp) (s:XS),Bd c m s→Bd c m (qK ev V l s).2
 | [],s,hs=>hs
 | e::l,s,hs=>by simp only[qK]; exact zJ0 h V l _ (h e V s hs.bn)
theorem zKi (h:∀e V s,Bn c m s→Bd c m (ev e V s).2)(V:List EVar)(i:Id)(b:Exp):∀(l:List Val) (r:Val×XS),Bd c m r.2→Bd c m (jR ev V i b l r).2
 | [],r,hs=>hs
 | e::l,r,hs=>by simp only[jR]; exact zKi h V i b l _ (h _ _ _ hs.bn)
theorem zJK (h:∀e V s,Bn c m s→Bd c m (ev e V s).2)(d:Dfn)(vs:List Val)(s:XS)(hs:Bd c m s):Bd c m (zA6 ev d vs s).2:=by
 unfold zA6;split
 ·exact hs
 ·rename_i hf;exact h _ _ _ (hs.def d.id (by omega))
theorem zPn (h:∀e V s,Bn c m s→Bd c m (ev e V s).2)(e:Exp)(V:List EVar)(s:XS)(hs:Bd c m s):Bd c m (jA ev e V s).2:=by
 unfold jA;have h0:=h (e.kids.headD .zero) V s hs.bn;generalize ev (e.kids.headD .zero) V s=r at *
 repeat' split
 all_goals first
  | exact h0
  | exact h _ _ _ h0.bn
  | exact zKi h _ _ _ _ _ (h _ _ _ h0.bn)
theorem zSW (h:∀e V s,Bn c m s→Bd c m (ev e V s).2)(fl:Nat)(e:Exp)(V:List EVar)(s:XS)(hs:Bd c m s):Bd c m (qJ p fl ev e V s).2:=by
 unfold qJ;have h0:=zJ0 h V e.kids s hs;generalize qK ev V e.kids s=r at *
 repeat' split
 all_goals first
  | exact hs
  | exact h0
  | exact zPn h _ _ _ hs
  | exact zJK h _ _ _ h0
theorem zXJ {r:Val×XS}(h:Bd c m r.2):Bd c m (zB8 r):=by
 unfold zB8;split
 ·exact h.bn.fail (by decide)
 ·exact h
theorem zH8 (fl:Nat):∀(n:Nat) e V s,Bn c m s→Bd c m (zAs p fl n e V s).2
 | 0,e,V,s,hs=>by
  rw[zAs];split
  ·rename_i h; exact hs.bad h
  ·exact hs.fail (by decide)
 | n+1,e,V,s,hs=>by
  rw[zAs];split
  ·rename_i h; exact hs.bad h
  ·split
   ·exact hs.fail (by decide)
   ·rename_i h;exact zXJ (zSW (zH8 fl n) fl e V _ ((hs.tick e h).mono (by omega)))
end
def Eqv (r r':Val×XS):Prop:=r.2=r'.2∧(r.2.fail=0→r.1=r'.1)
theorem Eqv.rfl' (r:Val×XS):Eqv r r:=⟨rfl,fun _=>rfl⟩
section
variable {p:Prg}{f g:Evl}
end
def qFf:K:=G [kMi 2 0] (G [M 3 0,⟨none,.mm (some 4) true [(kt 3),(kc (-1099511627776))]⟩,⟨none,.mm (some 5) false [(kt 4),(kc 1099511627776)]⟩,M 2 5] kr)
theorem qLP:zL Tryz.prog Tryz.f200.ntmps (Tryz.f200.body.getD .skip)=some qFf.erase:=by kernel_rfl
@[simp] theorem qMO:zA Tryz.prog 200=true:=by kernel_rfl
theorem zNH (n:Int):Ret Tryz.prog 200 [int n] [] (int (zB3 n)) []:=by
 refine zK Tryz.func200 rfl qLP (rs:=[.slot 2]) (by kernel_rfl) ?_;unfold qFf;by_cases h1:n < -1099511627776
 ·simp[h1];exact zC 0 (by simp[zB3,h1,show ¬1099511627776<n by omega])
 ·by_cases h2:1099511627776<n
  ·simp[h1,h2];exact zC 0 (by simp[zB3,h2])
  ·simp[h1,h2];exact zC 0 (by simp[zB3,h1,h2])
def qFp:K:=G [kZ 2 [ki,ki,kl]] (Z (G [M 3 0] (Y 3 (G [kb 4 [ki,ki,kl] [(0,1,(kc 1)),(1,1,(kc 1))],S 2 4 3] kr) ks)) (G [kb 5 [ki,ki,kl] [(0,1,(kc 1))],S 2 5 3] kr))
theorem qLZ:zL Tryz.prog Tryz.f162.ntmps (Tryz.f162.body.getD .skip)=some qFp.erase:=by kernel_rfl
@[simp] theorem qMZ:zA Tryz.prog 162=true:=by kernel_rfl
theorem zAA (b:Bool):Ret Tryz.prog 162 [bl b] [] (.agg (zI (zBB b))) []:=by
 refine zK Tryz.func162 rfl qLZ (rs:=[.cell 2 3 true]) (by kernel_rfl) ?_;unfold qFp;cases b with
 | true =>
  simp;exact zC 0 (by simp[zI,zBB,Val.k,Val.n,Val.kids])
 | false =>
  simp;exact zC 0 (by simp[zI,zBB,Val.k,Val.n,Val.kids])
def Rng (a:Int):Prop:=-1099511627776≤a∧a≤1099511627776
def qFk:K:=G [kMi 4 0] (G [M 5 0,M 6 1,kB 7 5 6 .add,kC 8 200 [(kt 7)],M 4 8] kr)
theorem qLU:zL Tryz.prog Tryz.f199.ntmps (Tryz.f199.body.getD .skip)=some qFk.erase:=by kernel_rfl
@[simp] theorem qMU:zA Tryz.prog 199=true:=by kernel_rfl
def qFl:K:=G [kMi 4 0] (G [M 5 0,M 6 1,kB 7 5 6 .sub,kC 8 200 [(kt 7)],M 4 8] kr)
theorem qLV:zL Tryz.prog Tryz.f201.ntmps (Tryz.f201.body.getD .skip)=some qFl.erase:=by kernel_rfl
@[simp] theorem qMV:zA Tryz.prog 201=true:=by kernel_rfl
def qFo:K:=G [kMi 4 0] (Z (G [M 5 0,kQi 6 5 0 false,M 7 6,T 7 false (M 8 1),T 7 false (kQi 9 8 0 false),kPt 10 7 9] (Y 10 (G [kMi 4 0] kr) ks)) (Z (G [M 11 0,M 12 0,⟨none,.neg (some 13) (kt 12)⟩,⟨none,.mm (some 14) true [(kt 11),(kt 13)]⟩,M 15 1,M 16 1,⟨none,.neg (some 17) (kt 16)⟩,⟨none,.mm (some 18) true [(kt 15),(kt 17)]⟩,⟨none,.bin (some 19) .quo (kc 1099511627776) (kt 18)⟩,kB 20 14 19 .gtr] (Y 20 (Z (G [M 21 0,kBi 22 21 0 .lss,M 23 1,kBi 24 23 0 .lss,⟨none,.eqv (some 25) false .b (kt 22) (kt 24)⟩] (Y 25 (G [kMi 4 1099511627776] kr) ks)) (G [⟨none,.mov (some 4) (kc (-1099511627776))⟩] kr)) ks)) (G [M 26 0,M 27 1,kB 28 26 27 .mul,M 4 28] kr)))
theorem qLY:zL Tryz.prog Tryz.f202.ntmps (Tryz.f202.body.getD .skip)=some qFo.erase:=by kernel_rfl
@[simp] theorem qMY:zA Tryz.prog 202=true:=by kernel_rfl
def qFi:K:=G [kMi 4 0] (Z (G [M 6 1,kQi 7 6 0 false] (Y 7 (G [kMi 4 0] kr) ks)) (G [M 8 0,M 9 1,kB 10 8 9 .quo,M 5 10] (Z (G [M 11 0,M 12 1,kB 13 11 12 .rem,kQi 14 13 0 true,M 15 14,T 15 true (M 16 0),T 15 true (kBi 17 16 0 .lss),T 15 true (M 18 1),T 15 true (kBi 19 18 0 .lss),⟨some (15,true),.eqv (some 20) true .b (kt 17) (kt 19)⟩,kPf 21 15 20] (Y 21 (K.ops [M 22 5,kBi 23 22 1 .sub,M 5 23]) ks)) (G [M 24 5,M 4 24] kr))))
theorem qLS:zL Tryz.prog Tryz.f203.ntmps (Tryz.f203.body.getD .skip)=some qFi.erase:=by kernel_rfl
@[simp] theorem qMR:zA Tryz.prog 203=true:=by kernel_rfl
def qFn:K:=G [kMi 4 0] (Z (G [M 5 1,kQi 6 5 0 false] (Y 6 (G [kMi 4 0] kr) ks)) (G [M 7 0,M 8 1,M 9 0,M 10 1,kC 11 203 [(kt 9),(kt 10)],kB 12 8 11 .mul,kB 13 7 12 .sub,M 4 13] kr))
theorem qLX:zL Tryz.prog Tryz.f204.ntmps (Tryz.f204.body.getD .skip)=some qFn.erase:=by kernel_rfl
@[simp] theorem qMX:zA Tryz.prog 204=true:=by kernel_rfl
theorem zXc {a b:Int}(ha:Rng a)(hb:Rng b):Ret Tryz.prog 199 [int a,int b] [] (int (zB3 (a+b))) []:=by obtain⟨a1,a2⟩:=ha;obtain⟨b1,b2⟩:=hb;refine zK Tryz.func199 rfl qLU (rs:=[.slot 4]) (by kernel_rfl) ?_;unfold qFk;have hw:IntKind.i64.wrap (a+b)=a+b:=IntWalk.i64_in _ (by omega);simp[hw];refine zR (zNH (a+b)) (by simp) (by simp) ?_;simp;exact zC 0 (by simp)
theorem zXx {a b:Int}(ha:Rng a)(hb:Rng b):Ret Tryz.prog 201 [int a,int b] [] (int (zB3 (a-b))) []:=by obtain⟨a1,a2⟩:=ha;obtain⟨b1,b2⟩:=hb;refine zK Tryz.func201 rfl qLV (rs:=[.slot 4]) (by kernel_rfl) ?_;unfold qFl;have hw:IntKind.i64.wrap (a-b)=a-b:=IntWalk.i64_in _ (by omega);simp[hw];refine zR (zNH (a-b)) (by simp) (by simp) ?_;simp;exact zC 0 (by simp)
theorem zRT {m n q:Nat}(hq:1099511627776 / n=q)(hn:0<n):(q<m→1099511627776<m*n)∧(¬q<m→m*n≤1099511627776):=by
 constructor
 ·intro h;rw[←hq]at h;exact(Nat.div_lt_iff_lt_mul hn).1 h
 ·intro h;rw[←hq]at h;have:=mt (Nat.div_lt_iff_lt_mul hn).2 h;omega
theorem zR1 (a:Int)(h:a≠0):∃m:Nat,0<m∧(a=m∨a = -(m:Int)):=⟨a.natAbs,by omega,by omega⟩
set_option maxHeartbeats 1000000 in
theorem zSd {a b:Int}(ha:Rng a)(hb:Rng b):Ret Tryz.prog 202 [int a,int b] [] (int (zB3 (a*b))) []:=by
 obtain⟨a1,a2⟩:=ha;obtain⟨b1,b2⟩:=hb;refine zK Tryz.func202 rfl qLY (rs:=[.slot 4]) (by kernel_rfl) ?_;unfold qFo;by_cases h0:a=0
 ·subst h0;simp;exact zC 0 (by simp[zB3])
 by_cases h1:b=0
 ·subst h1;simp[h0];exact zC 0 (by simp[zB3])
 obtain⟨m,m0,hm⟩:=zR1 a h0;obtain⟨n,n0,hn⟩:=zR1 b h1;obtain⟨q,hq⟩:∃q:Nat,1099511627776 / n=q:=⟨_,rfl⟩;obtain⟨c1,c2⟩:=zRT (m:=m) hq n0;have hqd:Int.tdiv 1099511627776 (n:Int)=(q:Int):=by rw[tdN (by omega),←hq]; rfl
 have hqle:q≤1099511627776:=by rw[←hq]; exact Nat.div_le_self _ _
 have wq:IntKind.i64.wrap (q:Int)=q:=IntWalk.i64_in _ (by omega);have wm:IntKind.i64.wrap (m:Int)=m:=IntWalk.i64_in _ (by omega);have wn:IntKind.i64.wrap (n:Int)=n:=IntWalk.i64_in _ (by omega);have wm':IntKind.i64.wrap (-(m:Int)) = -m:=IntWalk.i64_in _ (by omega);have wn':IntKind.i64.wrap (-(n:Int)) = -n:=IntWalk.i64_in _ (by omega);have x1:¬((m:Int) < -m):=by omega
 have x2:(-(m:Int))<m:=by omega
 have y1:¬((n:Int) < -n):=by omega
 have y2:(-(n:Int))<n:=by omega
 have z1:¬((m:Int)<0):=by omega
 have z2:(-(m:Int))<0:=by omega
 have z3:¬((n:Int)<0):=by omega
 have z4:(-(n:Int))<0:=by omega
 have m1:¬m=0:=by omega
 have n1:¬n=0:=by omega
 have p0:(m:Int)*n=((m*n:Nat):Int):=by push_cast; rfl
 generalize hmn:m*n=s at *
 by_cases hc:(q:Int)<m
 ·have hs:=c1 (by omega);have k1:zB3 (s:Int)=1099511627776:=by unfold zB3; rw[if_pos (by omega)]
  have k2:zB3 (-(s:Int)) = -1099511627776:=by unfold zB3; rw[if_neg (by omega),if_pos (by omega)]
  rcases hm with rfl | rfl<;>rcases hn with rfl | rfl<;>simp[m1,n1,wm,wn,wm',wn',x1,x2,y1,y2,z1,z2,z3,z4,m0,n0,hqd,wq,hc]<;>exact zC 0 (by simp[Int.neg_mul,Int.mul_neg,p0,k1,k2])
 ·have hs:=c2 (by omega);have k1:zB3 (s:Int)=s:=by unfold zB3; rw[if_neg (by omega),if_neg (by omega)]
  have k2:zB3 (-(s:Int)) = -s:=by unfold zB3; rw[if_neg (by omega),if_neg (by omega)]
  have w1:IntKind.i64.wrap (s:Int)=s:=IntWalk.i64_in _ (by omega);have w2:IntKind.i64.wrap (-(s:Int)) = -s:=IntWalk.i64_in _ (by omega);rcases hm with rfl | rfl<;>rcases hn with rfl | rfl<;>simp[m1,n1,wm,wn,wm',wn',x1,x2,y1,y2,z1,z2,z3,z4,m0,n0,hqd,wq,hc]<;>exact zC 0 (by simp[Int.neg_mul,Int.mul_neg,p0,k1,k2,w1,w2])
theorem zJZ {a b:Int}(ha:Rng a)(hb:Rng b):Ret Tryz.prog 203 [int a,int b] [] (int (zGB a b)) []:=by
 obtain⟨a1,a2⟩:=ha;refine zK Tryz.func203 rfl qLS (rs:=[.slot 4]) (by kernel_rfl) ?_;unfold qFi;by_cases h1:b=0
 ·subst h1;simp;exact zC 0 (by simp[zGB])
 have ht:=zR3 (b:=b) a1 a2;have w1:IntKind.i64.wrap (a.tdiv b)=a.tdiv b:=IntWalk.i64_in _ (by omega);have w2:IntKind.i64.wrap (a.tdiv b-1)=a.tdiv b-1:=IntWalk.i64_in _ (by omega);have e:zGB a b=if a.tmod b≠0∧¬(a<0↔b<0) then a.tdiv b-1 else a.tdiv b:=by unfold zGB; rw[if_neg h1]
 rw[e];by_cases hm:a.tmod b=0
 ·simp[h1,hm,w1];exact zC 0 (by simp[hm])
 by_cases s1:a<0<;>by_cases s2:b<0<;>simp[h1,hm,w1,s1,s2,w2]<;>exact zC 0 (by simp[hm,s1,s2])
theorem zUN {a b:Int}(ha:Rng a)(hb:Rng b):Ret Tryz.prog 204 [int a,int b] [] (int (zNd a b)) []:=by
 have hd:=zJZ ha hb;refine zK Tryz.func204 rfl qLX (rs:=[.slot 4]) (by kernel_rfl) ?_;unfold qFn;by_cases h1:b=0
 ·subst h1;simp;exact zC 0 (by simp[zNd])
 have hr:=zKG (a:=a) hb.1 hb.2;have e:zNd a b=a-b*zGB a b:=by unfold zNd; rw[if_neg h1]
 obtain⟨a1,a2⟩:=ha;have w1:IntKind.i64.wrap (b*zGB a b)=b*zGB a b:=IntWalk.i64_in _ (by omega);have w2:IntKind.i64.wrap (a-b*zGB a b)=a-b*zGB a b:=IntWalk.i64_in _ (by omega);simp[h1];refine zR hd (by simp) (by simp) ?_;simp[w1,w2];exact zC 0 (by simp[e])
def zOF:Go.Shelf.Ren:=⟨fun | 4=>181 | n=>n,fun | 0=>0 | 3=>3 | 4=>4 | 9=>9 | 20=>20 | 22=>40 | 25=>47 | n=>n,fun n=>n⟩
theorem zVs:Go.Proofs.Lays8.n4 Tryz.prog zOF:={
 mixed:=by kernel_rfl,
 f4:=⟨Tryz.f181.name,by decide,Tryz.func181.trans (congrArg some (by kernel_rfl))⟩,
 t0:=Tryz.underlying0,
 a0:=Tryz.isAgg0,
 z0:=Tryz.sizeOf0,
 v0:=Tryz.zeroValue0,
 t3:=Tryz.underlying3,
 a3:=Tryz.isAgg3,
 z3:=Tryz.sizeOf3,
 v3:=Tryz.zeroValue3,
 t4:=Tryz.underlying4,
 a4:=Tryz.isAgg4,
 z4:=Tryz.sizeOf4,
 v4:=Tryz.zeroValue4,
 t9:=Tryz.underlying9,
 a9:=Tryz.isAgg9,
 z9:=Tryz.sizeOf9,
 v9:=Tryz.zeroValue9,
 t20:=Tryz.underlying20,
 a20:=Tryz.isAgg20,
 z20:=Tryz.sizeOf20,
 v20:=Tryz.zeroValue20,
 t22:=Tryz.underlying40,
 a22:=Tryz.isAgg40,
 z22:=Tryz.sizeOf40,
 v22:=Tryz.zeroValue40}
@[simp] theorem qGZ:zA Tryz.prog 181=true:=by kernel_rfl
theorem zNU (n:Nat)(hn:n≤1000000):Ret Tryz.prog 181 [.nil,int n] [] (.row 0 0) [.row false 47 3 0 []] :=
 zLV (ρ:=zOF) (sz:=3) (bs:=40) (z:=.agg #[.int .i64 0,.int .i64 0,.slice none 0 0]) zVs (by kernel_rfl) rfl (by omega) (by omega) (by omega)
def zNq:K:=G [kMn 2] (G [kMi 3 0] (Z (G [M 9 0,kN 10 9,kMi 11 0] (K.block 0 (K.loop (G [kB 12 11 10 .lss] (Z (Y 12 ks (K.exit 0)) (Z (K.block 1 (G [kX 13 9 11 1,L 14 13 1,M 5 14] (G [M 15 3,M 16 5,kN 17 16,kB 18 15 17 .add,M 3 18] (G [M 19 3,kBi 20 19 0 .lss] (Y 20 (K.ops [⟨none,.mki (some 21) 9 (.const (.string ⟨#[108,101,110,32,111,117,116,32,111,102,32,114,97,110,103,101]⟩))⟩,⟨none,.pan none (kt 21)⟩]) ks))))) (K.ops [kBi 22 11 1 .add,M 11 22]))))))) (G [M 23 3,kC 24 181 [(.const kl),(kt 23)],M 6 24] (Z (G [M 25 0,kN 26 25,kMi 27 0] (K.block 2 (K.loop (G [kB 28 27 26 .lss] (Z (Y 28 ks (K.exit 2)) (Z (K.block 3 (G [kX 29 25 27 1,L 30 29 1,M 8 30] (K.ops [M 31 6,M 32 8,kP 33 47 3 40 31 32,M 6 33]))) (K.ops [kBi 34 27 1 .add,M 27 34]))))))) (G [M 35 6,M 2 35] kr)))))
theorem zTN:zL Tryz.prog Tryz.f168.ntmps (Tryz.f168.body.getD .skip)=some zNq.erase:=by kernel_rfl
@[simp] theorem qAS:zA Tryz.prog 168=true:=by kernel_rfl
def zAE (Ls:List (List Val)):List A:=Ls.map fun l=>A.sl l.length (zV l)
theorem zDT:∀(Ls:List (List Val)),jE (zAE Ls)
 | []=>jE.nil
 | l::Ls=>by
  have h1:=zDT Ls;have h2:=zBE l;refine⟨?_,fun rf g=>?_⟩
  ·show jG (A.sl l.length (zV l)::zAE Ls)=_;simp[h1.1];rfl
  ·show vwL rf g (A.sl l.length (zV l)::zAE Ls)=_;simp[h1.2];rfl
@[simp] theorem zXT (l:List (List Val)):jG (zAE l)=zAE l:=(zDT l).1
@[simp] theorem qCH {rf g}(l:List (List Val)):vwL rf g (zAE l)=zAE l:=(zDT l).2 _ _
@[simp] theorem zZv (l:List (List Val)):(zAE l).length=l.length:=by simp[zAE]
theorem zHl {Ls:List (List Val)}{i:Nat}(h:i<Ls.length):(zAE Ls).drop i=.sl Ls[i].length (zV Ls[i])::zAE (Ls.drop (i+1)):=by rw[zAE,←List.map_drop,List.drop_eq_getElem_cons h]; rfl
def zDB (Ls:List (List Val)):Nat:=Ls.flatten.length
theorem zMz {Ls:List (List Val)}{i:Nat}(h:i<Ls.length):zDB (Ls.take (i+1))=zDB (Ls.take i)+Ls[i].length:=by rw[zDB,zDB,List.take_succ_eq_append_getElem h,List.flatten_append]; simp
theorem zR6 (Ls:List (List Val))(i:Nat):zDB (Ls.take i)≤zDB Ls:=by
 have:Ls.flatten=(Ls.take i).flatten++(Ls.drop i).flatten:=by rw[←List.flatten_append,List.take_append_drop]
 rw[zDB,zDB,this,List.length_append]; omega
theorem zLq (Ls:List (List Val))(hb:zDB Ls≤1000000):Ret Tryz.prog 168 [.sl Ls.length (zAE Ls)] [] (.sl (zDB Ls) (zV Ls.flatten)) []:=by
 refine zK Tryz.func168 rfl zTN (rs:=[.slot 2]) (by kernel_rfl) ?_;unfold zNq;simp;intro hl;refine qZ (S:=Nat) (fun i=>[(0,.sl Ls.length (zAE Ls)),(3,int (zDB (Ls.take i))),(9,.sl Ls.length (zAE Ls)),(10,int Ls.length),(11,int i)]) (fun s=>[]) (fun i=>i≤Ls.length) (fun i=>Ls.length-i) 0 (by simp)
  (zS [] 0 (by simp) (by simp) (by simp) (by simp[zDB])) ?_
 intro i hi;by_cases h:i<Ls.length
 ·have ht:=zMz h;have hle:=zR6 Ls (i+1);have hw:IntKind.i64.wrap ((zDB (Ls.take i):Int)+(Ls[i].length:Int))=(zDB (Ls.take (i+1)):Nat):=by rw[ht]; push_cast; exact IntWalk.i64_in _ (by omega)
  have h0:¬((zDB (Ls.take (i+1)):Nat):Int)<0:=by omega
  simp[h,zHl h];intro _;simp[hw,h0];exact zT (i+1) h (by omega) (zS [] 0 (by simp) (by simp) (by simp) (by simp[qB h hl]))
 ·have hil:i=Ls.length:=by omega
  subst hil;have hI:¬(Ls.length:Int)<Ls.length:=by omega
  simp;refine zN (zNU (zDB Ls) hb) [] (by simp) (by simp) (by simp) ?_;simp;intro _;refine qZ (S:=Nat) (fun i=>[(6,.row 0 (zDB (Ls.take i))),(25,.sl Ls.length (zAE Ls)),(26,int Ls.length),(27,int i)]) (fun i=>[.row false 47 3 (zDB (Ls.take i)) (zV (Ls.take i).flatten)]) (fun i=>i≤Ls.length) (fun i=>Ls.length-i) 0 (by simp)
   (zS [0] 0 (by simp) (by simp) (by simp[zDB]) (by simp[zDB])) ?_
  intro i hi;by_cases h:i<Ls.length
  ·have ht:=zMz h;have hle:=zR6 Ls (i+1);have hf:(Ls.take (i+1)).flatten=(Ls.take i).flatten++Ls[i]:=by rw[List.take_succ_eq_append_getElem h,List.flatten_append]; simp
   simp[h,zHl h];refine⟨⟨by simp[maxLen]; omega,by omega⟩,?_⟩;exact zT (i+1) h (by omega) (zS [0] 0 (by simp) (by simp) (by simp[ht,hf,zAK]) (by simp[ht,qB h hl]))
  ·have hil:i=Ls.length:=by omega
   subst hil;simp;exact zC 1 (by simp)
def qFg:K:=G [kMn 2] (G [kMn 3] (Z (G [M 6 0,kN 7 6,kMi 8 0] (K.block 0 (K.loop (G [kB 9 8 7 .lss] (Z (Y 9 ks (K.exit 0)) (Z (K.block 1 (G [kX 10 6 8 3,J 11 10 3,kZ 5 [ki,ki,kl],S 5 11 3] (G [D 12 5 2,L 13 12 1,kC 14 113 [(kt 13)],D 15 5 2,S 15 14 1] (K.ops [M 16 3,J 17 5 3,kd 18 47 3 1 [ki,ki,kl] [(0,3,(kt 17))],kP 19 47 3 40 16 18,M 3 19])))) (K.ops [kBi 20 8 1 .add,M 8 20]))))))) (G [M 21 3,M 2 21] kr)))
theorem qLQ:zL Tryz.prog Tryz.f113.ntmps (Tryz.f113.body.getD .skip)=some qFg.erase:=by kernel_rfl
@[simp] theorem qMP:zA Tryz.prog 113=true:=by kernel_rfl
mutual
theorem zGC:∀(l:List Val),qV l≤1000000→Ret Tryz.prog 113 [.sl l.length (zV l)] [] (.sl l.length (zV l)) []
 | l,hz=>by
  have hl6:=zD3 l;refine zK Tryz.func113 rfl qLQ (rs:=[.slot 2]) (by kernel_rfl) ?_;unfold qFg;simp;intro hl;refine qZ (S:=Nat) (fun i=>[(3,.row 0 i),(6,.sl l.length (zV l)),(7,int l.length),(8,int i)]) (fun i=>[.row false 47 3 i (zV (l.take i))]) (fun i=>i≤l.length) (fun i=>l.length-i) 0 (by simp)
   ((yA (t:=3) (by simp) 47 3).trans (zS [0] 0 (by simp) (by simp) (by simp) (by simp))) ?_
  intro i hi;by_cases h:i<l.length
  ·have hk:=zIW l hz l[i] (List.getElem_mem h);have ht:zV (l.take (i+1))=zV (l.take i)++[.lit (.int .i64 l[i].k),.lit (.int .i64 l[i].n),.sl l[i].kids.length (zV l[i].kids)]:=by rw[List.take_succ_eq_append_getElem h,zAK]; simp
   simp[h,jD h];refine zR hk (by simp) (by simp) ?_;simp;refine⟨⟨by simp[maxLen]; omega,by omega⟩,?_⟩;exact zT (i+1) h (by omega) (zS [0] 0 (by simp) (by simp) (by simp[ht]) (by simp[qB h hl]))
  ·have hil:i=l.length:=by omega
   subst hil;simp;exact zC 1 (by simp)
theorem zIW:∀(l:List Val),qV l≤1000000→∀x∈l,Ret Tryz.prog 113 [.sl x.kids.length (zV x.kids)] [] (.sl x.kids.length (zV x.kids)) []
 | [],_,x,h=>by simp at h
 | .mk k n ks::l,hz,x,h=>by
  simp only[qV,qH]at hz
  if e:x∈l then exact zIW l (by omega) x e
  else
   have:x=.mk k n ks:=(List.mem_cons.1 h).resolve_right e;subst this;exact zGC ks (by omega)
end
def qFm:K:=G [kZ 4 [ki,ki,kl]] (Z (G [M 7 0,kBi 8 7 0 .geq,M 9 8,T 9 true (M 10 0),T 9 true (kBi 11 10 5 .lss),kPf 12 9 11,M 13 12,T 13 true (M 14 1),T 13 true (kN 15 14),T 13 true (kQi 16 15 2 false),kPf 17 13 16] (Y 17 (Z (K.dops [(0,0,M 18 0),(1,0,⟨none,.idxarr (some 19) (.global 0) (kt 18) 5 1⟩),(2,0,L 20 19 1),(3,0,M 21 1),(4,0,kXi 22 21 3 0),(5,0,D 23 22 1),(6,0,L 24 23 1),(7,0,M 25 1),(8,0,kXi 26 25 3 1),(9,0,D 27 26 1),(10,0,L 28 27 1),(11,0,⟨none,.call (some 29) (kt 20) [(kt 24),(kt 28)]⟩),(12,0,kb 30 [ki,ki,kl] [(1,1,(kt 29))]),(13,0,S 4 30 3)]) kr) ks)) (Z (K.block 0 (G [M 32 0,kQi 33 32 9 false,M 34 33,T 34 true (M 35 1),T 34 true (kN 36 35),T 34 true (kQi 37 36 1 false),kPf 38 34 37,M 31 38] (Y 31 (G [M 39 1,kXi 40 39 3 0,D 41 40 1,L 42 41 1,kQi 43 42 0 false,kC 44 162 [(kt 43)],S 4 44 3] kr) (G [M 46 0,kQi 47 46 11 false,M 48 47,T 48 true (M 49 1),T 48 true (kN 50 49),T 48 true (kQi 51 50 1 false),kPf 52 48 51,M 45 52] (Y 45 (G [M 53 1,kXi 54 53 3 0,D 55 54 2,L 56 55 1,kN 57 56,kb 58 [ki,ki,kl] [(1,1,(kt 57))],S 4 58 3] kr) (G [M 60 1,kN 61 60,kQi 62 61 2 true,M 59 62] (Y 59 (G [kb 63 [ki,ki,kl] [],S 4 63 3] kr) ks))))))) (Z (K.wk (K.dops [(0,0,M 64 1),(1,2,kXi 65 64 3 0),(2,2,J 66 65 3),(3,0,M 67 1),(4,2,kXi 68 67 3 1),(5,2,J 69 68 3),(6,301,⟨none,.alr (some 5) 1 [ki,ki,kl]⟩),(7,302,⟨none,.alr (some 6) 2 [ki,ki,kl]⟩),(8,0,S 5 66 3),(9,0,S 6 69 3)])) (Z (G [M 70 0] (K.block 1 (G [kQi 72 70 5 false,M 71 72] (Y 71 (G [D 73 5 1,L 74 73 1,D 75 6 1,
 L 76 75 1,kB 77 74 76 .lss,kC 78 162 [(kt 77)],S 4 78 3] kr) (G [kQi 80 70 6 false,M 79 80] (Y 79 (G [J 81 5 3,J 82 6 3,kC 83 167 [(kt 81),(kt 82)],kQi 84 83 0 false,kC 85 162 [(kt 84)],S 4 85 3] kr) (G [kQi 87 70 7 false,M 86 87] (Y 86 (G [D 88 5 1,L 89 88 1,kQi 90 89 0 true,M 91 90,T 91 true (D 92 6 1),T 91 true (L 93 92 1),T 91 true (kQi 94 93 0 true),kPf 95 91 94,kC 96 162 [(kt 95)],S 4 96 3] kr) (G [kQi 98 70 8 false,M 97 98] (Y 97 (G [D 99 5 1,L 100 99 1,kQi 101 100 0 true,M 102 101,T 102 false (D 103 6 1),T 102 false (L 104 103 1),T 102 false (kQi 105 104 0 true),kPt 106 102 105,kC 107 162 [(kt 106)],S 4 107 3] kr) (G [kQi 109 70 10 false,M 108 109] (Y 108 (G [D 110 5 2,L 111 110 1,D 112 6 2,L 113 112 1,kd 114 40 1 2 [kl,kl] [(0,1,(kt 111)),(1,1,(kt 113))],kC 115 168 [(kt 114)],kC 116 113 [(kt 115)],kb 117 [ki,ki,kl] [(0,1,(kc 4)),(2,1,(kt 116))],S 4 117 3] kr) ks)))))))))))) (G [kb 118 [ki,ki,kl] [],S 4 118 3] kr)))))
def qOx:Nat→Option (List (Nat×Nat)):=fun r=>match r with | 9=>some [(0,0),(1,2),(2,2),(3,0),(4,2),(5,2),(6,301),(7,302),(8,0),(9,0)] | _=>none
theorem qLW:qC Tryz.prog Tryz.f145.ntmps qOx (Tryz.f145.body.getD .skip)=some qFm.erase:=by kernel_rfl
@[simp] theorem qMW:zA Tryz.prog 145=true:=by kernel_rfl
@[simp] theorem qJk (b:Bool):(zBB b).k=1:=rfl
@[simp] theorem qJl (b:Bool):(zBB b).n=if b then 1 else 0:=rfl
@[simp] theorem qAt (b:Bool):(zBB b).kids=[]:=rfl
@[simp] theorem qB8 {env:Env}:ev env (.global 0)=.rptr [.clo 199 [] [],.clo 201 [] [],.clo 202 [] [],.clo 203 [] [],.clo 204 [] []]:=rfl
theorem yI:2≤maxLen:=by simp[maxLen]
theorem zCu:1≤maxLen:=by simp[maxLen]
set_option maxHeartbeats 2000000 in
theorem zUK {p:Prg}{n:Int}{ts:List Typ}{t:Typ}(h:OpT n ts t){vs:List Val}(hv:TyL p ts vs)(hs:∀v∈vs,qH v≤256):Ret Tryz.prog 145 [int n,.sl vs.length (zV vs)] [] (.agg (zI (opV n vs))) []:=by
 refine zH Tryz.func145 rfl qLW (rs:=[.cell 4 3 true]) (by kernel_rfl) ?_;unfold qFm;cases h with
 | arith n h1 h2 =>
  obtain⟨a,b,rfl,ha,hb⟩:=hv.two;obtain⟨x,rfl,hx⟩:=ha.int_inv;obtain⟨y,rfl,hy⟩:=hb.int_inv;have e:opV n [.mk 0 x [],.mk 0 y []]=.mk 0 (zLz n x y) []:=by simp only[opV,if_pos h2]; rfl
  rw[e];have hn:n=0∨n=1∨n=2∨n=3∨n=4:=by omega
  rcases hn with rfl | rfl | rfl | rfl | rfl
  ·simp[Val.k,Val.n,Val.kids,yI,zCu];refine qE (zXc hx hy) (by simp) (by simp) ?_;simp;exact zC 0 (by simp[zI,Val.k,Val.n,Val.kids,zLz])
  ·simp[Val.k,Val.n,Val.kids,yI,zCu];refine qE (zXx hx hy) (by simp) (by simp) ?_;simp;exact zC 0 (by simp[zI,Val.k,Val.n,Val.kids,zLz])
  ·simp[Val.k,Val.n,Val.kids,yI,zCu];refine qE (zSd hx hy) (by simp) (by simp) ?_;simp;exact zC 0 (by simp[zI,Val.k,Val.n,Val.kids,zLz])
  ·simp[Val.k,Val.n,Val.kids,yI,zCu];refine qE (zJZ hx hy) (by simp) (by simp) ?_;simp;exact zC 0 (by simp[zI,Val.k,Val.n,Val.kids,zLz])
  ·simp[Val.k,Val.n,Val.kids,yI,zCu];refine qE (zUN hx hy) (by simp) (by simp) ?_;simp;exact zC 0 (by simp[zI,Val.k,Val.n,Val.kids,zLz])
 | less =>
  obtain⟨a,b,rfl,ha,hb⟩:=hv.two;obtain⟨x,rfl,hx⟩:=ha.int_inv;obtain⟨y,rfl,hy⟩:=hb.int_inv;simp[Val.k,Val.n,Val.kids,yI,zCu];refine⟨_,_,zAc 2,?_⟩;simp[Val.k,Val.n,Val.kids,yI,zCu];refine zR (zAA (decide (x<y))) (by simp) (by simp[zI]) ?_;simp[zI];exact zC 0 (by by_cases hx0:x<y<;>simp[zI,opV,zY,hx0])
 | same u =>
  obtain⟨a,b,rfl,ha,hb⟩:=hv.two;simp[yI];refine⟨_,_,zAc 2,?_⟩;simp[yI];refine zR (zQP a b) (by simp[zI]) (by simp) ?_;simp;refine zR (zAA (decide (zJv a b=0))) (by simp) (by simp[zI]) ?_;simp[zI];exact zC 0 (by simp[zI,opV])
 | andor n h =>
  obtain⟨a,b,rfl,ha,hb⟩:=hv.two;obtain⟨x,rfl,hx⟩:=ha.bool_inv;obtain⟨y,rfl,hy⟩:=hb.bool_inv;rcases h with rfl | rfl
  ·rcases hx with rfl | rfl<;>rcases hy with rfl | rfl
   ·simp[Val.k,Val.n,Val.kids,yI];refine⟨_,_,zAc 2,?_⟩;simp[Val.k,Val.n,Val.kids,yI];refine zR (zAA false) (by simp) (by simp[zI]) ?_;simp[zI];exact zC 0 (by simp[zI,opV,zY])
   ·simp[Val.k,Val.n,Val.kids,yI];refine⟨_,_,zAc 2,?_⟩;simp[Val.k,Val.n,Val.kids,yI];refine zR (zAA false) (by simp) (by simp[zI]) ?_;simp[zI];exact zC 0 (by simp[zI,opV,zY])
   ·simp[Val.k,Val.n,Val.kids,yI];refine⟨_,_,zAc 2,?_⟩;simp[Val.k,Val.n,Val.kids,yI];refine zR (zAA false) (by simp) (by simp[zI]) ?_;simp[zI];exact zC 0 (by simp[zI,opV,zY])
   ·simp[Val.k,Val.n,Val.kids,yI];refine⟨_,_,zAc 2,?_⟩;simp[Val.k,Val.n,Val.kids,yI];refine zR (zAA true) (by simp) (by simp[zI]) ?_;simp[zI];exact zC 0 (by simp[zI,opV,zY])
  ·rcases hx with rfl | rfl<;>rcases hy with rfl | rfl
   ·simp[Val.k,Val.n,Val.kids,yI];refine⟨_,_,zAc 2,?_⟩;simp[Val.k,Val.n,Val.kids,yI];refine zR (zAA false) (by simp) (by simp[zI]) ?_;simp[zI];exact zC 0 (by simp[zI,opV,zY])
   ·simp[Val.k,Val.n,Val.kids,yI];refine⟨_,_,zAc 2,?_⟩;simp[Val.k,Val.n,Val.kids,yI];refine zR (zAA true) (by simp) (by simp[zI]) ?_;simp[zI];exact zC 0 (by simp[zI,opV,zY])
   ·simp[Val.k,Val.n,Val.kids,yI];refine⟨_,_,zAc 2,?_⟩;simp[Val.k,Val.n,Val.kids,yI];refine zR (zAA true) (by simp) (by simp[zI]) ?_;simp[zI];exact zC 0 (by simp[zI,opV,zY])
   ·simp[Val.k,Val.n,Val.kids,yI];refine⟨_,_,zAc 2,?_⟩;simp[Val.k,Val.n,Val.kids,yI];refine zR (zAA true) (by simp) (by simp[zI]) ?_;simp[zI];exact zC 0 (by simp[zI,opV,zY])
 | not =>
  obtain⟨a,rfl,ha⟩:=hv.one;obtain⟨x,rfl,hx⟩:=ha.bool_inv;simp[Val.k,Val.n,Val.kids,yI,zCu];refine zR (zAA (decide (x=0))) (by simp) (by simp[zI]) ?_;simp[zI];exact zC 0 (by by_cases hx0:x=0<;>simp[zI,opV,zY,hx0])
 | join u =>
  obtain⟨a,b,rfl,ha,hb⟩:=hv.two;have h1:=hs a (by simp);have h2:=hs b (by simp);cases a with | mk k1 n1 l1 =>
  cases b with | mk k2 n2 l2 =>
  simp only[qH]at h1 h2;have z1:=zD3 l1;have z2:=zD3 l2;have hc:Ret Tryz.prog 168 [.sl 2 [.sl l1.length (zV l1),.sl l2.length (zV l2)]] [] (.sl (l1.length+l2.length) (zV (l1++l2))) []:=by simpa [zAE,zDB] using zLq [l1,l2] (by simp[zDB]; omega)
  have hk:=zGC (l1++l2) (by rw[zBS]; omega);rw[List.length_append]at hk;simp[Val.k,Val.n,Val.kids,yI,zCu];refine⟨_,_,zAc 2,?_⟩;simp[Val.k,Val.n,Val.kids,yI,zCu];refine zR hc (by simp) (by simp) ?_;simp;refine zR hk (by simp) (by simp) ?_;simp;exact zC 0 (by simp[zI,opV,Val.k,Val.n,Val.kids])
 | len u =>
  obtain⟨a,rfl,ha⟩:=hv.one;simp[zCu];exact fun _=>zC 0 (by simp[zI,opV,Val.k,Val.n,Val.kids])
@[simp] theorem qNw:zA Tryz.prog 179=true:=by kernel_rfl
@[simp] theorem qN2:zA Tryz.prog 178=true:=by kernel_rfl
@[simp] theorem qN1:zA Tryz.prog 161=true:=by kernel_rfl
end Go.Proofs.YthglhccibdlccaaGreatDoor
