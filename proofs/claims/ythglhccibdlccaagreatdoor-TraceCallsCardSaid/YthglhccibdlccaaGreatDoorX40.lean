/-
  What a run asks is bounded by its fuel; the three evaluators have the same states, and the same values where nothing fails.
  The program's operations: numbers, truth values, lists.
-/
import Derived.Test.YthglhccibdlccaaGreatDoorX39
import Derived.Test.YthglhccibdlccaaGreatDoorX20
import Derived.Test.YthglhccibdlccaaGreatDoorX17
set_option linter.unusedVariables false
set_option linter.unusedSimpArgs false
namespace Go.Proofs.YthglhccibdlccaaGreatDoor
open Go.Abs
structure Bn (c:Nat)(m:Int)(s:XS):Prop where
 ns:s.ns.length+s.fuel.toNat≤c
 ds:s.ds.length+s.fuel.toNat≤c
 fu:s.fuel≤m
structure Bd (c:Nat)(m:Int)(s:XS):Prop where
 ns:s.ns.length+s.fuel.toNat≤c
 ds:s.ds.length+s.fuel.toNat≤c
 fu:s.fuel≤m
 ok:s.fail=0→s.ds.length+s.fuel.toNat+1≤c
theorem Bd.bn {c:Nat}{m:Int}{s:XS}(h:Bd c m s):Bn c m s:=⟨h.ns,h.ds,h.fu⟩
theorem Bd.mono {c:Nat}{m m':Int}{s:XS}(h:Bd c m s)(hm:m≤m'):Bd c m' s:=⟨h.ns,h.ds,by have:=h.fu; omega,h.ok⟩
theorem Bn.bad {c:Nat}{m:Int}{s:XS}(h:Bn c m s)(hf:s.fail≠0):Bd c m s:=⟨h.ns,h.ds,h.fu,fun e=>(hf e).elim⟩
theorem Bn.fail {c:Nat}{m:Int}{s:XS}(h:Bn c m s){x:Int}(hx:x≠0):Bd c m {s with fail:=x}:=⟨h.ns,h.ds,h.fu,fun e=>(hx e).elim⟩
theorem Bn.tick {c:Nat}{m:Int}{s:XS}(h:Bn c m s)(e:Exp)(hf:¬s.fuel≤0):Bd c (m-1) (zEg e s):=by obtain⟨h1,h2,h3⟩:=h;unfold zEg;exact⟨by simp only[List.length_append,List.length_singleton]; omega,by dsimp only; omega,by dsimp only; omega,fun _=>by dsimp only; omega⟩
theorem Bd.def {c:Nat}{m:Int}{s:XS}(h:Bd c m s)(d:Id)(hf:s.fail=0):Bn c m {s with ds:=s.ds++[d]}:=by have:=h.ok hf;exact⟨h.ns,by simp only[List.length_append,List.length_singleton]; omega,h.fu⟩
section
variable {p:Prg}{ev:Evl}{c:Nat}{m:Int}
theorem zDD (h:∀e V s,Bn c m s→Bd c m (ev e V s).2)(V:List EVar):∀(l:List Exp) (s:XS),Bd c m s→Bd c m (qN ev V l s).2
 | [],s,hs=>hs
 | e::l,s,hs=>by simp only[qN]; exact zDD h V l _ (h e V s hs.bn)
theorem zFf (h:∀e V s,Bn c m s→Bd c m (ev e V s).2)(V:List EVar)(i:Id)(b:Exp):∀(l:List Val) (r:Val×XS),Bd c m r.2→Bd c m (jU ev V i b l r).2
 | [],r,hs=>hs
 | e::l,r,hs=>by simp only[jU]; exact zFf h V i b l _ (h _ _ _ hs.bn)
theorem zNu (h:∀e V s,Bn c m s→Bd c m (ev e V s).2)(d:Dfn)(vs:List Val)(s:XS)(hs:Bd c m s):Bd c m (zAl ev d vs s).2:=by
 unfold zAl;split
 ·exact hs
 ·rename_i hf;exact h _ _ _ (hs.def d.id (by omega))
theorem zPq (h:∀e V s,Bn c m s→Bd c m (ev e V s).2)(e:Exp)(V:List EVar)(s:XS)(hs:Bd c m s):Bd c m (qG ev e V s).2:=by
 unfold qG;have h0:=h (e.kids.headD .zero) V s hs.bn;generalize ev (e.kids.headD .zero) V s=r at *
 repeat' split
 all_goals first
  | exact h0
  | exact h _ _ _ h0.bn
  | exact zFf h _ _ _ _ _ (h _ _ _ h0.bn)
theorem zSd (h:∀e V s,Bn c m s→Bd c m (ev e V s).2)(fl:Nat)(e:Exp)(V:List EVar)(s:XS)(hs:Bd c m s):Bd c m (qB p fl ev e V s).2:=by
 unfold qB;have h0:=zDD h V e.kids s hs;generalize qN ev V e.kids s=r at *
 repeat' split
 all_goals first
  | exact hs
  | exact h0
  | exact zPq h _ _ _ hs
  | exact zNu h _ _ _ h0
theorem zXu {r:Val×XS}(h:Bd c m r.2):Bd c m (zB4 r):=by
 unfold zB4;split
 ·exact h.bn.fail (by decide)
 ·exact h
theorem zDz (fl:Nat):∀(n:Nat) e V s,Bn c m s→Bd c m (zAq p fl n e V s).2
 | 0,e,V,s,hs=>by
  rw[zAq];split
  ·rename_i h; exact hs.bad h
  ·exact hs.fail (by decide)
 | n+1,e,V,s,hs=>by
  rw[zAq];split
  ·rename_i h; exact hs.bad h
  ·split
   ·exact hs.fail (by decide)
   ·rename_i h;exact zXu (zSd (zDz fl n) fl e V _ ((hs.tick e h).mono (by omega)))
end
def Eqv (r r':Val×XS):Prop:=r.2=r'.2∧(r.2.fail=0→r.1=r'.1)
theorem Eqv.rfl' (r:Val×XS):Eqv r r:=⟨rfl,fun _=>rfl⟩
theorem Eqv.eq {r r':Val×XS}(h:Eqv r r')(hf:r.2.fail=0):r'=r:=Prod.ext (h.2 hf).symm h.1.symm
section
variable {p:Prg}{f g:Evl}
theorem zN6 (hf:zFb f)(hg:zFb g)(h:∀e V s,Eqv (f e V s) (g e V s))(V:List EVar):∀(l:List Exp) (s:XS),(qN f V l s).2=(qN g V l s).2∧((qN f V l s).2.fail=0→(qN f V l s).1=(qN g V l s).1)
 | [],s=>⟨rfl,fun _=>rfl⟩
 | e::l,s=>by have h1:=h e V s;have h2:=zN6 hf hg h V l (f e V s).2;refine⟨by simp only[qN]; rw[←h1.1]; exact h2.1,fun hs=>?_⟩;have h3:=zR7 hf hs;simp only[qN]at hs ⊢;rw[←h1.1,←h2.2 hs,h1.2 h3]
theorem zLT (hf:zFb f)(hg:zFb g)(h:∀e V s,Eqv (f e V s) (g e V s))(V:List EVar)(i:Id)(b:Exp):∀(l:List Val) (r r':Val×XS),Eqv r r'→Eqv (jU f V i b l r) (jU g V i b l r')
 | [],r,r',hr=>hr
 | x::l,r,r',hr=>by
  simp only[jU];refine zLT hf hg h V i b l _ _ ?_;by_cases h0:r.2.fail=0
  ·rw[hr.eq h0]; exact h _ _ _
  ·rw[hf _ _ _ h0,hg _ _ _ (by rw[←hr.1]; exact h0),hr.1];exact Eqv.rfl' _
theorem zP9 {c c':Bool}{s s':XS}{v v':Val}(hs:s=s')(h:s.fail=0→v=v'):Eqv (zf c s v,s) (zf c' s' v',s'):=by subst hs;refine⟨rfl,fun hf=>?_⟩;simp only at hf ⊢;rw[zEe hf,zEe hf,h hf]
theorem zLZ (h:∀e V s,Eqv (f e V s) (g e V s))(d:Dfn){vs vs':List Val}{s s':XS}(hs:s=s')(hv:s.fail=0→vs=vs'):Eqv (zAl f d vs s) (zAl g d vs' s'):=by
 subst hs;unfold zAl;by_cases hf:s.fail=0
 ·rw[if_neg (by simp[hf]),if_neg (by simp[hf]),hv hf];exact h _ _ _
 ·rw[if_pos hf,if_pos hf];exact Eqv.rfl' _
theorem zOP (hf:zFb f)(hg:zFb g)(h:∀e V s,Eqv (f e V s) (g e V s))(e:Exp)(V:List EVar)(s:XS):Eqv (qG f e V s) (qG g e V s):=by
 unfold qG;have h0:=h (e.kids.headD .zero) V s;by_cases hz:(f (e.kids.headD .zero) V s).2.fail=0
 ·rw[h0.eq hz];generalize f (e.kids.headD .zero) V s=r at *
  repeat' split
  all_goals first
   | exact Eqv.rfl' _
   | exact h _ _ _
   | exact zLT hf hg h _ _ _ _ _ _ (h _ _ _)
 ·rw[if_pos hz,if_pos (by rw[←h0.1]; exact hz),h0.1];exact Eqv.rfl' _
theorem zP1 (hf:zFb f)(hg:zFb g)(h:∀e V s,Eqv (f e V s) (g e V s))(a b:Nat)(e:Exp)(V:List EVar)(s:XS):Eqv (qB p a f e V s) (qB p b g e V s):=by
 unfold qB;obtain⟨h1,h2⟩:=zN6 hf hg h V e.kids s;generalize qN f V e.kids s=r at *
 generalize qN g V e.kids s=r' at *
 repeat' split
 all_goals first
  | exact Eqv.rfl' _
  | exact zOP hf hg h _ _ _
  | exact zLZ h _ h1 h2
  | exact zP9 h1 fun hz=>by rw[h2 hz]
theorem zTP (a b:Nat){r r':Val×XS}(h:Eqv r r'):Eqv (zCO a r) (zCO b r'):=by
 unfold zCO;by_cases hf:r.2.fail=0
 ·rw[h.eq hf];exact zP9 rfl fun _=>rfl
 ·have e1:zB4 r=r.2:=by unfold zB4; rw[if_neg fun h=>hf h.1]
  have e2:zB4 r'=r'.2:=by unfold zB4; rw[if_neg fun k=>hf (by rw[h.1]; exact k.1)]
  rw[e1,e2];exact zP9 h.1 fun hz=>(hf hz).elim
theorem zMc (a b:Nat):∀(m:Nat) (e:Exp) (V:List EVar) (s:XS),Eqv (zAq p a m e V s) (zAq p b m e V s)
 | 0,e,V,s=>by rw[zAq,zAq]; exact Eqv.rfl' _
 | m+1,e,V,s=>by
  rw[zAq,zAq]
  repeat' split
  ·exact Eqv.rfl' _
  ·exact Eqv.rfl' _
  ·exact zTP a b (zP1 (zBk p a m) (zBk p b m) (zMc a b m) a b e V _)
end
def qFz:K:=G [kMi 2 0] (G [M 3 0,⟨none,.mm (some 4) true [(kt 3),(kc (-1099511627776))]⟩,⟨none,.mm (some 5) false [(kt 4),(kc 1099511627776)]⟩,M 2 5] kr)
theorem qOl:zN Tryz.prog Tryz.f200.ntmps (Tryz.f200.body.getD .skip)=some qFz.erase:=by kernel_rfl
@[simp] theorem qNR:zC Tryz.prog 200=true:=by kernel_rfl
theorem zOJ (n:Int):Ret Tryz.prog 200 [int n] [] (int (zAb n)) []:=by
 refine zK Tryz.func200 rfl qOl (rs:=[.slot 2]) (by kernel_rfl) ?_;unfold qFz;by_cases h1:n < -1099511627776
 ·simp[h1];exact zA 0 (by simp[zAb,h1,show ¬1099511627776<n by omega])
 ·by_cases h2:1099511627776<n
  ·simp[h1,h2];exact zA 0 (by simp[zAb,h2])
  ·simp[h1,h2];exact zA 0 (by simp[zAb,h1,h2])
def qI9:K:=G [kZ 2 [ki,ki,kl]] (Z (G [M 3 0] (Y 3 (G [kb 4 [ki,ki,kl] [(0,1,(kc 1)),(1,1,(kc 1))],S 2 4 3] kr) ks)) (G [kb 5 [ki,ki,kl] [(0,1,(kc 1))],S 2 5 3] kr))
theorem qNL:zN Tryz.prog Tryz.f162.ntmps (Tryz.f162.body.getD .skip)=some qI9.erase:=by kernel_rfl
@[simp] theorem qNw:zC Tryz.prog 162=true:=by kernel_rfl
theorem zAV (b:Bool):Ret Tryz.prog 162 [bl b] [] (.agg (zI (zBl b))) []:=by
 refine zK Tryz.func162 rfl qNL (rs:=[.cell 2 3 true]) (by kernel_rfl) ?_;unfold qI9;cases b with
 | true =>
  simp;exact zA 0 (by simp[zI,zBl,Val.k,Val.n,Val.kids])
 | false =>
  simp;exact zA 0 (by simp[zI,zBl,Val.k,Val.n,Val.kids])
def Rng (a:Int):Prop:=-1099511627776≤a∧a≤1099511627776
def qII:K:=G [kMi 4 0] (G [M 5 0,M 6 1,kB 7 5 6 .add,kC 8 200 [(kt 7)],M 4 8] kr)
theorem qOg:zN Tryz.prog Tryz.f199.ntmps (Tryz.f199.body.getD .skip)=some qII.erase:=by kernel_rfl
@[simp] theorem qOz:zC Tryz.prog 199=true:=by kernel_rfl
def qHf:K:=G [kMi 4 0] (G [M 5 0,M 6 1,kB 7 5 6 .sub,kC 8 200 [(kt 7)],M 4 8] kr)
theorem qMr:zN Tryz.prog Tryz.f201.ntmps (Tryz.f201.body.getD .skip)=some qHf.erase:=by kernel_rfl
@[simp] theorem qLE:zC Tryz.prog 201=true:=by kernel_rfl
def qGx:K:=G [kMi 4 0] (Z (G [M 5 0,kQi 6 5 0 false,M 7 6,T 7 false (M 8 1),T 7 false (kQi 9 8 0 false),kPt 10 7 9] (Y 10 (G [kMi 4 0] kr) ks)) (Z (G [M 11 0,M 12 0,⟨none,.neg (some 13) (kt 12)⟩,⟨none,.mm (some 14) true [(kt 11),(kt 13)]⟩,M 15 1,M 16 1,⟨none,.neg (some 17) (kt 16)⟩,⟨none,.mm (some 18) true [(kt 15),(kt 17)]⟩,⟨none,.bin (some 19) .quo (kc 1099511627776) (kt 18)⟩,kB 20 14 19 .gtr] (Y 20 (Z (G [M 21 0,kBi 22 21 0 .lss,M 23 1,kBi 24 23 0 .lss,⟨none,.eqv (some 25) false .b (kt 22) (kt 24)⟩] (Y 25 (G [kMi 4 1099511627776] kr) ks)) (G [⟨none,.mov (some 4) (kc (-1099511627776))⟩] kr)) ks)) (G [M 26 0,M 27 1,kB 28 26 27 .mul,M 4 28] kr)))
theorem qNt:zN Tryz.prog Tryz.f202.ntmps (Tryz.f202.body.getD .skip)=some qGx.erase:=by kernel_rfl
@[simp] theorem qMB:zC Tryz.prog 202=true:=by kernel_rfl
def qFu:K:=G [kMi 4 0] (Z (G [M 6 1,kQi 7 6 0 false] (Y 7 (G [kMi 4 0] kr) ks)) (G [M 8 0,M 9 1,kB 10 8 9 .quo,M 5 10] (Z (G [M 11 0,M 12 1,kB 13 11 12 .rem,kQi 14 13 0 true,M 15 14,T 15 true (M 16 0),T 15 true (kBi 17 16 0 .lss),T 15 true (M 18 1),T 15 true (kBi 19 18 0 .lss),⟨some (15,true),.eqv (some 20) true .b (kt 17) (kt 19)⟩,kPf 21 15 20] (Y 21 (K.ops [M 22 5,kBi 23 22 1 .sub,M 5 23]) ks)) (G [M 24 5,M 4 24] kr))))
theorem qOa:zN Tryz.prog Tryz.f203.ntmps (Tryz.f203.body.getD .skip)=some qFu.erase:=by kernel_rfl
@[simp] theorem qNn:zC Tryz.prog 203=true:=by kernel_rfl
def qEL:K:=G [kMi 4 0] (Z (G [M 5 1,kQi 6 5 0 false] (Y 6 (G [kMi 4 0] kr) ks)) (G [M 7 0,M 8 1,M 9 0,M 10 1,kC 11 203 [(kt 9),(kt 10)],kB 12 8 11 .mul,kB 13 7 12 .sub,M 4 13] kr))
theorem qLK:zN Tryz.prog Tryz.f204.ntmps (Tryz.f204.body.getD .skip)=some qEL.erase:=by kernel_rfl
@[simp] theorem qMX:zC Tryz.prog 204=true:=by kernel_rfl
theorem zYc {a b:Int}(ha:Rng a)(hb:Rng b):Ret Tryz.prog 199 [int a,int b] [] (int (zAb (a+b))) []:=by obtain⟨a1,a2⟩:=ha;obtain⟨b1,b2⟩:=hb;refine zK Tryz.func199 rfl qOg (rs:=[.slot 4]) (by kernel_rfl) ?_;unfold qII;have hw:IntKind.i64.wrap (a+b)=a+b:=IntWalk.i64_in _ (by omega);simp[hw];refine zR (zOJ (a+b)) (by simp) (by simp) ?_;simp;exact zA 0 (by simp)
theorem zYg {a b:Int}(ha:Rng a)(hb:Rng b):Ret Tryz.prog 201 [int a,int b] [] (int (zAb (a-b))) []:=by obtain⟨a1,a2⟩:=ha;obtain⟨b1,b2⟩:=hb;refine zK Tryz.func201 rfl qMr (rs:=[.slot 4]) (by kernel_rfl) ?_;unfold qHf;have hw:IntKind.i64.wrap (a-b)=a-b:=IntWalk.i64_in _ (by omega);simp[hw];refine zR (zOJ (a-b)) (by simp) (by simp) ?_;simp;exact zA 0 (by simp)
theorem zTd {m n q:Nat}(hq:1099511627776 / n=q)(hn:0<n):(q<m→1099511627776<m*n)∧(¬q<m→m*n≤1099511627776):=by
 constructor
 ·intro h;rw[←hq]at h;exact(Nat.div_lt_iff_lt_mul hn).1 h
 ·intro h;rw[←hq]at h;have:=mt (Nat.div_lt_iff_lt_mul hn).2 h;omega
theorem zRi (a:Int)(h:a≠0):∃m:Nat,0<m∧(a=m∨a = -(m:Int)):=⟨a.natAbs,by omega,by omega⟩
set_option maxHeartbeats 1000000 in
theorem zSw {a b:Int}(ha:Rng a)(hb:Rng b):Ret Tryz.prog 202 [int a,int b] [] (int (zAb (a*b))) []:=by
 obtain⟨a1,a2⟩:=ha;obtain⟨b1,b2⟩:=hb;refine zK Tryz.func202 rfl qNt (rs:=[.slot 4]) (by kernel_rfl) ?_;unfold qGx;by_cases h0:a=0
 ·subst h0;simp;exact zA 0 (by simp[zAb])
 by_cases h1:b=0
 ·subst h1;simp[h0];exact zA 0 (by simp[zAb])
 obtain⟨m,m0,hm⟩:=zRi a h0;obtain⟨n,n0,hn⟩:=zRi b h1;obtain⟨q,hq⟩:∃q:Nat,1099511627776 / n=q:=⟨_,rfl⟩;obtain⟨c1,c2⟩:=zTd (m:=m) hq n0;have hqd:Int.tdiv 1099511627776 (n:Int)=(q:Int):=by rw[tdN (by omega),←hq]; rfl
 have hqle:q≤1099511627776:=by rw[←hq]; exact Nat.div_le_self _ _
 have wq:IntKind.i64.wrap (q:Int)=q:=IntWalk.i64_in _ (by omega);have wm:IntKind.i64.wrap (m:Int)=m:=IntWalk.i64_in _ (by omega);have wn:IntKind.i64.wrap (n:Int)=n:=IntWalk.i64_in _ (by omega);have wm':IntKind.i64.wrap (-(m:Int)) = -m:=IntWalk.i64_in _ (by omega);have wn':IntKind.i64.wrap (-(n:Int)) = -n:=IntWalk.i64_in _ (by omega);have x1:¬((m:Int) < -m):=by omega
 have x2:(-(m:Int))<m:=by omega
 have y1:¬((n:Int) < -n):=by omega
 have y2:(-(n:Int))<n:=by omega
 have z1:¬((m:Int)<0):=by omega
 have z2:(-(m:Int))<0:=by omega
 have z3:¬((n:Int)<0):=by omega
 have z4:(-(n:Int))<0:=by omega
 have m1:¬m=0:=by omega
 have n1:¬n=0:=by omega
 have p0:(m:Int)*n=((m*n:Nat):Int):=by push_cast; rfl
 generalize hmn:m*n=s at *
 by_cases hc:(q:Int)<m
 ·have hs:=c1 (by omega);have k1:zAb (s:Int)=1099511627776:=by unfold zAb; rw[if_pos (by omega)]
  have k2:zAb (-(s:Int)) = -1099511627776:=by unfold zAb; rw[if_neg (by omega),if_pos (by omega)]
  rcases hm with rfl | rfl<;>rcases hn with rfl | rfl<;>simp[m1,n1,wm,wn,wm',wn',x1,x2,y1,y2,z1,z2,z3,z4,m0,n0,hqd,wq,hc]<;>exact zA 0 (by simp[Int.neg_mul,Int.mul_neg,p0,k1,k2])
 ·have hs:=c2 (by omega);have k1:zAb (s:Int)=s:=by unfold zAb; rw[if_neg (by omega),if_neg (by omega)]
  have k2:zAb (-(s:Int)) = -s:=by unfold zAb; rw[if_neg (by omega),if_neg (by omega)]
  have w1:IntKind.i64.wrap (s:Int)=s:=IntWalk.i64_in _ (by omega);have w2:IntKind.i64.wrap (-(s:Int)) = -s:=IntWalk.i64_in _ (by omega);rcases hm with rfl | rfl<;>rcases hn with rfl | rfl<;>simp[m1,n1,wm,wn,wm',wn',x1,x2,y1,y2,z1,z2,z3,z4,m0,n0,hqd,wq,hc]<;>exact zA 0 (by simp[Int.neg_mul,Int.mul_neg,p0,k1,k2,w1,w2])
theorem zKB {a b:Int}(ha:Rng a)(hb:Rng b):Ret Tryz.prog 203 [int a,int b] [] (int (zDk a b)) []:=by
 obtain⟨a1,a2⟩:=ha;refine zK Tryz.func203 rfl qOa (rs:=[.slot 4]) (by kernel_rfl) ?_;unfold qFu;by_cases h1:b=0
 ·subst h1;simp;exact zA 0 (by simp[zDk])
 have ht:=zMx (b:=b) a1 a2;have w1:IntKind.i64.wrap (a.tdiv b)=a.tdiv b:=IntWalk.i64_in _ (by omega);have w2:IntKind.i64.wrap (a.tdiv b-1)=a.tdiv b-1:=IntWalk.i64_in _ (by omega);have e:zDk a b=if a.tmod b≠0∧¬(a<0↔b<0) then a.tdiv b-1 else a.tdiv b:=by unfold zDk; rw[if_neg h1]
 rw[e];by_cases hm:a.tmod b=0
 ·simp[h1,hm,w1];exact zA 0 (by simp[hm])
 by_cases s1:a<0<;>by_cases s2:b<0<;>simp[h1,hm,w1,s1,s2,w2]<;>exact zA 0 (by simp[hm,s1,s2])
theorem zUP {a b:Int}(ha:Rng a)(hb:Rng b):Ret Tryz.prog 204 [int a,int b] [] (int (zJj a b)) []:=by
 have hd:=zKB ha hb;refine zK Tryz.func204 rfl qLK (rs:=[.slot 4]) (by kernel_rfl) ?_;unfold qEL;by_cases h1:b=0
 ·subst h1;simp;exact zA 0 (by simp[zJj])
 have hr:=zG7 (a:=a) hb.1 hb.2;have e:zJj a b=a-b*zDk a b:=by unfold zJj; rw[if_neg h1]
 obtain⟨a1,a2⟩:=ha;have w1:IntKind.i64.wrap (b*zDk a b)=b*zDk a b:=IntWalk.i64_in _ (by omega);have w2:IntKind.i64.wrap (a-b*zDk a b)=a-b*zDk a b:=IntWalk.i64_in _ (by omega);simp[h1];refine zR hd (by simp) (by simp) ?_;simp[w1,w2];exact zA 0 (by simp[e])
def zNy:Go.Shelf.Ren:=⟨fun | 4=>181 | n=>n,fun | 0=>0 | 3=>3 | 4=>4 | 9=>9 | 20=>20 | 22=>40 | 25=>47 | n=>n,fun n=>n⟩
theorem zWe:Go.Proofs.Lays8.n4 Tryz.prog zNy:={
 mixed:=by kernel_rfl,
 f4:=⟨Tryz.f181.name,by decide,Tryz.func181.trans (congrArg some (by kernel_rfl))⟩,
 t0:=Tryz.underlying0,
 a0:=Tryz.isAgg0,
 z0:=Tryz.sizeOf0,
 v0:=Tryz.zeroValue0,
 t3:=Tryz.underlying3,
 a3:=Tryz.isAgg3,
 z3:=Tryz.sizeOf3,
 v3:=Tryz.zeroValue3,
 t4:=Tryz.underlying4,
 a4:=Tryz.isAgg4,
 z4:=Tryz.sizeOf4,
 v4:=Tryz.zeroValue4,
 t9:=Tryz.underlying9,
 a9:=Tryz.isAgg9,
 z9:=Tryz.sizeOf9,
 v9:=Tryz.zeroValue9,
 t20:=Tryz.underlying20,
 a20:=Tryz.isAgg20,
 z20:=Tryz.sizeOf20,
 v20:=Tryz.zeroValue20,
 t22:=Tryz.underlying40,
 a22:=Tryz.isAgg40,
 z22:=Tryz.sizeOf40,
 v22:=Tryz.zeroValue40}
@[simp] theorem qFx:zC Tryz.prog 181=true:=by kernel_rfl
theorem zO2 (n:Nat)(hn:n≤1000000):Ret Tryz.prog 181 [.nil,int n] [] (.row 0 0) [.row false 47 3 0 []] :=
 zLV (ρ:=zNy) (sz:=3) (bs:=40) (z:=.agg #[.int .i64 0,.int .i64 0,.slice none 0 0]) zWe (by kernel_rfl) rfl (by omega) (by omega) (by omega)
def zNQ:K:=G [kMn 2] (G [kMi 3 0] (Z (G [M 9 0,kN 10 9,kMi 11 0] (K.block 0 (K.loop (G [kB 12 11 10 .lss] (Z (Y 12 ks (K.exit 0)) (Z (K.block 1 (G [kX 13 9 11 1,L 14 13 1,M 5 14] (G [M 15 3,M 16 5,kN 17 16,kB 18 15 17 .add,M 3 18] (G [M 19 3,kBi 20 19 0 .lss] (Y 20 (K.ops [⟨none,.mop (some 21) .boom []⟩,⟨none,.mop none .boom []⟩]) ks))))) (K.ops [kBi 22 11 1 .add,M 11 22]))))))) (G [M 23 3,kC 24 181 [(.const kl),(kt 23)],M 6 24] (Z (G [M 25 0,kN 26 25,kMi 27 0] (K.block 2 (K.loop (G [kB 28 27 26 .lss] (Z (Y 28 ks (K.exit 2)) (Z (K.block 3 (G [kX 29 25 27 1,L 30 29 1,M 8 30] (K.ops [M 31 6,M 32 8,kP 33 47 3 40 31 32,M 6 33]))) (K.ops [kBi 34 27 1 .add,M 27 34]))))))) (G [M 35 6,M 2 35] kr)))))
theorem zT8:zN Tryz.prog Tryz.f168.ntmps (Tryz.f168.body.getD .skip)=some zNQ.erase:=by kernel_rfl
@[simp] theorem qB6:zC Tryz.prog 168=true:=by kernel_rfl
def zA0 (Ls:List (List Val)):List A:=Ls.map fun l=>A.sl l.length (zZ l)
theorem zDQ:∀(Ls:List (List Val)),jF (zA0 Ls)
 | []=>jF.nil
 | l::Ls=>by
  have h1:=zDQ Ls;have h2:=zBJ l;refine⟨?_,fun rf g=>?_⟩
  ·show jG (A.sl l.length (zZ l)::zA0 Ls)=_;simp[h1.1];rfl
  ·show vwL rf g (A.sl l.length (zZ l)::zA0 Ls)=_;simp[h1.2];rfl
@[simp] theorem zXb (l:List (List Val)):jG (zA0 l)=zA0 l:=(zDQ l).1
@[simp] theorem qCl {rf g}(l:List (List Val)):vwL rf g (zA0 l)=zA0 l:=(zDQ l).2 _ _
@[simp] theorem zZt (l:List (List Val)):(zA0 l).length=l.length:=by simp[zA0]
theorem zEF {Ls:List (List Val)}{i:Nat}(h:i<Ls.length):(zA0 Ls).drop i=.sl Ls[i].length (zZ Ls[i])::zA0 (Ls.drop (i+1)):=by rw[zA0,←List.map_drop,List.drop_eq_getElem_cons h]; rfl
def zD7 (Ls:List (List Val)):Nat:=Ls.flatten.length
theorem zL8 {Ls:List (List Val)}{i:Nat}(h:i<Ls.length):zD7 (Ls.take (i+1))=zD7 (Ls.take i)+Ls[i].length:=by rw[zD7,zD7,List.take_succ_eq_append_getElem h,List.flatten_append]; simp
theorem zRk (Ls:List (List Val))(i:Nat):zD7 (Ls.take i)≤zD7 Ls:=by
 have:Ls.flatten=(Ls.take i).flatten++(Ls.drop i).flatten:=by rw[←List.flatten_append,List.take_append_drop]
 rw[zD7,zD7,this,List.length_append]; omega
theorem zLe (Ls:List (List Val))(hb:zD7 Ls≤1000000):Ret Tryz.prog 168 [.sl Ls.length (zA0 Ls)] [] (.sl (zD7 Ls) (zZ Ls.flatten)) []:=by
 refine zK Tryz.func168 rfl zT8 (rs:=[.slot 2]) (by kernel_rfl) ?_;unfold zNQ;simp;intro hl;refine qP (S:=Nat) (fun i=>[(0,.sl Ls.length (zA0 Ls)),(3,int (zD7 (Ls.take i))),(9,.sl Ls.length (zA0 Ls)),(10,int Ls.length),(11,int i)]) (fun s=>[]) (fun i=>i≤Ls.length) (fun i=>Ls.length-i) 0 (by simp)
  (zV [] 0 (by simp) (by simp) (by simp) (by simp[zD7])) ?_
 intro i hi;by_cases h:i<Ls.length
 ·have ht:=zL8 h;have hle:=zRk Ls (i+1);have hw:IntKind.i64.wrap ((zD7 (Ls.take i):Int)+(Ls[i].length:Int))=(zD7 (Ls.take (i+1)):Nat):=by rw[ht]; push_cast; exact IntWalk.i64_in _ (by omega)
  have h0:¬((zD7 (Ls.take (i+1)):Nat):Int)<0:=by omega
  simp[h,zEF h];intro _;simp[hw,h0];exact zW (i+1) h (by omega) (zV [] 0 (by simp) (by simp) (by simp) (by simp[qH h hl]))
 ·have hil:i=Ls.length:=by omega
  subst hil;have hI:¬(Ls.length:Int)<Ls.length:=by omega
  simp;refine zM (zO2 (zD7 Ls) hb) [] (by simp) (by simp) (by simp) ?_;simp;intro _;refine qP (S:=Nat) (fun i=>[(6,.row 0 (zD7 (Ls.take i))),(25,.sl Ls.length (zA0 Ls)),(26,int Ls.length),(27,int i)]) (fun i=>[.row false 47 3 (zD7 (Ls.take i)) (zZ (Ls.take i).flatten)]) (fun i=>i≤Ls.length) (fun i=>Ls.length-i) 0 (by simp)
   (zV [0] 0 (by simp) (by simp) (by simp[zD7]) (by simp[zD7])) ?_
  intro i hi;by_cases h:i<Ls.length
  ·have ht:=zL8 h;have hle:=zRk Ls (i+1);have hf:(Ls.take (i+1)).flatten=(Ls.take i).flatten++Ls[i]:=by rw[List.take_succ_eq_append_getElem h,List.flatten_append]; simp
   simp[h,zEF h];refine⟨⟨by simp[maxLen]; omega,by omega⟩,?_⟩;exact zW (i+1) h (by omega) (zV [0] 0 (by simp) (by simp) (by simp[ht,hf,zAN]) (by simp[ht,qH h hl]))
  ·have hil:i=Ls.length:=by omega
   subst hil;simp;exact zA 1 (by simp)
def qGo:K:=G [kMn 2] (G [kMn 3] (Z (G [M 6 0,kN 7 6,kMi 8 0] (K.block 0 (K.loop (G [kB 9 8 7 .lss] (Z (Y 9 ks (K.exit 0)) (Z (K.block 1 (G [kX 10 6 8 3,J 11 10 3,kZ 5 [ki,ki,kl],S 5 11 3] (G [D 12 5 2,L 13 12 1,kC 14 113 [(kt 13)],D 15 5 2,S 15 14 1] (K.ops [M 16 3,J 17 5 3,kd 18 47 3 1 [ki,ki,kl] [(0,3,(kt 17))],kP 19 47 3 40 16 18,M 3 19])))) (K.ops [kBi 20 8 1 .add,M 8 20]))))))) (G [M 21 3,M 2 21] kr)))
theorem qNK:zN Tryz.prog Tryz.f113.ntmps (Tryz.f113.body.getD .skip)=some qGo.erase:=by kernel_rfl
@[simp] theorem qLy:zC Tryz.prog 113=true:=by kernel_rfl
mutual
theorem zKj:∀(l:List Val),qS l≤1000000→Ret Tryz.prog 113 [.sl l.length (zZ l)] [] (.sl l.length (zZ l)) []
 | l,hz=>by
  have hl6:=zCa l;refine zK Tryz.func113 rfl qNK (rs:=[.slot 2]) (by kernel_rfl) ?_;unfold qGo;simp;intro hl;refine qP (S:=Nat) (fun i=>[(3,.row 0 i),(6,.sl l.length (zZ l)),(7,int l.length),(8,int i)]) (fun i=>[.row false 47 3 i (zZ (l.take i))]) (fun i=>i≤l.length) (fun i=>l.length-i) 0 (by simp)
   ((jZ (t:=3) (by simp) 47 3).trans (zV [0] 0 (by simp) (by simp) (by simp) (by simp))) ?_
  intro i hi;by_cases h:i<l.length
  ·have hk:=zJe l hz l[i] (List.getElem_mem h);have ht:zZ (l.take (i+1))=zZ (l.take i)++[.lit (.int .i64 l[i].k),.lit (.int .i64 l[i].n),.sl l[i].kids.length (zZ l[i].kids)]:=by rw[List.take_succ_eq_append_getElem h,zAN]; simp
   simp[h,qY h];refine zR hk (by simp) (by simp) ?_;simp;refine⟨⟨by simp[maxLen]; omega,by omega⟩,?_⟩;exact zW (i+1) h (by omega) (zV [0] 0 (by simp) (by simp) (by simp[ht]) (by simp[qH h hl]))
  ·have hil:i=l.length:=by omega
   subst hil;simp;exact zA 1 (by simp)
theorem zJe:∀(l:List Val),qS l≤1000000→∀x∈l,Ret Tryz.prog 113 [.sl x.kids.length (zZ x.kids)] [] (.sl x.kids.length (zZ x.kids)) []
 | [],_,x,h=>by simp at h
 | .mk k n ks::l,hz,x,h=>by
  simp only[qS,qE]at hz
  if e:x∈l then exact zJe l (by omega) x e
  else
   have:x=.mk k n ks:=(List.mem_cons.1 h).resolve_right e;subst this;exact zKj ks (by omega)
end
def qGW:K:=G [kZ 4 [ki,ki,kl]] (Z (G [M 7 0,kBi 8 7 0 .geq,M 9 8,T 9 true (M 10 0),T 9 true (kBi 11 10 5 .lss),kPf 12 9 11,M 13 12,T 13 true (M 14 1),T 13 true (kN 15 14),T 13 true (kQi 16 15 2 false),kPf 17 13 16] (Y 17 (Z (K.dops [(0,0,M 18 0),(1,0,⟨none,.idxarr (some 19) (.global 0) (kt 18) 5 1⟩),(2,0,L 20 19 1),(3,0,M 21 1),(4,0,kXi 22 21 3 0),(5,0,D 23 22 1),(6,0,L 24 23 1),(7,0,M 25 1),(8,0,kXi 26 25 3 1),(9,0,D 27 26 1),(10,0,L 28 27 1),(11,0,⟨none,.call (some 29) (kt 20) [(kt 24),(kt 28)]⟩),(12,0,kb 30 [ki,ki,kl] [(1,1,(kt 29))]),(13,0,S 4 30 3)]) kr) ks)) (Z (K.block 0 (G [M 32 0,kQi 33 32 9 false,M 34 33,T 34 true (M 35 1),T 34 true (kN 36 35),T 34 true (kQi 37 36 1 false),kPf 38 34 37,M 31 38] (Y 31 (G [M 39 1,kXi 40 39 3 0,D 41 40 1,L 42 41 1,kQi 43 42 0 false,kC 44 162 [(kt 43)],S 4 44 3] kr) (G [M 46 0,kQi 47 46 11 false,M 48 47,T 48 true (M 49 1),T 48 true (kN 50 49),T 48 true (kQi 51 50 1 false),kPf 52 48 51,M 45 52] (Y 45 (G [M 53 1,kXi 54 53 3 0,D 55 54 2,L 56 55 1,kN 57 56,kb 58 [ki,ki,kl] [(1,1,(kt 57))],S 4 58 3] kr) (G [M 60 1,kN 61 60,kQi 62 61 2 true,M 59 62] (Y 59 (G [kb 63 [ki,ki,kl] [],S 4 63 3] kr) ks))))))) (Z (K.wk (K.dops [(0,0,M 64 1),(1,2,kXi 65 64 3 0),(2,2,J 66 65 3),(3,0,M 67 1),(4,2,kXi 68 67 3 1),(5,2,J 69 68 3),(6,301,⟨none,.alr (some 5) 1 [ki,ki,kl]⟩),(7,302,⟨none,.alr (some 6) 2 [ki,ki,kl]⟩),(8,0,S 5 66 3),(9,0,S 6 69 3)])) (Z (G [M 70 0] (K.block 1 (G [kQi 72 70 5 false,M 71 72] (Y 71 (G [D 73 5 1,L 74 73 1,D 75 6 1,
 L 76 75 1,kB 77 74 76 .lss,kC 78 162 [(kt 77)],S 4 78 3] kr) (G [kQi 80 70 6 false,M 79 80] (Y 79 (G [J 81 5 3,J 82 6 3,kC 83 167 [(kt 81),(kt 82)],kQi 84 83 0 false,kC 85 162 [(kt 84)],S 4 85 3] kr) (G [kQi 87 70 7 false,M 86 87] (Y 86 (G [D 88 5 1,L 89 88 1,kQi 90 89 0 true,M 91 90,T 91 true (D 92 6 1),T 91 true (L 93 92 1),T 91 true (kQi 94 93 0 true),kPf 95 91 94,kC 96 162 [(kt 95)],S 4 96 3] kr) (G [kQi 98 70 8 false,M 97 98] (Y 97 (G [D 99 5 1,L 100 99 1,kQi 101 100 0 true,M 102 101,T 102 false (D 103 6 1),T 102 false (L 104 103 1),T 102 false (kQi 105 104 0 true),kPt 106 102 105,kC 107 162 [(kt 106)],S 4 107 3] kr) (G [kQi 109 70 10 false,M 108 109] (Y 108 (G [D 110 5 2,L 111 110 1,D 112 6 2,L 113 112 1,kd 114 40 1 2 [kl,kl] [(0,1,(kt 111)),(1,1,(kt 113))],kC 115 168 [(kt 114)],kC 116 113 [(kt 115)],kb 117 [ki,ki,kl] [(0,1,(kc 4)),(2,1,(kt 116))],S 4 117 3] kr) ks)))))))))))) (G [kb 118 [ki,ki,kl] [],S 4 118 3] kr)))))
def qMT:Nat→Option (List (Nat×Nat)):=fun r=>match r with | 9=>some [(0,0),(1,2),(2,2),(3,0),(4,2),(5,2),(6,301),(7,302),(8,0),(9,0)] | _=>none
theorem qOI:qJ Tryz.prog Tryz.f145.ntmps qMT (Tryz.f145.body.getD .skip)=some qGW.erase:=by kernel_rfl
@[simp] theorem qMN:zC Tryz.prog 145=true:=by kernel_rfl
@[simp] theorem qFV (b:Bool):(zBl b).k=1:=rfl
@[simp] theorem qGJ (b:Bool):(zBl b).n=if b then 1 else 0:=rfl
@[simp] theorem qAh (b:Bool):(zBl b).kids=[]:=rfl
@[simp] theorem qB0 {env:Env}:ev env (.global 0)=.rptr [.clo 199 [] [],.clo 201 [] [],.clo 202 [] [],.clo 203 [] [],.clo 204 [] []]:=rfl
theorem yI:2≤maxLen:=by simp[maxLen]
theorem zCt:1≤maxLen:=by simp[maxLen]
set_option maxHeartbeats 2000000 in
theorem qAM {p:Prg}{n:Int}{ts:List Typ}{t:Typ}(h:OpT n ts t){vs:List Val}(hv:TyL p ts vs)(hs:∀v∈vs,qE v≤256):Ret Tryz.prog 145 [int n,.sl vs.length (zZ vs)] [] (.agg (zI (opV n vs))) []:=by
 refine zJ Tryz.func145 rfl qOI (rs:=[.cell 4 3 true]) (by kernel_rfl) ?_;unfold qGW;cases h with
 | arith n h1 h2 =>
  obtain⟨a,b,rfl,ha,hb⟩:=hv.two;obtain⟨x,rfl,hx⟩:=ha.int_inv;obtain⟨y,rfl,hy⟩:=hb.int_inv;have e:opV n [.mk 0 x [],.mk 0 y []]=.mk 0 (zFa n x y) []:=by simp only[opV,if_pos h2]; rfl
  rw[e];have hn:n=0∨n=1∨n=2∨n=3∨n=4:=by omega
  rcases hn with rfl | rfl | rfl | rfl | rfl
  ·simp[Val.k,Val.n,Val.kids,yI,zCt];refine qI (zYc hx hy) (by simp) (by simp) ?_;simp;exact zA 0 (by simp[zI,Val.k,Val.n,Val.kids,zFa])
  ·simp[Val.k,Val.n,Val.kids,yI,zCt];refine qI (zYg hx hy) (by simp) (by simp) ?_;simp;exact zA 0 (by simp[zI,Val.k,Val.n,Val.kids,zFa])
  ·simp[Val.k,Val.n,Val.kids,yI,zCt];refine qI (zSw hx hy) (by simp) (by simp) ?_;simp;exact zA 0 (by simp[zI,Val.k,Val.n,Val.kids,zFa])
  ·simp[Val.k,Val.n,Val.kids,yI,zCt];refine qI (zKB hx hy) (by simp) (by simp) ?_;simp;exact zA 0 (by simp[zI,Val.k,Val.n,Val.kids,zFa])
  ·simp[Val.k,Val.n,Val.kids,yI,zCt];refine qI (zUP hx hy) (by simp) (by simp) ?_;simp;exact zA 0 (by simp[zI,Val.k,Val.n,Val.kids,zFa])
 | less =>
  obtain⟨a,b,rfl,ha,hb⟩:=hv.two;obtain⟨x,rfl,hx⟩:=ha.int_inv;obtain⟨y,rfl,hy⟩:=hb.int_inv;simp[Val.k,Val.n,Val.kids,yI,zCt];refine⟨_,_,zAa 2,?_⟩;simp[Val.k,Val.n,Val.kids,yI,zCt];refine zR (zAV (decide (x<y))) (by simp) (by simp[zI]) ?_;simp[zI];exact zA 0 (by by_cases hx0:x<y<;>simp[zI,opV,zO,hx0])
 | same u =>
  obtain⟨a,b,rfl,ha,hb⟩:=hv.two;simp[yI];refine⟨_,_,zAa 2,?_⟩;simp[yI];refine zR (zRv a b) (by simp[zI]) (by simp) ?_;simp;refine zR (zAV (decide (zHR a b=0))) (by simp) (by simp[zI]) ?_;simp[zI];exact zA 0 (by simp[zI,opV])
 | andor n h =>
  obtain⟨a,b,rfl,ha,hb⟩:=hv.two;obtain⟨x,rfl,hx⟩:=ha.bool_inv;obtain⟨y,rfl,hy⟩:=hb.bool_inv;rcases h with rfl | rfl
  ·rcases hx with rfl | rfl<;>rcases hy with rfl | rfl
   ·simp[Val.k,Val.n,Val.kids,yI];refine⟨_,_,zAa 2,?_⟩;simp[Val.k,Val.n,Val.kids,yI];refine zR (zAV false) (by simp) (by simp[zI]) ?_;simp[zI];exact zA 0 (by simp[zI,opV,zO])
   ·simp[Val.k,Val.n,Val.kids,yI];refine⟨_,_,zAa 2,?_⟩;simp[Val.k,Val.n,Val.kids,yI];refine zR (zAV false) (by simp) (by simp[zI]) ?_;simp[zI];exact zA 0 (by simp[zI,opV,zO])
   ·simp[Val.k,Val.n,Val.kids,yI];refine⟨_,_,zAa 2,?_⟩;simp[Val.k,Val.n,Val.kids,yI];refine zR (zAV false) (by simp) (by simp[zI]) ?_;simp[zI];exact zA 0 (by simp[zI,opV,zO])
   ·simp[Val.k,Val.n,Val.kids,yI];refine⟨_,_,zAa 2,?_⟩;simp[Val.k,Val.n,Val.kids,yI];refine zR (zAV true) (by simp) (by simp[zI]) ?_;simp[zI];exact zA 0 (by simp[zI,opV,zO])
  ·rcases hx with rfl | rfl<;>rcases hy with rfl | rfl
   ·simp[Val.k,Val.n,Val.kids,yI];refine⟨_,_,zAa 2,?_⟩;simp[Val.k,Val.n,Val.kids,yI];refine zR (zAV false) (by simp) (by simp[zI]) ?_;simp[zI];exact zA 0 (by simp[zI,opV,zO])
   ·simp[Val.k,Val.n,Val.kids,yI];refine⟨_,_,zAa 2,?_⟩;simp[Val.k,Val.n,Val.kids,yI];refine zR (zAV true) (by simp) (by simp[zI]) ?_;simp[zI];exact zA 0 (by simp[zI,opV,zO])
   ·simp[Val.k,Val.n,Val.kids,yI];refine⟨_,_,zAa 2,?_⟩;simp[Val.k,Val.n,Val.kids,yI];refine zR (zAV true) (by simp) (by simp[zI]) ?_;simp[zI];exact zA 0 (by simp[zI,opV,zO])
   ·simp[Val.k,Val.n,Val.kids,yI];refine⟨_,_,zAa 2,?_⟩;simp[Val.k,Val.n,Val.kids,yI];refine zR (zAV true) (by simp) (by simp[zI]) ?_;simp[zI];exact zA 0 (by simp[zI,opV,zO])
 | not =>
  obtain⟨a,rfl,ha⟩:=hv.one;obtain⟨x,rfl,hx⟩:=ha.bool_inv;simp[Val.k,Val.n,Val.kids,yI,zCt];refine zR (zAV (decide (x=0))) (by simp) (by simp[zI]) ?_;simp[zI];exact zA 0 (by by_cases hx0:x=0<;>simp[zI,opV,zO,hx0])
 | join u =>
  obtain⟨a,b,rfl,ha,hb⟩:=hv.two;have h1:=hs a (by simp);have h2:=hs b (by simp);cases a with | mk k1 n1 l1 =>
  cases b with | mk k2 n2 l2 =>
  simp only[qE]at h1 h2;have z1:=zCa l1;have z2:=zCa l2;have hc:Ret Tryz.prog 168 [.sl 2 [.sl l1.length (zZ l1),.sl l2.length (zZ l2)]] [] (.sl (l1.length+l2.length) (zZ (l1++l2))) []:=by simpa [zA0,zD7] using zLe [l1,l2] (by simp[zD7]; omega)
  have hk:=zKj (l1++l2) (by rw[zBQ]; omega);rw[List.length_append]at hk;simp[Val.k,Val.n,Val.kids,yI,zCt];refine⟨_,_,zAa 2,?_⟩;simp[Val.k,Val.n,Val.kids,yI,zCt];refine zR hc (by simp) (by simp) ?_;simp;refine zR hk (by simp) (by simp) ?_;simp;exact zA 0 (by simp[zI,opV,Val.k,Val.n,Val.kids])
 | len u =>
  obtain⟨a,rfl,ha⟩:=hv.one;simp[zCt];exact fun _=>zA 0 (by simp[zI,opV,Val.k,Val.n,Val.kids])
end Go.Proofs.YthglhccibdlccaaGreatDoor
