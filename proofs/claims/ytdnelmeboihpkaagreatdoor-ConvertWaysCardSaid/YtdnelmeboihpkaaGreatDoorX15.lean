/-
  The generator of programs of records and converters, as data: its parts, and their types.
  The fields of a slot that an expression reads: two ways to find them.
  What a run asks is bounded by its fuel; the three evaluators have the same states, and the same values where nothing fails.
  The program's operations: numbers, truth values, lists.
  The fields on which a field of a converter's result depends: the two answers agree.
  The reference's operations.
  The maker's programs: their definitions have IDs of their own, their bodies have types, their types have few levels.
  Runs: what each step keeps; where the first failure is.
  The generator of programs of records and converters, as data: its programs are sound.
  The definitions that types reach: met one by one, or in rounds.
  trace: notes, and the definitions that types reach.
  trace: environments as maps.
  trace: branches.
  trace: bodies, values, nodes.
-/
import Derived.Test.YtdnelmeboihpkaaGreatDoorX14
import Derived.Test.YtdnelmeboihpkaaGreatDoorX12
import Derived.Test.YtdnelmeboihpkaaGreatDoorX10
import Derived.Test.YtdnelmeboihpkaaGreatDoorX13
set_option linter.unusedVariables false
set_option maxHeartbeats 8000000
set_option maxRecDepth 100000
set_option linter.unusedSimpArgs false
open Go.Proofs.Tryz (prog)
namespace Go.Proofs.YtdnelmeboihpkaaGreatDoor
open Go.Abs
structure Gm where
 at_:Int
 next:Int
def Gm.tick (m:Gm):Gm:=⟨m.at_+1,m.next⟩
def yN (m:Gm)(k n:Int)(r:Id)(ks:List Exp):Exp×Gm:=(.mk (idR m.next) k n r .zero ks [],⟨m.at_,m.next+1⟩)
def zLn (m:Gm)(k:Nat)(d s:Id):Exp×Gm:=yN (yN m 2 0 s []).2 8 k d [(yN m 2 0 s []).1]
def zFl (n:Nat)(x:Int)(i:Nat):Nat:=(i+x.toNat) % n
def zGC (ss:List Slt)(t x:Int):Option Nat :=
 if 4<x then ((List.range ss.length).find? fun i=>match ss[zFl ss.length x i]? with | some s=>decide (s.typ.k=t) | none=>false).map (zFl ss.length x) else none
theorem zKi {ss:List Slt}{t x:Int}{k:Nat}(h:zGC ss t x=some k):∃s,ss[k]?=some s∧s.typ.k=t:=by
 unfold zGC at h;split at h
 ·rw[jAe]at h;obtain⟨i,h1,rfl⟩:=h;have h2:=List.find?_some h1;split at h2
  ·exact⟨_,by assumption,by simpa using h2⟩
  ·cases h2
 ·cases h
section
variable (l:List Int)
def gN (m:Gm)(n:Int):Int:=atV l m.at_ n
def zFD (t:Int)(m:Gm):Exp×Gm:=if t=1 then yN m.tick 1 (gN l m 2) Id.zero [] else yN m.tick 0 (gN l m 4-1) Id.zero []
def zSE (f:Gm→Exp×Gm)(m:Gm)(n:Int):Exp×Gm:=yN (f (f m).2).2 4 n Id.zero [(f m).1,(f (f m).2).1]
def gIf (f g:Gm→Exp×Gm)(m:Gm):Exp×Gm:=yN (g (g (f m).2).2).2 5 0 Id.zero [(f m).1,(g (f m).2).1,(g (g (f m).2).2).1]
def zEH (d:Dfn)(s:Id)(t:Int)(m:Gm):Exp×Gm :=
 match zGC d.slots t (gN l m 12)with
 | some k=>zLn m.tick k d.id s
 | none=>zFD l t m.tick
def zAC (d:Dfn)(s:Id):Nat→Int→Gm→Exp×Gm
 | 0,t,m=>zEH l d s t m
 | n+1,t,m =>
  match zGC d.slots t (gN l m 12)with
  | some k=>zLn m.tick k d.id s
  | none =>
   if gN l m 12<3∧t=0 then zSE (zAC d s n t) m.tick (gN l m 12)
   else if gN l m 12<2 then zSE (zAC d s n t) m.tick (7+gN l m 12)
   else if gN l m 12=3 then gIf (zEH l d s 1) (zAC d s n t) m.tick
   else zFD l t m.tick
def zGz (to from_:Dfn)(s:Id)(i:Nat)(m:Gm):Exp×Gm :=
 match to.slots[i]?,from_.slots[i]? with
 | some u,some v=>if v.typ.k=u.typ.k then (if 0<gN l m 3 then zLn m.tick i from_.id s else zAC l from_ s 2 u.typ.k m.tick) else zAC l from_ s 2 u.typ.k m
 | some u,none=>zAC l from_ s 2 u.typ.k m
 | none,_=>(.zero,m)
def zBE (to from_:Dfn)(s:Id):Nat→Gm→List Exp×Gm
 | 0,m=>([],m)
 | n+1,m=>((zBE to from_ s n m).1++[(zGz l to from_ s n (zBE to from_ s n m).2).1],(zGz l to from_ s n (zBE to from_ s n m).2).2)
def zEI (to from_:Dfn)(s:Id)(m:Gm):Exp×Gm:=yN (zBE l to from_ s to.slots.length m).2 7 0 to.id (zBE l to from_ s to.slots.length m).1
theorem zEd (to from_:Dfn)(s:Id)(m:Gm):∀n,(zBE l to from_ s n m).1.length=n
 | 0=>rfl
 | n+1=>by simp[zBE,zEd to from_ s m n]
def tK (t:Int):Typ:=if t=1 then zAd else zAY
structure Flat (p:Prg)(d:Dfn):Prop where
 find:qT p.defs d.id=some d
 kind:d.kind=0
 flat:∀s∈d.slots,s.typ=zAY∨s.typ=zAd
 few:d.slots.length≤6
theorem Flat.typ {p:Prg}{d:Dfn}(h:Flat p d){s:Slt}(hs:s∈d.slots):s.typ=tK s.typ.k∧(s.typ.k=0∨s.typ.k=1):=by rcases h.flat s hs with e | e<;>rw[e]<;>simp[tK,Typ.k]
end
def zYa (p:Prg)(t:Typ):Prop:=t=zAY∨t=zAd∨∃d,Flat p d∧t=jZ d.id
inductive WF (p:Prg)(B:List Bnd):Exp→Typ→Prop
 | int (i n r u ns) (h1 : -1099511627776≤n) (h2:n≤1099511627776):WF p B (.mk i 0 n r u [] ns) zAY
 | bool (i n r u ns) (h:n=0∨n=1):WF p B (.mk i 1 n r u [] ns) zAd
 | var (i n r u ns t) (h:zEm B r n=some t) (ht:zYa p t):WF p B (.mk i 2 n r u [] ns) t
 | arith (i n r u a b ns) (h1:0≤n) (h2:n≤4) (ha:WF p B a zAY) (hb:WF p B b zAY):WF p B (.mk i 4 n r u [a,b] ns) zAY
 | andor (i n r u a b ns) (h:n=7∨n=8) (ha:WF p B a zAd) (hb:WF p B b zAd):WF p B (.mk i 4 n r u [a,b] ns) zAd
 | ite (i n r u a b c ns t) (ha:WF p B a zAd) (hb:WF p B b t) (hc:WF p B c t):WF p B (.mk i 5 n r u [a,b,c] ns) t
 | record (i n r u ks ns) (hn:ks.length≤32768) (d:Dfn) (hd:Flat p d) (hr:d.id=r) (hl:ks.length=(d.slots.map Slt.typ).length) (hw:∀(j:Nat) (hj:j<ks.length),WF p B ks[j] ((d.slots.map Slt.typ)[j]'(hl▸hj))) :
  WF p B (.mk i 7 n r u ks ns) (jZ r)
 | field (i r u a ns) (d:Dfn) (j:Nat) (hd:Flat p d) (hr:d.id=r) (hj:j<d.slots.length) (ha:WF p B a (jZ r)):WF p B (.mk i 8 j r u [a] ns) d.slots[j].typ
theorem WF.flat {p:Prg}{B:List Bnd}{e:Exp}{t:Typ}(h:WF p B e t):zYa p t:=by
 induction h with
 | int=>exact .inl rfl
 | bool=>exact .inr (.inl rfl)
 | var _ _ _ _ _ _ _ ht=>exact ht
 | arith=>exact .inl rfl
 | andor=>exact .inr (.inl rfl)
 | ite _ _ _ _ _ _ _ _ _ _ _ _ _ h _=>exact h
 | record _ _ _ _ _ _ _ d hd hr _ _ _=>exact .inr (.inr ⟨d,hd,by rw[hr]⟩)
 | field _ _ _ _ _ d j hd _ hj _ _ =>
  rcases hd.flat _ (jA3 hj)with e | e<;>rw[e]
  ·exact .inl rfl
  ·exact .inr (.inl rfl)
theorem WF.we {p:Prg}{B:List Bnd}{e:Exp}{t:Typ}(h:WF p B e t):WE p B e t:=by
 induction h with
 | int i n r u ns h1 h2=>exact .int _ _ _ _ _ _ h1 h2
 | bool i n r u ns h=>exact .bool _ _ _ _ _ _ h
 | var i n r u ns t h ht=>exact .var _ _ _ _ _ _ _ h
 | arith i n r u a b ns h1 h2 _ _ ha hb =>
  exact .op _ _ _ _ _ _ _ (by simp) [zAY,zAY] zAY (.arith n h1 h2) rfl fun j hj=>by
   match j,hj with
   | 0,_=>exact ha
   | 1,_=>exact hb
 | andor i n r u a b ns h _ _ ha hb =>
  exact .op _ _ _ _ _ _ _ (by simp) [zAd,zAd] zAd (.andor n h) rfl fun j hj=>by
   match j,hj with
   | 0,_=>exact ha
   | 1,_=>exact hb
 | ite _ _ _ _ _ _ _ _ _ _ _ _ ha hb hc=>exact .ite _ _ _ _ _ _ _ _ _ _ ha hb hc
 | record i n r u ks ns hn d hd hr hl _ ih=>subst hr; exact .record _ _ _ _ _ _ _ hn d hd.find hd.kind hl ih
 | field i r u a ns d j hd hr hj _ ih=>subst hr; exact .field _ _ _ _ _ _ d j hd.find hd.kind hj ih
theorem zO8 {l:List Int}(hl:∀x∈l,w64 x=x){p:Prg}(m:Gm){t:Int}(ht:t=0∨t=1)(B:List Bnd):WF p B (zFD l t m).1 (tK t):=by
 have h4:=zBQ hl (i:=m.at_) (most:=4) (by omega);have h2:=zBQ hl (i:=m.at_) (most:=2) (by omega);rcases ht with rfl | rfl
 ·exact .int _ _ _ _ _ (by unfold gN; omega) (by unfold gN; omega)
 ·exact .bool _ _ _ _ _ (by unfold gN; omega)
theorem zRF {p:Prg}{f:Gm→Exp×Gm}{B:List Bnd}{t:Int}(ht:t=0∨t=1)(hf:∀m,WF p B (f m).1 (tK t)){n:Int}(hn:t=0∧0≤n∧n≤4∨t=1∧(n=7∨n=8))(m:Gm):WF p B (zSE f m n).1 (tK t):=by
 rcases hn with ⟨rfl,h⟩ | ⟨rfl,h⟩
 ·exact .arith _ _ _ _ _ _ _ h.1 h.2 (hf _) (hf _)
 ·exact .andor _ _ _ _ _ _ _ h (hf _) (hf _)
section
variable {l:List Int}(hl:∀x∈l,w64 x=x){p:Prg}{d:Dfn}(hd:Flat p d)(s:Id)
include hd
theorem zMX (m:Gm){k:Nat}{u:Slt}(hk:d.slots[k]?=some u):WF p [⟨s,0,jZ d.id⟩] (zLn m k d.id s).1 u.typ:=by obtain⟨hk',rfl⟩:=jA1.1 hk;exact .field _ _ _ _ _ d k hd rfl hk' (.var _ _ _ _ _ _ (by simp[zEm]) (.inr (.inr ⟨d,hd,rfl⟩)))
include hl
theorem zLW (m:Gm){t:Int}(ht:t=0∨t=1):WF p [⟨s,0,jZ d.id⟩] (zEH l d s t m).1 (tK t):=by
 unfold zEH;split
 ·rename_i k hk;obtain⟨u,h1,h2⟩:=zKi hk;have h3:=zMX hd s m.tick h1;rw[(hd.typ (jC2 h1)).1,h2]at h3;exact h3
 ·exact zO8 hl _ ht _
theorem zEe:∀(n:Nat) (m:Gm) {t:Int},t=0∨t=1→WF p [⟨s,0,jZ d.id⟩] (zAC l d s n t m).1 (tK t)
 | 0,m,_,ht=>zLW hl hd s m ht
 | n+1,m,t,ht=>by
  have h12:0≤gN l m 12∧gN l m 12<12:=zBQ hl (by omega);unfold zAC;split
  ·rename_i k hk;obtain⟨u,h1,h2⟩:=zKi hk;have h3:=zMX hd s m.tick h1;rw[(hd.typ (jC2 h1)).1,h2]at h3;exact h3
  ·split
   ·rename_i h;exact zRF ht (fun m=>zEe n m ht) (.inl ⟨h.2,h12.1,by omega⟩) _
   ·split
    ·rename_i h0 h;have ht1:t=1:=by rcases ht with rfl | rfl; exact(h0 ⟨by omega,rfl⟩).elim; rfl
     exact zRF ht (fun m=>zEe n m ht) (.inr ⟨ht1,by omega⟩) _
    ·split
     ·exact .ite _ _ _ _ _ _ _ _ _ (zLW hl hd s _ (.inr rfl)) (zEe n _ ht) (zEe n _ ht)
     ·exact zO8 hl _ ht _
theorem zXf {to:Dfn}(hto:Flat p to){i:Nat}(hi:i<to.slots.length)(m:Gm):WF p [⟨s,0,jZ d.id⟩] (zGz l to d s i m).1 to.slots[i].typ:=by
 have h1:=hto.typ (jA3 hi);have hp:=fun m=>zEe hl hd s 2 m h1.2
 rw[←h1.1]at hp;unfold zGz;rw[jA2 hi];cases hv:d.slots[i]? with
 | none=>exact hp _
 | some v =>
  simp only;split
  ·rename_i e;split
   ·have h3:=zMX hd s m.tick hv;have h4:=(hd.typ (jC2 hv)).1;rw[h4,e,←h1.1]at h3;exact h3
   ·exact hp _
  ·exact hp _
theorem zO6 {to:Dfn}(hto:Flat p to)(m:Gm):∀(n:Nat),n≤to.slots.length→∀(j:Nat) (hj:j<(zBE l to d s n m).1.length) (hj':j<to.slots.length),WF p [⟨s,0,jZ d.id⟩] (zBE l to d s n m).1[j] to.slots[j].typ
 | 0,_,j,hj,_=>by simp[zBE]at hj
 | n+1,hn,j,hj,hj'=>by
  have hlen:=zEd l to d s m n;by_cases h:j<n
  ·have:=zO6 hto m n (by omega) j (by omega) hj';simp only[zBE];rw[jBq (by omega)];exact this
  ·have hjn:j=n:=by rw[zEd]at hj; omega
   subst hjn;simp only[zBE];rw[jCu (by omega)];simp only[hlen,jBw,jDf];exact zXf hl hd s hto hj' _
theorem zMY {to:Dfn}(hto:Flat p to)(m:Gm):WF p [⟨s,0,jZ d.id⟩] (zEI l to d s m).1 (jZ to.id):=by
 have hlen:=zEd l to d s m to.slots.length;have h6:=hto.few;exact .record _ _ _ _ _ _ (by omega) to hto rfl (by simp[hlen]) fun j hj=>by rw[jBr];exact zO6 hl hd s hto m _ (jA _) j hj (by omega)
end
def isS (s:Id)(k:Exp):Bool:=decide (k.k=2)&&decide (k.ref=s)
mutual
def zDW (s:Id):Exp→Bool→Bool
 | .mk _ k _ r _ ks _,field=>(decide (k=2)&&decide (r=s)&&!field)||zCb s (decide (k=8)) ks
def zCb (s:Id)(f:Bool):List Exp→Bool
 | []=>false
 | e::l=>zDW s e (f&&isS s e)||zCb s f l
end
mutual
def zI7 (s:Id):Exp→List Int
 | .mk _ k n _ _ ks _=>zHf s (decide (k=8)) n ks
def zHf (s:Id)(f:Bool)(n:Int):List Exp→List Int
 | []=>[]
 | e::l=>(if (f&&isS s e)=true then [n] else [])++zI7 s e++zHf s f n l
end
def qNV:List Int→Int→List Int
 | [],n=>[n]
 | x::l,n=>if x<n then x::qNV l n else if x=n then x::l else n::x::l
structure Bn (c:Nat)(m:Int)(s:XS):Prop where
 ns:s.ns.length+s.fuel.toNat≤c
 ds:s.ds.length+s.fuel.toNat≤c
 fu:s.fuel≤m
structure Bd (c:Nat)(m:Int)(s:XS):Prop where
 ns:s.ns.length+s.fuel.toNat≤c
 ds:s.ds.length+s.fuel.toNat≤c
 fu:s.fuel≤m
 ok:s.fail=0→s.ds.length+s.fuel.toNat+1≤c
theorem Bd.mono {c:Nat}{m m':Int}{s:XS}(h:Bd c m s)(hm:m≤m'):Bd c m' s:=⟨h.ns,h.ds,by have:=h.fu; omega,h.ok⟩
theorem Bn.fail {c:Nat}{m:Int}{s:XS}(h:Bn c m s){x:Int}(hx:x≠0):Bd c m {s with fail:=x}:=⟨h.ns,h.ds,h.fu,fun e=>(hx e).elim⟩
theorem Bn.tick {c:Nat}{m:Int}{s:XS}(h:Bn c m s)(e:Exp)(hf:¬s.fuel≤0):Bd c (m-1) (zDK e s):=by obtain⟨h1,h2,h3⟩:=h;unfold zDK;exact⟨by simp only[List.length_append,List.length_singleton]; omega,by dsimp only; omega,by dsimp only; omega,fun _=>by dsimp only; omega⟩
theorem Bd.def {c:Nat}{m:Int}{s:XS}(h:Bd c m s)(d:Id)(hf:s.fail=0):Bn c m {s with ds:=s.ds++[d]}:=by have:=h.ok hf;exact⟨h.ns,by simp only[jA5,jC0]; omega,h.fu⟩
section
variable {p:Prg}{ev:Evl}{c:Nat}{m:Int}
end
def Eqv (r r':Val×XS):Prop:=r.2=r'.2∧(r.2.fail=0→r.1=r'.1)
theorem Eqv.rfl' (r:Val×XS):Eqv r r:=⟨rfl,fun _=>rfl⟩
theorem Eqv.eq {r r':Val×XS}(h:Eqv r r')(hf:r.2.fail=0):r'=r:=Prod.ext (h.2 hf).symm h.1.symm
section
variable {p:Prg}{f g:Evl}
end
def qEG:K:=G [kMi 2 0] (G [M 3 0,⟨none,.mm (some 4) true [(kt 3),(kc (-1099511627776))]⟩,⟨none,.mm (some 5) false [(kt 4),(kc 1099511627776)]⟩,M 2 5] kr)
theorem qLM:zR prog Tryz.f227.ntmps (Tryz.f227.body.getD .skip)=some qEG.erase:=by kernel_rfl
@[simp] theorem qMy:zA prog 227=true:=by kernel_rfl
theorem zOl (n:Int):Ret prog 227 [int n] [] (int (zBB n)) []:=by
 refine zI Tryz.func227 rfl qLM (rs:=[.slot 2]) (by kernel_rfl) ?_;unfold qEG;by_cases h1:n < -1099511627776
 ·simp[h1];exact zB 0 (by simp[zBB,h1,show ¬1099511627776<n by omega])
 ·by_cases h2:1099511627776<n
  ·simp[h1,h2];exact zB 0 (by simp[zBB,h2])
  ·simp[h1,h2];exact zB 0 (by simp[zBB,h1,h2])
def qEQ:K:=G [kZ 2 [ki,ki,kl]] (Z (G [M 3 0] (Y 3 (G [kb 4 [ki,ki,kl] [(0,1,(kc 1)),(1,1,(kc 1))],S 2 4 3] kr) ks)) (G [kb 5 [ki,ki,kl] [(0,1,(kc 1))],S 2 5 3] kr))
theorem qLW:zR prog Tryz.f174.ntmps (Tryz.f174.body.getD .skip)=some qEQ.erase:=by kernel_rfl
@[simp] theorem qM9:zA prog 174=true:=by kernel_rfl
theorem zAG (b:Bool):Ret prog 174 [bl b] [] (.agg (zF (zBI b))) []:=by
 refine zI Tryz.func174 rfl qLW (rs:=[.cell 2 3 true]) (by kernel_rfl) ?_;unfold qEQ;cases b with
 | true =>
  simp;exact zB 0 (by simp[zF,zBI,Val.k,Val.n,Val.kids])
 | false =>
  simp;exact zB 0 (by simp[zF,zBI,Val.k,Val.n,Val.kids])
def Rng (a:Int):Prop:=-1099511627776≤a∧a≤1099511627776
def qEL:K:=G [kMi 4 0] (G [M 5 0,M 6 1,kB 7 5 6 .add,kC 8 227 [(kt 7)],M 4 8] kr)
theorem qLR:zR prog Tryz.f226.ntmps (Tryz.f226.body.getD .skip)=some qEL.erase:=by kernel_rfl
@[simp] theorem qM4:zA prog 226=true:=by kernel_rfl
def qEM:K:=G [kMi 4 0] (G [M 5 0,M 6 1,kB 7 5 6 .sub,kC 8 227 [(kt 7)],M 4 8] kr)
theorem qLS:zR prog Tryz.f228.ntmps (Tryz.f228.body.getD .skip)=some qEM.erase:=by kernel_rfl
@[simp] theorem qM5:zA prog 228=true:=by kernel_rfl
def qEP:K:=G [kMi 4 0] (Z (G [M 5 0,kQi 6 5 0 false,M 7 6,T 7 false (M 8 1),T 7 false (kQi 9 8 0 false),kPt 10 7 9] (Y 10 (G [kMi 4 0] kr) ks)) (Z (G [M 11 0,M 12 0,⟨none,.neg (some 13) (kt 12)⟩,⟨none,.mm (some 14) true [(kt 11),(kt 13)]⟩,M 15 1,M 16 1,⟨none,.neg (some 17) (kt 16)⟩,⟨none,.mm (some 18) true [(kt 15),(kt 17)]⟩,⟨none,.bin (some 19) .quo (kc 1099511627776) (kt 18)⟩,kB 20 14 19 .gtr] (Y 20 (Z (G [M 21 0,kBi 22 21 0 .lss,M 23 1,kBi 24 23 0 .lss,⟨none,.eqv (some 25) false .b (kt 22) (kt 24)⟩] (Y 25 (G [kMi 4 1099511627776] kr) ks)) (G [⟨none,.mov (some 4) (kc (-1099511627776))⟩] kr)) ks)) (G [M 26 0,M 27 1,kB 28 26 27 .mul,M 4 28] kr)))
theorem qLV:zR prog Tryz.f229.ntmps (Tryz.f229.body.getD .skip)=some qEP.erase:=by kernel_rfl
@[simp] theorem qM8:zA prog 229=true:=by kernel_rfl
def qEJ:K:=G [kMi 4 0] (Z (G [M 6 1,kQi 7 6 0 false] (Y 7 (G [kMi 4 0] kr) ks)) (G [M 8 0,M 9 1,kB 10 8 9 .quo,M 5 10] (Z (G [M 11 0,M 12 1,kB 13 11 12 .rem,kQi 14 13 0 true,M 15 14,T 15 true (M 16 0),T 15 true (kBi 17 16 0 .lss),T 15 true (M 18 1),T 15 true (kBi 19 18 0 .lss),⟨some (15,true),.eqv (some 20) true .b (kt 17) (kt 19)⟩,kPf 21 15 20] (Y 21 (K.ops [M 22 5,kBi 23 22 1 .sub,M 5 23]) ks)) (G [M 24 5,M 4 24] kr))))
theorem qLP:zR prog Tryz.f230.ntmps (Tryz.f230.body.getD .skip)=some qEJ.erase:=by kernel_rfl
@[simp] theorem qM1:zA prog 230=true:=by kernel_rfl
def qEO:K:=G [kMi 4 0] (Z (G [M 5 1,kQi 6 5 0 false] (Y 6 (G [kMi 4 0] kr) ks)) (G [M 7 0,M 8 1,M 9 0,M 10 1,kC 11 230 [(kt 9),(kt 10)],kB 12 8 11 .mul,kB 13 7 12 .sub,M 4 13] kr))
theorem qLU:zR prog Tryz.f231.ntmps (Tryz.f231.body.getD .skip)=some qEO.erase:=by kernel_rfl
@[simp] theorem qM7:zA prog 231=true:=by kernel_rfl
theorem zWK {a b:Int}(ha:Rng a)(hb:Rng b):Ret prog 226 [int a,int b] [] (int (zBB (a+b))) []:=by obtain⟨a1,a2⟩:=ha;obtain⟨b1,b2⟩:=hb;refine zI Tryz.func226 rfl qLR (rs:=[.slot 4]) (by kernel_rfl) ?_;unfold qEL;have hw:=jS (a+b) (by omega);simp[hw];refine qD (zOl (a+b)) (by simp) (by simp) ?_;simp;exact zB 0 (by simp)
theorem zWT {a b:Int}(ha:Rng a)(hb:Rng b):Ret prog 228 [int a,int b] [] (int (zBB (a-b))) []:=by obtain⟨a1,a2⟩:=ha;obtain⟨b1,b2⟩:=hb;refine zI Tryz.func228 rfl qLS (rs:=[.slot 4]) (by kernel_rfl) ?_;unfold qEM;have hw:=jS (a-b) (by omega);simp[hw];refine qD (zOl (a-b)) (by simp) (by simp) ?_;simp;exact zB 0 (by simp)
theorem zSw {m n q:Nat}(hq:1099511627776 / n=q)(hn:0<n):(q<m→1099511627776<m*n)∧(¬q<m→m*n≤1099511627776):=by
 constructor
 ·intro h;rw[←hq]at h;exact(Nat.div_lt_iff_lt_mul hn).1 h
 ·intro h;rw[←hq]at h;have:=mt (Nat.div_lt_iff_lt_mul hn).2 h;omega
theorem zSe (a:Int)(h:a≠0):∃m:Nat,0<m∧(a=m∨a = -(m:Int)):=⟨a.natAbs,by omega,by omega⟩
theorem zS8 {a b:Int}(ha:Rng a)(hb:Rng b):Ret prog 229 [int a,int b] [] (int (zBB (a*b))) []:=by
 obtain⟨a1,a2⟩:=ha;obtain⟨b1,b2⟩:=hb;refine zI Tryz.func229 rfl qLV (rs:=[.slot 4]) (by kernel_rfl) ?_;unfold qEP;by_cases h0:a=0
 ·subst h0;simp;exact zB 0 (by simp[zBB])
 by_cases h1:b=0
 ·subst h1;simp[h0];exact zB 0 (by simp[zBB])
 obtain⟨m,m0,hm⟩:=zSe a h0;obtain⟨n,n0,hn⟩:=zSe b h1;obtain⟨q,hq⟩:∃q:Nat,1099511627776 / n=q:=⟨_,rfl⟩;obtain⟨c1,c2⟩:=zSw (m:=m) hq n0;have hqd:Int.tdiv 1099511627776 (n:Int)=(q:Int):=by rw[tdN (by omega),←hq]; rfl
 have hqle:q≤1099511627776:=by rw[←hq]; exact Nat.div_le_self _ _
 have wq:=jS (q:Int) (by omega);have wm:=jS (m:Int) (by omega);have wn:=jS (n:Int) (by omega);have wm':IntKind.i64.wrap (-(m:Int)) = -m:=IntWalk.i64_in _ (by omega);have wn':IntKind.i64.wrap (-(n:Int)) = -n:=IntWalk.i64_in _ (by omega);have x1:¬((m:Int) < -m):=by omega
 have x2:(-(m:Int))<m:=by omega
 have y1:¬((n:Int) < -n):=by omega
 have y2:(-(n:Int))<n:=by omega
 have z1:¬((m:Int)<0):=by omega
 have z2:(-(m:Int))<0:=by omega
 have z3:¬((n:Int)<0):=by omega
 have z4:(-(n:Int))<0:=by omega
 have m1:¬m=0:=by omega
 have n1:¬n=0:=by omega
 have p0:(m:Int)*n=((m*n:Nat):Int):=by push_cast; rfl
 generalize hmn:m*n=s at *
 by_cases hc:(q:Int)<m
 ·have hs:=c1 (by omega);have k1:zBB (s:Int)=1099511627776:=by unfold zBB; rw[if_pos (by omega)]
  have k2:zBB (-(s:Int)) = -1099511627776:=by unfold zBB; rw[if_neg (by omega),if_pos (by omega)]
  rcases hm with rfl | rfl<;>rcases hn with rfl | rfl<;>simp[m1,n1,wm,wn,wm',wn',x1,x2,y1,y2,z1,z2,z3,z4,m0,n0,hqd,wq,hc]<;>exact zB 0 (by simp[Int.neg_mul,Int.mul_neg,p0,k1,k2])
 ·have hs:=c2 (by omega);have k1:zBB (s:Int)=s:=by unfold zBB; rw[if_neg (by omega),if_neg (by omega)]
  have k2:zBB (-(s:Int)) = -s:=by unfold zBB; rw[if_neg (by omega),if_neg (by omega)]
  have w1:=jS (s:Int) (by omega);have w2:=jS (-(s:Int)) (by omega);rcases hm with rfl | rfl<;>rcases hn with rfl | rfl<;>simp[m1,n1,wm,wn,wm',wn',x1,x2,y1,y2,z1,z2,z3,z4,m0,n0,hqd,wq,hc]<;>exact zB 0 (by simp[Int.neg_mul,Int.mul_neg,p0,k1,k2,w1,w2])
theorem zKc {a b:Int}(ha:Rng a)(hb:Rng b):Ret prog 230 [int a,int b] [] (int (zIv a b)) []:=by
 obtain⟨a1,a2⟩:=ha;refine zI Tryz.func230 rfl qLP (rs:=[.slot 4]) (by kernel_rfl) ?_;unfold qEJ;by_cases h1:b=0
 ·subst h1;simp;exact zB 0 (by simp[zIv])
 have ht:=zSg (b:=b) a1 a2;have w1:=jS (a.tdiv b) (by omega);have w2:=jS (a.tdiv b-1) (by omega);have e:zIv a b=if a.tmod b≠0∧¬(a<0↔b<0) then a.tdiv b-1 else a.tdiv b:=by unfold zIv; rw[if_neg h1]
 rw[e];by_cases hm:a.tmod b=0
 ·simp[h1,hm,w1];exact zB 0 (by simp[hm])
 by_cases s1:a<0<;>by_cases s2:b<0<;>simp[h1,hm,w1,s1,s2,w2]<;>exact zB 0 (by simp[hm,s1,s2])
theorem zUL {a b:Int}(ha:Rng a)(hb:Rng b):Ret prog 231 [int a,int b] [] (int (zNv a b)) []:=by
 have hd:=zKc ha hb;refine zI Tryz.func231 rfl qLU (rs:=[.slot 4]) (by kernel_rfl) ?_;unfold qEO;by_cases h1:b=0
 ·subst h1;simp;exact zB 0 (by simp[zNv])
 have hr:=zKN (a:=a) hb.1 hb.2;have e:zNv a b=a-b*zIv a b:=by unfold zNv; rw[if_neg h1]
 obtain⟨a1,a2⟩:=ha;have w1:=jS (b*zIv a b) (by omega);have w2:=jS (a-b*zIv a b) (by omega);simp[h1];refine qD hd (by simp) (by simp) ?_;simp[w1,w2];exact zB 0 (by simp[e])
def zPq:Go.Shelf.Ren:=⟨fun | 4=>204 | n=>n,fun | 0=>0 | 3=>3 | 4=>4 | 9=>9 | 20=>20 | 22=>44 | 25=>46 | n=>n,fun n=>n⟩
theorem zVu:Go.Proofs.Lays8.n4 prog zPq:={
 mixed:=by kernel_rfl,
 f4:=⟨Tryz.f204.name,by decide,Tryz.func204.trans (congrArg some (by kernel_rfl))⟩,
 t0:=Tryz.underlying0,
 a0:=Tryz.isAgg0,
 z0:=Tryz.sizeOf0,
 v0:=Tryz.zeroValue0,
 t3:=Tryz.underlying3,
 a3:=Tryz.isAgg3,
 z3:=Tryz.sizeOf3,
 v3:=Tryz.zeroValue3,
 t4:=Tryz.underlying4,
 a4:=Tryz.isAgg4,
 z4:=Tryz.sizeOf4,
 v4:=Tryz.zeroValue4,
 t9:=Tryz.underlying9,
 a9:=Tryz.isAgg9,
 z9:=Tryz.sizeOf9,
 v9:=Tryz.zeroValue9,
 t20:=Tryz.underlying20,
 a20:=Tryz.isAgg20,
 z20:=Tryz.sizeOf20,
 v20:=Tryz.zeroValue20,
 t22:=Tryz.underlying44,
 a22:=Tryz.isAgg44,
 z22:=Tryz.sizeOf44,
 v22:=Tryz.zeroValue44}
@[simp] theorem qGu:zA prog 204=true:=by kernel_rfl
theorem zOD (n:Nat)(hn:n≤1000000):Ret prog 204 [.nil,int n] [] (.row 0 0) [.row false 46 3 0 []] :=
 zSX (ρ:=zPq) (sz:=3) (bs:=40) (z:=.agg #[.int .i64 0,.int .i64 0,.slice none 0 0]) zVu (by kernel_rfl) rfl (by omega) (by omega) (by omega)
def zNC:K:=G [kMn 2] (G [kMi 3 0] (Z (G [M 9 0,kN 10 9,kMi 11 0] (K.block 0 (K.loop (G [kB 12 11 10 .lss] (Z (Y 12 ks (K.exit 0)) (Z (K.block 1 (G [kX 13 9 11 1,L 14 13 1,M 5 14] (G [M 15 3,M 16 5,kN 17 16,kB 18 15 17 .add,M 3 18] (G [M 19 3,kBi 20 19 0 .lss] (Y 20 (K.ops [⟨none,.mki (some 21) 9 (.const (.string ⟨#[108,101,110,32,111,117,116,32,111,102,32,114,97,110,103,101]⟩))⟩,⟨none,.pan none (kt 21)⟩]) ks))))) (K.ops [kBi 22 11 1 .add,M 11 22]))))))) (G [M 23 3,kC 24 204 [(.const kl),(kt 23)],M 6 24] (Z (G [M 25 0,kN 26 25,kMi 27 0] (K.block 2 (K.loop (G [kB 28 27 26 .lss] (Z (Y 28 ks (K.exit 2)) (Z (K.block 3 (G [kX 29 25 27 1,L 30 29 1,M 8 30] (K.ops [M 31 6,M 32 8,kP 33 46 3 40 31 32,M 6 33]))) (K.ops [kBi 34 27 1 .add,M 27 34]))))))) (G [M 35 6,M 2 35] kr)))))
theorem zUo:zR prog Tryz.f196.ntmps (Tryz.f196.body.getD .skip)=some zNC.erase:=by kernel_rfl
@[simp] theorem qAl:zA prog 196=true:=by kernel_rfl
def zAI (Ls:List (List Val)):List A:=Ls.map fun l=>A.sl l.length (zK l)
theorem zDO:∀(Ls:List (List Val)),qF (zAI Ls)
 | []=>qF.nil
 | l::Ls=>by
  have h1:=zDO Ls;have h2:=zBn l;refine⟨?_,fun rf g=>?_⟩
  ·show qV (A.sl l.length (zK l)::zAI Ls)=_;simp[h1.1];rfl
  ·show vwL rf g (A.sl l.length (zK l)::zAI Ls)=_;simp[h1.2];rfl
@[simp] theorem zX1 (l:List (List Val)):qV (zAI l)=zAI l:=(zDO l).1
@[simp] theorem qCg {rf g}(l:List (List Val)):vwL rf g (zAI l)=zAI l:=(zDO l).2 _ _
@[simp] theorem zYG (l:List (List Val)):(zAI l).length=l.length:=by simp[zAI]
theorem zH0 {Ls:List (List Val)}{i:Nat}(h:i<Ls.length):(zAI Ls).drop i=.sl Ls[i].length (zK Ls[i])::zAI (Ls.drop (i+1)):=by rw[zAI,←List.map_drop,jAu h]; rfl
def zD4 (Ls:List (List Val)):Nat:=Ls.flatten.length
theorem zM9 {Ls:List (List Val)}{i:Nat}(h:i<Ls.length):zD4 (Ls.take (i+1))=zD4 (Ls.take i)+Ls[i].length:=by rw[zD4,zD4,jAa h,jD6]; simp
theorem zSh (Ls:List (List Val))(i:Nat):zD4 (Ls.take i)≤zD4 Ls:=by
 have:Ls.flatten=(Ls.take i).flatten++(Ls.drop i).flatten:=by rw[←jD6,jC7]
 rw[zD4,zD4,this,jA5]; omega
theorem zLk (Ls:List (List Val))(hb:zD4 Ls≤1000000):Ret prog 196 [.sl Ls.length (zAI Ls)] [] (.sl (zD4 Ls) (zK Ls.flatten)) []:=by
 refine zI Tryz.func196 rfl zUo (rs:=[.slot 2]) (by kernel_rfl) ?_;unfold zNC;simp;intro hl;refine jM (S:=Nat) (fun i=>[(0,.sl Ls.length (zAI Ls)),(3,int (zD4 (Ls.take i))),(9,.sl Ls.length (zAI Ls)),(10,int Ls.length),(11,int i)]) (fun s=>[]) (fun i=>i≤Ls.length) (fun i=>Ls.length-i) 0 (by simp)
  (zO [] 0 (by simp) (by simp) (by simp) (by simp[zD4])) ?_
 intro i hi;by_cases h:i<Ls.length
 ·have ht:=zM9 h;have hle:=zSh Ls (i+1);have hw:IntKind.i64.wrap ((zD4 (Ls.take i):Int)+(Ls[i].length:Int))=(zD4 (Ls.take (i+1)):Nat):=by rw[ht]; push_cast; exact IntWalk.i64_in _ (by omega)
  have h0:¬((zD4 (Ls.take (i+1)):Nat):Int)<0:=by omega
  simp[h,zH0 h];intro _;simp[hw,h0];exact zP (i+1) h (by omega) (zO [] 0 (by simp) (by simp) (by simp) (by simp[qP h hl]))
 ·have hil:i=Ls.length:=by omega
  subst hil;have hI:¬(Ls.length:Int)<Ls.length:=by omega
  simp;refine jJ (zOD (zD4 Ls) hb) [] (by simp) (by simp) (by simp) ?_;simp;intro _;refine jM (S:=Nat) (fun i=>[(6,.row 0 (zD4 (Ls.take i))),(25,.sl Ls.length (zAI Ls)),(26,int Ls.length),(27,int i)]) (fun i=>[.row false 46 3 (zD4 (Ls.take i)) (zK (Ls.take i).flatten)]) (fun i=>i≤Ls.length) (fun i=>Ls.length-i) 0 (by simp)
   (zO [0] 0 (by simp) (by simp) (by simp[zD4]) (by simp[zD4])) ?_
  intro i hi;by_cases h:i<Ls.length
  ·have ht:=zM9 h;have hle:=zSh Ls (i+1);have hf:(Ls.take (i+1)).flatten=(Ls.take i).flatten++Ls[i]:=by rw[jAa h,jD6]; simp
   simp[h,zH0 h];refine⟨⟨by simp[maxLen]; omega,by omega⟩,?_⟩;exact zP (i+1) h (by omega) (zO [0] 0 (by simp) (by simp) (by simp[ht,hf,zAV]) (by simp[ht,qP h hl]))
  ·have hil:i=Ls.length:=by omega
   subst hil;simp;exact zB 1 (by simp)
def qEH:K:=G [kMn 2] (G [kMn 3] (Z (G [M 6 0,kN 7 6,kMi 8 0] (K.block 0 (K.loop (G [kB 9 8 7 .lss] (Z (Y 9 ks (K.exit 0)) (Z (K.block 1 (G [kX 10 6 8 3,J 11 10 3,kZ 5 [ki,ki,kl],S 5 11 3] (G [D 12 5 2,L 13 12 1,kC 14 108 [(kt 13)],D 15 5 2,S 15 14 1] (K.ops [M 16 3,J 17 5 3,kd 18 46 3 1 [ki,ki,kl] [(0,3,(kt 17))],kP 19 46 3 40 16 18,M 3 19])))) (K.ops [kBi 20 8 1 .add,M 8 20]))))))) (G [M 21 3,M 2 21] kr)))
theorem qLN:zR prog Tryz.f108.ntmps (Tryz.f108.body.getD .skip)=some qEH.erase:=by kernel_rfl
@[simp] theorem qMz:zA prog 108=true:=by kernel_rfl
mutual
theorem zGP:∀(l:List Val),jH l≤1000000→Ret prog 108 [.sl l.length (zK l)] [] (.sl l.length (zK l)) []
 | l,hz=>by
  have hl6:=zDz l;refine zI Tryz.func108 rfl qLN (rs:=[.slot 2]) (by kernel_rfl) ?_;unfold qEH;simp;intro hl;refine jM (S:=Nat) (fun i=>[(3,.row 0 i),(6,.sl l.length (zK l)),(7,int l.length),(8,int i)]) (fun i=>[.row false 46 3 i (zK (l.take i))]) (fun i=>i≤l.length) (fun i=>l.length-i) 0 (by simp)
   ((zA9 (t:=3) (by simp) 46 3).trans (zO [0] 0 (by simp) (by simp) (by simp) (by simp))) ?_
  intro i hi;by_cases h:i<l.length
  ·have hk:=zIW l hz l[i] (jA3 h);have ht:zK (l.take (i+1))=zK (l.take i)++[.lit (.int .i64 l[i].k),.lit (.int .i64 l[i].n),.sl l[i].kids.length (zK l[i].kids)]:=by rw[jAa h,zAV]; simp
   simp[h,jL h];refine qD hk (by simp) (by simp) ?_;simp;refine⟨⟨by simp[maxLen]; omega,by omega⟩,?_⟩;exact zP (i+1) h (by omega) (zO [0] 0 (by simp) (by simp) (by simp[ht]) (by simp[qP h hl]))
  ·have hil:i=l.length:=by omega
   subst hil;simp;exact zB 1 (by simp)
theorem zIW:∀(l:List Val),jH l≤1000000→∀x∈l,Ret prog 108 [.sl x.kids.length (zK x.kids)] [] (.sl x.kids.length (zK x.kids)) []
 | [],_,x,h=>by simp at h
 | .mk k n ks::l,hz,x,h=>by
  simp only[jH,qC]at hz
  if e:x∈l then exact zIW l (by omega) x e
  else
   have:x=.mk k n ks:=(jA7.1 h).resolve_right e;subst this;exact zGP ks (by omega)
end
def qEN:K:=G [kZ 4 [ki,ki,kl]] (Z (G [M 7 0,kBi 8 7 0 .geq,M 9 8,T 9 true (M 10 0),T 9 true (kBi 11 10 5 .lss),kPf 12 9 11,M 13 12,T 13 true (M 14 1),T 13 true (kN 15 14),T 13 true (kQi 16 15 2 false),kPf 17 13 16] (Y 17 (Z (K.dops [(0,0,M 18 0),(1,0,⟨none,.idxarr (some 19) (.global 0) (kt 18) 5 1⟩),(2,0,L 20 19 1),(3,0,M 21 1),(4,0,kXi 22 21 3 0),(5,0,D 23 22 1),(6,0,L 24 23 1),(7,0,M 25 1),(8,0,kXi 26 25 3 1),(9,0,D 27 26 1),(10,0,L 28 27 1),(11,0,⟨none,.call (some 29) (kt 20) [(kt 24),(kt 28)]⟩),(12,0,kb 30 [ki,ki,kl] [(1,1,(kt 29))]),(13,0,S 4 30 3)]) kr) ks)) (Z (K.block 0 (G [M 32 0,kQi 33 32 9 false,M 34 33,T 34 true (M 35 1),T 34 true (kN 36 35),T 34 true (kQi 37 36 1 false),kPf 38 34 37,M 31 38] (Y 31 (G [M 39 1,kXi 40 39 3 0,D 41 40 1,L 42 41 1,kQi 43 42 0 false,kC 44 174 [(kt 43)],S 4 44 3] kr) (G [M 46 0,kQi 47 46 11 false,M 48 47,T 48 true (M 49 1),T 48 true (kN 50 49),T 48 true (kQi 51 50 1 false),kPf 52 48 51,M 45 52] (Y 45 (G [M 53 1,kXi 54 53 3 0,D 55 54 2,L 56 55 1,kN 57 56,kb 58 [ki,ki,kl] [(1,1,(kt 57))],S 4 58 3] kr) (G [M 60 1,kN 61 60,kQi 62 61 2 true,M 59 62] (Y 59 (G [kb 63 [ki,ki,kl] [],S 4 63 3] kr) ks))))))) (Z (K.wk (K.dops [(0,0,M 64 1),(1,2,kXi 65 64 3 0),(2,2,J 66 65 3),(3,0,M 67 1),(4,2,kXi 68 67 3 1),(5,2,J 69 68 3),(6,301,⟨none,.alr (some 5) 1 [ki,ki,kl]⟩),(7,302,⟨none,.alr (some 6) 2 [ki,ki,kl]⟩),(8,0,S 5 66 3),(9,0,S 6 69 3)])) (Z (G [M 70 0] (K.block 1 (G [kQi 72 70 5 false,M 71 72] (Y 71 (G [D 73 5 1,L 74 73 1,D 75 6 1,
 L 76 75 1,kB 77 74 76 .lss,kC 78 174 [(kt 77)],S 4 78 3] kr) (G [kQi 80 70 6 false,M 79 80] (Y 79 (G [J 81 5 3,J 82 6 3,kC 83 60 [(kt 81),(kt 82)],kQi 84 83 0 false,kC 85 174 [(kt 84)],S 4 85 3] kr) (G [kQi 87 70 7 false,M 86 87] (Y 86 (G [D 88 5 1,L 89 88 1,kQi 90 89 0 true,M 91 90,T 91 true (D 92 6 1),T 91 true (L 93 92 1),T 91 true (kQi 94 93 0 true),kPf 95 91 94,kC 96 174 [(kt 95)],S 4 96 3] kr) (G [kQi 98 70 8 false,M 97 98] (Y 97 (G [D 99 5 1,L 100 99 1,kQi 101 100 0 true,M 102 101,T 102 false (D 103 6 1),T 102 false (L 104 103 1),T 102 false (kQi 105 104 0 true),kPt 106 102 105,kC 107 174 [(kt 106)],S 4 107 3] kr) (G [kQi 109 70 10 false,M 108 109] (Y 108 (G [D 110 5 2,L 111 110 1,D 112 6 2,L 113 112 1,kd 114 44 1 2 [kl,kl] [(0,1,(kt 111)),(1,1,(kt 113))],kC 115 196 [(kt 114)],kC 116 108 [(kt 115)],kb 117 [ki,ki,kl] [(0,1,(kc 4)),(2,1,(kt 116))],S 4 117 3] kr) ks)))))))))))) (G [kb 118 [ki,ki,kl] [],S 4 118 3] kr)))))
def qNI:Nat→Option (List (Nat×Nat)):=fun r=>match r with | 9=>some [(0,0),(1,2),(2,2),(3,0),(4,2),(5,2),(6,301),(7,302),(8,0),(9,0)] | _=>none
theorem qLT:qE prog Tryz.f177.ntmps qNI (Tryz.f177.body.getD .skip)=some qEN.erase:=by kernel_rfl
@[simp] theorem qM6:zA prog 177=true:=by kernel_rfl
@[simp] theorem qIN (b:Bool):(zBI b).k=1:=rfl
@[simp] theorem qIO (b:Bool):(zBI b).n=if b then 1 else 0:=rfl
@[simp] theorem zZC (b:Bool):(zBI b).kids=[]:=rfl
@[simp] theorem qAL {env:Env}:ev env (.global 0)=.rptr [.clo 226 [] [],.clo 228 [] [],.clo 229 [] [],.clo 230 [] [],.clo 231 [] []]:=rfl
theorem yO:2≤maxLen:=by simp[maxLen]
theorem zCs:1≤maxLen:=by simp[maxLen]
theorem qAJ {p:Prg}{n:Int}{ts:List Typ}{t:Typ}(h:OpT n ts t){vs:List Val}(hv:TyL p ts vs)(hs:∀v∈vs,qC v≤256):Ret prog 177 [int n,.sl vs.length (zK vs)] [] (.agg (zF (opV n vs))) []:=by
 refine qL Tryz.func177 rfl qLT (rs:=[.cell 4 3 true]) (by kernel_rfl) ?_;unfold qEN;cases h with
 | arith n h1 h2 =>
  obtain⟨a,b,rfl,ha,hb⟩:=hv.two;obtain⟨x,rfl,hx⟩:=ha.int_inv;obtain⟨y,rfl,hy⟩:=hb.int_inv;have e:opV n [.mk 0 x [],.mk 0 y []]=.mk 0 (zLt n x y) []:=by simp only[opV,if_pos h2]; rfl
  rw[e];have hn:n=0∨n=1∨n=2∨n=3∨n=4:=by omega
  rcases hn with rfl | rfl | rfl | rfl | rfl
  ·simp[Val.k,Val.n,Val.kids,yO,zCs];refine qK (zWK hx hy) (by simp) (by simp) ?_;simp;exact zB 0 (by simp[zF,Val.k,Val.n,Val.kids,zLt])
  ·simp[Val.k,Val.n,Val.kids,yO,zCs];refine qK (zWT hx hy) (by simp) (by simp) ?_;simp;exact zB 0 (by simp[zF,Val.k,Val.n,Val.kids,zLt])
  ·simp[Val.k,Val.n,Val.kids,yO,zCs];refine qK (zS8 hx hy) (by simp) (by simp) ?_;simp;exact zB 0 (by simp[zF,Val.k,Val.n,Val.kids,zLt])
  ·simp[Val.k,Val.n,Val.kids,yO,zCs];refine qK (zKc hx hy) (by simp) (by simp) ?_;simp;exact zB 0 (by simp[zF,Val.k,Val.n,Val.kids,zLt])
  ·simp[Val.k,Val.n,Val.kids,yO,zCs];refine qK (zUL hx hy) (by simp) (by simp) ?_;simp;exact zB 0 (by simp[zF,Val.k,Val.n,Val.kids,zLt])
 | less =>
  obtain⟨a,b,rfl,ha,hb⟩:=hv.two;obtain⟨x,rfl,hx⟩:=ha.int_inv;obtain⟨y,rfl,hy⟩:=hb.int_inv;simp[Val.k,Val.n,Val.kids,yO,zCs];refine⟨_,_,zAe 2,?_⟩;simp[Val.k,Val.n,Val.kids,yO,zCs];refine qD (zAG (decide (x<y))) (by simp) (by simp[zF]) ?_;simp[zF];exact zB 0 (by by_cases hx0:x<y<;>simp[zF,opV,qO,hx0])
 | same u =>
  obtain⟨a,b,rfl,ha,hb⟩:=hv.two;simp[yO];refine⟨_,_,zAe 2,?_⟩;simp[yO];refine qD (zJ5 a b) (by simp[zF]) (by simp) ?_;simp;refine qD (zAG (decide (zCd a b=0))) (by simp) (by simp[zF]) ?_;simp[zF];exact zB 0 (by simp[zF,opV])
 | andor n h =>
  obtain⟨a,b,rfl,ha,hb⟩:=hv.two;obtain⟨x,rfl,hx⟩:=ha.bool_inv;obtain⟨y,rfl,hy⟩:=hb.bool_inv;rcases h with rfl | rfl
  ·rcases hx with rfl | rfl<;>rcases hy with rfl | rfl
   ·simp[Val.k,Val.n,Val.kids,yO];refine⟨_,_,zAe 2,?_⟩;simp[Val.k,Val.n,Val.kids,yO];refine qD (zAG false) (by simp) (by simp[zF]) ?_;simp[zF];exact zB 0 (by simp[zF,opV,qO])
   ·simp[Val.k,Val.n,Val.kids,yO];refine⟨_,_,zAe 2,?_⟩;simp[Val.k,Val.n,Val.kids,yO];refine qD (zAG false) (by simp) (by simp[zF]) ?_;simp[zF];exact zB 0 (by simp[zF,opV,qO])
   ·simp[Val.k,Val.n,Val.kids,yO];refine⟨_,_,zAe 2,?_⟩;simp[Val.k,Val.n,Val.kids,yO];refine qD (zAG false) (by simp) (by simp[zF]) ?_;simp[zF];exact zB 0 (by simp[zF,opV,qO])
   ·simp[Val.k,Val.n,Val.kids,yO];refine⟨_,_,zAe 2,?_⟩;simp[Val.k,Val.n,Val.kids,yO];refine qD (zAG true) (by simp) (by simp[zF]) ?_;simp[zF];exact zB 0 (by simp[zF,opV,qO])
  ·rcases hx with rfl | rfl<;>rcases hy with rfl | rfl
   ·simp[Val.k,Val.n,Val.kids,yO];refine⟨_,_,zAe 2,?_⟩;simp[Val.k,Val.n,Val.kids,yO];refine qD (zAG false) (by simp) (by simp[zF]) ?_;simp[zF];exact zB 0 (by simp[zF,opV,qO])
   ·simp[Val.k,Val.n,Val.kids,yO];refine⟨_,_,zAe 2,?_⟩;simp[Val.k,Val.n,Val.kids,yO];refine qD (zAG true) (by simp) (by simp[zF]) ?_;simp[zF];exact zB 0 (by simp[zF,opV,qO])
   ·simp[Val.k,Val.n,Val.kids,yO];refine⟨_,_,zAe 2,?_⟩;simp[Val.k,Val.n,Val.kids,yO];refine qD (zAG true) (by simp) (by simp[zF]) ?_;simp[zF];exact zB 0 (by simp[zF,opV,qO])
   ·simp[Val.k,Val.n,Val.kids,yO];refine⟨_,_,zAe 2,?_⟩;simp[Val.k,Val.n,Val.kids,yO];refine qD (zAG true) (by simp) (by simp[zF]) ?_;simp[zF];exact zB 0 (by simp[zF,opV,qO])
 | not =>
  obtain⟨a,rfl,ha⟩:=hv.one;obtain⟨x,rfl,hx⟩:=ha.bool_inv;simp[Val.k,Val.n,Val.kids,yO,zCs];refine qD (zAG (decide (x=0))) (by simp) (by simp[zF]) ?_;simp[zF];exact zB 0 (by by_cases hx0:x=0<;>simp[zF,opV,qO,hx0])
 | join u =>
  obtain⟨a,b,rfl,ha,hb⟩:=hv.two;have h1:=hs a (by simp);have h2:=hs b (by simp);cases a with | mk k1 n1 l1 =>
  cases b with | mk k2 n2 l2 =>
  simp only[qC]at h1 h2;have z1:=zDz l1;have z2:=zDz l2;have hc:Ret prog 196 [.sl 2 [.sl l1.length (zK l1),.sl l2.length (zK l2)]] [] (.sl (l1.length+l2.length) (zK (l1++l2))) []:=by simpa [zAI,zD4] using zLk [l1,l2] (by simp[zD4]; omega)
  have hk:=zGP (l1++l2) (by rw[zBU]; omega);rw[jA5]at hk;simp[Val.k,Val.n,Val.kids,yO,zCs];refine⟨_,_,zAe 2,?_⟩;simp[Val.k,Val.n,Val.kids,yO,zCs];refine qD hc (by simp) (by simp) ?_;simp;refine qD hk (by simp) (by simp) ?_;simp;exact zB 0 (by simp[zF,opV,Val.k,Val.n,Val.kids])
 | len u =>
  obtain⟨a,rfl,ha⟩:=hv.one;simp[zCs];exact fun _=>zB 0 (by simp[zF,opV,Val.k,Val.n,Val.kids])
def zHm (n:Nat):List Int:=(List.range n).map fun(i:Nat)=>(i:Int)
def zGt (s:Id)(e:Exp)(n:Nat):List Int:=(zHm n).filter fun i=>zDW s e false||decide (i∈zI7 s e)
@[simp] theorem qMV:zA prog 208=true:=by kernel_rfl
@[simp] theorem qNa:zA prog 207=true:=by kernel_rfl
@[simp] theorem qMZ:zA prog 200=true:=by kernel_rfl
def zT2 (f:Int→Id)(x:Id):Id:=if x.b=0 then f x.c else x
def qNW (f:Int→Id)(b:Bnd):Bnd:={b with id:=zT2 f b.id}
def qLH (f:Int→Id)(env:List Bnd):Prop:=∀b∈env,∀b'∈env,zT2 f b.id=zT2 f b'.id→b.id=b'.id
theorem zM8:∀l:List Exp,l.length≤(zId l).length
 | []=>by simp
 | e::l=>by
  have:=zM8 l;have h1:1≤(tmps e).length:=by rw[zWj]; simp
  simp only[jAl,zId,jA5];omega
theorem zKZ:∀{l:List Exp} {e:Exp},e∈l→(tmps e).Sublist (zId l)
 | x::l,e,h=>by
  simp only[zId];rcases jA7.1 h with rfl | h
  ·exact List.sublist_append_left _ _
  ·exact(zKZ h).trans (List.sublist_append_right _ _)
structure Frs (f:Int→Id)(env:List Bnd)(e:Exp):Prop where
 nd:(tmps e).Nodup
 num:e.num0
 inj:∀c∈tmps e,∀c'∈tmps e,f c=f c'→c=c'
 new:∀b∈env,∀c∈tmps e,zT2 f b.id≠f c
 len:(tmps e).length≤32768
 ib:qLH f env
section
variable {f:Int→Id}{env:List Bnd}{i:Id}{k n:Int}{r:Id}{u:Typ}{ks:List Exp}{ns:List ByteArray}
theorem Frs.id (h:Frs f env (.mk i k n r u ks ns)):i=⟨0,0,i.c⟩:=by obtain⟨a,b,c⟩:=i;have:=h.num;simp only[Exp.num0]at this;simp[this.1.1,this.1.2]
theorem Frs.kid (h:Frs f env (.mk i k n r u ks ns)){e:Exp}(he:e∈ks):Frs f env e:=by
 obtain⟨h1,h2,h3,h4,h5,h6⟩:=h;simp only[tmps]at h1 h3 h4 h5;simp only[Exp.num0,zMp]at h2;have hs:=zKZ he;have hm:∀c∈tmps e,c∈zId ks++[i.c]:=fun c hc=>jBd _ (hs.subset hc)
 exact⟨(jCh.1 h1).1.sublist hs,h2.2 e he,fun c hc c' hc'=>h3 c (hm c hc) c' (hm c' hc'),fun b hb c hc=>h4 b hb c (hm c hc),by
  have:=hs.length_le;rw[jA5]at h5;omega,h6⟩
theorem Frs.push (h:Frs f env (.mk i k n r u ks ns)){e:Exp}(he:e∈ks)(m:Int)(t:Typ){env':List Bnd}(hb:env'=env∨∃m' t',env'=env++[⟨i,m',t'⟩]):Frs f (env'++[⟨i,m,t⟩]) e:=by
 have hk:=h.kid he;have hi:=h.id;obtain⟨h1,h2,h3,h4,h5,h6⟩:=h;simp only[tmps]at h1 h3 h4;have hic:i.c∈zId ks++[i.c]:=by simp
 have hri:zT2 f i=f i.c:=by unfold zT2; rw[if_pos (by rw[hi])]
 have hmem:∀b∈env'++[(⟨i,m,t⟩:Bnd)],b∈env∨b.id=i:=by
  intro b hb';rcases jAb.1 hb' with hb' | hb'
  ·rcases hb with rfl | ⟨m',t',rfl⟩
   ·exact .inl hb'
   ·rcases jAb.1 hb' with hb' | hb'
    ·exact .inl hb'
    ·rw[jAn.1 hb']; exact .inr rfl
  ·rw[jAn.1 hb']; exact .inr rfl
 refine⟨hk.nd,hk.num,hk.inj,fun b hb' c hc=>?_,hk.len,fun b hb1 b' hb2 e=>?_⟩
 ·rcases hmem b hb' with h' | h'
  ·exact hk.new b h' c hc
  ·rw[h',hri];intro e;have hc':=(zKZ he).subset hc;have:=h3 i.c hic c (jBd _ hc') e;exact(jCh.1 h1).2.2 c hc' i.c (by simp) this.symm
 ·rcases hmem b hb1 with h' | h'<;>rcases hmem b' hb2 with h'' | h''
  ·exact h6 b h' b' h'' e
  ·rw[h'',hri]at e;exact(h4 b h' i.c hic e).elim
  ·rw[h',hri]at e;exact(h4 b' h'' i.c hic e.symm).elim
  ·rw[h',h'']
theorem Frs.fresh (h:Frs f env (.mk i k n r u ks ns)):∀x∈env.map (qNW f),x.id≠f i.c:=by intro x hx;obtain⟨b,hb,rfl⟩:=jAm.1 hx;exact h.new b hb i.c (by simp[tmps])
theorem Frs.kids (h:Frs f env (.mk i k n r u ks ns)):(ks.map (qIs f)).length≤32768:=by have h1:=h.len;have h2:=zM8 ks;simp only[tmps,jA5]at h1;rw[jB5];omega
end
def zZH (P:Prg)(hs:List Hd):Prop:=∀(k:Nat) (h:k<hs.length),∃d,qT P.defs hs[k].id=some d∧d.hd=hs[k]
theorem zGk:∀{ds:List Dfn} (_:ds.Pairwise fun a b=>a.id≠b.id) {k:Nat} (hk:k<ds.length),qT ds ds[k].id=some ds[k]
 | d::ds,h,0,_=>by rw[zGZ]; simp
 | d::ds,h,k+1,hk=>by
  rw[jBy]at h;have hk':k<ds.length:=by simpa using hk
  rw[zGZ];have:=h.1 ds[k] (jA3 hk');simp only[jD7];rw[if_neg this];exact zGk h.2 hk'
structure Fit (P:Prg)(hs:List Hd):Prop where
 heads:P.defs.map Dfn.hd=hs
 len8:P.defs.length≤100
 nd:P.defs.Pairwise fun a b=>a.id≠b.id
 slots:∀d∈P.defs,1≤d.slots.length∧d.slots.length≤6∧(d.kind=0∨d.kind=1→d.slots.length≤3)∧(d.slots.Pairwise fun a b=>a.id≠b.id)∧∀s∈d.slots,TyOk hs 4 s.typ
 kinds:∀d∈P.defs,0≤d.kind∧d.kind≤5
 bods:zTJ P
theorem Fit.hd {P:Prg}{hs:List Hd}(h:Fit P hs):zZH P hs:=fun k hk=>by
 have hk':k<P.defs.length:=by rw[←h.heads]at hk; simpa using hk
 have e:hs[k]=P.defs[k].hd:=by simp[←h.heads]
 refine⟨P.defs[k],?_,e.symm⟩;rw[e];exact zGk h.nd hk'
theorem zAz {ds:List Dfn}{r:Id}{d:Dfn}(h:qT ds r=some d):d∈ds∧d.id=r:=⟨List.mem_of_find?_eq_some h,by simpa using List.find?_some h⟩
section
variable {l:List Int}{mods:Int}(hl:∀x∈l,w64 x=x)
include hl
end
theorem TyOk.valid {P:Prg}{hs:List Hd}(hh:zZH P hs){r:Nat}{t:Typ}(h:TyOk hs r t):∀n,r<n→yQ P n t=true:=by
 induction h with
 | int r=>intro n hn; obtain⟨m,rfl⟩:∃m,n=m+1:=⟨n-1,by omega⟩; simp[yQ]
 | bool r=>intro n hn; obtain⟨m,rfl⟩:∃m,n=m+1:=⟨n-1,by omega⟩; simp[yQ]
 | list r t h ih =>
  intro n hn;obtain⟨m,rfl⟩:∃m,n=m+1:=⟨n-1,by omega⟩;simp[yQ,ih m (by omega)]
 | dfn r k h h1 h2 h3 h4 ih =>
  intro n hn;obtain⟨m,rfl⟩:∃m,n=m+1:=⟨n-1,by omega⟩;obtain⟨d,hd,hhd⟩:=hh k h;have e1:d.kind=hs[k].kind:=congrArg Hd.kind hhd;simp[yQ,zFI,hd,e1];omega
theorem TyOk.validT {P:Prg}{hs:List Hd}(hh:zZH P hs){r:Nat}{t:Typ}(h:TyOk hs r t)(hr:r<24):validT P t=true:=h.valid hh 24 hr
theorem Fit.at_ {P:Prg}{hs:List Hd}(h:Fit P hs)(k:Nat)(hk:k<hs.length):(dfn P hs[k].id).hd=hs[k]∧dfn P hs[k].id∈P.defs:=by
 obtain⟨d,hd,hhd⟩:=h.hd k hk;have:dfn P hs[k].id=d:=by simp[dfn,hd]
 rw[this];exact⟨hhd,(zAz hd).1⟩
theorem zGl {P:Prg}:∀{ts:List Typ} {vs:List Val},zBT P ts vs=true→∀(j:Nat) (h1:j<ts.length) (h2:j<vs.length),zB5 P ts[j] vs[j]=true
 | t::ts,v::vs,h,j,h1,h2=>by
  rw[zBT,jA6]at h;cases j with
  | zero=>exact h.1
  | succ j=>exact zGl h.2 j (by simpa using h1) (by simpa using h2)
theorem zRC {P:Prg}{hs:List Hd}(hf:Fit P hs){r:Nat}{t:Typ}(h:TyOk hs r t):∀v,zB5 P t v=true→TyV P t v:=by
 induction h with
 | int r =>
  intro v hv;rw[zCn]at hv;simp at hv;obtain⟨_,⟨⟨h1,h2⟩,h3⟩,h4⟩:=hv;obtain⟨k,n,l⟩:=v;simp only[Val.k,Val.n,Val.kids]at h1 h2 h3 h4;subst h1 h2;exact .int n h3 h4
 | bool r =>
  intro v hv;rw[zCn]at hv;simp at hv;obtain⟨_,⟨h1,h2⟩,h3⟩:=hv;obtain⟨k,n,l⟩:=v;simp only[Val.k,Val.n,Val.kids]at h1 h2 h3;subst h1 h2;exact .bool n h3
 | list r t h ih =>
  intro v hv;rw[zCn]at hv;simp at hv;obtain⟨_,⟨h1,h2⟩,h3⟩:=hv;obtain⟨k,n,l⟩:=v;simp only[Val.k,Val.n,Val.kids]at h1 h2 h3;subst h1 h2;exact .list _ _ fun x hx=>ih x (h3 x hx)
 | dfn r k h h1 h2 h3 h4 ih =>
  intro v hv;obtain⟨d,hd,hhd⟩:=hf.hd k h;have e1:d.kind=hs[k].kind:=congrArg Hd.kind hhd;have e2:d.slots=hs[k].slots:=congrArg Hd.slots hhd;have ed:dfn P hs[k].id=d:=by simp[dfn,hd]
  rw[zCn]at hv;simp only[Typ.k_mk,Typ.id_mk,ed]at hv;obtain⟨kk,n,l⟩:=v;by_cases hk:d.kind=1
  ·simp[hk,Val.k,Val.n,Val.kids]at hv;obtain⟨_,⟨⟨⟨g1,g2⟩,g3⟩,g4⟩,g5⟩:=hv;replace g1:=of_decide_eq_true g1;replace g2:=of_decide_eq_true g2;replace g3:=of_decide_eq_true g3;replace g4:=of_decide_eq_true g4;obtain⟨x,rfl⟩:=List.length_eq_one_iff.1 g4;obtain⟨j,rfl⟩:∃j:Nat,n=j:=⟨n.toNat,by omega⟩;have hj:j<d.slots.length:=by omega
   rw[jCv,jA2 hj,jD3,zRB]at g5;subst g1;exact .case _ d j x hd hk hj (ih d.slots[j] (by rw[←e2]; exact jA3 hj) x g5)
  ·simp[hk,Val.k,Val.n,Val.kids]at hv;obtain⟨_,⟨⟨g1,g2⟩,g3⟩,g4⟩:=hv;replace g1:=of_decide_eq_true g1;replace g2:=of_decide_eq_true g2;replace g3:=of_decide_eq_true g3;subst g1 g2;refine .record _ d l hd (by omega) g3 fun j hj=>?_
   have hjd:j<d.slots.length:=by omega
   have:=zGl g4 j (by simpa using hjd) hj;rw[jBr]at this;exact ih d.slots[j] (by rw[←e2]; exact jA3 hjd) l[j] this
structure InvX (I:XS→Prop):Prop where
 tick:∀e s,I s→¬s.fuel≤0→I (zDK e s)
 dfn:∀(d:Id) s,I s→I {s with ds:=s.ds++[d]}
 fail:∀(x:Int) s,I s→I {s with fail:=x}
section
variable {p:Prg}{ev:Evl}{I:XS→Prop}
theorem zFr (h:∀e V s,I s→I (ev e V s).2)(V:List EVar):∀(l:List Exp) (s:XS),I s→I (jE ev V l s).2
 | [],s,hs=>hs
 | e::l,s,hs=>by simp only[jE]; exact zFr h V l _ (h e V s hs)
theorem zGm (h:∀e V s,I s→I (ev e V s).2)(V:List EVar)(i:Id)(b:Exp):∀(l:List Val) (r:Val×XS),I r.2→I (yJ ev V i b l r).2
 | [],r,hs=>hs
 | e::l,r,hs=>by simp only[yJ]; exact zGm h V i b l _ (h _ _ _ hs)
theorem zGe (hI:InvX I)(h:∀e V s,I s→I (ev e V s).2)(d:Dfn)(vs:List Val)(s:XS)(hs:I s):I (zB1 ev d vs s).2:=by
 unfold zB1;split
 ·exact hs
 ·exact h _ _ _ (hI.dfn d.id s hs)
theorem zNT (h:∀e V s,I s→I (ev e V s).2)(e:Exp)(V:List EVar)(s:XS)(hs:I s):I (zAt ev e V s).2:=by
 unfold zAt;have h0:=h (e.kids.headD .zero) V s hs;generalize ev (e.kids.headD .zero) V s=r at *
 repeat' split
 all_goals first
  | exact h0
  | exact h _ _ _ h0
  | exact zGm h _ _ _ _ _ (h _ _ _ h0)
theorem zRj (hI:InvX I)(h:∀e V s,I s→I (ev e V s).2)(fl:Nat)(e:Exp)(V:List EVar)(s:XS)(hs:I s):I (qW p fl ev e V s).2:=by
 unfold qW;have h0:=zFr h V e.kids s hs;generalize jE ev V e.kids s=r at *
 repeat' split
 all_goals first
  | exact hs
  | exact h0
  | exact zNT h _ _ _ hs
  | exact zGe hI h _ _ _ h0
theorem zEn (hI:InvX I)(fl:Nat):∀(n:Nat) e V s,I s→I (zAv p fl n e V s).2
 | 0,e,V,s,hs=>by
  rw[zAv];split
  ·exact hs
  ·exact hI.fail _ _ hs
 | n+1,e,V,s,hs=>by
  rw[zAv];split
  ·exact hs
  ·split
   ·exact hI.fail _ _ hs
   ·rename_i h;have:=zRj (p:=p) hI (zEn hI fl n) fl e V _ (hI.tick e s hs h);show I (zCX _);unfold zCX;split
    ·exact hI.fail _ _ this
    ·exact this
def Fu (F:Int)(s:XS):Prop:=0≤s.fuel∧s.fuel≤F
theorem zKk (F:Int):InvX (Fu F) :=
 ⟨fun e s h hf=>⟨by unfold zDK; dsimp only; omega,by unfold zDK; have:=h.2; dsimp only; omega⟩,fun d s h=>h,fun x s h=>h⟩
theorem zJG (h:zDX ev)(V:List EVar):∀(l:List Exp) (s:XS) (i k:Nat),i≤k→(jE ev V (l.take k) s).2.fail=0→(jE ev V (l.take i) s).2.fail=0
 | [],s,i,k,_,h0=>by simpa using h0
 | e::l,s,0,k,_,h0=>by
  by_cases hs:s.fail=0
  ·simpa [jE] using hs
  ·rw[zGc h V _ _ hs]at h0;exact(hs h0).elim
 | e::l,s,i+1,0,hik,h0=>by omega
 | e::l,s,i+1,k+1,hik,h0=>by simp only[jC8,jE]at h0 ⊢;exact zJG h V l _ i k (by omega) h0
theorem zJF (h:zDX ev)(V:List EVar):∀(l:List Exp) (s:XS),s.fail=0→(jE ev V l s).2.fail≠0 →
 ∃(k:Nat) (hk:k<l.length),(jE ev V (l.take k) s).2.fail=0∧(ev l[k] V (jE ev V (l.take k) s).2).2=(jE ev V l s).2
 | [],s,hs,hf=>(hf hs).elim
 | e::l,s,hs,hf=>by
  by_cases h0:(ev e V s).2.fail=0
  ·simp only[jE]at hf;obtain⟨k,hk,h1,h2⟩:=zJF h V l _ h0 hf;exact⟨k+1,by simpa using hk,by simpa only[jC8,jE] using h1,by simpa only[jC8,jE,jD7] using h2⟩
  ·refine⟨0,by simp,hs,?_⟩;simp only[List.take_zero,jE,jDf];rw[zGc h V l _ h0]
theorem zI1 (h:zDX ev)(V:List EVar)(x:Id)(b:Exp):∀(l:List Val) (r:Val×XS) (i k:Nat),i≤k→(yJ ev V x b (l.take k) r).2.fail=0→(yJ ev V x b (l.take i) r).2.fail=0
 | [],r,i,k,_,h0=>by simpa using h0
 | v::l,r,0,k,_,h0=>by
  by_cases hs:r.2.fail=0
  ·simpa [yJ] using hs
  ·rw[zDq h V _ _ _ _ hs]at h0;exact(hs h0).elim
 | v::l,r,i+1,0,hik,h0=>by omega
 | v::l,r,i+1,k+1,hik,h0=>by simp only[jC8,yJ]at h0 ⊢;exact zI1 h V x b l _ i k (by omega) h0
theorem zJe (h:zDX ev)(V:List EVar)(x:Id)(b:Exp):∀(l:List Val) (r:Val×XS),r.2.fail=0→(yJ ev V x b l r).2.fail≠0 →
 ∃(k:Nat) (_:k<l.length),(yJ ev V x b (l.take k) r).2.fail=0∧(yJ ev V x b (l.take (k+1)) r).2=(yJ ev V x b l r).2
 | [],r,hs,hf=>(hf hs).elim
 | v::l,r,hs,hf=>by
  simp only[yJ]at hf;by_cases h0:(ev b (V++[⟨x,0,v⟩]++[⟨x,1,r.1⟩]) r.2).2.fail=0
  ·obtain⟨k,hk,h1,h2⟩:=zJe h V x b l _ h0 hf;exact⟨k+1,by simpa using hk,by simpa only[jC8,yJ] using h1,by simpa only[jC8,yJ] using h2⟩
  ·refine⟨0,by simp,hs,?_⟩;simp only[jAq,jC8,List.take_zero,yJ];rw[zDq h V _ _ _ _ h0]
end
def zZS:List ByteArray:=[⟨#[65]⟩,⟨#[66]⟩,⟨#[67]⟩,⟨#[68]⟩]
def xyT:List ByteArray:=[⟨#[120]⟩,⟨#[121]⟩]
def cT:List ByteArray:=[⟨#[99,48]⟩,⟨#[99,49]⟩,⟨#[99,50]⟩,⟨#[99,51]⟩,⟨#[99,52]⟩,⟨#[99,53]⟩,⟨#[99,54]⟩]
section
variable (l:List Int)
def zLZ (i k:Nat)(m:Gm):Slt:=⟨idR ((20+2*i+k:Nat):Int),xyT.getD k ⟨#[]⟩,tK (gN l m 3),0,k⟩
def zAg (i:Nat):Nat→Gm→List Slt×Gm
 | 0,m=>([],m)
 | n+1,m=>((zAg i n m).1++[zLZ l i n (zAg i n m).2],(zAg i n m).2.tick)
def zBp (m:Gm):Nat:=(1+gN l m 2).toNat
def zFf (i:Nat)(m:Gm):Dfn×Gm:=(⟨idR ((1+i:Nat):Int),0,idR 0,zZS.getD i ⟨#[]⟩,(zAg l i (zBp l m) m.tick).1,.zero,.zero,0,[]⟩,(zAg l i (zBp l m) m.tick).2)
def jU:Nat→Gm→List Dfn×Gm
 | 0,m=>([],m)
 | n+1,m=>((jU n m).1++[(zFf l n (jU n m).2).1],(zFf l n (jU n m).2).2)
def zBt (many:Nat)(m:Gm):Nat×Nat×Gm :=
 if gN l m many=gN l m.tick many then
  (if 0<gN l m.tick.tick 3 then ((gN l m many).toNat,((gN l m many).toNat+1) % many,m.tick.tick.tick) else ((gN l m many).toNat,(gN l m many).toNat,m.tick.tick.tick))
 else ((gN l m many).toNat,(gN l m.tick many).toNat,m.tick.tick)
def zBD (a b:Dfn)(s:Id)(m:Gm):Exp×Gm :=
 if gN l (zEI l b a s m).2 5=1 then
  yN (zEI l b a s (zAC l a s 1 1 (zEI l b a s m).2.tick).2).2 5 0 Id.zero [(zAC l a s 1 1 (zEI l b a s m).2.tick).1,(zEI l b a s m).1,(zEI l b a s (zAC l a s 1 1 (zEI l b a s m).2.tick).2).1]
 else ((zEI l b a s m).1,(zEI l b a s m).2.tick)
def zO2 (R:List Dfn)(x y:Nat)(s:Id)(m:Gm):Exp×Gm :=
 if x=y then
  (if gN l m 2=1 then yN m.tick 2 0 s [] else zBD l (R.getD x .zero) (R.getD y .zero) s m.tick)
 else zBD l (R.getD x .zero) (R.getD y .zero) s m
def zGD (R:List Dfn)(i:Nat)(m:Gm):Dfn×Gm :=
 (⟨idR ((6+i:Nat):Int),5,idR 0,cT.getD i ⟨#[]⟩,[⟨idR ((30+i:Nat):Int),⟨#[111,108,100]⟩,jZ (R.getD (zBt l R.length m).1 .zero).id,0,0⟩],jZ (R.getD (zBt l R.length m).2.1 .zero).id,
  (zO2 l R (zBt l R.length m).1 (zBt l R.length m).2.1 (idR ((30+i:Nat):Int)) (zBt l R.length m).2.2).1,0,[]⟩,
  (zO2 l R (zBt l R.length m).1 (zBt l R.length m).2.1 (idR ((30+i:Nat):Int)) (zBt l R.length m).2.2).2)
def zAb (R:List Dfn):Nat→Gm→List Dfn×Gm
 | 0,m=>([],m)
 | n+1,m=>((zAb R n m).1++[(zGD l R n (zAb R n m).2).1],(zGD l R n (zAb R n m).2).2)
def jK:Nat:=(2+atV l 0 3).toNat
def jX:List Dfn:=(jU l (jK l) ⟨1,40⟩).1++(zAb l (jU l (jK l) ⟨1,40⟩).1 (gN l (jU l (jK l) ⟨1,40⟩).2 8).toNat (jU l (jK l) ⟨1,40⟩).2.tick).1
def yM:Prg:=⟨[⟨idR 0,⟨#[99,111,114,101]⟩,[],(jX l).map (·.id)⟩],jX l⟩
theorem zC9 (i:Nat)(m:Gm):∀n,(zAg l i n m).1.length=n
 | 0=>rfl
 | n+1=>by simp[zAg,zC9 i m n]
theorem zEJ (i:Nat)(m:Gm):∀(n k:Nat) (h:k<(zAg l i n m).1.length),∃m',(zAg l i n m).1[k]=zLZ l i k m'
 | 0,k,h=>by simp[zAg]at h
 | n+1,k,h=>by
  have hl:=zC9 l i m n;by_cases hk:k<n
  ·obtain⟨m',h'⟩:=zEJ i m n k (by omega);exact⟨m',by simp only[zAg]; rw[jBq (by omega)]; exact h'⟩
  ·have hkn:k=n:=by rw[zC9]at h; omega
   subst hkn;exact⟨(zAg l i k m).2,by simp only[zAg]; rw[jCu (by omega)]; simp[hl]⟩
theorem zBx (m:Gm):∀n,(jU l n m).1.length=n
 | 0=>rfl
 | n+1=>by simp[jU,zBx m n]
theorem zLY (m:Gm):∀(n k:Nat) (h:k<(jU l n m).1.length),∃m',(jU l n m).1[k]=(zFf l k m').1
 | 0,k,h=>by simp[jU]at h
 | n+1,k,h=>by
  have hl:=zBx l m n;by_cases hk:k<n
  ·obtain⟨m',h'⟩:=zLY m n k (by omega);exact⟨m',by simp only[jU]; rw[jBq (by omega)]; exact h'⟩
  ·have hkn:k=n:=by rw[zBx]at h; omega
   subst hkn;exact⟨(jU l k m).2,by simp only[jU]; rw[jCu (by omega)]; simp[hl]⟩
theorem zBY (R:List Dfn)(m:Gm):∀n,(zAb l R n m).1.length=n
 | 0=>rfl
 | n+1=>by simp[zAb,zBY R m n]
theorem zKl (R:List Dfn)(m:Gm):∀(n k:Nat) (h:k<(zAb l R n m).1.length),∃m',(zAb l R n m).1[k]=(zGD l R k m').1
 | 0,k,h=>by simp[zAb]at h
 | n+1,k,h=>by
  have hl:=zBY l R m n;by_cases hk:k<n
  ·obtain⟨m',h'⟩:=zKl R m n k (by omega);exact⟨m',by simp only[zAb]; rw[jBq (by omega)]; exact h'⟩
  ·have hkn:k=n:=by rw[zBY]at h; omega
   subst hkn;exact⟨(zAb l R k m).2,by simp only[zAb]; rw[jCu (by omega)]; simp[hl]⟩
end
theorem zXS (t:Int):tK t=zAY∨tK t=zAd:=by
 unfold tK;split
 ·exact .inr rfl
 ·exact .inl rfl
theorem zMH {α : Type}{A B C:List α}(e:C=A++B)(k:Nat)(h:k<C.length):(∃h':k<A.length,C[k]=A[k])∨(A.length≤k∧∃h':k-A.length<B.length,C[k]=B[k-A.length]):=by
 subst e;by_cases hk:k<A.length
 ·exact .inl ⟨hk,jBq hk⟩
 ·exact .inr ⟨by omega,by rw[jA5]at h; omega,jCu (by omega)⟩
theorem zDD {α : Type}{L:List α}{i:Nat}(h:i<L.length)(z : α):L.getD i z=L[i]:=by rw[jBk,jA2 h,jB9]
section
variable {l:List Int}(hl:∀x∈l,w64 x=x)
include hl
theorem zEG (m:Gm):1≤zBp l m∧zBp l m≤2:=by have h:0≤gN l m 2∧gN l m 2<2:=zBQ hl (by omega);unfold zBp;omega
theorem zCI:2≤jK l∧jK l≤4:=by have h:0≤atV l 0 3∧atV l 0 3<3:=zBQ hl (by omega);unfold jK;omega
theorem zJf (many:Nat)(hm:0<many)(m:Gm):(zBt l many m).1<many∧(zBt l many m).2.1<many:=by
 have h1:0≤gN l m many∧gN l m many<many:=zBQ hl (by omega);have h2:0≤gN l m.tick many∧gN l m.tick many<many:=zBQ hl (by omega);have h3:=Nat.mod_lt ((gN l m many).toNat+1) hm;unfold zBt;split
 ·split
  ·exact⟨by simp only; omega,h3⟩
  ·exact⟨by simp only; omega,by simp only; omega⟩
 ·exact⟨by simp only; omega,by simp only; omega⟩
theorem zLT {p:Prg}{a b:Dfn}(ha:Flat p a)(hb:Flat p b)(s:Id)(m:Gm):WF p [⟨s,0,jZ a.id⟩] (zBD l a b s m).1 (jZ b.id):=by
 unfold zBD;split
 ·exact .ite _ _ _ _ _ _ _ _ _ (zEe hl ha s 1 _ (.inr rfl)) (zMY hl ha s hb _) (zMY hl ha s hb _)
 ·exact zMY hl ha s hb _
theorem zO4 {p:Prg}{R:List Dfn}(hR:∀a∈R,Flat p a){x y:Nat}(hx:x<R.length)(hy:y<R.length)(s:Id)(m:Gm):WF p [⟨s,0,jZ (R.getD x .zero).id⟩] (zO2 l R x y s m).1 (jZ (R.getD y .zero).id):=by
 have ha:Flat p (R.getD x .zero):=by rw[zDD hx]; exact hR _ (jA3 hx)
 have hb:Flat p (R.getD y .zero):=by rw[zDD hy]; exact hR _ (jA3 hy)
 unfold zO2;split
 ·split
  ·rename_i e _;subst e;exact .var _ _ _ _ _ _ (by simp[zEm]) (.inr (.inr ⟨_,ha,rfl⟩))
  ·exact zLT hl ha hb s _
 ·exact zLT hl ha hb s _
theorem zI2:(jX l).length≤11∧2≤(jX l).length:=by have h1:=zCI hl;have h2:0≤gN l (jU l (jK l) ⟨1,40⟩).2 8∧gN l (jU l (jK l) ⟨1,40⟩).2 8<8:=zBQ hl (by omega);unfold jX;rw[jA5,zBx,zBY];omega
theorem zC8 (k:Nat)(h:k<(jX l).length) :
 (k<jK l∧∃m,(jX l)[k]=(zFf l k m).1)∨(jK l≤k∧k-jK l<7∧∃m,(jX l)[k]=(zGD l (jU l (jK l) ⟨1,40⟩).1 (k-jK l) m).1):=by
 have h2:0≤gN l (jU l (jK l) ⟨1,40⟩).2 8∧gN l (jU l (jK l) ⟨1,40⟩).2 8<8:=zBQ hl (by omega);have hlen:=zBx l ⟨1,40⟩ (jK l);rcases zMH (show jX l=_++_ from rfl) k h with ⟨h',e⟩ | ⟨h',h'',e⟩
 ·obtain⟨m,hm⟩:=zLY l ⟨1,40⟩ (jK l) k h';exact .inl ⟨by omega,m,e.trans hm⟩
 ·obtain⟨m,hm⟩:=zKl l (jU l (jK l) ⟨1,40⟩).1 (jU l (jK l) ⟨1,40⟩).2.tick (gN l (jU l (jK l) ⟨1,40⟩).2 8).toNat _ h'';have e2:=e.trans hm;rw[zBY]at h'';rw[hlen]at h' h'' e2;exact .inr ⟨h',by omega,m,e2⟩
theorem zO5 (k:Nat)(h:k<(jX l).length):(jX l)[k].id=idR (if k<jK l then ((1+k:Nat):Int) else ((6+(k-jK l):Nat):Int)):=by
 rcases zC8 hl k h with ⟨hk,m,e⟩ | ⟨hk,_,m,e⟩
 ·rw[e,if_pos hk]; rfl
 ·rw[e,if_neg (by omega)]; rfl
theorem zKm:(jX l).Pairwise fun a b=>a.id≠b.id:=by have h1:=zCI hl;rw[jBv];intro i j hi hj hij e;have h11:=zI2 hl;rw[zO5 hl i hi,zO5 hl j hj]at e;have:=zRH (by split<;>omega) (by split<;>omega) (by split<;>omega) (by split<;>omega) e;split at this<;>split at this<;>omega
theorem zEf {k:Nat}(hk:k<jK l)(h:k<(jX l).length):Flat (yM l) (jX l)[k]:=by
 rcases zC8 hl k h with ⟨_,m,e⟩ | ⟨hk',_⟩
 ·have h2:=zEG hl m;have hf:=zGk (zKm hl) h;have h3:(jX l)[k].kind=0∧(jX l)[k].slots=(zAg l k (zBp l m) m.tick).1:=by rw[e]; exact⟨rfl,rfl⟩
  refine⟨hf,h3.1,fun s hs=>?_,?_⟩
  ·rw[h3.2]at hs;obtain⟨j,hj,rfl⟩:=jB4 hs;obtain⟨m',e'⟩:=zEJ l k m.tick (zBp l m) j hj;rw[e'];exact zXS _
  ·rw[h3.2,zC9]; omega
 ·omega
theorem zDr:∀a∈(jU l (jK l) ⟨1,40⟩).1,Flat (yM l) a:=by
 intro a ha;obtain⟨k,hk,rfl⟩:=jB4 ha;have hkm:k<jK l:=by rw[zBx]at hk; exact hk
 have hkd:k<(jX l).length:=by unfold jX; rw[jA5]; omega
 have:=zEf hl hkm hkd;rcases zMH (show jX l=(jU l (jK l) ⟨1,40⟩).1++_ from rfl) k hkd with ⟨h',e⟩ | ⟨h',h'',e⟩
 ·rw[e]at this; exact this
 ·omega
theorem zWl {j:Nat}(hj:j<jK l)(h:j<(jX l).length):TyOk ((jX l).map Dfn.hd) 4 (jZ (jX l)[j].id):=by
 have h4:=zEf hl hj h;have hnd:=zKm hl;rw[jBv]at hnd;have e:((jX l).map Dfn.hd)[j]'(by simpa using h)=(jX l)[j].hd:=by simp
 have hid:(jX l)[j].id=(((jX l).map Dfn.hd)[j]'(by simpa using h)).id:=by rw[e]; rfl
 rw[hid];refine .dfn 3 j (by simpa using h) (fun i hi=>?_) (.inl (by rw[e]; exact h4.kind)) (by rw[e]; exact h4.few) fun s hs=>?_
 ·have:=hnd i j (by omega) h hi
  simpa [Dfn.hd] using this
 ·rw[e]at hs;rcases h4.flat s hs with e | e<;>rw[e]
  ·exact .int _
  ·exact .bool _
theorem zLX:Fit (yM l) ((jX l).map Dfn.hd):=by
 have h11:=zI2 hl;have hm:=zCI hl;have hlen:=zBx l ⟨1,40⟩ (jK l);have hend:=fun m=>zJf hl (jU l (jK l) ⟨1,40⟩).1.length (by omega) m
 have hdef:∀j (hj:j<jK l),∃hj':j<(jX l).length,(jU l (jK l) ⟨1,40⟩).1.getD j .zero=(jX l)[j]:=by
  intro j hj;have hj':j<(jX l).length:=by unfold jX; rw[jA5]; omega
  refine⟨hj',?_⟩;rw[zDD (by omega)];rcases zMH (show jX l=(jU l (jK l) ⟨1,40⟩).1++_ from rfl) j hj' with ⟨h',e⟩ | ⟨h',h'',e⟩
  ·exact e.symm
  ·omega
 refine⟨rfl,by show (jX l).length≤100; omega,zKm hl,fun d hd=>?_,fun d hd=>?_,fun r d hd hb=>?_⟩
 ·change d∈jX l at hd;obtain⟨k,hk,rfl⟩:=jB4 hd;rcases zC8 hl k hk with ⟨_,m,e⟩ | ⟨hk',hk7,m,e⟩
  ·have h2:=zEG hl m;have h3:(jX l)[k].slots=(zAg l k (zBp l m) m.tick).1:=by rw[e]; rfl
   have h4:=zEf hl (by omega) hk;have h5:=zC9 l k m.tick (zBp l m);refine⟨by rw[h3]; omega,by rw[h3]; omega,fun _=>by rw[h3]; omega,?_,fun s hs=>?_⟩
   ·rw[h3,jBv];intro i j hi hj hij e;obtain⟨m1,e1⟩:=zEJ l k m.tick (zBp l m) i hi;obtain⟨m2,e2⟩:=zEJ l k m.tick (zBp l m) j hj;rw[e1,e2]at e;have:=zRH (by omega) (by omega) (by omega) (by omega) (show idR _=idR _ from e);omega
   ·rcases h4.flat s hs with e | e<;>rw[e]
    ·exact .int _
    ·exact .bool _
  ·obtain⟨hj,ej⟩:=hdef (zBt l (jU l (jK l) ⟨1,40⟩).1.length m).1 (by have:=(hend m).1; omega);have h3:(jX l)[k].slots=[⟨idR ((30+(k-jK l):Nat):Int),⟨#[111,108,100]⟩,jZ (jX l)[(zBt l (jU l (jK l) ⟨1,40⟩).1.length m).1].id,0,0⟩]:=by rw[e,←ej]; rfl
   rw[h3];refine⟨by simp,by simp,fun _=>by simp,by simp,fun s hs=>?_⟩;rw[jAn]at hs;subst hs;exact zWl hl (by have:=(hend m).1; omega) hj
 ·change d∈jX l at hd;obtain⟨k,hk,rfl⟩:=jB4 hd;rcases zC8 hl k hk with ⟨_,m,e⟩ | ⟨hk',hk7,m,e⟩<;>(rw[e]; simp[zFf,zGD])
 ·obtain⟨hd1,rfl⟩:=zAz hd;change d∈jX l at hd1;obtain⟨k,hk,rfl⟩:=jB4 hd1;rcases zC8 hl k hk with ⟨_,m,e⟩ | ⟨hk',hk7,m,e⟩
  ·rw[e]at hb;simp[zGL,zFf]at hb
  ·rw[e];exact(zO4 hl (zDr hl) (hend m).1 (hend m).2 _ _).we
end
inductive Nam:Typ→Id→Prop
 | here (t:Typ) (h:t.k=3):Nam t t.id
 | kid (t k:Typ) (x:Id) (h:k∈t.kids) (hx:Nam k x):Nam t x
inductive Rch (p:Prg)(T:Typ→Prop):Id→Prop
 | base (t:Typ) (x:Id) (ht:T t) (hx:Nam t x):Rch p T x
 | step (y:Id) (s:Slt) (x:Id) (hy:Rch p T y) (hs:s∈(dfn p y).slots) (hx:Nam s.typ x):Rch p T x
theorem Rch.mono {p:Prg}{T T':Typ→Prop}{x:Id}(h:Rch p T x)(hT:∀t,T t→T' t):Rch p T' x:=by
 induction h with
 | base t x ht hx=>exact .base t x (hT t ht) hx
 | step y s x _ hs hx ih=>exact .step y s x ih hs hx
theorem Rch.one {p:Prg}{T:Typ→Prop}{x:Id}(h:Rch p T x):∃t,T t∧Rch p (· = t) x:=by
 induction h with
 | base t x ht hx=>exact⟨t,ht,.base t x rfl hx⟩
 | step y s x _ hs hx ih =>
  obtain⟨t,ht,h⟩:=ih;exact⟨t,ht,.step y s x h hs hx⟩
def zKK (p:Prg):Nat→Typ→List Id→List Id
 | 0,_,L=>L
 | f+1,t,L=>if t.k=3∧t.id∉t.kids.foldl (fun L k=>zKK p f k L) L then (dfn p t.id).slots.foldl (fun L s=>zKK p f s.typ L) (t.kids.foldl (fun L k=>zKK p f k L) L++[t.id])
  else t.kids.foldl (fun L k=>zKK p f k L) L
structure Meets (p:Prg)(T:Typ→Prop)(L L':List Id):Prop where
 sub:∀x∈L,x∈L'
 all:∀t x,T t→Nam t x→x∈L'
 clo:∀x∈L',x∉L→∀s∈(dfn p x).slots,∀y,Nam s.typ y→y∈L'
 snd:∀x∈L',x∈L∨Rch p T x
theorem Meets.trans {p:Prg}{T T':Typ→Prop}{L L' L'':List Id}(h:Meets p T L L')(k:Meets p T' L' L''):Meets p (fun t=>T t∨T' t) L L'':=by
 refine⟨fun x hx=>k.sub x (h.sub x hx),fun t x ht hx=>?_,fun x hx hn s hs y hy=>?_,fun x hx=>?_⟩
 ·rcases ht with ht | ht
  ·exact k.sub x (h.all t x ht hx)
  ·exact k.all t x ht hx
 ·by_cases hx':x∈L'
  ·exact k.sub y (h.clo x hx' hn s hs y hy)
  ·exact k.clo x hx hx' s hs y hy
 ·rcases k.snd x hx with hx | hx
  ·rcases h.snd x hx with hx | hx
   ·exact .inl hx
   ·exact .inr (hx.mono fun _ h=>.inl h)
  ·exact .inr (hx.mono fun _ h=>.inr h)
theorem Meets.congr {p:Prg}{T T':Typ→Prop}{L L':List Id}(h:Meets p T L L')(hT:∀t,T t↔T' t):Meets p T' L L' :=
 ⟨h.sub,fun t x ht hx=>h.all t x ((hT t).2 ht) hx,h.clo,fun x hx=>(h.snd x hx).imp (fun h=>h) fun h=>h.mono fun t=>(hT t).1⟩
def zQP (p:Prg)(ss:List Slt)(L:List Id):List Id:=ss.foldl (fun L s=>zKK p 10 s.typ L) L
mutual
def zOX:Typ→List Id→List Id
 | .mk k x l,L=>zK6 l (if k=3 then zKs L x else L)
def zK6:List Typ→List Id→List Id
 | [],L=>L
 | t::l,L=>zK6 l (zOX t L)
end
mutual
theorem zOY:∀(t:Typ) (L:List Id) (x:Id),x∈zOX t L↔x∈L∨Nam t x
 | .mk k y l,L,x=>by
  rw[zOX,zMo l];constructor
  ·rintro(h | ⟨t,ht,h⟩)
   ·split at h
    ·rename_i hk;rcases zEh.1 h with h | h
     ·exact .inl h
     ·subst h; exact .inr (.here (.mk k x l) hk)
    ·exact .inl h
   ·exact .inr (.kid (.mk k y l) t x ht h)
  ·rintro(h | h)
   ·left;split
    ·exact zEh.2 (.inl h)
    ·exact h
   ·generalize hT:Typ.mk k y l=T at h;cases h with
    | here _ h =>
     subst hT;left;show y∈_;rw[if_pos (show k=3 from h)];exact zEh.2 (.inr rfl)
    | kid _ t _ ht hx =>
     subst hT;exact .inr ⟨t,ht,hx⟩
theorem zMo:∀(l:List Typ) (L:List Id) (x:Id),x∈zK6 l L↔x∈L∨∃t∈l,Nam t x
 | [],L,x=>by simp[zK6]
 | t::l,L,x=>by rw[zK6,zMo l,zOY t];simp only[jA7,exists_eq_or_imp,or_assoc]
end
mutual
theorem zRR:∀(t:Typ) (L:List Id),SS L→SS (zOX t L)
 | .mk k y l,L,h=>by
  rw[zOX];refine zOZ l _ ?_;split
  ·exact zNf h
  ·exact h
theorem zOZ:∀(l:List Typ) (L:List Id),SS L→SS (zK6 l L)
 | [],L,h=>h
 | t::l,L,h=>by rw[zK6]; exact zOZ l _ (zRR t L h)
end
def namS (ss:List Slt)(L:List Id):List Id:=ss.foldl (fun L s=>zOX s.typ L) L
end Go.Proofs.YtdnelmeboihpkaaGreatDoor
namespace Go.Proofs.YtdnelmeboihpkaaGreatDoor
open Go.Abs
def qBp (l:List Id):List (List Int×A):=l.map fun x=>(zHd x,.lit (.bool true))
@[simp] theorem qK8 {rf:Bool→Nat→Nat→A}{g:Nat→Option Nat}(l:List Id):((qBp l).map fun p=>(p.1,vw rf g p.2))=qBp l:=by
 simp only[qBp,jC5];refine jBp fun x _=>?_
 simp
@[simp] theorem qKw {a:A}:zEK (.bool false) false (some a)=a:=rfl
@[simp] theorem qKv:zEK (.bool false) false none=.lit (.bool false):=rfl
structure RL (p:Prg)(L:List Id):Prop where
 nd:L.Nodup
 sub:∀x∈L,x∈p.defs.map Dfn.id
theorem RL.len {p:Prg}{hs:List Hd}(hf:Fit p hs){L:List Id}(h:RL p L):L.length≤100:=by
 have:=h.nd.length_le_of_subset (l₂:=p.defs.map Dfn.id) h.sub;have:=hf.len8;simp at *
 omega
theorem RL.fold {p:Prg} {α : Type}(g : α→List Id→List Id):∀(l:List α) (L:List Id),(∀a∈l,∀L,RL p L→RL p (g a L))→RL p L→RL p (l.foldl (fun L a=>g a L) L)
 | [],L,_,h=>h
 | a::l,L,hg,h=>by rw[jBz];exact RL.fold g l _ (fun b hb=>hg b (by simp[hb])) (hg a (by simp) L h)
end Go.Proofs.YtdnelmeboihpkaaGreatDoor
namespace Go.Abs
theorem zHB {ks:List Int}:∀(l m:List (List Int×A)),zB4 ks (l++m)=(zB4 ks l).or (zB4 ks m)
 | [],m=>rfl
 | p::l,m=>by
  simp only[jB0,zB4];split
  ·rfl
  ·exact zHB l m
end Go.Abs
namespace Go.Proofs.YtdnelmeboihpkaaGreatDoor
open Go.Abs
def zK2 (l:List EVar):List (List Int×A):=l.map fun b=>([b.id.a,b.id.b,b.id.c,b.n],.agg [.lit (.int .i64 b.v.k),.lit (.int .i64 b.v.n),.sl b.v.kids.length (zK b.v.kids)])
@[simp] theorem qK9 {rf:Bool→Nat→Nat→A}{g:Nat→Option Nat}(l:List EVar):((zK2 l).map fun p=>(p.1,vw rf g p.2))=zK2 l:=by
 simp only[zK2,jC5];refine jBp fun x _=>?_
 simp
def Fr (V:List EVar)(i:Id)(n:Int):Prop:=∀b∈V,¬(b.id=i∧b.n=n)
theorem qNN {a b:Id}{n m:Int}:[a.a,a.b,a.c,n]=[b.a,b.b,b.c,m]↔a=b∧n=m:=by obtain⟨x,y,z⟩:=a;obtain⟨x',y',z'⟩:=b;simp[and_assoc]
theorem zOr {i:Id}{n:Int}:∀{V:List EVar},Fr V i n→zB4 [i.a,i.b,i.c,n] (zK2 V)=none
 | [],_=>rfl
 | b::V,h=>by
  have h1:=h b (by simp);have ih:=zOr (V:=V) fun x hx=>h x (by simp[hx])
  simp only[zK2,jA9,zB4]at ih ⊢;rw[if_neg fun e=>h1 (qNN.1 e)];exact ih
def NdV (V:List EVar):Prop:=V.Pairwise fun a b=>¬(a.id=b.id∧a.n=b.n)
theorem NdV.push {V:List EVar}(h:NdV V){i:Id}{n:Int}{v:Val}(hf:Fr V i n):NdV (V++[⟨i,n,v⟩]):=by unfold NdV;rw[jCq];refine⟨h,by simp,fun a ha b hb=>?_⟩;rw[jAn.1 hb];exact hf a ha
theorem Fr.of {V:List EVar}{i:Id}(h:∀b∈V,b.id≠i)(n:Int):Fr V i n:=fun b hb e=>h b hb e.1
theorem Fr.push {V:List EVar}{i:Id}(h:∀b∈V,b.id≠i){n m:Int}(hne:m≠n)(v:Val):Fr (V++[⟨i,m,v⟩]) i n:=fun b hb e=>by
 rcases jAb.1 hb with hb | hb
 ·exact h b hb e.1
 ·rw[jAn.1 hb]at e;exact hne e.2
theorem EnvT.get {p:Prg}{B:List Bnd}{V:List EVar}(h:EnvT p B V)(hn:NdV V){x:Id}{n:Int}{t:Typ}:zEm B x n=some t →
 zB4 [x.a,x.b,x.c,n] (zK2 V)=some (.agg [.lit (.int .i64 (zEc V x n).k),.lit (.int .i64 (zEc V x n).n),.sl (zEc V x n).kids.length (zK (zEc V x n).kids)]):=by
 induction h with
 | nil=>intro h; simp[zEm]at h
 | snoc B V b v h hi hb ht hz ih =>
  intro hl;unfold NdV at hn;rw[jCq]at hn;have e:zK2 (V++[v])=zK2 V++zK2 [v]:=by simp[zK2]
  rw[e,zHB,zKh];rw[zK1]at hl;by_cases hc:b.id=x∧b.n=n
  ·have hv:v.id=x∧v.n=n:=⟨hi.trans hc.1,hb.trans hc.2⟩;have hfr:Fr V x n:=fun y hy e=>hn.2.2 y hy v (by simp) ⟨e.1.trans hv.1.symm,e.2.trans hv.2.symm⟩
   rw[zOr hfr,if_pos hv];simp[zK2,zB4,hv.1,hv.2]
  ·rw[if_neg hc]at hl;rw[if_neg (fun e=>hc ⟨hi.symm.trans e.1,hb.symm.trans e.2⟩),ih hn.1 hl];rfl
@[simp] theorem qNF {z:Value}{a:A}:zEK z false (some a)=a:=rfl
@[simp] theorem qKx:zEK (.agg #[(.int .i64 0),(.int .i64 0),(.slice none 0 0)]) true none=.tup [.agg [.lit (.int .i64 0),.lit (.int .i64 0),.nil],.lit (.bool false)]:=by kernel_rfl
def Adm (p:Prg)(e:Exp)(V:List EVar)(s:XS):Prop:=s.fail=0→∃B t,WE p B e t∧EnvT p B V∧NdV V
section
variable {p:Prg}{c:Nat}{m:Int}{ev:Evl}{B:List Bnd}{e:Exp}{V:List EVar}{s:XS}
theorem Adm.of {t:Typ}(h:WE p B e t)(hV:EnvT p B V)(hN:NdV V):Adm p e V s:=fun _=>⟨B,t,h,hV,hN⟩
end
section
variable {p:Prg}{c:Nat}{m:Int}{ev:Evl}{e:Exp}{V:List EVar}{s:XS}
end
end Go.Proofs.YtdnelmeboihpkaaGreatDoor
