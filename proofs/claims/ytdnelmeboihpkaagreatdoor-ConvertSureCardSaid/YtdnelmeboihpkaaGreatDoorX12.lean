/-
  An evaluator of small code at closed abstract states: code, functions, calls.
  Rules for flags; rows that move to a new level; parts of rows; maps that are not ranged over.
  Paths in a graph: all of them in order, and whether there is one.
  Lists of IDs in increasing order, each once: what the reference's insertion gives, and what a sort and a compaction give.
  The reference's joins of traces.
  Programs as data: types, expressions, definitions, and their cells.
  Tables of the evaluator; results in their plain form.
  Functions that panic: contracts and how a call meets them.
  States that begin with a caller's: levels behind it that are kept, and calls on them.
-/
import Derived.Test.YtdnelmeboihpkaaGreatDoorX10
set_option linter.unusedVariables false
set_option maxHeartbeats 8000000
set_option maxRecDepth 100000
set_option linter.unusedSimpArgs false
namespace Go.Abs
section
variable {P:Program}{n0:Nat}
mutual
def lvA:A→List Nat
 | .any | .nil | .lit _=>[]
 | .agg cs | .tup cs | .sl _ cs | .fsl _ cs | .rptr cs=>lvL cs
 | .ptr l _ | .row l _ | .rwp l _ _ | .map l | .win l _ _ _ _=>[l]
 | .clo _ fs cs=>lvL fs++lvL cs
def lvL:List A→List Nat
 | []=>[]
 | c::cs=>lvA c++lvL cs
end
def lvM:List (List Int×A)→List Nat
 | []=>[]
 | p::l=>lvA p.2++lvM l
def lvO:AObj→List Nat
 | .box cs=>lvL cs
 | .row _ _ _ _ cs=>lvL cs
 | .mp _ _ es=>lvM es
 | .it m _ _=>[m]
 | _=>[]
def zRi (x:Nat):List Nat→Bool
 | []=>false
 | y::l=>bif Nat.beq x y then true else zRi x l
theorem zPs {x:Nat}:∀{l:List Nat},zRi x l=true↔x∈l
 | []=>by simp[zRi]
 | y::l=>by
  simp only[zRi,jA6];cases h:Nat.beq x y
  ·have:x≠y:=fun e=>by subst e; simp at h
   simp only[cond_false,this,false_or,zPs]
  ·have:=jCy h;simp[this]
def zFk (keep:Nat→AObj→Bool) (σ : St):Nat→List Nat→List Nat→List Nat
 | 0,_,acc=>acc
 | _+1,[],acc=>acc
 | n+1,l::t,acc=>bif zRi l acc then zFk keep σ n t acc else match σ[l]? with
  | some o=>bif keep l o then zFk keep σ n (lvO o++t) (acc++[l]) else zFk keep σ n t acc
  | none=>zFk keep σ n t acc
def zFg:List Nat→Bool
 | []=>true
 | x::l=>!(zRi x l)&&zFg l
theorem zDj:∀{l:List Nat},zFg l=true→l.Nodup
 | [],_=>List.nodup_nil
 | x::l,h=>by simp only[zFg,jA4,jBb]at h;rw[jD];refine⟨fun hm=>?_,zDj h.2⟩;rw[zPs.2 hm]at h;cases h.1
def zUy (σ : St)(rf:Bool→Nat→Nat→A)(g:Nat→Option Nat):List Nat→Option St
 | []=>some []
 | j::js=>match σ[j]?,zUy σ rf g js with
  | some o,some os=>some (vwO rf g o::os)
  | _,_=>none
theorem zFn {σ : St}{rf:Bool→Nat→Nat→A}{g:Nat→Option Nat}:∀{js:List Nat} {σ':St},zUy σ rf g js=some σ'→yL σ rf g js σ'
 | [],σ',h=>by cases h; trivial
 | j::js,σ',h=>by
  simp only[zUy]at h;split at h<;>try (cases h; done)
  rename_i o os h1 h2;cases h;simp only[yL,h1];exact⟨.inl trivial,zFn h2⟩
mutual
theorem qAS {rf:Bool→Nat→Nat→A}{g:Nat→Option Nat}:∀(a:A),a.bnd 0=true→vw rf g a=a
 | .any,_=>rfl
 | .nil,_=>rfl
 | .lit _,_=>rfl
 | .agg cs,h=>by simp only[A.bnd]at h; simp only[vw,zGo cs h]
 | .tup cs,h=>by simp only[A.bnd]at h; simp only[vw,zGo cs h]
 | .sl n cs,h=>by simp only[A.bnd]at h; simp only[vw,zGo cs h]
 | .fsl n cs,h=>by simp only[A.bnd]at h; simp only[vw,zGo cs h]
 | .rptr cs,h=>by simp only[A.bnd]at h; simp only[vw,zGo cs h]
 | .ptr l o,h=>by simp[A.bnd]at h
 | .row l n,h=>by simp[A.bnd]at h
 | .rwp l n o,h=>by simp[A.bnd]at h
 | .win l n o k c,h=>by simp[A.bnd]at h
 | .map l,h=>by simp[A.bnd]at h
 | .clo f fs cs,h=>by simp only[A.bnd,jA4]at h; simp only[vw,zGo fs h.1,zGo cs h.2]
theorem zGo {rf:Bool→Nat→Nat→A}{g:Nat→Option Nat}:∀(cs:List A),zAZ 0 cs=true→vwL rf g cs=cs
 | [],_=>rfl
 | c::cs,h=>by simp only[zAZ,jA4]at h; simp only[vwL,qAS c h.1,zGo cs h.2]
end
theorem zH3 {js:List Nat}:∀{xs:List A},zBu js xs (xs.map (vw jH (zW js)))
 | []=>trivial
 | _::_=>⟨.inl rfl,zH3⟩
abbrev Run:=FuncId→List A→St→Option (A×St)
def zVj (R:Run):Run:=fun f xs σ =>
 let js:=zFk (fun _ _=>true) σ 1000 (lvL xs) []
 match zUy σ jH (zW js) js with
 | some σ0=>match R f (xs.map (vw jH (zW js))) σ0 with
  | some (r,σ1)=>bif zFg js then some (ren js σ.length r,qL σ js (σ1.map (zA9 js σ.length))) else none
  | none=>none
 | none=>none
theorem zVk {R:Run}(hR:zB4 P R):zB4 P (zVj R):=by
 intro f xs σ r σ' h;simp only[zVj]at h;generalize zFk _ _ _ _ _=js at h;split at h<;>try (cases h; done)
 rename_i σ0 h0;split at h<;>try (cases h; done)
 rename_i r0 σ1 h1;cases hd:zFg js
 ·rw[hd]at h; cases h
 ·rw[hd]at h;cases h;obtain⟨h2,h3⟩:=hR _ _ _ _ _ h1;exact⟨h2,zAH h3 js (zDj hd) (zFn h0) zH3 ⟨rfl,rfl⟩⟩
def zVo (R:Run):FuncId→List A→Option A:=fun f xs=>match R f (xs.map (vw jH (zW []))) []with
 | some (r,[])=>bif r.bnd 0 then some r else none
 | _=>none
def zWo:AObj→Bool
 | .rsv=>true
 | _=>false
def zVl (R:Run):FuncId→List A→Nat→Option (A×St):=fun f xs n=>match R f (xs.map (vw jH (zW []))) []with
 | some (r,σ1)=>bif σ1.any zWo then none else some (ren [] n r,σ1.map (zA9 [] n))
 | none=>none
theorem zVp {R:Run}(hR:zB4 P R):zF4 P (zVo R,zVl R):=by
 refine⟨fun f xs r h=>?_,fun f xs n r own h=>?_⟩
 ·simp only[zVo]at h;split at h<;>try (cases h; done)
  rename_i r0 h1;cases hb:r0.bnd 0
  ·rw[hb]at h; cases h
  ·rw[hb]at h;cases h;obtain⟨h2,h3⟩:=hR _ _ _ _ _ h1;refine⟨h2,fun τ=>?_⟩;refine zAH h3 [] (by simp) trivial zH3 ⟨?_,by simp[qL]⟩;simp only[ren,qAS r hb]
 ·simp only[zVl]at h;split at h<;>try (cases h; done)
  rename_i r0 σ1 h1;cases hb : σ1.any zWo
  ·rw[hb]at h;cases h;obtain⟨h2,h3⟩:=hR _ _ _ _ _ h1;refine⟨h2,fun o ho=>?_,fun τ hl=>?_⟩
   ·obtain⟨o',ho',rfl⟩:=jAg.1 ho;rw[List.any_eq_false]at hb;have:=hb o' ho';cases o'<;>simp[zA9,vwO,zWo]at this ⊢
   ·subst hl;exact zAH h3 [] (by simp) trivial zH3 ⟨rfl,by simp[qL]⟩
  ·rw[hb]at h; cases h
def evG (C:Run)(g:KG)(l:List (Nat×A)) (σ : St):Option (List (Nat×A)×St):=match g.guard with
 | none=>(match evO C g.op (lkB l) σ with
  | some (r,σ')=>some (zNR g.op.dst r l,σ')
  | none=>none)
 | some (s,want)=>match lkB l s with
  | .lit (.bool b)=>bif b==want then (match evO C g.op (lkB l) σ with
   | some (r,σ')=>some (zNR g.op.dst r l,σ')
   | none=>none) else some (zNR g.op.dst (.lit undef) l,σ)
  | .lit (.tuple _)=>some (zNR g.op.dst (.lit undef) l,σ)
  | _=>none
def zSr (C:Run):List KG→List (Nat×A)→St→Option (List (Nat×A)×St)
 | [],l,σ=>some (l,σ)
 | g::gs,l,σ=>match evG C g l σ with
  | some (l',σ')=>zSr C gs l' σ'
  | none=>none
def qBX (C:Run)(C0:Cl0)(f:Nat)(g:KG)(l:List (Nat×A)) (σ : St):Option (List (Nat×A)×St):=bif zZb f g.op (lkB l) then (match g.guard with
 | none=>(match zSq C C0 f g.op (lkB l) σ with
  | some (r,σ')=>some (zNR g.op.dst r l,σ')
  | none=>none)
 | some (s,want)=>match lkB l s with
  | .lit (.bool b)=>bif b==want then (match zSq C C0 f g.op (lkB l) σ with
   | some (r,σ')=>some (zNR g.op.dst r l,σ')
   | none=>none) else some (zNR g.op.dst (.lit undef) l,σ)
  | .lit (.tuple _)=>some (zNR g.op.dst (.lit undef) l,σ)
  | _=>none) else none
def zYa (C:Run)(C0:Cl0):List (Nat×Nat×KG)→List (Nat×A)→St→Option (List (Nat×A)×St)
 | [],l,σ=>some (l,σ)
 | x::gs,l,σ=>match qBX C C0 x.2.1 x.2.2 l σ with
  | some (l',σ')=>zYa C C0 gs l' σ'
  | none=>none
abbrev Res:=Option (Ex×List (Nat×A)×St)
def zS5 (f:List (Nat×A)→St→Res):Nat→List (Nat×A)→St→Res
 | 0,_,_=>none
 | n+1,l,σ=>match f l σ with
  | some (.norm,l',σ')=>zS5 f n l' σ'
  | r=>r
def qC5:List (Nat×Nat×KG)→Nat
 | []=>0
 | x::l=>match x.2.2.op with
  | .alr _ q _=>max (q+1) (qC5 l)
  | _=>qC5 l
def qJZ:K→Nat
 | .dops l=>qC5 l
 | _=>0
def qIr:K→Bool
 | .wk _=>true
 | _=>false
def qAk:List (Nat×A)→List Nat→List Nat
 | [],acc=>acc
 | p::l,acc=>qAk l (bif zRi p.1 acc then acc else p.1::acc)
def zNJ (n0:Nat) (σ : St)(i:Nat):List AObj→List Nat
 | []=>[]
 | o::os=>bif (match o with | .row ..=>Nat.blt i n0 | _=>true) then i::zNJ n0 σ (i+1) os else zNJ n0 σ (i+1) os
def zER:Nat→List Nat→Bool
 | 0,_=>true
 | _+1,[]=>false
 | n+1,l=>go 0 (n+1) l
where go:Nat→Nat→List Nat→Bool
 | _,0,_=>true
 | _,_+1,[]=>false
 | i,n+1,x::l=>Nat.beq x i&&go (i+1) n l
theorem zMo:∀{n i:Nat} {l:List Nat},zER.go i n l=true→∀j,j<n→l[j]?=some (i+j)
 | 0,i,l,_,j,hj=>by omega
 | n+1,i,[],h,j,hj=>by simp[zER.go]at h
 | n+1,i,x::l,h,j,hj=>by
  simp only[zER.go,jA4]at h;have hx:=jCy h.1;cases j with
  | zero=>simp[hx]
  | succ j=>rw[jBf,zMo h.2 j (by omega)]; simp; omega
theorem zHM {n:Nat}{l:List Nat}(h:zER n l=true):∀j,j<n→l[j]?=some j:=by
 cases n with
 | zero=>intro j hj; omega
 | succ n =>
  cases l with
  | nil=>simp[zER]at h
  | cons x l=>intro j hj; simpa using zMo (i:=0) h j hj
def qCj (n0:Nat)(l:List (Nat×A)) (σ : St):Option (List (Nat×A)×St) :=
 let ks:=zNJ n0 σ 0 σ
 bif zFg ks&&zER n0 ks then (match zUy σ (seen σ (zW ks) 8) (zW ks) ks with
  | some σ'=>some ((qAk l []).map fun t=>(t,vw (seen σ (zW ks) 8) (zW ks) (lkB l t)),σ')
  | none=>none) else none
def evK (C:Run)(C0:Cl0)(n0 lf:Nat):K→List (Nat×A)→St→Res
 | .skip,l,σ=>some (.norm,l,σ)
 | .seq a b,l,σ=>match evK C C0 n0 lf a l σ with
  | some (.norm,l',σ')=>evK C C0 n0 lf b l' σ'
  | r=>r
 | .cond c a b,l,σ=>match ev (lkB l) c with
  | .lit (.bool t)=>bif t then evK C C0 n0 lf a l σ else evK C C0 n0 lf b l σ
  | _=>none
 | .block id b,l,σ=>match evK C C0 n0 lf b l σ with
  | some (.exit i,l',σ')=>bif Nat.beq i id then some (.norm,l',σ') else some (.exit i,l',σ')
  | r=>r
 | .loop b,l,σ=>zS5 (evK C C0 n0 lf b) lf l σ
 | .exit id,l,σ=>some (.exit id,l,σ)
 | .ret,l,σ=>some (.ret,l,σ)
 | .ops gs,l,σ=>match zSr C gs l σ with
  | some (l',σ')=>some (.norm,l',σ')
  | none=>none
 | .dops xs,l,σ=>match zYa C C0 xs l σ with
  | some (l',σ')=>some (.norm,l',σ')
  | none=>none
 | .rng ..,_,_=>none
 | .wk b,l,σ=>bif qIr b then (match qCj n0 l σ with
  | some (l',σ')=>evK C C0 n0 lf b l' σ'
  | none=>none) else evK C C0 n0 lf b l (σ++List.replicate (qJZ b - σ.length) .rsv)
theorem zT0 {C:Run}(hC:zB4 P C){g:KG}{l l':List (Nat×A)} {σ σ':St}(h:evG C g l σ = some (l',σ')){Qp:Value→Env→St→Prop}{K:Env→St→Prop}(hK:K (qC l') σ'):wpG P Qp K g (qC l) σ:=by
 unfold evG at h;unfold wpG;rw[zIK]at h;split at h
 ·rename_i hg;split at h<;>try (cases h; done)
  rename_i r τ h1;cases h;simp only[hg];exact zIC hC h1 (by rw[←zDX]; exact hK)
 ·rename_i s want hg;simp only[hg];split at h
  ·rename_i b hb;rw[hb];simp only;cases hw:b==want
   ·rw[hw]at h;cases h;exact⟨fun e=>(by cases e),fun _=>(by rw[zGn,←zDX]; exact hK)⟩
   ·rw[hw]at h;simp only[cond_true]at h;split at h<;>try (cases h; done)
    rename_i r τ h1;cases h;exact⟨fun _=>zIC hC h1 (by rw[←zDX]; exact hK),fun e=>(by cases e)⟩
  ·rename_i hb;cases h;rw[hb];simp only[zGn,←zDX];exact hK
  ·cases h
theorem zJo {C:Run}(hC:zB4 P C){Qp:Value→Env→St→Prop}{K:Env→St→Prop}:∀{gs:List KG} {l l':List (Nat×A)} {σ σ':St},zSr C gs l σ = some (l',σ')→K (qC l') σ'→zC7 P Qp K gs (qC l) σ
 | [],l,l',σ,σ',h,hK=>by cases h; exact hK
 | g::gs,l,l',σ,σ',h,hK=>by
  simp only[zSr]at h;split at h<;>try (cases h; done)
  rename_i l1 σ1 h1;exact zT0 hC h1 (zJo hC h hK)
theorem zQK {C:Run}(hC:zB4 P C){C0:Cl0}(hC0:zF4 P C0){f:Nat}{g:KG}{l l':List (Nat×A)} {σ σ':St}(h:qBX C C0 f g l σ = some (l',σ')){Qd:Value→St→Prop}{K:Env→St→Prop}(hK:K (qC l') σ') :
 zAQ f g.op (qC l)∧zRX P Qd f K g (qC l) σ:=by
 unfold qBX at h;unfold zRX;rw[zIK]at h;cases ht:zZb f g.op (qC l)
 ·rw[ht]at h; cases h
 ·refine⟨zRO ht,?_⟩;rw[ht]at h;simp only[cond_true]at h;split at h
  ·rename_i hg;split at h<;>try (cases h; done)
   rename_i r τ h1;cases h;simp only[hg];exact zJn hC hC0 h1 (by rw[←zDX]; exact hK)
  ·rename_i s want hg;simp only[hg];split at h
   ·rename_i b hb;rw[hb];simp only;cases hw:b==want
    ·rw[hw]at h;cases h;exact⟨fun e=>(by cases e),fun _=>(by rw[zGn,←zDX]; exact hK)⟩
    ·rw[hw]at h;simp only[cond_true]at h;split at h<;>try (cases h; done)
     rename_i r τ h1;cases h;exact⟨fun _=>zJn hC hC0 h1 (by rw[←zDX]; exact hK),fun e=>(by cases e)⟩
   ·rename_i hb;cases h;rw[hb];simp only[zGn,←zDX];exact hK
   ·cases h
theorem zK4 {C:Run}(hC:zB4 P C){C0:Cl0}(hC0:zF4 P C0){Qd:Value→St→Prop}{K:Env→St→Prop}:∀{gs:List (Nat×Nat×KG)} {l l':List (Nat×A)} {σ σ':St},zYa C C0 gs l σ = some (l',σ')→K (qC l') σ'→wpD P Qd K gs (qC l) σ
 | [],l,l',σ,σ',h,hK=>by cases h; exact hK
 | g::gs,l,l',σ,σ',h,hK=>by
  simp only[zYa]at h;split at h<;>try (cases h; done)
  rename_i l1 σ1 h1;exact zQK hC hC0 h1 (zK4 hC hC0 h hK)
theorem zXm {env:Env} {σ : St}:zA0 n0 env (σ++[AObj.rsv]) env σ:=by
 intro H0 L0 w0 H L w N tmps h0 h1 h2;have hll:=LLe.append L [(⟨none,0,0,false⟩:LI)];refine⟨H,L++[(⟨none,0,0,false⟩:LI)],h1.trans ?_,h2.mono (HLe.refl _) hll⟩;have hs:=h1.st;refine⟨⟨hs.pers,by simp[hs.len],fun i l o hL hσ=>?_,fun i j x y b hi hj hx hy=>?_,fun i x b hi hx=>?_⟩,Step.refl _ _ _,hll,fun b ⟨i,x,hi,hx⟩=>?_⟩
 ·rcases qX hL with hL' | ⟨rfl,rfl⟩
  ·have hi:i<L.length:=(jA1.1 hL').1;rw[jAc (by rw[←hs.len]; exact hi)]at hσ;exact(hs.obj i l o hL' hσ).carry (fun _ _=>rfl) (HLe.refl _) hll (fun _ _ _=>rfl)
  ·rw[hs.len]at hσ;rw[jAo (jA _)]at hσ;simp only[jBx,jAq,jA0]at hσ;subst hσ;exact⟨rfl,rfl⟩
 ·rcases qX hi with hi' | ⟨rfl,rfl⟩
  ·rcases qX hj with hj' | ⟨rfl,rfl⟩
   ·exact hs.inj i j x y b hi' hj' hx hy
   ·cases hy
  ·cases hx
 ·rcases qX hi with hi' | ⟨rfl,rfl⟩
  ·exact hs.lt i x b hi' hx
  ·cases hx
 ·rcases qX hi with hi' | ⟨rfl,rfl⟩
  ·exact .inl ⟨i,x,hi',hx⟩
  ·cases hx
theorem zAf {env:Env}:∀(n:Nat) {σ : St},zA0 n0 env (σ++List.replicate n AObj.rsv) env σ
 | 0,σ=>by simpa using zA0.refl n0 env σ
 | n+1,σ=>by
  have:=(zXm (n0:=n0) (env:=env) (σ:=σ)).trans (zAf n);rw[List.replicate_succ]
  simpa using this
theorem zQS {l l':List (Nat×A)} {σ σ':St}(h:qCj n0 l σ = some (l',σ')):zA0 n0 (qC l') σ' (qC l) σ:=by
 simp only[qCj]at h;generalize zNJ n0 σ 0 σ = ks at h;cases hb:zFg ks&&zER n0 ks
 ·rw[hb]at h; cases h
 ·rw[hb]at h;simp only[jA4]at hb;simp only[cond_true]at h;split at h<;>try (cases h; done)
  rename_i σ1 h1;cases h;refine zA0.sel ks 8 _ (zHM hb.2) (zDj hb.1) (zFn h1) fun p hp=>?_
  obtain⟨t,_,rfl⟩:=jAg.1 hp;left;simp only[zIK]
theorem zAF {C:Run}(hC:zB4 P C){C0:Cl0}(hC0:zF4 P C0){lf:Nat}:∀(k:K) {l l':List (Nat×A)} {σ σ':St} {x:Ex} {Q:Ex→Env→St→Prop},evK C C0 n0 lf k l σ = some (x,l',σ')→Q x (qC l') σ'→wpK P n0 k Q (qC l) σ
 | .skip,l,l',σ,σ',x,Q,h,hQ=>by cases h; exact hQ
 | .seq a b,l,l',σ,σ',x,Q,h,hQ=>by
  simp only[evK]at h;simp only[wpK];split at h
  ·rename_i l1 σ1 h1;exact zAF hC hC0 a h1 (zAF hC hC0 b h hQ)
  ·rename_i r hr;refine zAF hC hC0 a h ?_;cases x<;>first | exact(hr _ _ h).elim | exact hQ
 | .cond c a b,l,l',σ,σ',x,Q,h,hQ=>by
  simp only[evK,zIK]at h;simp only[wpK];split at h<;>try (cases h; done)
  rename_i t ht;rw[ht];simp only;cases t
  ·exact⟨fun e=>(by cases e),fun _=>zAF hC hC0 b h hQ⟩
  ·exact⟨fun _=>zAF hC hC0 a h hQ,fun e=>(by cases e)⟩
 | .block id b,l,l',σ,σ',x,Q,h,hQ=>by
  simp only[evK]at h;simp only[wpK];split at h
  ·rename_i i l1 σ1 h1;refine zAF hC hC0 b h1 ?_;simp only[blk];cases hb:Nat.beq i id
   ·rw[hb]at h;cases h;have:i≠id:=fun e=>by subst e; simp at hb
    rw[if_neg this];exact hQ
   ·rw[hb]at h;cases h;rw[if_pos (jCy hb)];exact hQ
  ·rename_i r hr;refine zAF hC hC0 b h ?_;cases x<;>first | exact(hr _ _ _ h).elim | exact hQ
 | .loop b,l,l',σ,σ',x,Q,h,hQ=>by
  simp only[evK]at h;simp only[wpK];refine⟨fun n env τ=>∃l0,env=qC l0∧zS5 (evK C C0 n0 lf b) n l0 τ = some (x,l',σ'),⟨lf,Wk.here ⟨l,rfl,h⟩⟩,?_⟩;rintro n env τ ⟨l0,rfl,h0⟩;cases n with
  | zero=>cases h0
  | succ n =>
   simp only[zS5]at h0;split at h0
   ·rename_i l1 σ1 h1;refine zAF hC hC0 b h1 ?_;exact⟨n,Nat.lt_succ_self n,Wk.here ⟨l1,rfl,h0⟩⟩
   ·rename_i r hr;refine zAF hC hC0 b h0 ?_;cases x<;>first | exact(hr _ _ h0).elim | exact hQ
 | .exit id,l,l',σ,σ',x,Q,h,hQ=>by cases h; exact hQ
 | .ret,l,l',σ,σ',x,Q,h,hQ=>by cases h; exact hQ
 | .ops gs,l,l',σ,σ',x,Q,h,hQ=>by
  simp only[evK]at h;simp only[wpK];split at h<;>try (cases h; done)
  rename_i l1 σ1 h1;cases h;exact zJo hC h1 hQ
 | .dops gs,l,l',σ,σ',x,Q,h,hQ=>by
  simp only[evK]at h;simp only[wpK];split at h<;>try (cases h; done)
  rename_i l1 σ1 h1;cases h;exact zK4 hC hC0 h1 hQ
 | .rng ..,l,l',σ,σ',x,Q,h,hQ=>by simp[evK]at h
 | .wk b,l,l',σ,σ',x,Q,h,hQ=>by
  simp only[evK]at h;simp only[wpK];cases hb:qIr b
  ·rw[hb]at h;exact Wk.by (zAf _) (Wk.here (zAF hC hC0 b h hQ))
  ·rw[hb]at h;simp only[cond_true]at h;split at h<;>try (cases h; done)
   rename_i l1 σ1 h1;exact Wk.by (zQS h1) (Wk.here (zAF hC hC0 b h hQ))
structure Entry where
 k:K
 rs:List RS
 frz:Bool
def zKb:Nat→List A→List (Nat×A)
 | _,[]=>[]
 | i,a::xs=>(i,a)::zKb (i+1) xs
theorem zLR:∀{xs:List A} {i t:Nat},qC (zKb i xs) t=.any∨(i≤t∧xs[t-i]?=some (qC (zKb i xs) t))
 | [],i,t=>.inl rfl
 | a::xs,i,t=>by
  simp only[zKb,qC];split
  ·rename_i h; subst h; exact .inr ⟨jA _,by simp⟩
  ·rcases zLR (xs:=xs) (i:=i+1) (t:=t)with h | ⟨h1,h2⟩
   ·exact .inl h
   ·refine .inr ⟨by omega,?_⟩;have:t-i=(t-(i+1))+1:=by omega
    rw[this]
    simpa using h2
def qAt:Ex→Bool
 | .ret | .norm=>true
 | _=>false
def zJx (frz:Bool)(n0:Nat)(r:A) (σ : St):Option (A×St) :=
 let k0:=List.range n0;let k1:=zFk (fun _ _=>true) σ 1000 (lvO (.box ((σ.take n0).map fun o=>.agg ((lvO o).map fun l=>.map l)))) k0;let ks:=zFk (fun _ o=>bif frz then (match o with | .row ..=>false | _=>true) else true) σ 1000 (lvA r) k1
 bif zFg ks&&zER n0 ks then (match zUy σ (seen σ (zW ks) 8) (zW ks) ks with
  | some σ1=>some (vw (seen σ (zW ks) 8) (zW ks) r,σ1)
  | none=>none) else none
theorem zPx {frz:Bool}{r r1:A} {σ σ1:St}(h:zJx frz n0 r σ = some (r1,σ1)):zFz n0 r1 σ1 (.ret r) σ:=by
 simp only[zJx]at h;generalize zFk _ σ 1000 (lvA r) _=ks at h;cases hb:zFg ks&&zER n0 ks
 ·rw[hb]at h; cases h
 ·rw[hb]at h;simp only[jA4]at hb;simp only[cond_true]at h;split at h<;>try (cases h; done)
  rename_i σ2 h1;cases h;exact⟨r,ks,8,rfl,zHM hb.2,zDj hb.1,zFn h1,.inl rfl⟩
def findTb (f:Nat):List (Nat×Entry)→Option Entry
 | []=>none
 | p::l=>bif Nat.beq f p.1 then some p.2 else findTb f l
def zUv (T:List (Nat×Entry))(orc:Run)(lf:Nat):Nat→Run
 | 0=>fun _ _ _=>none
 | n+1=>fun f xs σ=>match findTb f T with
  | none=>orc f xs σ
  | some e=>match evK (zVj (zUv T orc lf n)) (zVo (zUv T orc lf n),zVl (zUv T orc lf n)) σ.length lf e.k (zKb 0 xs) σ with
   | some (x,l,σ')=>bif qAt x then (match zRC (lkB l) σ' e.rs with
    | some r=>zJx e.frz σ.length r σ'
    | none=>none) else none
   | none=>none
def zBO (P:Program)(f:FuncId)(e:Entry):Prop :=
 zA P f=true∧∃fn c hint,P.funcs[f]?=some fn∧fn.body=some c∧qF P fn.ntmps hint c=some e.k.erase∧zBV P fn.results.toList=some e.rs
theorem zNq {hint:Nat→Option (List (Nat×Nat))}{f:FuncId}{fn:Func}{c:Code}{k:K}{rs:List RS}(hf:P.funcs[f]?=some fn)(hb:fn.body=some c)(hc:qF P fn.ntmps hint c=some k.erase)(hr:zBV P fn.results.toList=some rs)
 {args:List A} {σ : St}{Q:Out→St→Prop}(h:wpK P σ.length k (fin rs Q) (qC (zKb 0 args)) σ):yY P f args σ Q:=by
 refine zDc (k:=.wk k) hf hb hc hr ?_;unfold wpF;simp only[wpK];refine Wk.by (env':=qC (zKb 0 args)) (σ':=σ) ?_ (Wk.here h);intro H0 L0 w0 H L w N tmps _ h1 h2;refine⟨H,L,h1,h2.1,fun t=>?_⟩;rcases zLR (xs:=args) (i:=0) (t:=t)with e | ⟨_,e⟩
 ·rw[e]; simp[Rel]
 ·have:=h2.2 t;simp only[zCr,List.getD]at this;rw[Nat.sub_zero]at e;rw[e]at this;exact this
theorem zSN {T:List (Nat×Entry)}{orc:Run}{lf:Nat}(hT:∀f e,findTb f T=some e→zBO P f e)(hO:zB4 P orc):∀n,zB4 P (zUv T orc lf n)
 | 0=>fun f xs σ r σ' h=>(by cases h)
 | n+1=>fun f xs σ r σ' h=>by
  have ih:=zSN (lf:=lf) hT hO n;simp only[zUv]at h;split at h
  ·exact hO _ _ _ _ _ h
  ·rename_i e he;obtain⟨hcal,fn,c,hint,h1,h2,h3,h4⟩:=hT _ _ he;refine⟨hcal,?_⟩;split at h<;>try (cases h; done)
   rename_i x l σ1 h5;cases hx:qAt x
   ·rw[hx]at h; cases h
   ·rw[hx]at h;simp only[cond_true]at h;split at h<;>try (cases h; done)
    rename_i r0 h6;refine zFl (zNq h1 h2 h3 h4 (zAF (zVk ih) (zVp ih) e.k h5 ?_));have hq:=zPx h;rw[zIK]at h6;cases x<;>first | (cases hx; done) | (simp only[fin,zJJ,h6]; exact hq)
end
end Go.Abs
namespace Go.Abs
section
variable {d:Option Nat}{x v:Operand}{n f:Nat}{g:Bool}{env:Env} {σ : St}
@[simp] theorem qJO (h1:1000≤f)(h2:f<2000):zAQ f (.st d x v n) env=zFa (f-1000) (ev env x):=propext (zOd h1 h2)
@[simp] theorem qJL (h1:2000≤f)(h2:f<4000):zAQ f (.ld d x n g) env=zBt (f-2000) (ev env x):=propext (zG7 h1 h2)
@[simp] theorem zYw {c l o:Nat}:zFa c (.ptr l o)=(l<c):=rfl
@[simp] theorem zYv {c l o:Nat}:zBt c (.ptr l o)=(c≤l):=rfl
@[simp] theorem qJ6 (h1:2<f):zCS f σ = σ:=by unfold zCS; rw[if_neg (by omega),if_neg (by omega)]
@[simp] theorem qJM {o:KOp}(h1:6<f)(h2:f<1000):zAQ f o env=True:=by
 unfold zAQ;split
 ·omega
 ·omega
 ·rw[if_neg (by omega),if_neg (by omega),if_neg (by omega)]
end
section
variable {n0:Nat}{env:Env} {σ : St}
theorem zL2 {l nk:Nat}{fr:Bool}{es:List (List Int×A)}(hl : σ[l]?=some (.mp fr nk es)):zA0 n0 env (σ.set l (.mp false nk es)) env σ:=by
 intro H0 L0 w0 H L w N tmps h0 h1 h2;have hs:=zIU (o':=.mp false nk es) h1.st hl (fun li hob=>by simp only[zL]at hob ⊢;obtain⟨g0,b,ents,ck,g1,g2,g3,_,g5⟩:=hob;exact⟨g0,b,ents,ck,g1,g2,g3,(fun h=>by cases h),g5⟩)
 exact⟨H,L,⟨hs,h1.step,h1.lle,h1.own⟩,h2⟩
theorem zXo {t l m sz:Nat}{fz:Bool}{e:TypeId}{cs:List A}(ht:env t=.row l m)(hl : σ[l]?=some (.row fz e sz m cs)):zA0 n0 (env.put (some t) (.win l m 0 m sz)) σ env σ:=by
 intro H0 L0 w0 H L w N tmps h0 h1 h2;refine⟨H,L,h1,h2.1,fun x=>?_⟩;simp only[zYL];split
 ·rename_i hx;subst hx;have hr:=h2.2 x;rw[ht]at hr;simp only[Rel]at hr ⊢;obtain⟨g0,li,e1,e2,e3,hv⟩:=hr;refine⟨g0,li,e1,e2,e3,fun hn=>⟨jA _,?_⟩⟩;have hob:=h1.st.obj l li _ e1 hl;simp only[zL]at hob;obtain⟨_,_,_,hob⟩:=hob;rw[hv hn];rcases hob with ⟨hb,hz⟩ | ⟨b,cur,hb,_,k1,k2,_⟩
  ·rw[hb];exact⟨none,0,by rw[hz],by omega,jAv _,.inl rfl⟩
  ·rw[hb];exact⟨_,_,rfl,k1,k2,.inr ⟨b,rfl,rfl,by simp⟩⟩
 ·exact h2.2 x
theorem zWG {H:Mem}{L:List LI}{w:World}(hs:RelSt H L σ w){l:Nat}{o o':AObj}(hl : σ[l]?=some o)(h:∀li,L[l]?=some li→zL H L w li o→zL H L w li o'):RelSt H L (σ.set l o') w:=by
 refine⟨hs.pers,by simp[hs.len],fun i x p hL hp=>?_,hs.inj,hs.lt⟩;by_cases hi:i=l
 ·subst hi;rw[jAi (jA1.1 hl).1]at hp;cases hp;exact h x hL (hs.obj i x o hL hl)
 ·rw[jA8 (Ne.symm hi)]at hp;exact hs.obj i x p hL hp
theorem qCD {H:Mem}{L:List LI}{w:World}(hs:RelSt H L σ w){l n sz:Nat}{li:LI}{e:TypeId}{cs:List A}(hL:L[l]?=some li)(hr:li.isRow=true)(hσ : σ[l]?=some (.row false e sz n cs)) :
 Nxt H L w H (L.set l ⟨none,0,li.len+1,true⟩++[li]) (σ.set l .dead++[AObj.row false e sz n cs]) w:=by
 have hll:=(zDU (li':=(⟨none,0,li.len+1,true⟩:LI)) hL hr rfl (Nat.lt_succ_self _)).trans (LLe.append _ [li]);have hl:l<L.length:=(jA1.1 hL).1;have get:∀(i:Nat) x,(L.set l ⟨none,0,li.len+1,true⟩++[li])[i]?=some x→(i=l∧x.block=none)∨(i≠l∧L[i]?=some x)∨(i=L.length∧x=li):=by
  intro i x hx;rcases qX hx with hx | ⟨rfl,rfl⟩
  ·by_cases hi:i=l
   ·subst hi;rw[jAi hl]at hx;cases hx;exact .inl ⟨rfl,rfl⟩
   ·rw[jA8 (Ne.symm hi)]at hx;exact .inr (.inl ⟨hi,hx⟩)
  ·exact .inr (.inr ⟨by simp,rfl⟩)
 have hob:=hs.obj l li _ hL hσ;refine⟨⟨hs.pers,by simp[hs.len],fun i x o hx ho=>?_,fun i j x y b' hi hj hx hy=>?_,fun i x b' hi hx=>?_⟩,Step.refl _ _ _,hll,fun b' ⟨i,x,hi,hx⟩=>?_⟩
 ·rcases get i x hx with ⟨rfl,_⟩ | ⟨hi,hx'⟩ | ⟨rfl,rfl⟩
  ·rw[jAc (by rw[jBl,←hs.len]; exact hl),jAi (by rw[←hs.len]; exact hl)]at ho;cases ho;trivial
  ·rw[jAc (by rw[jBl,←hs.len]; exact(jA1.1 hx').1),jA8 (Ne.symm hi)]at ho;exact(hs.obj i x o hx' ho).carry (fun _ _=>rfl) (HLe.refl _) hll (fun _ _ _=>rfl)
  ·rw[hs.len,jAo (by simp)]at ho;simp only[jBl,jBx,jAq,jA0]at ho;subst ho;exact hob.carry (fun _ _=>rfl) (HLe.refl _) hll (fun _ _ _=>rfl)
 ·rcases get i x hi with ⟨_,h0⟩ | ⟨hi1,hi'⟩ | ⟨rfl,rfl⟩
  ·rw[h0]at hx; cases hx
  ·rcases get j y hj with ⟨_,h0⟩ | ⟨hj1,hj'⟩ | ⟨rfl,rfl⟩
   ·rw[h0]at hy; cases hy
   ·exact hs.inj i j x y b' hi' hj' hx hy
   ·exact(hi1 (hs.inj i l x _ b' hi' hL hx hy)).elim
  ·rcases get j y hj with ⟨_,h0⟩ | ⟨hj1,hj'⟩ | ⟨rfl,rfl⟩
   ·rw[h0]at hy; cases hy
   ·exact(hj1 (hs.inj j l y _ b' hj' hL hy hx)).elim
   ·rfl
 ·rcases get i x hi with ⟨_,h0⟩ | ⟨hi1,hi'⟩ | ⟨rfl,rfl⟩
  ·rw[h0]at hx; cases hx
  ·exact hs.lt i x b' hi' hx
  ·exact hs.lt l _ b' hL hx
 ·rcases get i x hi with ⟨_,h0⟩ | ⟨hi1,hi'⟩ | ⟨rfl,rfl⟩
  ·rw[h0]at hx; cases hx
  ·exact .inl ⟨i,x,hi',hx⟩
  ·exact .inl ⟨l,_,hL,hx⟩
theorem zZg {j o l n sz:Nat}{e:TypeId}{ds cs:List A}(hj : σ[j]?=some (.box ds))(ho:ds[o]?=some (.row l n))(hl : σ[l]?=some (.row false e sz n cs)) :
 zA0 n0 env ((σ.set l .dead).set j (.box (ds.set o (.row σ.length n)))++[AObj.row false e sz n cs]) env σ:=by
 intro H0 L0 w0 H L w N tmps h0 h1 h2;have hjl:j≠l:=fun e=>by subst e; rw[hj]at hl; cases hl
 have hjlt:j < σ.length:=(jA1.1 hj).1;have hllt:l < σ.length:=(jA1.1 hl).1;have hLl:L[l]?=some (L[l]'(by rw[h1.st.len]; exact hllt)):=jA2 _;generalize L[l]'(by rw[h1.st.len]; exact hllt)=li at hLl;have hob:=h1.st.obj l li _ hLl hl;have hrow:li.isRow=true:=by simp only[zL]at hob; exact hob.1
 have hn:=qCD h1.st hLl hrow hl;have hj':(σ.set l .dead++[AObj.row false e sz n cs])[j]?=some (.box ds):=by rw[jAc (by rw[jBl]; exact hjlt),jA8 (Ne.symm hjl)];exact hj
 obtain⟨lj,hLj⟩:∃lj,L[j]?=some lj:=⟨_,jA2 (by rw[h1.st.len]; exact hjlt)⟩;have hbj:=h1.st.obj j lj _ hLj hj;simp only[zL]at hbj;obtain⟨_,b0,vs0,e0,p1,p2,p3,_⟩:=hbj;obtain⟨v0,hv0,hr0⟩:=p3.get ho;simp only[Rel]at hr0;obtain⟨q0,li',q1,q2,q3,q4⟩:=hr0;rw[hLl]at q1;cases q1;have hs:=zWG (o':=.box (ds.set o (.row σ.length n))) hn.st hj' (fun lx hlx hob=>by
  have hlj:lx=lj:=by rw[jAc (by rw[jBl,h1.st.len]; exact hjlt),jA8 (Ne.symm hjl),hLj]at hlx;exact(jAz hlx).symm
  subst hlj;simp only[zL]at hob ⊢;obtain⟨g0,b,vs,e',g1,g2,g3,g4,g5⟩:=hob;rw[p1]at g1;cases g1;rw[p2]at g2;cases g2;refine⟨g0,b0,vs0,e0,p1,p2,?_,g4,g5⟩;have hset:vs0=vs0.set o v0:=by
   apply jC4;intro i;by_cases hi:i=o
   ·subst hi; rw[jAi (jA1.1 hv0).1,hv0]
   ·rw[jA8 (Ne.symm hi)]
  rw[hset];refine g3.set o ?_;simp only[Rel];exact⟨q0,li,by rw[←h1.st.len,jAo (by simp)]; simp,q2,q3,q4⟩)
 rw[List.set_append_left _ _ (by rw[jBl]; exact hjlt)]at hs;have hm:=h1.trans hn;exact⟨H,_,⟨hs,hm.step,hm.lle,hm.own⟩,h2.1,fun x=>Rel.mono (HLe.refl _) hn.lle _ (h2.2 x)⟩
end
end Go.Abs
namespace Go.Proofs.YtdnelmeboihpkaaGreatDoor
structure Edg where
 id:Id
 fro:Id
 to:Id
section
variable (L:List Edg)(to:Id)
def zAy:Nat→Id→List Id→List (List Id)
 | 0,at_,_=>if at_=to then [[]] else []
 | n+1,at_,met=>if at_=to then [[]] else L.flatMap fun e=>if e.fro=at_∧e.to∉met then (zAy n e.to (met++[e.to])).map (e.id::·) else []
inductive Rchs (met:List Id):Id→Prop
 | here:Rchs met to
 | step (e:Edg) (he:e∈L) (hn:e.to∉met) (h:Rchs met e.to):Rchs met e.fro
def zHP (met:List Id):Nat:=(L.filter fun e=>decide (e.to∉met)).length
variable {L to}
theorem zCy {met:List Id}{e:Edg}(he:e∈L)(hn:e.to∉met):zHP L (met++[e.to])<zHP L met:=by
 unfold zHP;have h1:∀M:List Edg,(M.filter fun x=>decide (x.to∉met++[e.to])).length≤(M.filter fun x=>decide (x.to∉met)).length:=by
  intro M;induction M with
  | nil=>simp
  | cons x M ih =>
   rw[List.filter_cons,List.filter_cons];by_cases hx:x.to∈met
   ·simp[hx]; simpa using ih
   ·by_cases hx2:x.to=e.to
    ·simp[hx,hx2,hn];have:=ih;simp at this;omega
    ·simp[hx,hx2]
     simpa using ih
 induction L with
 | nil=>cases he
 | cons x M ih =>
  rw[List.filter_cons,List.filter_cons];rcases jA6.1 he with rfl | he
  ·have:=h1 M;simp[hn];simp at this;omega
  ·have:=ih he;by_cases hx:x.to∈met
   ·simp[hx]; simpa using this
   ·by_cases hx2:x.to=e.to
    ·simp[hx,hx2,hn];simp at this;omega
    ·simp[hx,hx2]
     simpa using this
theorem Rchs.mono {m m':List Id}(hs:∀x∈m',x∈m){x:Id}(h:Rchs L to m x):Rchs L to m' x:=by
 induction h with
 | here=>exact .here
 | step e he hn _ ih=>exact .step e he (fun h=>hn (hs _ h)) ih
theorem Rchs.last {m:List Id}(w:Id){x:Id}(h:Rchs L to m x):Rchs L to (m++[w]) x∨Rchs L to (m++[w]) w:=by
 induction h with
 | here=>exact .inl .here
 | step e he hn _ ih =>
  rcases ih with ih | ih
  ·by_cases hw:e.to=w
   ·exact .inr (hw▸ih)
   ·exact .inl (.step e he (by simp[hn,hw]) ih)
  ·exact .inr ih
theorem Rchs.own {m:List Id}{x:Id}(h:Rchs L to m x):Rchs L to (m++[x]) x:=(h.last x).elim id id
theorem zK2:∀(n:Nat) (at_:Id) (met:List Id),zHP L met≤n→(zAy L to n at_ met≠[]↔Rchs L to met at_)
 | 0,at_,met,hn=>by
  unfold zAy;split
  ·rename_i h; subst h; simpa using Rchs.here
  ·rename_i h;refine⟨fun h=>(h rfl).elim,fun hr=>?_⟩;cases hr with
   | here=>exact(h rfl).elim
   | step e he hm _ =>
    have:=zCy he hm;omega
 | n+1,at_,met,hn=>by
  unfold zAy;split
  ·rename_i h; subst h; simpa using Rchs.here
  ·rename_i h;constructor
   ·intro hne;have hx:∃x,x∈L.flatMap fun e=>if e.fro=at_∧e.to∉met then (zAy L to n e.to (met++[e.to])).map (e.id::·) else []:=List.exists_mem_of_ne_nil _ hne
    obtain⟨x,hx⟩:=hx;rw[List.mem_flatMap]at hx;obtain⟨e,he,hx⟩:=hx;split at hx
    ·rename_i hc;have hlt:=zCy he hc.2;have:=(zK2 n e.to (met++[e.to]) (by omega)).1 (fun h0=>by rw[h0]at hx; simp at hx);rw[←hc.1];exact .step e he hc.2 (this.mono (by simp +contextual))
    ·simp at hx
   ·intro hr h0;cases hr with
    | here=>exact h rfl
    | step e he hm hr =>
     have hlt:=zCy he hm;have h1:=(zK2 n e.to (met++[e.to]) (by omega)).2 hr.own;have h2:=(List.flatMap_eq_nil_iff.1 h0) e he;rw[if_pos ⟨rfl,hm⟩,List.map_eq_nil_iff]at h2;exact h1 h2
theorem zPa (m:List Id):zHP L m≤L.length:=jDe _ _
end
end Go.Proofs.YtdnelmeboihpkaaGreatDoor
namespace Go.Proofs.YtdnelmeboihpkaaGreatDoor
open Go.Abs
theorem zG1 {x y:Id}:zBL x y=true↔x.a<y.a∨(x.a=y.a∧(x.b<y.b∨(x.b=y.b∧x.c<y.c))):=by
 unfold zBL;split
 ·simp only[decide_eq_true_eq]; omega
 ·split
  ·simp only[decide_eq_true_eq]; omega
  ·simp only[decide_eq_true_eq]; omega
theorem zG2 {x y:Id}:zBL x y=false↔¬(x.a<y.a∨(x.a=y.a∧(x.b<y.b∨(x.b=y.b∧x.c<y.c)))):=by rw[←zG1]; simp
theorem zFd (x:Id):zBL x x=false:=by rw[zG2]; omega
theorem zJy {x y z:Id}(h:zBL x y=true)(k:zBL y z=true):zBL x z=true:=by rw[zG1]at *; omega
theorem zD5 {x y:Id}(h:zBL x y=false)(k:zBL y x=false):x=y:=by
 rw[zG2]at *
 rw[Id.eq_iff]; omega
theorem zRp {x y:Id}(h:zBL x y=true):zBL y x=false:=by rw[zG1]at h; rw[zG2]; omega
theorem zEs {x y:Id}:zI4 x y<0↔zBL x y=true:=by
 rw[zG1];simp only[zI4,orI,zAw]
 repeat' split
 all_goals omega
theorem zD6:Ord zI4 where
 irrefl x:=by rw[zEs,zFd]; simp
 trans x y z h k:=by rw[zEs]at *; exact zJy h k
 ntrans x y z h k:=by
  rw[zEs,jB]at *
  rw[zG2]at *; omega
 anti x y h k:=by
  rw[zEs,jB]at *
  exact zD5 h k
def SS (l:List Id):Prop:=l.Pairwise fun x y=>zBL x y=true
theorem zEx {x y:Id}:∀{l:List Id},y∈zKH l x↔y∈l∨y=x
 | []=>by simp[zKH]
 | z::l=>by
  simp only[zKH];split
  ·simp only[jA6,zEx (l:=l),or_assoc]
  ·split
   ·rename_i h; subst h;simp only[jA6];constructor
    ·exact fun h=>.inl h
    ·rintro(h | h)
     ·exact h
     ·exact .inl h
   ·simp only[jA6];constructor
    ·rintro(h | h)
     ·exact .inr h
     ·exact .inl h
    ·rintro(h | h)
     ·exact .inr h
     ·exact .inl h
theorem zND {x:Id}:∀{l:List Id},SS l→SS (zKH l x)
 | [],_=>by simp[zKH,SS]
 | z::l,h=>by
  have h':=jBy.1 h;simp only[zKH];split
  ·rename_i hz;refine jBy.2 ⟨fun y hy=>?_,zND h'.2⟩;rcases zEx.1 hy with hy | rfl
   ·exact h'.1 y hy
   ·exact hz
  ·rename_i hz;split
   ·exact h
   ·rename_i hne;have hxz:zBL x z=true:=by
     cases hh:zBL x z with
     | true=>rfl
     | false=>exact(hne (zD5 (by simpa using hz) hh)).elim
    refine jBy.2 ⟨fun y hy=>?_,h⟩;rcases jA6.1 hy with rfl | hy
    ·exact hxz
    ·exact zJy hxz (h'.1 y hy)
theorem zOW:∀{l acc:List Id},SS acc→SS (l.foldl zKH acc)
 | [],_,h=>h
 | _::l,_,h=>zOW (l:=l) (zND h)
theorem zMr {y:Id}:∀{l acc:List Id},y∈l.foldl zKH acc↔y∈acc∨y∈l
 | [],_=>by simp
 | x::l,acc=>by simp only[jBz,zMr (l:=l),zEx,jA6,or_assoc]
theorem SS.unique:∀{l l':List Id},SS l→SS l'→(∀x,x∈l↔x∈l')→l=l'
 | [],[],_,_,_=>rfl
 | [],y::l',_,_,h=>by have:=(h y).2 (jAk ..); simp at this
 | x::l,[],_,_,h=>by have:=(h x).1 (jAk ..); simp at this
 | x::l,y::l',h1,h2,h=>by
  have p1:=jBy.1 h1;have p2:=jBy.1 h2;have hxy:x=y:=by
   rcases jA6.1 ((h x).1 (jAk ..))with e | e
   ·exact e
   ·rcases jA6.1 ((h y).2 (jAk ..))with e' | e'
    ·exact e'.symm
    ·have a:=p2.1 x e;have b:=p1.1 y e';rw[zRp b]at a; cases a
  subst hxy
  congr 1
  refine SS.unique p1.2 p2.2 fun z=>?_
  constructor
  ·intro hz;rcases jA6.1 ((h z).1 (jAf _ hz))with e | e
   ·have:=p1.1 z hz; subst e; rw[zFd]at this; cases this
   ·exact e
  ·intro hz;rcases jA6.1 ((h z).2 (jAf _ hz))with e | e
   ·have:=p2.1 z hz; subst e; rw[zFd]at this; cases this
   ·exact e
theorem zG6 {α : Type}{motive:List α→Prop}(nil:motive [])(snoc:∀l y,motive l→motive (l++[y]))(l:List α):motive l:=by
 have h:∀r:List α,motive r.reverse:=fun r=>by
  induction r with
  | nil=>exact nil
  | cons a r ih=>rw[List.reverse_cons]; exact snoc _ _ ih
 have:=h l.reverse
 rwa [List.reverse_reverse]at this
def zQf (acc:List Id)(y:Id):List Id:=if acc.getLast?=some y then acc else acc++[y]
def zGK (l:List Id):List Id:=l.foldl zQf []
theorem zGX (l:List Id)(y:Id):zGK (l++[y])=zQf (zGK l) y:=by simp[zGK,jCj]
theorem zQE:∀(l:List Id),(zGK l).getLast?=l.getLast?:=by
 intro l;induction l using zG6 with
 | nil=>rfl
 | snoc l y ih =>
  rw[zGX,zQf];split
  ·rename_i h; rw[h]; simp
  ·simp
theorem zMc {x:Id}(l:List Id):x∈zGK l↔x∈l:=by
 induction l using zG6 with
 | nil=>simp[zGK]
 | snoc l y ih =>
  rw[zGX,zQf];split
  ·rename_i h;have hy:y∈zGK l:=List.mem_of_getLast? h;simp only[ih,jAj,jAp];constructor
   ·exact .inl
   ·rintro(h | rfl)
    ·exact h
    ·exact ih.1 hy |> fun h=>h
  ·simp[ih]
theorem zVy (l:List Id)(h:l.Pairwise fun x y=>zBL y x=false):SS (zGK l):=by
 induction l using zG6 with
 | nil=>simp[zGK,SS]
 | snoc l y ih =>
  rw[jCt]at h;have hi:=ih h.1;rw[zGX,zQf];split
  ·exact hi
  ·rename_i hne;unfold SS;rw[jCt];refine⟨hi,by simp,fun z hz y' hy'=>?_⟩;simp only[jAp]at hy';subst hy';have hzl:=(zMc l).1 hz;have h1:=h.2.2 z hzl y' (by simp);cases hh:zBL z y' with
   | true=>rfl
   | false =>
    exfalso;have e:=zD5 hh h1;subst e;rw[zQE]at hne;have hl:l≠[]:=fun e=>by rw[e]at hzl; simp at hzl
    obtain⟨w,hw⟩:∃w,l.getLast?=some w:=⟨_,List.getLast?_eq_some_getLast hl⟩;have hwl:w∈l:=List.mem_of_getLast? hw;have h2:=h.2.2 w hwl z (by simp);have hwz:w=z∨zBL w z=false:=by
     obtain⟨l',rfl⟩:∃l',l=l'++[w]:=List.getLast?_eq_some_iff.1 hw;rcases jAj.1 hzl with hz' | hz'
     ·have:=h.1;rw[jCt]at this;exact .inr (this.2.2 z hz' w (by simp))
     ·exact .inl (jAp.1 hz').symm
    have:w=z:=by
     rcases hwz with e | e
     ·exact e
     ·exact zD5 e h2
    subst this;exact hne hw
def zWQ (l:List Id):List Id:=zGK (zEb zI4 l)
theorem zRK (l:List Id):(zEb zI4 l).Perm l:=List.mergeSort_perm l _
theorem zOb (l:List Id):(zEb zI4 l).Pairwise fun x y=>zBL y x=false:=by
 have h:=List.pairwise_mergeSort (le:=fun x y=>!decide (zI4 y x<0)) (fun a b c h1 h2=>by simp only[jBb,decide_eq_false_iff_not]at *; exact zD6.ntrans c b a h2 h1)
  (fun a b=>by
   simp only[jB3,jBb,decide_eq_false_iff_not];by_cases h:zI4 b a<0
   ·exact .inr fun h'=>zD6.irrefl _ (zD6.trans _ _ _ h h')
   ·exact .inl h) l
 exact h.imp fun h=>by simp only[jBb,decide_eq_false_iff_not,zEs,jB]at h;exact h
theorem zPY {l:List Id}{x:Id}:x∈zWQ l↔x∈l:=by rw[zWQ,zMc,(zRK l).mem_iff]
theorem zSR (l:List Id):SS (zWQ l):=zVy _ (zOb l)
theorem zYV (l:List Id):zWQ l=l.foldl zKH [] :=
 SS.unique (zSR l) (zOW (by simp[SS])) fun x=>by rw[zPY,zMr]; simp
@[simp] theorem qHI (d:Id):(zF d).take 3=zF d:=jAm (jA _)
@[simp] theorem qHJ (d:Id):(zF d).length=3:=rfl
theorem zK0 (d:Id):qE (zF d):=qE.lit (qE.lit (qE.lit qE.nil))
@[simp] theorem qE9 (d:Id):qU (zF d)=zF d:=(zK0 d).1
@[simp] theorem qMi (d:Id) {rf g}:vwL rf g (zF d)=zF d:=(zK0 d).2 _ _
def qHM (s:ByteArray):List A:=[.lit (.string s)]
def zA7 (l:List ByteArray):List A:=l.flatMap qHM
theorem zQI (s:ByteArray):qE (qHM s):=qE.lit qE.nil
theorem zBo (l:List ByteArray):qE (zA7 l):=zAU zQI l
@[simp] theorem qA8 (l:List ByteArray):qU (zA7 l)=zA7 l:=(zBo l).1
@[simp] theorem qFq {rf g}(l:List ByteArray):vwL rf g (zA7 l)=zA7 l:=(zBo l).2 _ _
@[simp] theorem qBD (l:List ByteArray):(zA7 l).length=l.length:=by rw[zA7,zBG (k:=1) (fun _=>rfl),Nat.mul_one]
@[simp] theorem qBE:zA7 []=[]:=rfl
inductive Typ where
 | mk (k:Int) (id:Id) (kids:List Typ)
def Typ.k:Typ→Int | .mk k _ _=>k
def Typ.id:Typ→Id | .mk _ d _=>d
def Typ.kids:Typ→List Typ | .mk _ _ l=>l
@[simp] theorem Typ.k_mk {k:Int}{i:Id}{l:List Typ}:(Typ.mk k i l).k=k:=rfl
@[simp] theorem Typ.id_mk {k:Int}{i:Id}{l:List Typ}:(Typ.mk k i l).id=i:=rfl
@[simp] theorem Typ.kids_mk {k:Int}{i:Id}{l:List Typ}:(Typ.mk k i l).kids=l:=rfl
mutual
def zJf:Typ→A
 | .mk _ _ l=>.sl l.length (jV l)
def jV:List Typ→List A
 | []=>[]
 | t::l=>.lit (.int .i64 t.k)::.lit (.int .i64 t.id.a)::.lit (.int .i64 t.id.b)::.lit (.int .i64 t.id.c)::zJf t::jV l
end
theorem zVs (t:Typ):zJf t=.sl t.kids.length (jV t.kids):=by cases t; simp only[zJf,Typ.kids]
def zS (t:Typ):List A:=[.lit (.int .i64 t.k),.lit (.int .i64 t.id.a),.lit (.int .i64 t.id.b),.lit (.int .i64 t.id.c),.sl t.kids.length (jV t.kids)]
theorem zDq (l:List Typ):jV l=l.flatMap zS:=by
 induction l with
 | nil=>simp only[jV,List.flatMap_nil]
 | cons t l ih=>simp only[jV,jBg,ih,zVs,zS]; rfl
mutual
theorem zO9:∀t:Typ,nrm0 (zJf t)=zJf t∧∀rf g,vw rf g (zJf t)=zJf t
 | .mk k n l=>by have h:=yI l;simp only[zJf];exact⟨by simp[h.1],fun rf g=>by simp[h.2]⟩
theorem yI:∀l:List Typ,qE (jV l)
 | []=>by simp only[jV]; exact qE.nil
 | v::l=>by have h:=zO9 v;have h':=yI l;simp only[jV];exact⟨by simp[h.1,h'.1],fun rf g=>by simp[h.2,h'.2]⟩
end
theorem zK1 (t:Typ):qE (zS t):=qE.lit (qE.lit (qE.lit (qE.lit (qE.sl (yI _) qE.nil))))
inductive Exp where
 | mk (id:Id) (k n:Int) (ref:Id) (typ:Typ) (kids:List Exp) (names:List ByteArray)
def Exp.id:Exp→Id | .mk x _ _ _ _ _ _=>x
def Exp.k:Exp→Int | .mk _ x _ _ _ _ _=>x
def Exp.n:Exp→Int | .mk _ _ x _ _ _ _=>x
def Exp.ref:Exp→Id | .mk _ _ _ x _ _ _=>x
def Exp.typ:Exp→Typ | .mk _ _ _ _ x _ _=>x
def Exp.kids:Exp→List Exp | .mk _ _ _ _ _ x _=>x
def Exp.names:Exp→List ByteArray | .mk _ _ _ _ _ _ x=>x
@[simp] theorem Exp.id_mk {a:Id}{b c:Int}{d:Id}{e:Typ}{f:List Exp}{g:List ByteArray}:(Exp.mk a b c d e f g).id=a:=rfl
@[simp] theorem Exp.k_mk {a:Id}{b c:Int}{d:Id}{e:Typ}{f:List Exp}{g:List ByteArray}:(Exp.mk a b c d e f g).k=b:=rfl
@[simp] theorem Exp.n_mk {a:Id}{b c:Int}{d:Id}{e:Typ}{f:List Exp}{g:List ByteArray}:(Exp.mk a b c d e f g).n=c:=rfl
@[simp] theorem Exp.ref_mk {a:Id}{b c:Int}{d:Id}{e:Typ}{f:List Exp}{g:List ByteArray}:(Exp.mk a b c d e f g).ref=d:=rfl
@[simp] theorem Exp.typ_mk {a:Id}{b c:Int}{d:Id}{e:Typ}{f:List Exp}{g:List ByteArray}:(Exp.mk a b c d e f g).typ=e:=rfl
@[simp] theorem Exp.kids_mk {a:Id}{b c:Int}{d:Id}{e:Typ}{f:List Exp}{g:List ByteArray}:(Exp.mk a b c d e f g).kids=f:=rfl
@[simp] theorem Exp.names_mk {a:Id}{b c:Int}{d:Id}{e:Typ}{f:List Exp}{g:List ByteArray}:(Exp.mk a b c d e f g).names=g:=rfl
mutual
def zJe:Exp→A
 | .mk _ _ _ _ _ l _=>.sl l.length (jR l)
def jR:List Exp→List A
 | []=>[]
 | e::l=>[.lit (.int .i64 e.id.a),.lit (.int .i64 e.id.b),.lit (.int .i64 e.id.c),.lit (.int .i64 e.k),.lit (.int .i64 e.n),.lit (.int .i64 e.ref.a),.lit (.int .i64 e.ref.b),.lit (.int .i64 e.ref.c),.lit (.int .i64 e.typ.k),.lit (.int .i64 e.typ.id.a),.lit (.int .i64 e.typ.id.b),.lit (.int .i64 e.typ.id.c),.sl e.typ.kids.length (jV e.typ.kids),zJe e,.sl e.names.length (zA7 e.names)]++jR l
end
theorem zVr (e:Exp):zJe e=.sl e.kids.length (jR e.kids):=by cases e; simp only[zJe,Exp.kids]
def zR (e:Exp):List A:=[.lit (.int .i64 e.id.a),.lit (.int .i64 e.id.b),.lit (.int .i64 e.id.c),.lit (.int .i64 e.k),.lit (.int .i64 e.n),.lit (.int .i64 e.ref.a),.lit (.int .i64 e.ref.b),.lit (.int .i64 e.ref.c),.lit (.int .i64 e.typ.k),.lit (.int .i64 e.typ.id.a),.lit (.int .i64 e.typ.id.b),.lit (.int .i64 e.typ.id.c),.sl e.typ.kids.length (jV e.typ.kids),.sl e.kids.length (jR e.kids),.sl e.names.length (zA7 e.names)]
theorem zCD (l:List Exp):jR l=l.flatMap zR:=by
 induction l with
 | nil=>simp only[jR,List.flatMap_nil]
 | cons t l ih=>simp only[jR,jBg,ih,zVr,zR]
mutual
theorem zO8:∀t:Exp,nrm0 (zJe t)=zJe t∧∀rf g,vw rf g (zJe t)=zJe t
 | .mk _ _ _ _ _ l _=>by have h:=zBQ l;simp only[zJe];exact⟨by simp[h.1],fun rf g=>by simp[h.2]⟩
theorem zBQ:∀l:List Exp,qE (jR l)
 | []=>by simp only[jR]; exact qE.nil
 | v::l=>by have h:=zO8 v;have h':=zBQ l;have h1:=yI v.typ.kids;have h2:=zBo v.names;simp only[jR];exact⟨by simp[h.1,h'.1,h1.1,h2.1],fun rf g=>by simp[h.2,h'.2,h1.2,h2.2]⟩
end
theorem zHc (e:Exp):qE (zR e):=by have h:=zBQ e.kids;have h1:=yI e.typ.kids;have h2:=zBo e.names;exact⟨by simp[zR,h.1,h1.1,h2.1],fun rf g=>by simp[zR,h.2,h1.2,h2.2]⟩
structure Slt where
 id:Id
 name:ByteArray
 typ:Typ
 most:Int
 place:Int
def yJ (s:Slt):List A:=[.lit (.int .i64 s.id.a),.lit (.int .i64 s.id.b),.lit (.int .i64 s.id.c),.lit (.string s.name),.lit (.int .i64 s.typ.k),.lit (.int .i64 s.typ.id.a),.lit (.int .i64 s.typ.id.b),.lit (.int .i64 s.typ.id.c),.sl s.typ.kids.length (jV s.typ.kids),.lit (.int .i64 s.most),.lit (.int .i64 s.place)]
theorem zEP (s:Slt):qE (yJ s):=by have h1:=yI s.typ.kids;exact⟨by simp[yJ,h1.1],fun rf g=>by simp[yJ,h1.2]⟩
def yN (l:List Slt):List A:=l.flatMap yJ
theorem zCE (l:List Slt):yN l=l.flatMap yJ:=rfl
structure Dfn where
 id:Id
 kind:Int
 mod:Id
 name:ByteArray
 slots:List Slt
 res:Typ
 body:Exp
 place:Int
 lay:List ByteArray
def zH (d:Dfn):List A:=[.lit (.int .i64 d.id.a),.lit (.int .i64 d.id.b),.lit (.int .i64 d.id.c),.lit (.int .i64 d.kind),.lit (.int .i64 d.mod.a),.lit (.int .i64 d.mod.b),.lit (.int .i64 d.mod.c),.lit (.string d.name),.sl d.slots.length (yN d.slots),.lit (.int .i64 d.res.k),.lit (.int .i64 d.res.id.a),.lit (.int .i64 d.res.id.b),.lit (.int .i64 d.res.id.c),.sl d.res.kids.length (jV d.res.kids),.lit (.int .i64 d.body.id.a),.lit (.int .i64 d.body.id.b),.lit (.int .i64 d.body.id.c),.lit (.int .i64 d.body.k),.lit (.int .i64 d.body.n),.lit (.int .i64 d.body.ref.a),.lit (.int .i64 d.body.ref.b),.lit (.int .i64 d.body.ref.c),.lit (.int .i64 d.body.typ.k),.lit (.int .i64 d.body.typ.id.a),.lit (.int .i64 d.body.typ.id.b),.lit (.int .i64 d.body.typ.id.c),.sl d.body.typ.kids.length (jV d.body.typ.kids),.sl d.body.kids.length (jR d.body.kids),.sl d.body.names.length (zA7 d.body.names),.lit (.int .i64 d.place),.sl d.lay.length (zA7 d.lay)]
theorem zAt (d:Dfn):qE (zH d):=by have h1:=yI d.res.kids;have h2:=yI d.body.typ.kids;have h3:=zBQ d.body.kids;have h4:=zBo d.body.names;have h5:=zBo d.lay;have h6:=zAU zEP d.slots;exact⟨by simp[zH,yN,h1.1,h2.1,h3.1,h4.1,h5.1,h6.1],fun rf g=>by simp[zH,yN,h1.2,h2.2,h3.2,h4.2,h5.2,h6.2]⟩
def qM (l:List Dfn):List A:=l.flatMap zH
theorem zCC (l:List Dfn):qM l=l.flatMap zH:=rfl
structure Md where
 id:Id
 name:ByteArray
 uses:List Id
 defs:List Id
def zG9 (m:Md):List A:=[.lit (.int .i64 m.id.a),.lit (.int .i64 m.id.b),.lit (.int .i64 m.id.c),.lit (.string m.name),.sl m.uses.length (zQ m.uses),.sl m.defs.length (zQ m.defs)]
theorem zHe (m:Md):qE (zG9 m):=by have h1:=zBn m.uses;have h2:=zBn m.defs;exact⟨by simp[zG9,h1.1,h2.1],fun rf g=>by simp[zG9,h1.2,h2.2]⟩
def jI (l:List Md):List A:=l.flatMap zG9
theorem zGs (l:List Md):jI l=l.flatMap zG9:=rfl
structure Prg where
 mods:List Md
 defs:List Dfn
def zM (p:Prg):List A:=[.sl p.mods.length (jI p.mods),.sl p.defs.length (qM p.defs)]
theorem eP(p:Prg):zM p=[.sl p.mods.length (jI p.mods),.sl p.defs.length (qM p.defs)]:=rfl
@[simp] theorem qAA (l:List Typ):qU (jV l)=jV l:=(yI l).1
@[simp] theorem qFs {rf g}(l:List Typ):vwL rf g (jV l)=jV l:=(yI l).2 _ _
@[simp] theorem qBK:jV []=[]:=by rw[zDq]; rfl
theorem zDN (x:Typ)(l:List Typ):jV (x::l)=zS x++jV l:=by rw[zDq,zDq]; rfl
@[simp] theorem qBJ (l:List Typ):(jV l).length=l.length*5:=by rw[zDq,zBG (k:=5) (fun _=>rfl)]
theorem zJh {l:List Typ}{i:Nat}(h:i<l.length):(jV l).drop (i*5)=zS l[i]++jV (l.drop (i+1)):=by rw[zDq,zDq,zDt (k:=5) (fun _=>rfl) h]
@[simp] theorem qHQ (d:Typ):(zS d).length=5:=rfl
@[simp] theorem qHP (d:Typ):(zS d).take 5=zS d:=jAm (jA _)
@[simp] theorem qEf (d:Typ)(l:List A):(zS d++l).take 5=zS d:=by rw[jC (by simp)]; exact jAm (by simp)
@[simp] theorem qEC (d:Typ):qU (zS d)=zS d:=(zK1 d).1
@[simp] theorem qMl (d:Typ) {rf g}:vwL rf g (zS d)=zS d:=(zK1 d).2 _ _
@[simp] theorem qA3 (l:List Exp):qU (jR l)=jR l:=(zBQ l).1
@[simp] theorem qFl {rf g}(l:List Exp):vwL rf g (jR l)=jR l:=(zBQ l).2 _ _
@[simp] theorem qB6:jR []=[]:=by rw[zCD]; rfl
theorem qA (x:Exp)(l:List Exp):jR (x::l)=zR x++jR l:=by rw[zCD,zCD]; rfl
theorem zL8 (l l':List Exp):jR (l++l')=jR l++jR l':=by simp only[zCD,jCi]
@[simp] theorem qB5 (l:List Exp):(jR l).length=l.length*15:=by rw[zCD,zBG (k:=15) (fun _=>rfl)]
theorem zBi {l:List Exp}{i:Nat}(h:i<l.length):(jR l).drop (i*15)=zR l[i]++jR (l.drop (i+1)):=by rw[zCD,zCD,zDt (k:=15) (fun _=>rfl) h]
@[simp] theorem qHF (d:Exp):(zR d).length=15:=rfl
@[simp] theorem qHE (d:Exp):(zR d).take 15=zR d:=jAm (jA _)
@[simp] theorem qDZ (d:Exp)(l:List A):(zR d++l).take 15=zR d:=by rw[jC (by simp)]; exact jAm (by simp)
@[simp] theorem qE7 (d:Exp):qU (zR d)=zR d:=(zHc d).1
@[simp] theorem qMg (d:Exp) {rf g}:vwL rf g (zR d)=zR d:=(zHc d).2 _ _
theorem zHA (l:List Slt):qE (yN l):=zAU zEP l
@[simp] theorem qA9 (l:List Slt):qU (yN l)=yN l:=(zHA l).1
@[simp] theorem qFr {rf g}(l:List Slt):vwL rf g (yN l)=yN l:=(zHA l).2 _ _
@[simp] theorem qBI:yN []=[]:=by rw[zCE]; rfl
theorem zDM (x:Slt)(l:List Slt):yN (x::l)=yJ x++yN l:=by rw[zCE,zCE]; rfl
theorem zEj (l l':List Slt):yN (l++l')=yN l++yN l':=by simp only[zCE,jCi]
@[simp] theorem qBH (l:List Slt):(yN l).length=l.length*11:=by rw[zCE,zBG (k:=11) (fun _=>rfl)]
theorem yB {l:List Slt}{i:Nat}(h:i<l.length):(yN l).drop (i*11)=yJ l[i]++yN (l.drop (i+1)):=by rw[zCE,zCE,zDt (k:=11) (fun _=>rfl) h]
@[simp] theorem qHO (d:Slt):(yJ d).length=11:=rfl
@[simp] theorem qHN (d:Slt):(yJ d).take 11=yJ d:=jAm (jA _)
@[simp] theorem qEe (d:Slt)(l:List A):(yJ d++l).take 11=yJ d:=by rw[jC (by simp)]; exact jAm (by simp)
@[simp] theorem qEB (d:Slt):qU (yJ d)=yJ d:=(zEP d).1
@[simp] theorem qMk (d:Slt) {rf g}:vwL rf g (yJ d)=yJ d:=(zEP d).2 _ _
theorem zEH (l:List Dfn):qE (qM l):=zAU zAt l
@[simp] theorem qA2 (l:List Dfn):qU (qM l)=qM l:=(zEH l).1
@[simp] theorem qFk {rf g}(l:List Dfn):vwL rf g (qM l)=qM l:=(zEH l).2 _ _
@[simp] theorem qB4:qM []=[]:=by rw[zCC]; rfl
theorem zJg (x:Dfn)(l:List Dfn):qM (x::l)=zH x++qM l:=by rw[zCC,zCC]; rfl
theorem zGG (l l':List Dfn):qM (l++l')=qM l++qM l':=by simp only[zCC,jCi]
@[simp] theorem qB3 (l:List Dfn):(qM l).length=l.length*31:=by rw[zCC,zBG (k:=31) (fun _=>rfl)]
theorem zAI {l:List Dfn}{i:Nat}(h:i<l.length):(qM l).drop (i*31)=zH l[i]++qM (l.drop (i+1)):=by rw[zCC,zCC,zDt (k:=31) (fun _=>rfl) h]
@[simp] theorem zVC (d:Dfn):(zH d).length=31:=rfl
@[simp] theorem qHD (d:Dfn):(zH d).take 31=zH d:=jAm (jA _)
@[simp] theorem qDY (d:Dfn)(l:List A):(zH d++l).take 31=zH d:=by rw[jC (by simp)]; exact jAm (by simp)
@[simp] theorem qE6 (d:Dfn):qU (zH d)=zH d:=(zAt d).1
@[simp] theorem qMf (d:Dfn) {rf g}:vwL rf g (zH d)=zH d:=(zAt d).2 _ _
theorem zEM (l:List Md):qE (jI l):=zAU zHe l
@[simp] theorem qA7 (l:List Md):qU (jI l)=jI l:=(zEM l).1
@[simp] theorem qFp {rf g}(l:List Md):vwL rf g (jI l)=jI l:=(zEM l).2 _ _
@[simp] theorem qBC:jI []=[]:=by rw[zGs]; rfl
theorem zOD (x:Md)(l:List Md):jI (x::l)=zG9 x++jI l:=by rw[zGs,zGs]; rfl
@[simp] theorem qBB (l:List Md):(jI l).length=l.length*6:=by rw[zGs,zBG (k:=6) (fun _=>rfl)]
@[simp] theorem qHL (d:Md):(zG9 d).length=6:=rfl
@[simp] theorem qHK (d:Md):(zG9 d).take 6=zG9 d:=jAm (jA _)
@[simp] theorem qEd (d:Md)(l:List A):(zG9 d++l).take 6=zG9 d:=by rw[jC (by simp)]; exact jAm (by simp)
@[simp] theorem qEA (d:Md):qU (zG9 d)=zG9 d:=(zHe d).1
@[simp] theorem qMj (d:Md) {rf g}:vwL rf g (zG9 d)=zG9 d:=(zHe d).2 _ _
def Typ.zero:Typ:=.mk 0 Id.zero []
def Exp.zero:Exp:=.mk Id.zero 0 0 Id.zero Typ.zero [] []
def Dfn.zero:Dfn:=⟨Id.zero,0,Id.zero,⟨#[]⟩,[],Typ.zero,Exp.zero,0,[]⟩
end Go.Proofs.YtdnelmeboihpkaaGreatDoor
namespace Go.Abs
section
variable {P:Program}
theorem zZa:∀f e,findTb f []=some e→zBO P f e:=fun f e h=>by cases h
theorem zEC {f0:Nat}{e0:Entry}{T:List (Nat×Entry)}(h0:zBO P f0 e0)(hT:∀f e,findTb f T=some e→zBO P f e):∀f e,findTb f ((f0,e0)::T)=some e→zBO P f e:=fun f e h=>by
 simp only[findTb]at h;cases hb:Nat.beq f f0
 ·rw[hb]at h; exact hT f e h
 ·rw[hb]at h;cases h;rw[jCy hb];exact h0
theorem zWH {f:FuncId}{xs:List A} {σ σ':St}{r:A}(h:Ret P f xs σ r σ'):Ret P f xs σ (nrm0 r) σ':=fun H L w vs hs ha=>(h H L w vs hs ha).mono fun e w' hh=>by obtain⟨o,τ,H',L',ho,hn,rfl,rfl⟩:=hh;obtain⟨v,rfl,hv⟩:=ho;exact⟨.ret (nrm0 r),_,H',L',⟨v,rfl,Rel.nrm0 _ hv⟩,hn,rfl,rfl⟩
def qAN (T:List (Nat×Entry))(orc:Run)(lf n:Nat)(f:FuncId)(xs:List A) (σ : St):Option (A×St):=match zUv T orc lf n f xs σ with
 | some (r,σ')=>some (nrm0 r,σ')
 | none=>none
theorem zWL {T:List (Nat×Entry)}{orc:Run}{lf n:Nat}(hT:∀f e,findTb f T=some e→zBO P f e)(hO:zB4 P orc){f:FuncId}{xs:List A} {σ σ':St}{r:A}(h:qAN T orc lf n f xs σ = some (r,σ')):Ret P f xs σ r σ':=by
 unfold qAN at h;split at h
 ·rename_i r0 τ h0;cases h;exact zWH (zSN hT hO n _ _ _ _ _ h0).2
 ·cases h
end
end Go.Abs
namespace Go.Abs
def Pan (P:Program)(f:FuncId)(args:List A) (σ0:St)(v:Value):Prop:=yY P f args σ0 fun o _=>o=.pan v
section
variable {P:Program}{n0:Nat}{Qp:Value→Env→St→Prop}{Qd:Value→St→Prop}{K':Env→St→Prop}{env:Env} {σ : St}{d:Option Nat}
theorem Pan.mono {f:FuncId}{args:List A} {σ0:St}{v:Value}(h:Pan P f args σ0 v){Q:Out→St→Prop}(hq:∀τ,Q (.pan v) τ):yY P f args σ0 Q:=fun H L w vs h1 h2=>(h H L w vs h1 h2).mono fun e w' hh=>by obtain⟨o,σ',H',L',g1,g2,rfl⟩:=hh;exact⟨_,σ',H',L',g1,g2,hq σ'⟩
theorem zE3 {f:FuncId}{fn:Func}{c:Code}{k:K}{rs:List RS}(hf:P.funcs[f]?=some fn)(hb:fn.body=some c)(hc:zO P fn.ntmps c=some k.erase)(hr:zBV P fn.results.toList=some rs)
 {args:List A} {σ : St}{v:Value}(h:wpF P k rs args σ fun o _=>o=.pan v):Pan P f args σ v:=zFC hf hb hc hr h
theorem zAl {hint:Nat→Option (List (Nat×Nat))}{f:FuncId}{fn:Func}{c:Code}{k:K}{rs:List RS}(hf:P.funcs[f]?=some fn)(hb:fn.body=some c)(hc:qF P fn.ntmps hint c=some k.erase)(hr:zBV P fn.results.toList=some rs)
 {args:List A} {σ : St}{v:Value}(h:wpF P k rs args σ fun o _=>o=.pan v):Pan P f args σ v:=zDc hf hb hc hr h
theorem zO4 {f:FuncId}{args args':List A} {σ0:St}{v:Value}(h:Pan P f args σ0 v)(js:List Nat)(hd:js.Nodup)(ho:yL σ jH (zW js) js σ0)(ha:zBu js args' args){Q:Out→St→Prop}
 (hq:∀τ : St,Q (.pan v) (qL σ js τ)):yY P f args' σ Q :=
 zI3 (C:=fun vs w R=>Calls P f vs.toArray w R) (zGW P f) (Q0:=fun o _=>o=.pan v) h js hd ho ha fun o σ1 h0=>by subst h0;exact hq _
theorem zH6 {f:FuncId}{args args':List A} {σ0:St}{v:Value}(h:Pan P f args σ0 v)(js:List Nat)(hd:js.Nodup)(ho:yL σ jH (zW js) js σ0)(ha:zBu js args' args)
 (hq:∀τ : St,Qp v env (qL σ js τ)):yY P f args' σ (zHp d env K' Qp):=zO4 h js hd ho ha fun τ=>by simpa [zHp] using hq τ
theorem zDe {f:FuncId}{args args':List A} {σ0:St}{v:Value}(h:Pan P f args σ0 v)(js:List Nat)(hd:js.Nodup)(ho:yL σ jH (zW js) js σ0)(ha:zBu js args' args)
 (hq:∀τ : St,Qd v (qL σ js τ)):zIu P Qd σ d K' f args' env:=zO4 h js hd ho ha fun τ=>.inr ⟨v,rfl,hq τ⟩
theorem zCd {f:FuncId}{args args':List A} {σ0 σ1:St}{r:A}(h:Ret P f args σ0 r σ1)(js:List Nat)(hd:js.Nodup)(ho:yL σ jH (zW js) js σ0)(ha:zBu js args' args)
 (hq:K' (env.put d (ren js σ.length r)) (qL σ js (σ1.map (zA9 js σ.length)))):zIu P Qd σ d K' f args' env:=zAH h js hd ho ha (.inl ⟨_,rfl,hq⟩)
theorem zCH {α : Type}:∀{js:List Nat} {s t:List α} {x:Nat},x<s.length→x∉js→(qL s js t)[x]?=s[x]?
 | [],s,t,x,hx,_=>by simp[qL,jAc hx]
 | j::js,s,[],x,_,_=>by simp[qL]
 | j::js,s,o::os,x,hx,hn=>by simp only[jA6,not_or]at hn;simp only[qL];rw[zCH (by simpa using hx) hn.2,jA8 (Ne.symm hn.1)]
end
end Go.Abs
namespace Go.Abs
mutual
theorem qBq {k:Nat}:∀(a:A),(vw jH (fun _=>none) a=a)→a.bnd k=true
 | .any,_=>by simp
 | .nil,_=>by simp
 | .lit _,_=>by simp
 | .agg cs,h=>by simp at h; simp[zDb cs h]
 | .tup cs,h=>by simp at h; simp[zDb cs h]
 | .sl _ cs,h=>by simp at h; simp[zDb cs h]
 | .fsl _ cs,h=>by simp at h; simp[zDb cs h]
 | .rptr cs,h=>by simp at h; simp[zDb cs h]
 | .ptr l _,h=>by simp at h
 | .row l _,h=>by simp at h
 | .rwp l _ _,h=>by simp at h
 | .win l _ _ _ _,h=>by simp[zTr]at h
 | .map l,h=>by simp at h
 | .clo _ fs cs,h=>by simp at h; simp[zDb fs h.1,zDb cs h.2]
theorem zDb {k:Nat}:∀(cs:List A),(vwL jH (fun _=>none) cs=cs)→zAZ k cs=true
 | [],_=>by simp
 | c::cs,h=>by simp at h; simp[qBq c h.1,zDb cs h.2]
end
theorem qE.bnd {cs:List A}(h:qE cs)(k:Nat):zAZ k cs=true:=zDb cs (h.2 _ _)
def shL (m:Nat)(ks:List Nat):List Nat:=List.range m++ks.map fun k=>m+k
theorem zNQ {m l:Nat}{ks:List Nat}(h:l<m):zW (shL m ks) l=some l:=zHq (zGe h)
theorem zMO {m k:Nat}:∀ks:List Nat,zW (ks.map fun k=>m+k) (m+k)=zW ks k
 | []=>rfl
 | x::ks=>by
  simp only[jA9,zHr];by_cases h:k=x
  ·simp[h]
  ·rw[if_neg (by omega),if_neg h,zMO ks]
@[simp] theorem zUo {m k:Nat}{ks:List Nat}:zW (shL m ks) (m+k)=(zW ks k).map (m + ·):=by unfold shL;rw[zIR (by simp),zMO,List.length_range];cases zW ks k<;>simp[jCr]
@[simp] theorem qCL {m:Nat}{ks:List Nat}:zW (shL m ks) m=(zW ks 0).map (m + ·):=by
 have:=zUo (m:=m) (k:=0) (ks:=ks)
 simpa using this
theorem zIW {m:Nat}{ks:List Nat}(h:ks.Nodup):(shL m ks).Nodup:=by
 unfold shL;rw[jCk];refine⟨List.nodup_range,?_,fun a ha b hb=>?_⟩
 ·exact List.Pairwise.map _ (fun a b hab e=>hab (Nat.add_left_cancel e)) h
 ·obtain⟨k,_,rfl⟩:=jAg.1 hb;rw[jC7]at ha;omega
theorem zSS {m c:Nat}{ks:List Nat}(h:∀j,j<c→ks[j]?=some j):∀i,i<m+c→(shL m ks)[i]?=some i:=by
 intro i hi;unfold shL;by_cases hm:i<m
 ·rw[jAc (by simpa using hm),List.getElem?_range hm]
 ·rw[jAo (by simp; omega),List.length_range,jCl,h (i-m) (by omega)];simp; omega
theorem zMY {σ : St}{rf:Bool→Nat→Nat→A}{g:Nat→Option Nat}:∀{ks js:List Nat} {a b:St},yL σ rf g ks a→yL σ rf g js b→yL σ rf g (ks++js) (a++b)
 | [],_,[],_,_,h=>h
 | k::ks,js,x::a,b,h,h'=>⟨h.1,zMY h.2 h'⟩
 | [],_,_::_,_,h,_=>h.elim
 | _::_,_,[],_,h,_=>h.elim
theorem zJ8 {m:Nat}{S own:St}(hS:S.length=m){rf:Bool→Nat→Nat→A}{g:Nat→Option Nat}:∀{ks:List Nat} {a:St},yL own rf g ks a→yL (S++own) rf g (ks.map fun k=>m+k) a
 | [],[],_=>trivial
 | k::ks,x::a,h=>by simp only[jA9,yL];refine⟨?_,zJ8 hS h.2⟩;rw[yV hS];exact h.1
 | [],_::_,h=>h.elim
 | _::_,[],h=>h.elim
theorem zNY {m:Nat}{S own own':St}(h:Cl m S){rf:Bool→Nat→Nat→A}{ks:List Nat}(ho:yL own rf (zW (shL m ks)) ks own'):yL (S++own) rf (zW (shL m ks)) (shL m ks) (S++own'):=by refine zMY ?_ (zJ8 h.1 ho);have:=zLt (rf:=rf) (g:=zW (shL m ks)) (m:=m) (fun l hl=>zNQ hl) (σ:=S++own) 0 S (by rw[h.1]; omega) (fun i o hi=>by rw[jAr,jAc (jA1.1 hi).1]; exact hi) h.2;rw[h.1,←List.range_eq_range']at this;exact this
@[simp] theorem qJW {rf:Bool→Nat→Nat→A}{g:Nat→Option Nat}:vwO rf g .dead=.dead:=rfl
@[simp] theorem qEO {js:List Nat}{n:Nat}:zA9 js n .dead=.dead:=rfl
section
variable {P:Program}{n0:Nat}{Qp:Value→Env→St→Prop}{K':Env→St→Prop}{env:Env}{d:Option Nat}
theorem zNa {m c:Nat}{S own own':St}(h:Cl m S)(hn:n0=m+c)(ks:List Nat)(fuel:Nat){l:List (Nat×A)}(hk:∀j,j<c→ks[j]?=some j)(hd:ks.Nodup)
 (ho:yL own (seen (S++own) (zW (shL m ks)) fuel) (zW (shL m ks)) ks own')
 (hl:∀p∈l,p.2=vw (seen (S++own) (zW (shL m ks)) fuel) (zW (shL m ks)) (env p.1)∨p.2=nrm0 (vw (seen (S++own) (zW (shL m ks)) fuel) (zW (shL m ks)) (env p.1))):zA0 n0 (qC l) (S++own') env (S++own) :=
 zP (shL m ks) fuel (by subst hn; exact zSS hk) (zIW hd) (zNY h ho) hl
theorem zIV {m c n:Nat}{r r':A}{S own own':St}(h:Cl m S)(hn:n=m+c)(ks:List Nat)(fuel:Nat)(hk:∀j,j<c→ks[j]?=some j)(hd:ks.Nodup)
 (ho:yL own (seen (S++own) (zW (shL m ks)) fuel) (zW (shL m ks)) ks own')
 (hr:r=vw (seen (S++own) (zW (shL m ks)) fuel) (zW (shL m ks)) r'∨r=nrm0 (vw (seen (S++own) (zW (shL m ks)) fuel) (zW (shL m ks)) r')):zFz n r (S++own') (.ret r') (S++own) :=
 zI (shL m ks) fuel (by subst hn; exact zSS hk) (zIW hd) (zNY h ho) hr
theorem zOy:∀{js ks:List Nat} {n k:Nat},back (js++ks) n (js.length+k)=back ks n k
 | [],ks,n,k=>by simp
 | j::js,ks,n,k=>by
  have e:(j::js).length+k=js.length+k+1:=by simp; omega
  rw[e];simp only[jB9,back];exact zOy
theorem zLS:∀{js ks:List Nat} {n l:Nat},l<js.length→back (js++ks) n l=back js n l
 | [],_,_,l,h=>by simp at h
 | j::js,ks,n,0,h=>rfl
 | j::js,ks,n,l+1,h=>by simp only[jB9,back];exact zLS (by simpa using h)
@[simp] theorem zUZ {m k n:Nat}{ks:List Nat}:back (shL m ks) n (m+k)=back (ks.map fun k=>m+k) n k:=by
 have:=zOy (js:=List.range m) (ks:=ks.map fun k=>m+k) (n:=n) (k:=k)
 rwa [List.length_range]at this
@[simp] theorem qDL {m n:Nat}{ks:List Nat}:back (shL m ks) n m=back (ks.map fun k=>m+k) n 0:=by
 have:=zUZ (m:=m) (k:=0) (n:=n) (ks:=ks)
 simpa using this
theorem zOz {m l n:Nat}{ks:List Nat}(h:l<m):back (shL m ks) n l=l:=by unfold shL;rw[zLS (by simpa using h),zKc h]
theorem zHt {α : Type}:∀{js ks:List Nat} {s a b:List α},a.length=js.length→qL s (js++ks) (a++b)=qL (qL s js a) ks b
 | [],ks,s,[],b,_=>by simp[qL]
 | j::js,ks,s,x::a,b,h=>by simp only[jB9,qL];exact zHt (by simpa using h)
 | [],_,_,_::_,_,h=>by simp at h
 | _::_,_,_,[],_,h=>by simp at h
theorem zIf {m:Nat}{S:St}(hS:S.length=m):∀{ks:List Nat} {own t:St},qL (S++own) (ks.map fun k=>m+k) t=S++qL own ks t
 | [],own,t=>by simp[qL]
 | k::ks,own,[]=>by simp[qL]
 | k::ks,own,x::t=>by simp only[jA9,qL];rw[zAB hS];exact zIf hS
theorem zVm {m:Nat}{S S' own o0 o1:St}(h:Cl m S)(h':Cl m S'){f:FuncId}{args args':List A}{r:A}(hr:Ret P f args (S++o0) r (S'++o1))(ks:List Nat)(hd:ks.Nodup)
 (ho:yL own jH (zW (shL m ks)) ks o0)(ha:zBu (shL m ks) args' args)
 (hq:K' (env.put d (ren (shL m ks) (m+own.length) r)) (S'++qL own ks (o1.map (zA9 (shL m ks) (m+own.length))))):yY P f args' (S++own) (zHp d env K' Qp):=by
 refine jN hr (shL m ks) (zIW hd) (zNY h ho) ha ?_;have hlen:(S++own).length=m+own.length:=by rw[jA7,h.1]
 rw[hlen,jCu];have e:S'.map (zA9 (shL m ks) (m+own.length))=S':=by
  conv=>rhs; rw[←List.map_id S']
  exact jBr fun o ho=>by simp only[zA9,id];exact zOf (fun l hl=>by rw[zOz hl]) o (h'.2 o ho)
 rw[e];have hput:qL (S++own) (shL m ks) (S'++o1.map (zA9 (shL m ks) (m+own.length)))=S'++qL own ks (o1.map (zA9 (shL m ks) (m+own.length))):=by have h0:=zHv (own:=own) 0 [] rfl (by rw[h.1,h'.1]:S'.length=S.length);rw[h.1,←List.range_eq_range']at h0;simp only[jC8]at h0;unfold shL;rw[zHt (by rw[h'.1,List.length_range]),h0];exact zIf h'.1
 rw[hput];exact hq
end
end Go.Abs
