/-
  An evaluator of small code at closed abstract states: code, functions, calls.
  Rules for flags; rows that move to a new level; parts of rows; maps that are not ranged over.
  Paths in a graph: all of them in order, and whether there is one.
  Lists of IDs in increasing order, each once: what the reference's insertion gives, and what a sort and a compaction give.
  The reference's joins of traces.
  Programs as data: types, expressions, definitions, and their cells.
  Tables of the evaluator; results in their plain form.
  Functions that panic: contracts and how a call meets them.
  States that begin with a caller's: levels behind it that are kept, and calls on them.
  Breadth first: what a search has met, and what that says.
  slices.Clone, Grow, Concat, SortFunc, Compact at lists of IDs.
  Types, definitions and nodes are compared.
-/
import Derived.Test.YtdnelmeboihpkaaGreatDoorX9
import Derived.Test.YtdnelmeboihpkaaGreatDoorX8
set_option linter.unusedVariables false
set_option maxHeartbeats 8000000
set_option maxRecDepth 100000
set_option linter.unusedSimpArgs false
namespace Go.Abs
section
variable {P:Program}{n0:Nat}
mutual
def lvA:A→List Nat
 | .any | .nil | .lit _=>[]
 | .agg cs | .tup cs | .sl _ cs | .fsl _ cs | .rptr cs=>lvL cs
 | .ptr l _ | .row l _ | .rwp l _ _ | .map l | .win l _ _ _ _=>[l]
 | .clo _ fs cs=>lvL fs++lvL cs
def lvL:List A→List Nat
 | []=>[]
 | c::cs=>lvA c++lvL cs
end
def lvM:List (List Int×A)→List Nat
 | []=>[]
 | p::l=>lvA p.2++lvM l
def lvO:AObj→List Nat
 | .box cs=>lvL cs
 | .row _ _ _ _ cs=>lvL cs
 | .mp _ _ es=>lvM es
 | .it m _ _=>[m]
 | _=>[]
def zRA (x:Nat):List Nat→Bool
 | []=>false
 | y::l=>bif Nat.beq x y then true else zRA x l
theorem zPG {x:Nat}:∀{l:List Nat},zRA x l=true↔x∈l
 | []=>by simp[zRA]
 | y::l=>by
  simp only[zRA,jA5];cases h:Nat.beq x y
  ·have:x≠y:=fun e=>by subst e; simp at h
   simp only[cond_false,this,false_or,zPG]
  ·have:=jD0 h;simp[this]
def zF1 (keep:Nat→AObj→Bool) (σ : St):Nat→List Nat→List Nat→List Nat
 | 0,_,acc=>acc
 | _+1,[],acc=>acc
 | n+1,l::t,acc=>bif zRA l acc then zF1 keep σ n t acc else match σ[l]? with
  | some o=>bif keep l o then zF1 keep σ n (lvO o++t) (acc++[l]) else zF1 keep σ n t acc
  | none=>zF1 keep σ n t acc
def zFw:List Nat→Bool
 | []=>true
 | x::l=>!(zRA x l)&&zFw l
theorem zDw:∀{l:List Nat},zFw l=true→l.Nodup
 | [],_=>List.nodup_nil
 | x::l,h=>by simp only[zFw,jA4,jBd]at h;rw[jD1];refine⟨fun hm=>?_,zDw h.2⟩;rw[zPG.2 hm]at h;cases h.1
def zUT (σ : St)(rf:Bool→Nat→Nat→A)(g:Nat→Option Nat):List Nat→Option St
 | []=>some []
 | j::js=>match σ[j]?,zUT σ rf g js with
  | some o,some os=>some (vwO rf g o::os)
  | _,_=>none
theorem zF4 {σ : St}{rf:Bool→Nat→Nat→A}{g:Nat→Option Nat}:∀{js:List Nat} {σ':St},zUT σ rf g js=some σ'→yQ σ rf g js σ'
 | [],σ',h=>by cases h; trivial
 | j::js,σ',h=>by
  simp only[zUT]at h;split at h<;>try (cases h; done)
  rename_i o os h1 h2;cases h;simp only[yQ,h1];exact⟨.inl trivial,zF4 h2⟩
mutual
theorem qBK {rf:Bool→Nat→Nat→A}{g:Nat→Option Nat}:∀(a:A),a.bnd 0=true→vw rf g a=a
 | .any,_=>rfl
 | .nil,_=>rfl
 | .lit _,_=>rfl
 | .agg cs,h=>by simp only[A.bnd]at h; simp only[vw,zG0 cs h]
 | .tup cs,h=>by simp only[A.bnd]at h; simp only[vw,zG0 cs h]
 | .sl n cs,h=>by simp only[A.bnd]at h; simp only[vw,zG0 cs h]
 | .fsl n cs,h=>by simp only[A.bnd]at h; simp only[vw,zG0 cs h]
 | .rptr cs,h=>by simp only[A.bnd]at h; simp only[vw,zG0 cs h]
 | .ptr l o,h=>by simp[A.bnd]at h
 | .row l n,h=>by simp[A.bnd]at h
 | .rwp l n o,h=>by simp[A.bnd]at h
 | .win l n o k c,h=>by simp[A.bnd]at h
 | .map l,h=>by simp[A.bnd]at h
 | .clo f fs cs,h=>by simp only[A.bnd,jA4]at h; simp only[vw,zG0 fs h.1,zG0 cs h.2]
theorem zG0 {rf:Bool→Nat→Nat→A}{g:Nat→Option Nat}:∀(cs:List A),zBq 0 cs=true→vwL rf g cs=cs
 | [],_=>rfl
 | c::cs,h=>by simp only[zBq,jA4]at h; simp only[vwL,qBK c h.1,zG0 cs h.2]
end
theorem zHH {js:List Nat}:∀{xs:List A},zBB js xs (xs.map (vw jL (zX js)))
 | []=>trivial
 | _::_=>⟨.inl rfl,zHH⟩
abbrev Run:=FuncId→List A→St→Option (A×St)
def zVJ (R:Run):Run:=fun f xs σ =>
 let js:=zF1 (fun _ _=>true) σ 1000 (lvL xs) []
 match zUT σ jL (zX js) js with
 | some σ0=>match R f (xs.map (vw jL (zX js))) σ0 with
  | some (r,σ1)=>bif zFw js then some (ren js σ.length r,qO σ js (σ1.map (zAN js σ.length))) else none
  | none=>none
 | none=>none
theorem zVK {R:Run}(hR:zBM P R):zBM P (zVJ R):=by
 intro f xs σ r σ' h;simp only[zVJ]at h;generalize zF1 _ _ _ _ _=js at h;split at h<;>try (cases h; done)
 rename_i σ0 h0;split at h<;>try (cases h; done)
 rename_i r0 σ1 h1;cases hd:zFw js
 ·rw[hd]at h; cases h
 ·rw[hd]at h;cases h;obtain⟨h2,h3⟩:=hR _ _ _ _ _ h1;exact⟨h2,zAZ h3 js (zDw hd) (zF4 h0) zHH ⟨rfl,rfl⟩⟩
def zVO (R:Run):FuncId→List A→Option A:=fun f xs=>match R f (xs.map (vw jL (zX []))) []with
 | some (r,[])=>bif r.bnd 0 then some r else none
 | _=>none
def zWV:AObj→Bool
 | .rsv=>true
 | _=>false
def zVL (R:Run):FuncId→List A→Nat→Option (A×St):=fun f xs n=>match R f (xs.map (vw jL (zX []))) []with
 | some (r,σ1)=>bif σ1.any zWV then none else some (ren [] n r,σ1.map (zAN [] n))
 | none=>none
theorem zVP {R:Run}(hR:zBM P R):zFI P (zVO R,zVL R):=by
 refine⟨fun f xs r h=>?_,fun f xs n r own h=>?_⟩
 ·simp only[zVO]at h;split at h<;>try (cases h; done)
  rename_i r0 h1;cases hb:r0.bnd 0
  ·rw[hb]at h; cases h
  ·rw[hb]at h;cases h;obtain⟨h2,h3⟩:=hR _ _ _ _ _ h1;refine⟨h2,fun τ=>?_⟩;refine zAZ h3 [] (by simp) trivial zHH ⟨?_,by simp[qO]⟩;simp only[ren,qBK r hb]
 ·simp only[zVL]at h;split at h<;>try (cases h; done)
  rename_i r0 σ1 h1;cases hb : σ1.any zWV
  ·rw[hb]at h;cases h;obtain⟨h2,h3⟩:=hR _ _ _ _ _ h1;refine⟨h2,fun o ho=>?_,fun τ hl=>?_⟩
   ·obtain⟨o',ho',rfl⟩:=jAn.1 ho;rw[List.any_eq_false]at hb;have:=hb o' ho';cases o'<;>simp[zAN,vwO,zWV]at this ⊢
   ·subst hl;exact zAZ h3 [] (by simp) trivial zHH ⟨rfl,by simp[qO]⟩
  ·rw[hb]at h; cases h
def evG (C:Run)(g:KG)(l:List (Nat×A)) (σ : St):Option (List (Nat×A)×St):=match g.guard with
 | none=>(match evO C g.op (lkB l) σ with
  | some (r,σ')=>some (zOs g.op.dst r l,σ')
  | none=>none)
 | some (s,want)=>match lkB l s with
  | .lit (.bool b)=>bif b==want then (match evO C g.op (lkB l) σ with
   | some (r,σ')=>some (zOs g.op.dst r l,σ')
   | none=>none) else some (zOs g.op.dst (.lit undef) l,σ)
  | .lit (.tuple _)=>some (zOs g.op.dst (.lit undef) l,σ)
  | _=>none
def zSK (C:Run):List KG→List (Nat×A)→St→Option (List (Nat×A)×St)
 | [],l,σ=>some (l,σ)
 | g::gs,l,σ=>match evG C g l σ with
  | some (l',σ')=>zSK C gs l' σ'
  | none=>none
def qCS (C:Run)(C0:Cl0)(f:Nat)(g:KG)(l:List (Nat×A)) (σ : St):Option (List (Nat×A)×St):=bif zZN f g.op (lkB l) then (match g.guard with
 | none=>(match zSJ C C0 f g.op (lkB l) σ with
  | some (r,σ')=>some (zOs g.op.dst r l,σ')
  | none=>none)
 | some (s,want)=>match lkB l s with
  | .lit (.bool b)=>bif b==want then (match zSJ C C0 f g.op (lkB l) σ with
   | some (r,σ')=>some (zOs g.op.dst r l,σ')
   | none=>none) else some (zOs g.op.dst (.lit undef) l,σ)
  | .lit (.tuple _)=>some (zOs g.op.dst (.lit undef) l,σ)
  | _=>none) else none
def zYL (C:Run)(C0:Cl0):List (Nat×Nat×KG)→List (Nat×A)→St→Option (List (Nat×A)×St)
 | [],l,σ=>some (l,σ)
 | x::gs,l,σ=>match qCS C C0 x.2.1 x.2.2 l σ with
  | some (l',σ')=>zYL C C0 gs l' σ'
  | none=>none
abbrev Res:=Option (Ex×List (Nat×A)×St)
def zSZ (f:List (Nat×A)→St→Res):Nat→List (Nat×A)→St→Res
 | 0,_,_=>none
 | n+1,l,σ=>match f l σ with
  | some (.norm,l',σ')=>zSZ f n l' σ'
  | r=>r
def qD0:List (Nat×Nat×KG)→Nat
 | []=>0
 | x::l=>match x.2.2.op with
  | .alr _ q _=>max (q+1) (qD0 l)
  | _=>qD0 l
def qLg:K→Nat
 | .dops l=>qD0 l
 | _=>0
def qJx:K→Bool
 | .wk _=>true
 | _=>false
def qBb:List (Nat×A)→List Nat→List Nat
 | [],acc=>acc
 | p::l,acc=>qBb l (bif zRA p.1 acc then acc else p.1::acc)
def zOj (n0:Nat) (σ : St)(i:Nat):List AObj→List Nat
 | []=>[]
 | o::os=>bif (match o with | .row ..=>Nat.blt i n0 | _=>true) then i::zOj n0 σ (i+1) os else zOj n0 σ (i+1) os
def zFh:Nat→List Nat→Bool
 | 0,_=>true
 | _+1,[]=>false
 | n+1,l=>go 0 (n+1) l
where go:Nat→Nat→List Nat→Bool
 | _,0,_=>true
 | _,_+1,[]=>false
 | i,n+1,x::l=>Nat.beq x i&&go (i+1) n l
theorem zMD:∀{n i:Nat} {l:List Nat},zFh.go i n l=true→∀j,j<n→l[j]?=some (i+j)
 | 0,i,l,_,j,hj=>by omega
 | n+1,i,[],h,j,hj=>by simp[zFh.go]at h
 | n+1,i,x::l,h,j,hj=>by
  simp only[zFh.go,jA4]at h;have hx:=jD0 h.1;cases j with
  | zero=>simp[hx]
  | succ j=>rw[jBb,zMD h.2 j (by omega)]; simp; omega
theorem zIc {n:Nat}{l:List Nat}(h:zFh n l=true):∀j,j<n→l[j]?=some j:=by
 cases n with
 | zero=>intro j hj; omega
 | succ n =>
  cases l with
  | nil=>simp[zFh]at h
  | cons x l=>intro j hj; simpa using zMD (i:=0) h j hj
def qDe (n0:Nat)(l:List (Nat×A)) (σ : St):Option (List (Nat×A)×St) :=
 let ks:=zOj n0 σ 0 σ
 bif zFw ks&&zFh n0 ks then (match zUT σ (seen σ (zX ks) 8) (zX ks) ks with
  | some σ'=>some ((qBb l []).map fun t=>(t,vw (seen σ (zX ks) 8) (zX ks) (lkB l t)),σ')
  | none=>none) else none
def evK (C:Run)(C0:Cl0)(n0 lf:Nat):K→List (Nat×A)→St→Res
 | .skip,l,σ=>some (.norm,l,σ)
 | .seq a b,l,σ=>match evK C C0 n0 lf a l σ with
  | some (.norm,l',σ')=>evK C C0 n0 lf b l' σ'
  | r=>r
 | .cond c a b,l,σ=>match ev (lkB l) c with
  | .lit (.bool t)=>bif t then evK C C0 n0 lf a l σ else evK C C0 n0 lf b l σ
  | _=>none
 | .block id b,l,σ=>match evK C C0 n0 lf b l σ with
  | some (.exit i,l',σ')=>bif Nat.beq i id then some (.norm,l',σ') else some (.exit i,l',σ')
  | r=>r
 | .loop b,l,σ=>zSZ (evK C C0 n0 lf b) lf l σ
 | .exit id,l,σ=>some (.exit id,l,σ)
 | .ret,l,σ=>some (.ret,l,σ)
 | .ops gs,l,σ=>match zSK C gs l σ with
  | some (l',σ')=>some (.norm,l',σ')
  | none=>none
 | .dops xs,l,σ=>match zYL C C0 xs l σ with
  | some (l',σ')=>some (.norm,l',σ')
  | none=>none
 | .rng ..,_,_=>none
 | .wk b,l,σ=>bif qJx b then (match qDe n0 l σ with
  | some (l',σ')=>evK C C0 n0 lf b l' σ'
  | none=>none) else evK C C0 n0 lf b l (σ++List.replicate (qLg b - σ.length) .rsv)
theorem zTY {C:Run}(hC:zBM P C){g:KG}{l l':List (Nat×A)} {σ σ':St}(h:evG C g l σ = some (l',σ')){Qp:Value→Env→St→Prop}{K:Env→St→Prop}(hK:K (qG l') σ'):wpG P Qp K g (qG l) σ:=by
 unfold evG at h;unfold wpG;rw[zJe]at h;split at h
 ·rename_i hg;split at h<;>try (cases h; done)
  rename_i r τ h1;cases h;simp only[hg];exact zIV hC h1 (by rw[←zEk]; exact hK)
 ·rename_i s want hg;simp only[hg];split at h
  ·rename_i b hb;rw[hb];simp only;cases hw:b==want
   ·rw[hw]at h;cases h;exact⟨fun e=>(by cases e),fun _=>(by rw[zGy,←zEk]; exact hK)⟩
   ·rw[hw]at h;simp only[cond_true]at h;split at h<;>try (cases h; done)
    rename_i r τ h1;cases h;exact⟨fun _=>zIV hC h1 (by rw[←zEk]; exact hK),fun e=>(by cases e)⟩
  ·rename_i hb;cases h;rw[hb];simp only[zGy,←zEk];exact hK
  ·cases h
theorem zJD {C:Run}(hC:zBM P C){Qp:Value→Env→St→Prop}{K:Env→St→Prop}:∀{gs:List KG} {l l':List (Nat×A)} {σ σ':St},zSK C gs l σ = some (l',σ')→K (qG l') σ'→zCC P Qp K gs (qG l) σ
 | [],l,l',σ,σ',h,hK=>by cases h; exact hK
 | g::gs,l,l',σ,σ',h,hK=>by
  simp only[zSK]at h;split at h<;>try (cases h; done)
  rename_i l1 σ1 h1;exact zTY hC h1 (zJD hC h hK)
theorem zRp {C:Run}(hC:zBM P C){C0:Cl0}(hC0:zFI P C0){f:Nat}{g:KG}{l l':List (Nat×A)} {σ σ':St}(h:qCS C C0 f g l σ = some (l',σ')){Qd:Value→St→Prop}{K:Env→St→Prop}(hK:K (qG l') σ') :
 zBg f g.op (qG l)∧zSx P Qd f K g (qG l) σ:=by
 unfold qCS at h;unfold zSx;rw[zJe]at h;cases ht:zZN f g.op (qG l)
 ·rw[ht]at h; cases h
 ·refine⟨zSp ht,?_⟩;rw[ht]at h;simp only[cond_true]at h;split at h
  ·rename_i hg;split at h<;>try (cases h; done)
   rename_i r τ h1;cases h;simp only[hg];exact zJC hC hC0 h1 (by rw[←zEk]; exact hK)
  ·rename_i s want hg;simp only[hg];split at h
   ·rename_i b hb;rw[hb];simp only;cases hw:b==want
    ·rw[hw]at h;cases h;exact⟨fun e=>(by cases e),fun _=>(by rw[zGy,←zEk]; exact hK)⟩
    ·rw[hw]at h;simp only[cond_true]at h;split at h<;>try (cases h; done)
     rename_i r τ h1;cases h;exact⟨fun _=>zJC hC hC0 h1 (by rw[←zEk]; exact hK),fun e=>(by cases e)⟩
   ·rename_i hb;cases h;rw[hb];simp only[zGy,←zEk];exact hK
   ·cases h
theorem zKU {C:Run}(hC:zBM P C){C0:Cl0}(hC0:zFI P C0){Qd:Value→St→Prop}{K:Env→St→Prop}:∀{gs:List (Nat×Nat×KG)} {l l':List (Nat×A)} {σ σ':St},zYL C C0 gs l σ = some (l',σ')→K (qG l') σ'→wpD P Qd K gs (qG l) σ
 | [],l,l',σ,σ',h,hK=>by cases h; exact hK
 | g::gs,l,l',σ,σ',h,hK=>by
  simp only[zYL]at h;split at h<;>try (cases h; done)
  rename_i l1 σ1 h1;exact zRp hC hC0 h1 (zKU hC hC0 h hK)
theorem zXY {env:Env} {σ : St}:zA7 n0 env (σ++[AObj.rsv]) env σ:=by
 intro H0 L0 w0 H L w N tmps h0 h1 h2;have hll:=LLe.append L [(⟨none,0,0,false⟩:LI)];refine⟨H,L++[(⟨none,0,0,false⟩:LI)],h1.trans ?_,h2.mono (HLe.refl _) hll⟩;have hs:=h1.st;refine⟨⟨hs.pers,by simp[hs.len],fun i l o hL hσ=>?_,fun i j x y b hi hj hx hy=>?_,fun i x b hi hx=>?_⟩,Step.refl _ _ _,hll,fun b ⟨i,x,hi,hx⟩=>?_⟩
 ·rcases jH hL with hL' | ⟨rfl,rfl⟩
  ·have hi:i<L.length:=(jA1.1 hL').1;rw[jAd (by rw[←hs.len]; exact hi)]at hσ;exact(hs.obj i l o hL' hσ).carry (fun _ _=>rfl) (HLe.refl _) hll (fun _ _ _=>rfl)
  ·rw[hs.len]at hσ;rw[jAr (jA _)]at hσ;simp only[jC1,jAz,jA0]at hσ;subst hσ;exact⟨rfl,rfl⟩
 ·rcases jH hi with hi' | ⟨rfl,rfl⟩
  ·rcases jH hj with hj' | ⟨rfl,rfl⟩
   ·exact hs.inj i j x y b hi' hj' hx hy
   ·cases hy
  ·cases hx
 ·rcases jH hi with hi' | ⟨rfl,rfl⟩
  ·exact hs.lt i x b hi' hx
  ·cases hx
 ·rcases jH hi with hi' | ⟨rfl,rfl⟩
  ·exact .inl ⟨i,x,hi',hx⟩
  ·cases hx
theorem yW {env:Env}:∀(n:Nat) {σ : St},zA7 n0 env (σ++List.replicate n AObj.rsv) env σ
 | 0,σ=>by simpa using zA7.refl n0 env σ
 | n+1,σ=>by
  have:=(zXY (n0:=n0) (env:=env) (σ:=σ)).trans (yW n);rw[List.replicate_succ]
  simpa using this
theorem zRx {l l':List (Nat×A)} {σ σ':St}(h:qDe n0 l σ = some (l',σ')):zA7 n0 (qG l') σ' (qG l) σ:=by
 simp only[qDe]at h;generalize zOj n0 σ 0 σ = ks at h;cases hb:zFw ks&&zFh n0 ks
 ·rw[hb]at h; cases h
 ·rw[hb]at h;simp only[jA4]at hb;simp only[cond_true]at h;split at h<;>try (cases h; done)
  rename_i σ1 h1;cases h;refine zA7.sel ks 8 _ (zIc hb.2) (zDw hb.1) (zF4 h1) fun p hp=>?_
  obtain⟨t,_,rfl⟩:=jAn.1 hp;left;simp only[zJe]
theorem zAX {C:Run}(hC:zBM P C){C0:Cl0}(hC0:zFI P C0){lf:Nat}:∀(k:K) {l l':List (Nat×A)} {σ σ':St} {x:Ex} {Q:Ex→Env→St→Prop},evK C C0 n0 lf k l σ = some (x,l',σ')→Q x (qG l') σ'→wpK P n0 k Q (qG l) σ
 | .skip,l,l',σ,σ',x,Q,h,hQ=>by cases h; exact hQ
 | .seq a b,l,l',σ,σ',x,Q,h,hQ=>by
  simp only[evK]at h;simp only[wpK];split at h
  ·rename_i l1 σ1 h1;exact zAX hC hC0 a h1 (zAX hC hC0 b h hQ)
  ·rename_i r hr;refine zAX hC hC0 a h ?_;cases x<;>first | exact(hr _ _ h).elim | exact hQ
 | .cond c a b,l,l',σ,σ',x,Q,h,hQ=>by
  simp only[evK,zJe]at h;simp only[wpK];split at h<;>try (cases h; done)
  rename_i t ht;rw[ht];simp only;cases t
  ·exact⟨fun e=>(by cases e),fun _=>zAX hC hC0 b h hQ⟩
  ·exact⟨fun _=>zAX hC hC0 a h hQ,fun e=>(by cases e)⟩
 | .block id b,l,l',σ,σ',x,Q,h,hQ=>by
  simp only[evK]at h;simp only[wpK];split at h
  ·rename_i i l1 σ1 h1;refine zAX hC hC0 b h1 ?_;simp only[blk];cases hb:Nat.beq i id
   ·rw[hb]at h;cases h;have:i≠id:=fun e=>by subst e; simp at hb
    rw[if_neg this];exact hQ
   ·rw[hb]at h;cases h;rw[if_pos (jD0 hb)];exact hQ
  ·rename_i r hr;refine zAX hC hC0 b h ?_;cases x<;>first | exact(hr _ _ _ h).elim | exact hQ
 | .loop b,l,l',σ,σ',x,Q,h,hQ=>by
  simp only[evK]at h;simp only[wpK];refine⟨fun n env τ=>∃l0,env=qG l0∧zSZ (evK C C0 n0 lf b) n l0 τ = some (x,l',σ'),⟨lf,Wk.here ⟨l,rfl,h⟩⟩,?_⟩;rintro n env τ ⟨l0,rfl,h0⟩;cases n with
  | zero=>cases h0
  | succ n =>
   simp only[zSZ]at h0;split at h0
   ·rename_i l1 σ1 h1;refine zAX hC hC0 b h1 ?_;exact⟨n,Nat.lt_succ_self n,Wk.here ⟨l1,rfl,h0⟩⟩
   ·rename_i r hr;refine zAX hC hC0 b h0 ?_;cases x<;>first | exact(hr _ _ h0).elim | exact hQ
 | .exit id,l,l',σ,σ',x,Q,h,hQ=>by cases h; exact hQ
 | .ret,l,l',σ,σ',x,Q,h,hQ=>by cases h; exact hQ
 | .ops gs,l,l',σ,σ',x,Q,h,hQ=>by
  simp only[evK]at h;simp only[wpK];split at h<;>try (cases h; done)
  rename_i l1 σ1 h1;cases h;exact zJD hC h1 hQ
 | .dops gs,l,l',σ,σ',x,Q,h,hQ=>by
  simp only[evK]at h;simp only[wpK];split at h<;>try (cases h; done)
  rename_i l1 σ1 h1;cases h;exact zKU hC hC0 h1 hQ
 | .rng ..,l,l',σ,σ',x,Q,h,hQ=>by simp[evK]at h
 | .wk b,l,l',σ,σ',x,Q,h,hQ=>by
  simp only[evK]at h;simp only[wpK];cases hb:qJx b
  ·rw[hb]at h;exact Wk.by (yW _) (Wk.here (zAX hC hC0 b h hQ))
  ·rw[hb]at h;simp only[cond_true]at h;split at h<;>try (cases h; done)
   rename_i l1 σ1 h1;exact Wk.by (zRx h1) (Wk.here (zAX hC hC0 b h hQ))
structure Entry where
 k:K
 rs:List RS
 frz:Bool
def zK3:Nat→List A→List (Nat×A)
 | _,[]=>[]
 | i,a::xs=>(i,a)::zK3 (i+1) xs
theorem zMu:∀{xs:List A} {i t:Nat},qG (zK3 i xs) t=.any∨(i≤t∧xs[t-i]?=some (qG (zK3 i xs) t))
 | [],i,t=>.inl rfl
 | a::xs,i,t=>by
  simp only[zK3,qG];split
  ·rename_i h; subst h; exact .inr ⟨jA _,by simp⟩
  ·rcases zMu (xs:=xs) (i:=i+1) (t:=t)with h | ⟨h1,h2⟩
   ·exact .inl h
   ·refine .inr ⟨by omega,?_⟩;have:t-i=(t-(i+1))+1:=by omega
    rw[this]
    simpa using h2
def qBl:Ex→Bool
 | .ret | .norm=>true
 | _=>false
def zJO (frz:Bool)(n0:Nat)(r:A) (σ : St):Option (A×St) :=
 let k0:=List.range n0;let k1:=zF1 (fun _ _=>true) σ 1000 (lvO (.box ((σ.take n0).map fun o=>.agg ((lvO o).map fun l=>.map l)))) k0;let ks:=zF1 (fun _ o=>bif frz then (match o with | .row ..=>false | _=>true) else true) σ 1000 (lvA r) k1
 bif zFw ks&&zFh n0 ks then (match zUT σ (seen σ (zX ks) 8) (zX ks) ks with
  | some σ1=>some (vw (seen σ (zX ks) 8) (zX ks) r,σ1)
  | none=>none) else none
theorem zPP {frz:Bool}{r r1:A} {σ σ1:St}(h:zJO frz n0 r σ = some (r1,σ1)):zHe n0 r1 σ1 (.ret r) σ:=by
 simp only[zJO]at h;generalize zF1 _ σ 1000 (lvA r) _=ks at h;cases hb:zFw ks&&zFh n0 ks
 ·rw[hb]at h; cases h
 ·rw[hb]at h;simp only[jA4]at hb;simp only[cond_true]at h;split at h<;>try (cases h; done)
  rename_i σ2 h1;cases h;exact⟨r,ks,8,rfl,zIc hb.2,zDw hb.1,zF4 h1,.inl rfl⟩
def findTb (f:Nat):List (Nat×Entry)→Option Entry
 | []=>none
 | p::l=>bif Nat.beq f p.1 then some p.2 else findTb f l
def zUQ (T:List (Nat×Entry))(orc:Run)(lf:Nat):Nat→Run
 | 0=>fun _ _ _=>none
 | n+1=>fun f xs σ=>match findTb f T with
  | none=>orc f xs σ
  | some e=>match evK (zVJ (zUQ T orc lf n)) (zVO (zUQ T orc lf n),zVL (zUQ T orc lf n)) σ.length lf e.k (zK3 0 xs) σ with
   | some (x,l,σ')=>bif qBl x then (match zSe (lkB l) σ' e.rs with
    | some r=>zJO e.frz σ.length r σ'
    | none=>none) else none
   | none=>none
def zCd (P:Program)(f:FuncId)(e:Entry):Prop :=
 zB P f=true∧∃fn c hint,P.funcs[f]?=some fn∧fn.body=some c∧qD P fn.ntmps hint c=some e.k.erase∧zCi P fn.results.toList=some e.rs
theorem zNF {hint:Nat→Option (List (Nat×Nat))}{f:FuncId}{fn:Func}{c:Code}{k:K}{rs:List RS}(hf:P.funcs[f]?=some fn)(hb:fn.body=some c)(hc:qD P fn.ntmps hint c=some k.erase)(hr:zCi P fn.results.toList=some rs)
 {args:List A} {σ : St}{Q:Out→St→Prop}(h:wpK P σ.length k (fin rs Q) (qG (zK3 0 args)) σ):zAk P f args σ Q:=by
 refine zDq (k:=.wk k) hf hb hc hr ?_;unfold wpF;simp only[wpK];refine Wk.by (env':=qG (zK3 0 args)) (σ':=σ) ?_ (Wk.here h);intro H0 L0 w0 H L w N tmps _ h1 h2;refine⟨H,L,h1,h2.1,fun t=>?_⟩;rcases zMu (xs:=args) (i:=0) (t:=t)with e | ⟨_,e⟩
 ·rw[e]; simp[Rel]
 ·have:=h2.2 t;simp only[zCz,List.getD]at this;rw[Nat.sub_zero]at e;rw[e]at this;exact this
theorem zTt {T:List (Nat×Entry)}{orc:Run}{lf:Nat}(hT:∀f e,findTb f T=some e→zCd P f e)(hO:zBM P orc):∀n,zBM P (zUQ T orc lf n)
 | 0=>fun f xs σ r σ' h=>(by cases h)
 | n+1=>fun f xs σ r σ' h=>by
  have ih:=zTt (lf:=lf) hT hO n;simp only[zUQ]at h;split at h
  ·exact hO _ _ _ _ _ h
  ·rename_i e he;obtain⟨hcal,fn,c,hint,h1,h2,h3,h4⟩:=hT _ _ he;refine⟨hcal,?_⟩;split at h<;>try (cases h; done)
   rename_i x l σ1 h5;cases hx:qBl x
   ·rw[hx]at h; cases h
   ·rw[hx]at h;simp only[cond_true]at h;split at h<;>try (cases h; done)
    rename_i r0 h6;refine zF2 (zNF h1 h2 h3 h4 (zAX (zVK ih) (zVP ih) e.k h5 ?_));have hq:=zPP h;rw[zJe]at h6;cases x<;>first | (cases hx; done) | (simp only[fin,zKj,h6]; exact hq)
end
end Go.Abs
namespace Go.Abs
section
variable {d:Option Nat}{x v:Operand}{n f:Nat}{g:Bool}{env:Env} {σ : St}
@[simp] theorem qKV (h1:1000≤f)(h2:f<2000):zBg f (.st d x v n) env=zFs (f-1000) (ev env x):=propext (zO4 h1 h2)
@[simp] theorem qKS (h1:2000≤f)(h2:f<4000):zBg f (.ld d x n g) env=zB8 (f-2000) (ev env x):=propext (zGI h1 h2)
@[simp] theorem zZg {c l o:Nat}:zFs c (.ptr l o)=(l<c):=rfl
@[simp] theorem zZf {c l o:Nat}:zB8 c (.ptr l o)=(c≤l):=rfl
@[simp] theorem qKD (h1:2<f):zDf f σ = σ:=by unfold zDf; rw[if_neg (by omega),if_neg (by omega)]
@[simp] theorem qKT {o:KOp}(h1:6<f)(h2:f<1000):zBg f o env=True:=by
 unfold zBg;split
 ·omega
 ·omega
 ·rw[if_neg (by omega),if_neg (by omega),if_neg (by omega)]
end
section
variable {n0:Nat}{env:Env} {σ : St}
theorem zLW {l nk:Nat}{fr:Bool}{es:List (List Int×A)}(hl : σ[l]?=some (.mp fr nk es)):zA7 n0 env (σ.set l (.mp false nk es)) env σ:=by
 intro H0 L0 w0 H L w N tmps h0 h1 h2;have hs:=zJp (o':=.mp false nk es) h1.st hl (fun li hob=>by simp only[zN]at hob ⊢;obtain⟨g0,b,ents,ck,g1,g2,g3,_,g5⟩:=hob;exact⟨g0,b,ents,ck,g1,g2,g3,(fun h=>by cases h),g5⟩)
 exact⟨H,L,⟨hs,h1.step,h1.lle,h1.own⟩,h2⟩
theorem zYa {t l m sz:Nat}{fz:Bool}{e:TypeId}{cs:List A}(ht:env t=.row l m)(hl : σ[l]?=some (.row fz e sz m cs)):zA7 n0 (env.put (some t) (.win l m 0 m sz)) σ env σ:=by
 intro H0 L0 w0 H L w N tmps h0 h1 h2;refine⟨H,L,h1,h2.1,fun x=>?_⟩;simp only[zZ5];split
 ·rename_i hx;subst hx;have hr:=h2.2 x;rw[ht]at hr;simp only[Rel]at hr ⊢;obtain⟨g0,li,e1,e2,e3,hv⟩:=hr;refine⟨g0,li,e1,e2,e3,fun hn=>⟨jA _,?_⟩⟩;have hob:=h1.st.obj l li _ e1 hl;simp only[zN]at hob;obtain⟨_,_,_,hob⟩:=hob;rw[hv hn];rcases hob with ⟨hb,hz⟩ | ⟨b,cur,hb,_,k1,k2,_⟩
  ·rw[hb];exact⟨none,0,by rw[hz],by omega,jB _,.inl rfl⟩
  ·rw[hb];exact⟨_,_,rfl,k1,k2,.inr ⟨b,rfl,rfl,by simp⟩⟩
 ·exact h2.2 x
theorem zX1 {H:Mem}{L:List LI}{w:World}(hs:RelSt H L σ w){l:Nat}{o o':AObj}(hl : σ[l]?=some o)(h:∀li,L[l]?=some li→zN H L w li o→zN H L w li o'):RelSt H L (σ.set l o') w:=by
 refine⟨hs.pers,by simp[hs.len],fun i x p hL hp=>?_,hs.inj,hs.lt⟩;by_cases hi:i=l
 ·subst hi;rw[jAj (jA1.1 hl).1]at hp;cases hp;exact h x hL (hs.obj i x o hL hl)
 ·rw[jA8 (Ne.symm hi)]at hp;exact hs.obj i x p hL hp
theorem qD8 {H:Mem}{L:List LI}{w:World}(hs:RelSt H L σ w){l n sz:Nat}{li:LI}{e:TypeId}{cs:List A}(hL:L[l]?=some li)(hr:li.isRow=true)(hσ : σ[l]?=some (.row false e sz n cs)) :
 Nxt H L w H (L.set l ⟨none,0,li.len+1,true⟩++[li]) (σ.set l .dead++[AObj.row false e sz n cs]) w:=by
 have hll:=(zEg (li':=(⟨none,0,li.len+1,true⟩:LI)) hL hr rfl (Nat.lt_succ_self _)).trans (LLe.append _ [li]);have hl:l<L.length:=(jA1.1 hL).1;have get:∀(i:Nat) x,(L.set l ⟨none,0,li.len+1,true⟩++[li])[i]?=some x→(i=l∧x.block=none)∨(i≠l∧L[i]?=some x)∨(i=L.length∧x=li):=by
  intro i x hx;rcases jH hx with hx | ⟨rfl,rfl⟩
  ·by_cases hi:i=l
   ·subst hi;rw[jAj hl]at hx;cases hx;exact .inl ⟨rfl,rfl⟩
   ·rw[jA8 (Ne.symm hi)]at hx;exact .inr (.inl ⟨hi,hx⟩)
  ·exact .inr (.inr ⟨by simp,rfl⟩)
 have hob:=hs.obj l li _ hL hσ;refine⟨⟨hs.pers,by simp[hs.len],fun i x o hx ho=>?_,fun i j x y b' hi hj hx hy=>?_,fun i x b' hi hx=>?_⟩,Step.refl _ _ _,hll,fun b' ⟨i,x,hi,hx⟩=>?_⟩
 ·rcases get i x hx with ⟨rfl,_⟩ | ⟨hi,hx'⟩ | ⟨rfl,rfl⟩
  ·rw[jAd (by rw[jBl,←hs.len]; exact hl),jAj (by rw[←hs.len]; exact hl)]at ho;cases ho;trivial
  ·rw[jAd (by rw[jBl,←hs.len]; exact(jA1.1 hx').1),jA8 (Ne.symm hi)]at ho;exact(hs.obj i x o hx' ho).carry (fun _ _=>rfl) (HLe.refl _) hll (fun _ _ _=>rfl)
  ·rw[hs.len,jAr (by simp)]at ho;simp only[jBl,jC1,jAz,jA0]at ho;subst ho;exact hob.carry (fun _ _=>rfl) (HLe.refl _) hll (fun _ _ _=>rfl)
 ·rcases get i x hi with ⟨_,h0⟩ | ⟨hi1,hi'⟩ | ⟨rfl,rfl⟩
  ·rw[h0]at hx; cases hx
  ·rcases get j y hj with ⟨_,h0⟩ | ⟨hj1,hj'⟩ | ⟨rfl,rfl⟩
   ·rw[h0]at hy; cases hy
   ·exact hs.inj i j x y b' hi' hj' hx hy
   ·exact(hi1 (hs.inj i l x _ b' hi' hL hx hy)).elim
  ·rcases get j y hj with ⟨_,h0⟩ | ⟨hj1,hj'⟩ | ⟨rfl,rfl⟩
   ·rw[h0]at hy; cases hy
   ·exact(hj1 (hs.inj j l y _ b' hj' hL hy hx)).elim
   ·rfl
 ·rcases get i x hi with ⟨_,h0⟩ | ⟨hi1,hi'⟩ | ⟨rfl,rfl⟩
  ·rw[h0]at hx; cases hx
  ·exact hs.lt i x b' hi' hx
  ·exact hs.lt l _ b' hL hx
 ·rcases get i x hi with ⟨_,h0⟩ | ⟨hi1,hi'⟩ | ⟨rfl,rfl⟩
  ·rw[h0]at hx; cases hx
  ·exact .inl ⟨i,x,hi',hx⟩
  ·exact .inl ⟨l,_,hL,hx⟩
theorem zZV {j o l n sz:Nat}{e:TypeId}{ds cs:List A}(hj : σ[j]?=some (.box ds))(ho:ds[o]?=some (.row l n))(hl : σ[l]?=some (.row false e sz n cs)) :
 zA7 n0 env ((σ.set l .dead).set j (.box (ds.set o (.row σ.length n)))++[AObj.row false e sz n cs]) env σ:=by
 intro H0 L0 w0 H L w N tmps h0 h1 h2;have hjl:j≠l:=fun e=>by subst e; rw[hj]at hl; cases hl
 have hjlt:j < σ.length:=(jA1.1 hj).1;have hllt:l < σ.length:=(jA1.1 hl).1;have hLl:L[l]?=some (L[l]'(by rw[h1.st.len]; exact hllt)):=jA2 _;generalize L[l]'(by rw[h1.st.len]; exact hllt)=li at hLl;have hob:=h1.st.obj l li _ hLl hl;have hrow:li.isRow=true:=by simp only[zN]at hob; exact hob.1
 have hn:=qD8 h1.st hLl hrow hl;have hj':(σ.set l .dead++[AObj.row false e sz n cs])[j]?=some (.box ds):=by rw[jAd (by rw[jBl]; exact hjlt),jA8 (Ne.symm hjl)];exact hj
 obtain⟨lj,hLj⟩:∃lj,L[j]?=some lj:=⟨_,jA2 (by rw[h1.st.len]; exact hjlt)⟩;have hbj:=h1.st.obj j lj _ hLj hj;simp only[zN]at hbj;obtain⟨_,b0,vs0,e0,p1,p2,p3,_⟩:=hbj;obtain⟨v0,hv0,hr0⟩:=p3.get ho;simp only[Rel]at hr0;obtain⟨q0,li',q1,q2,q3,q4⟩:=hr0;rw[hLl]at q1;cases q1;have hs:=zX1 (o':=.box (ds.set o (.row σ.length n))) hn.st hj' (fun lx hlx hob=>by
  have hlj:lx=lj:=by rw[jAd (by rw[jBl,h1.st.len]; exact hjlt),jA8 (Ne.symm hjl),hLj]at hlx;exact(jAs hlx).symm
  subst hlj;simp only[zN]at hob ⊢;obtain⟨g0,b,vs,e',g1,g2,g3,g4,g5⟩:=hob;rw[p1]at g1;cases g1;rw[p2]at g2;cases g2;refine⟨g0,b0,vs0,e0,p1,p2,?_,g4,g5⟩;have hset:vs0=vs0.set o v0:=by
   apply jC8;intro i;by_cases hi:i=o
   ·subst hi; rw[jAj (jA1.1 hv0).1,hv0]
   ·rw[jA8 (Ne.symm hi)]
  rw[hset];refine g3.set o ?_;simp only[Rel];exact⟨q0,li,by rw[←h1.st.len,jAr (by simp)]; simp,q2,q3,q4⟩)
 rw[List.set_append_left _ _ (by rw[jBl]; exact hjlt)]at hs;have hm:=h1.trans hn;exact⟨H,_,⟨hs,hm.step,hm.lle,hm.own⟩,h2.1,fun x=>Rel.mono (HLe.refl _) hn.lle _ (h2.2 x)⟩
end
end Go.Abs
namespace Go.Proofs.YtdnelmeboihpkaaGreatDoor
structure Edg where
 id:Id
 fro:Id
 to:Id
section
variable (L:List Edg)(to:Id)
def zBD:Nat→Id→List Id→List (List Id)
 | 0,at_,_=>if at_=to then [[]] else []
 | n+1,at_,met=>if at_=to then [[]] else L.flatMap fun e=>if e.fro=at_∧e.to∉met then (zBD n e.to (met++[e.to])).map (e.id::·) else []
inductive Rchs (met:List Id):Id→Prop
 | here:Rchs met to
 | step (e:Edg) (he:e∈L) (hn:e.to∉met) (h:Rchs met e.to):Rchs met e.fro
def zJJ (met:List Id):Nat:=(L.filter fun e=>decide (e.to∉met)).length
variable {L to}
theorem zE3 {met:List Id}{e:Edg}(he:e∈L)(hn:e.to∉met):zJJ L (met++[e.to])<zJJ L met:=by
 unfold zJJ;have h1:∀M:List Edg,(M.filter fun x=>decide (x.to∉met++[e.to])).length≤(M.filter fun x=>decide (x.to∉met)).length:=by
  intro M;induction M with
  | nil=>simp
  | cons x M ih =>
   rw[List.filter_cons,List.filter_cons];by_cases hx:x.to∈met
   ·simp[hx]; simpa using ih
   ·by_cases hx2:x.to=e.to
    ·simp[hx,hx2,hn];have:=ih;simp at this;omega
    ·simp[hx,hx2]
     simpa using ih
 induction L with
 | nil=>cases he
 | cons x M ih =>
  rw[List.filter_cons,List.filter_cons];rcases jA5.1 he with rfl | he
  ·have:=h1 M;simp[hn];simp at this;omega
  ·have:=ih he;by_cases hx:x.to∈met
   ·simp[hx]; simpa using this
   ·by_cases hx2:x.to=e.to
    ·simp[hx,hx2,hn];simp at this;omega
    ·simp[hx,hx2]
     simpa using this
theorem Rchs.mono {m m':List Id}(hs:∀x∈m',x∈m){x:Id}(h:Rchs L to m x):Rchs L to m' x:=by
 induction h with
 | here=>exact .here
 | step e he hn _ ih=>exact .step e he (fun h=>hn (hs _ h)) ih
theorem Rchs.last {m:List Id}(w:Id){x:Id}(h:Rchs L to m x):Rchs L to (m++[w]) x∨Rchs L to (m++[w]) w:=by
 induction h with
 | here=>exact .inl .here
 | step e he hn _ ih =>
  rcases ih with ih | ih
  ·by_cases hw:e.to=w
   ·exact .inr (hw▸ih)
   ·exact .inl (.step e he (by simp[hn,hw]) ih)
  ·exact .inr ih
theorem Rchs.own {m:List Id}{x:Id}(h:Rchs L to m x):Rchs L to (m++[x]) x:=(h.last x).elim id id
theorem zKS:∀(n:Nat) (at_:Id) (met:List Id),zJJ L met≤n→(zBD L to n at_ met≠[]↔Rchs L to met at_)
 | 0,at_,met,hn=>by
  unfold zBD;split
  ·rename_i h; subst h; simpa using Rchs.here
  ·rename_i h;refine⟨fun h=>(h rfl).elim,fun hr=>?_⟩;cases hr with
   | here=>exact(h rfl).elim
   | step e he hm _ =>
    have:=zE3 he hm;omega
 | n+1,at_,met,hn=>by
  unfold zBD;split
  ·rename_i h; subst h; simpa using Rchs.here
  ·rename_i h;constructor
   ·intro hne;have hx:∃x,x∈L.flatMap fun e=>if e.fro=at_∧e.to∉met then (zBD L to n e.to (met++[e.to])).map (e.id::·) else []:=List.exists_mem_of_ne_nil _ hne
    obtain⟨x,hx⟩:=hx;rw[List.mem_flatMap]at hx;obtain⟨e,he,hx⟩:=hx;split at hx
    ·rename_i hc;have hlt:=zE3 he hc.2;have:=(zKS n e.to (met++[e.to]) (by omega)).1 (fun h0=>by rw[h0]at hx; simp at hx);rw[←hc.1];exact .step e he hc.2 (this.mono (by simp +contextual))
    ·simp at hx
   ·intro hr h0;cases hr with
    | here=>exact h rfl
    | step e he hm hr =>
     have hlt:=zE3 he hm;have h1:=(zKS n e.to (met++[e.to]) (by omega)).2 hr.own;have h2:=(List.flatMap_eq_nil_iff.1 h0) e he;rw[if_pos ⟨rfl,hm⟩,List.map_eq_nil_iff]at h2;exact h1 h2
theorem zWA (m:List Id):zJJ L m≤L.length:=jD7 _ _
end
end Go.Proofs.YtdnelmeboihpkaaGreatDoor
namespace Go.Proofs.YtdnelmeboihpkaaGreatDoor
open Go.Abs
theorem zGC {x y:Id}:zA8 x y=true↔x.a<y.a∨(x.a=y.a∧(x.b<y.b∨(x.b=y.b∧x.c<y.c))):=by
 unfold zA8;split
 ·simp only[decide_eq_true_eq]; omega
 ·split
  ·simp only[decide_eq_true_eq]; omega
  ·simp only[decide_eq_true_eq]; omega
theorem zGD {x y:Id}:zA8 x y=false↔¬(x.a<y.a∨(x.a=y.a∧(x.b<y.b∨(x.b=y.b∧x.c<y.c)))):=by rw[←zGC]; simp
theorem zB9 (x:Id):zA8 x x=false:=by rw[zGD]; omega
theorem zJP {x y z:Id}(h:zA8 x y=true)(k:zA8 y z=true):zA8 x z=true:=by rw[zGC]at *; omega
theorem zDI {x y:Id}(h:zA8 x y=false)(k:zA8 y x=false):x=y:=by
 rw[zGD]at *
 rw[Id.eq_iff]; omega
theorem zRG {x y:Id}(h:zA8 x y=true):zA8 y x=false:=by rw[zGC]at h; rw[zGD]; omega
theorem zE0 {x y:Id}:zIN x y<0↔zA8 x y=true:=by
 rw[zGC];simp only[zIN,orI,zA5]
 repeat' split
 all_goals omega
theorem zDJ:Ord zIN where
 irrefl x:=by rw[zE0,zB9]; simp
 trans x y z h k:=by rw[zE0]at *; exact zJP h k
 ntrans x y z h k:=by
  rw[zE0,jB4]at *
  rw[zGD]at *; omega
 anti x y h k:=by
  rw[zE0,jB4]at *
  exact zDI h k
def SS (l:List Id):Prop:=l.Pairwise fun x y=>zA8 x y=true
theorem zE7 {x y:Id}:∀{l:List Id},y∈zDj l x↔y∈l∨y=x
 | []=>by simp[zDj]
 | z::l=>by
  simp only[zDj];split
  ·simp only[jA5,zE7 (l:=l),or_assoc]
  ·split
   ·rename_i h; subst h;simp only[jA5];constructor
    ·exact fun h=>.inl h
    ·rintro(h | h)
     ·exact h
     ·exact .inl h
   ·simp only[jA5];constructor
    ·rintro(h | h)
     ·exact .inr h
     ·exact .inl h
    ·rintro(h | h)
     ·exact .inr h
     ·exact .inl h
theorem zOd {x:Id}:∀{l:List Id},SS l→SS (zDj l x)
 | [],_=>by simp[zDj,SS]
 | z::l,h=>by
  have h':=jBq.1 h;simp only[zDj];split
  ·rename_i hz;refine jBq.2 ⟨fun y hy=>?_,zOd h'.2⟩;rcases zE7.1 hy with hy | rfl
   ·exact h'.1 y hy
   ·exact hz
  ·rename_i hz;split
   ·exact h
   ·rename_i hne;have hxz:zA8 x z=true:=by
     cases hh:zA8 x z with
     | true=>rfl
     | false=>exact(hne (zDI (by simpa using hz) hh)).elim
    refine jBq.2 ⟨fun y hy=>?_,h⟩;rcases jA5.1 hy with rfl | hy
    ·exact hxz
    ·exact zJP hxz (h'.1 y hy)
theorem zLb:∀{l acc:List Id},SS acc→SS (l.foldl zDj acc)
 | [],_,h=>h
 | _::l,_,h=>zLb (l:=l) (zOd h)
theorem zIW {y:Id}:∀{l acc:List Id},y∈l.foldl zDj acc↔y∈acc∨y∈l
 | [],_=>by simp
 | x::l,acc=>by simp only[jBe,zIW (l:=l),zE7,jA5,or_assoc]
theorem SS.unique:∀{l l':List Id},SS l→SS l'→(∀x,x∈l↔x∈l')→l=l'
 | [],[],_,_,_=>rfl
 | [],y::l',_,_,h=>by have:=(h y).2 (jAm ..); simp at this
 | x::l,[],_,_,h=>by have:=(h x).1 (jAm ..); simp at this
 | x::l,y::l',h1,h2,h=>by
  have p1:=jBq.1 h1;have p2:=jBq.1 h2;have hxy:x=y:=by
   rcases jA5.1 ((h x).1 (jAm ..))with e | e
   ·exact e
   ·rcases jA5.1 ((h y).2 (jAm ..))with e' | e'
    ·exact e'.symm
    ·have a:=p2.1 x e;have b:=p1.1 y e';rw[zRG b]at a; cases a
  subst hxy
  congr 1
  refine SS.unique p1.2 p2.2 fun z=>?_
  constructor
  ·intro hz;rcases jA5.1 ((h z).1 (jAg _ hz))with e | e
   ·have:=p1.1 z hz; subst e; rw[zB9]at this; cases this
   ·exact e
  ·intro hz;rcases jA5.1 ((h z).2 (jAg _ hz))with e | e
   ·have:=p2.1 z hz; subst e; rw[zB9]at this; cases this
   ·exact e
theorem zGH {α : Type}{motive:List α→Prop}(nil:motive [])(snoc:∀l y,motive l→motive (l++[y]))(l:List α):motive l:=by
 have h:∀r:List α,motive r.reverse:=fun r=>by
  induction r with
  | nil=>exact nil
  | cons a r ih=>rw[List.reverse_cons]; exact snoc _ _ ih
 have:=h l.reverse
 rwa [List.reverse_reverse]at this
def zQ9 (acc:List Id)(y:Id):List Id:=if acc.getLast?=some y then acc else acc++[y]
def zGW (l:List Id):List Id:=l.foldl zQ9 []
theorem zHk (l:List Id)(y:Id):zGW (l++[y])=zQ9 (zGW l) y:=by simp[zGW,jC9]
theorem zRh:∀(l:List Id),(zGW l).getLast?=l.getLast?:=by
 intro l;induction l using zGH with
 | nil=>rfl
 | snoc l y ih =>
  rw[zHk,zQ9];split
  ·rename_i h; rw[h]; simp
  ·simp
theorem zM3 {x:Id}(l:List Id):x∈zGW l↔x∈l:=by
 induction l using zGH with
 | nil=>simp[zGW]
 | snoc l y ih =>
  rw[zHk,zQ9];split
  ·rename_i h;have hy:y∈zGW l:=List.mem_of_getLast? h;simp only[ih,jAe,jAh];constructor
   ·exact .inl
   ·rintro(h | rfl)
    ·exact h
    ·exact ih.1 hy |> fun h=>h
  ·simp[ih]
theorem zVX (l:List Id)(h:l.Pairwise fun x y=>zA8 y x=false):SS (zGW l):=by
 induction l using zGH with
 | nil=>simp[zGW,SS]
 | snoc l y ih =>
  rw[jCs]at h;have hi:=ih h.1;rw[zHk,zQ9];split
  ·exact hi
  ·rename_i hne;unfold SS;rw[jCs];refine⟨hi,by simp,fun z hz y' hy'=>?_⟩;simp only[jAh]at hy';subst hy';have hzl:=(zM3 l).1 hz;have h1:=h.2.2 z hzl y' (by simp);cases hh:zA8 z y' with
   | true=>rfl
   | false =>
    exfalso;have e:=zDI hh h1;subst e;rw[zRh]at hne;have hl:l≠[]:=fun e=>by rw[e]at hzl; simp at hzl
    obtain⟨w,hw⟩:∃w,l.getLast?=some w:=⟨_,List.getLast?_eq_some_getLast hl⟩;have hwl:w∈l:=List.mem_of_getLast? hw;have h2:=h.2.2 w hwl z (by simp);have hwz:w=z∨zA8 w z=false:=by
     obtain⟨l',rfl⟩:∃l',l=l'++[w]:=List.getLast?_eq_some_iff.1 hw;rcases jAe.1 hzl with hz' | hz'
     ·have:=h.1;rw[jCs]at this;exact .inr (this.2.2 z hz' w (by simp))
     ·exact .inl (jAh.1 hz').symm
    have:w=z:=by
     rcases hwz with e | e
     ·exact e
     ·exact zDI e h2
    subst this;exact hne hw
def zXB (l:List Id):List Id:=zGW (zEm zIN l)
theorem zSm (l:List Id):(zEm zIN l).Perm l:=List.mergeSort_perm l _
theorem zO3 (l:List Id):(zEm zIN l).Pairwise fun x y=>zA8 y x=false:=by
 have h:=List.pairwise_mergeSort (le:=fun x y=>!decide (zIN y x<0)) (fun a b c h1 h2=>by simp only[jBd,decide_eq_false_iff_not]at *; exact zDJ.ntrans c b a h2 h1)
  (fun a b=>by
   simp only[jAu,jBd,decide_eq_false_iff_not];by_cases h:zIN b a<0
   ·exact .inr fun h'=>zDJ.irrefl _ (zDJ.trans _ _ _ h h')
   ·exact .inl h) l
 exact h.imp fun h=>by simp only[jBd,decide_eq_false_iff_not,zE0,jB4]at h;exact h
theorem zI2 {l:List Id}{x:Id}:x∈zXB l↔x∈l:=by rw[zXB,zM3,(zSm l).mem_iff]
theorem zO0 (l:List Id):SS (zXB l):=zVX _ (zO3 l)
theorem zZH (l:List Id):zXB l=l.foldl zDj [] :=
 SS.unique (zO0 l) (zLb (by simp[SS])) fun x=>by rw[zI2,zIW]; simp
@[simp] theorem qIL (d:Id):(zG d).take 3=zG d:=jAk (jA _)
@[simp] theorem qIM (d:Id):(zG d).length=3:=rfl
theorem zKQ (d:Id):qJ (zG d):=qJ.lit (qJ.lit (qJ.lit qJ.nil))
@[simp] theorem qF4 (d:Id):jF (zG d)=zG d:=(zKQ d).1
@[simp] theorem qNp (d:Id) {rf g}:vwL rf g (zG d)=zG d:=(zKQ d).2 _ _
def qIP (s:ByteArray):List A:=[.lit (.string s)]
def zAL (l:List ByteArray):List A:=l.flatMap qIP
theorem zRn (s:ByteArray):qJ (qIP s):=qJ.lit qJ.nil
theorem zB2 (l:List ByteArray):qJ (zAL l):=zBl zRn l
@[simp] theorem qB0 (l:List ByteArray):jF (zAL l)=zAL l:=(zB2 l).1
@[simp] theorem qGl {rf g}(l:List ByteArray):vwL rf g (zAL l)=zAL l:=(zB2 l).2 _ _
@[simp] theorem qC8 (l:List ByteArray):(zAL l).length=l.length:=by rw[zAL,zBU (k:=1) (fun _=>rfl),Nat.mul_one]
@[simp] theorem qC9:zAL []=[]:=rfl
inductive Typ where
 | mk (k:Int) (id:Id) (kids:List Typ)
def Typ.k:Typ→Int | .mk k _ _=>k
def Typ.id:Typ→Id | .mk _ d _=>d
def Typ.kids:Typ→List Typ | .mk _ _ l=>l
@[simp] theorem Typ.k_mk {k:Int}{i:Id}{l:List Typ}:(Typ.mk k i l).k=k:=rfl
@[simp] theorem Typ.id_mk {k:Int}{i:Id}{l:List Typ}:(Typ.mk k i l).id=i:=rfl
@[simp] theorem Typ.kids_mk {k:Int}{i:Id}{l:List Typ}:(Typ.mk k i l).kids=l:=rfl
mutual
def zJ3:Typ→A
 | .mk _ _ l=>.sl l.length (jY l)
def jY:List Typ→List A
 | []=>[]
 | t::l=>.lit (.int .i64 t.k)::.lit (.int .i64 t.id.a)::.lit (.int .i64 t.id.b)::.lit (.int .i64 t.id.c)::zJ3 t::jY l
end
theorem zVS (t:Typ):zJ3 t=.sl t.kids.length (jY t.kids):=by cases t; simp only[zJ3,Typ.kids]
def zM (t:Typ):List A:=[.lit (.int .i64 t.k),.lit (.int .i64 t.id.a),.lit (.int .i64 t.id.b),.lit (.int .i64 t.id.c),.sl t.kids.length (jY t.kids)]
theorem zD1 (l:List Typ):jY l=l.flatMap zM:=by
 induction l with
 | nil=>simp only[jY,List.flatMap_nil]
 | cons t l ih=>simp only[jY,jBi,ih,zVS,zM]; rfl
mutual
theorem zPb:∀t:Typ,nrm0 (zJ3 t)=zJ3 t∧∀rf g,vw rf g (zJ3 t)=zJ3 t
 | .mk k n l=>by have h:=yO l;simp only[zJ3];exact⟨by simp[h.1],fun rf g=>by simp[h.2]⟩
theorem yO:∀l:List Typ,qJ (jY l)
 | []=>by simp only[jY]; exact qJ.nil
 | v::l=>by have h:=zPb v;have h':=yO l;simp only[jY];exact⟨by simp[h.1,h'.1],fun rf g=>by simp[h.2,h'.2]⟩
end
theorem zKR (t:Typ):qJ (zM t):=qJ.lit (qJ.lit (qJ.lit (qJ.lit (qJ.sl (yO _) qJ.nil))))
inductive Exp where
 | mk (id:Id) (k n:Int) (ref:Id) (typ:Typ) (kids:List Exp) (names:List ByteArray)
def Exp.id:Exp→Id | .mk x _ _ _ _ _ _=>x
def Exp.k:Exp→Int | .mk _ x _ _ _ _ _=>x
def Exp.n:Exp→Int | .mk _ _ x _ _ _ _=>x
def Exp.ref:Exp→Id | .mk _ _ _ x _ _ _=>x
def Exp.typ:Exp→Typ | .mk _ _ _ _ x _ _=>x
def Exp.kids:Exp→List Exp | .mk _ _ _ _ _ x _=>x
def Exp.names:Exp→List ByteArray | .mk _ _ _ _ _ _ x=>x
@[simp] theorem Exp.id_mk {a:Id}{b c:Int}{d:Id}{e:Typ}{f:List Exp}{g:List ByteArray}:(Exp.mk a b c d e f g).id=a:=rfl
@[simp] theorem Exp.k_mk {a:Id}{b c:Int}{d:Id}{e:Typ}{f:List Exp}{g:List ByteArray}:(Exp.mk a b c d e f g).k=b:=rfl
@[simp] theorem Exp.n_mk {a:Id}{b c:Int}{d:Id}{e:Typ}{f:List Exp}{g:List ByteArray}:(Exp.mk a b c d e f g).n=c:=rfl
@[simp] theorem Exp.ref_mk {a:Id}{b c:Int}{d:Id}{e:Typ}{f:List Exp}{g:List ByteArray}:(Exp.mk a b c d e f g).ref=d:=rfl
@[simp] theorem Exp.typ_mk {a:Id}{b c:Int}{d:Id}{e:Typ}{f:List Exp}{g:List ByteArray}:(Exp.mk a b c d e f g).typ=e:=rfl
@[simp] theorem Exp.kids_mk {a:Id}{b c:Int}{d:Id}{e:Typ}{f:List Exp}{g:List ByteArray}:(Exp.mk a b c d e f g).kids=f:=rfl
@[simp] theorem Exp.names_mk {a:Id}{b c:Int}{d:Id}{e:Typ}{f:List Exp}{g:List ByteArray}:(Exp.mk a b c d e f g).names=g:=rfl
mutual
def zJ2:Exp→A
 | .mk _ _ _ _ _ l _=>.sl l.length (jS l)
def jS:List Exp→List A
 | []=>[]
 | e::l=>[.lit (.int .i64 e.id.a),.lit (.int .i64 e.id.b),.lit (.int .i64 e.id.c),.lit (.int .i64 e.k),.lit (.int .i64 e.n),.lit (.int .i64 e.ref.a),.lit (.int .i64 e.ref.b),.lit (.int .i64 e.ref.c),.lit (.int .i64 e.typ.k),.lit (.int .i64 e.typ.id.a),.lit (.int .i64 e.typ.id.b),.lit (.int .i64 e.typ.id.c),.sl e.typ.kids.length (jY e.typ.kids),zJ2 e,.sl e.names.length (zAL e.names)]++jS l
end
theorem zVR (e:Exp):zJ2 e=.sl e.kids.length (jS e.kids):=by cases e; simp only[zJ2,Exp.kids]
def zU (e:Exp):List A:=[.lit (.int .i64 e.id.a),.lit (.int .i64 e.id.b),.lit (.int .i64 e.id.c),.lit (.int .i64 e.k),.lit (.int .i64 e.n),.lit (.int .i64 e.ref.a),.lit (.int .i64 e.ref.b),.lit (.int .i64 e.ref.c),.lit (.int .i64 e.typ.k),.lit (.int .i64 e.typ.id.a),.lit (.int .i64 e.typ.id.b),.lit (.int .i64 e.typ.id.c),.sl e.typ.kids.length (jY e.typ.kids),.sl e.kids.length (jS e.kids),.sl e.names.length (zAL e.names)]
theorem zCL (l:List Exp):jS l=l.flatMap zU:=by
 induction l with
 | nil=>simp only[jS,List.flatMap_nil]
 | cons t l ih=>simp only[jS,jBi,ih,zVR,zU]
mutual
theorem zPa:∀t:Exp,nrm0 (zJ2 t)=zJ2 t∧∀rf g,vw rf g (zJ2 t)=zJ2 t
 | .mk _ _ _ _ _ l _=>by have h:=zCe l;simp only[zJ2];exact⟨by simp[h.1],fun rf g=>by simp[h.2]⟩
theorem zCe:∀l:List Exp,qJ (jS l)
 | []=>by simp only[jS]; exact qJ.nil
 | v::l=>by have h:=zPa v;have h':=zCe l;have h1:=yO v.typ.kids;have h2:=zB2 v.names;simp only[jS];exact⟨by simp[h.1,h'.1,h1.1,h2.1],fun rf g=>by simp[h.2,h'.2,h1.2,h2.2]⟩
end
theorem zHq (e:Exp):qJ (zU e):=by have h:=zCe e.kids;have h1:=yO e.typ.kids;have h2:=zB2 e.names;exact⟨by simp[zU,h.1,h1.1,h2.1],fun rf g=>by simp[zU,h.2,h1.2,h2.2]⟩
structure Slt where
 id:Id
 name:ByteArray
 typ:Typ
 most:Int
 place:Int
def yK (s:Slt):List A:=[.lit (.int .i64 s.id.a),.lit (.int .i64 s.id.b),.lit (.int .i64 s.id.c),.lit (.string s.name),.lit (.int .i64 s.typ.k),.lit (.int .i64 s.typ.id.a),.lit (.int .i64 s.typ.id.b),.lit (.int .i64 s.typ.id.c),.sl s.typ.kids.length (jY s.typ.kids),.lit (.int .i64 s.most),.lit (.int .i64 s.place)]
theorem zFe (s:Slt):qJ (yK s):=by have h1:=yO s.typ.kids;exact⟨by simp[yK,h1.1],fun rf g=>by simp[yK,h1.2]⟩
def yN (l:List Slt):List A:=l.flatMap yK
theorem zCM (l:List Slt):yN l=l.flatMap yK:=rfl
structure Dfn where
 id:Id
 kind:Int
 mod:Id
 name:ByteArray
 slots:List Slt
 res:Typ
 body:Exp
 place:Int
 lay:List ByteArray
def zF (d:Dfn):List A:=[.lit (.int .i64 d.id.a),.lit (.int .i64 d.id.b),.lit (.int .i64 d.id.c),.lit (.int .i64 d.kind),.lit (.int .i64 d.mod.a),.lit (.int .i64 d.mod.b),.lit (.int .i64 d.mod.c),.lit (.string d.name),.sl d.slots.length (yN d.slots),.lit (.int .i64 d.res.k),.lit (.int .i64 d.res.id.a),.lit (.int .i64 d.res.id.b),.lit (.int .i64 d.res.id.c),.sl d.res.kids.length (jY d.res.kids),.lit (.int .i64 d.body.id.a),.lit (.int .i64 d.body.id.b),.lit (.int .i64 d.body.id.c),.lit (.int .i64 d.body.k),.lit (.int .i64 d.body.n),.lit (.int .i64 d.body.ref.a),.lit (.int .i64 d.body.ref.b),.lit (.int .i64 d.body.ref.c),.lit (.int .i64 d.body.typ.k),.lit (.int .i64 d.body.typ.id.a),.lit (.int .i64 d.body.typ.id.b),.lit (.int .i64 d.body.typ.id.c),.sl d.body.typ.kids.length (jY d.body.typ.kids),.sl d.body.kids.length (jS d.body.kids),.sl d.body.names.length (zAL d.body.names),.lit (.int .i64 d.place),.sl d.lay.length (zAL d.lay)]
theorem zA3 (d:Dfn):qJ (zF d):=by have h1:=yO d.res.kids;have h2:=yO d.body.typ.kids;have h3:=zCe d.body.kids;have h4:=zB2 d.body.names;have h5:=zB2 d.lay;have h6:=zBl zFe d.slots;exact⟨by simp[zF,yN,h1.1,h2.1,h3.1,h4.1,h5.1,h6.1],fun rf g=>by simp[zF,yN,h1.2,h2.2,h3.2,h4.2,h5.2,h6.2]⟩
def qI (l:List Dfn):List A:=l.flatMap zF
theorem zCK (l:List Dfn):qI l=l.flatMap zF:=rfl
structure Md where
 id:Id
 name:ByteArray
 uses:List Id
 defs:List Id
def zGK (m:Md):List A:=[.lit (.int .i64 m.id.a),.lit (.int .i64 m.id.b),.lit (.int .i64 m.id.c),.lit (.string m.name),.sl m.uses.length (zS m.uses),.sl m.defs.length (zS m.defs)]
theorem zHs (m:Md):qJ (zGK m):=by have h1:=zB1 m.uses;have h2:=zB1 m.defs;exact⟨by simp[zGK,h1.1,h2.1],fun rf g=>by simp[zGK,h1.2,h2.2]⟩
def jE (l:List Md):List A:=l.flatMap zGK
theorem zG3 (l:List Md):jE l=l.flatMap zGK:=rfl
structure Prg where
 mods:List Md
 defs:List Dfn
def zK (p:Prg):List A:=[.sl p.mods.length (jE p.mods),.sl p.defs.length (qI p.defs)]
theorem eP(p:Prg):zK p=[.sl p.mods.length (jE p.mods),.sl p.defs.length (qI p.defs)]:=rfl
@[simp] theorem qB2 (l:List Typ):jF (jY l)=jY l:=(yO l).1
@[simp] theorem qGn {rf g}(l:List Typ):vwL rf g (jY l)=jY l:=(yO l).2 _ _
@[simp] theorem qCF:jY []=[]:=by rw[zD1]; rfl
theorem zBx (x:Typ)(l:List Typ):jY (x::l)=zM x++jY l:=by rw[zD1,zD1]; rfl
@[simp] theorem qCE (l:List Typ):(jY l).length=l.length*5:=by rw[zD1,zBU (k:=5) (fun _=>rfl)]
theorem zJ5 {l:List Typ}{i:Nat}(h:i<l.length):(jY l).drop (i*5)=zM l[i]++jY (l.drop (i+1)):=by rw[zD1,zD1,zD7 (k:=5) (fun _=>rfl) h]
@[simp] theorem qIT (d:Typ):(zM d).length=5:=rfl
@[simp] theorem qIS (d:Typ):(zM d).take 5=zM d:=jAk (jA _)
@[simp] theorem qFa (d:Typ)(l:List A):(zM d++l).take 5=zM d:=by rw[jBr (by simp)]; exact jAk (by simp)
@[simp] theorem qF7 (d:Typ):jF (zM d)=zM d:=(zKR d).1
@[simp] theorem qNs (d:Typ) {rf g}:vwL rf g (zM d)=zM d:=(zKR d).2 _ _
@[simp] theorem qBv (l:List Exp):jF (jS l)=jS l:=(zCe l).1
@[simp] theorem qGg {rf g}(l:List Exp):vwL rf g (jS l)=jS l:=(zCe l).2 _ _
@[simp] theorem qC1:jS []=[]:=by rw[zCL]; rfl
theorem qB (x:Exp)(l:List Exp):jS (x::l)=zU x++jS l:=by rw[zCL,zCL]; rfl
theorem zMd (l l':List Exp):jS (l++l')=jS l++jS l':=by simp only[zCL,jCh]
@[simp] theorem qC0 (l:List Exp):(jS l).length=l.length*15:=by rw[zCL,zBU (k:=15) (fun _=>rfl)]
theorem zBw {l:List Exp}{i:Nat}(h:i<l.length):(jS l).drop (i*15)=zU l[i]++jS (l.drop (i+1)):=by rw[zCL,zCL,zD7 (k:=15) (fun _=>rfl) h]
@[simp] theorem qII (d:Exp):(zU d).length=15:=rfl
@[simp] theorem qIH (d:Exp):(zU d).take 15=zU d:=jAk (jA _)
@[simp] theorem qEU (d:Exp)(l:List A):(zU d++l).take 15=zU d:=by rw[jBr (by simp)]; exact jAk (by simp)
@[simp] theorem qF2 (d:Exp):jF (zU d)=zU d:=(zHq d).1
@[simp] theorem qNn (d:Exp) {rf g}:vwL rf g (zU d)=zU d:=(zHq d).2 _ _
theorem zHP (l:List Slt):qJ (yN l):=zBl zFe l
@[simp] theorem qB1 (l:List Slt):jF (yN l)=yN l:=(zHP l).1
@[simp] theorem qGm {rf g}(l:List Slt):vwL rf g (yN l)=yN l:=(zHP l).2 _ _
@[simp] theorem qCD:yN []=[]:=by rw[zCM]; rfl
theorem zEa (x:Slt)(l:List Slt):yN (x::l)=yK x++yN l:=by rw[zCM,zCM]; rfl
theorem zEs (l l':List Slt):yN (l++l')=yN l++yN l':=by simp only[zCM,jCh]
@[simp] theorem qCC (l:List Slt):(yN l).length=l.length*11:=by rw[zCM,zBU (k:=11) (fun _=>rfl)]
theorem jV {l:List Slt}{i:Nat}(h:i<l.length):(yN l).drop (i*11)=yK l[i]++yN (l.drop (i+1)):=by rw[zCM,zCM,zD7 (k:=11) (fun _=>rfl) h]
@[simp] theorem qIR (d:Slt):(yK d).length=11:=rfl
@[simp] theorem qIQ (d:Slt):(yK d).take 11=yK d:=jAk (jA _)
@[simp] theorem qEZ (d:Slt)(l:List A):(yK d++l).take 11=yK d:=by rw[jBr (by simp)]; exact jAk (by simp)
@[simp] theorem qF6 (d:Slt):jF (yK d)=yK d:=(zFe d).1
@[simp] theorem qNr (d:Slt) {rf g}:vwL rf g (yK d)=yK d:=(zFe d).2 _ _
theorem zEV (l:List Dfn):qJ (qI l):=zBl zA3 l
@[simp] theorem qBu (l:List Dfn):jF (qI l)=qI l:=(zEV l).1
@[simp] theorem qGf {rf g}(l:List Dfn):vwL rf g (qI l)=qI l:=(zEV l).2 _ _
@[simp] theorem qCz:qI []=[]:=by rw[zCK]; rfl
theorem zJ4 (x:Dfn)(l:List Dfn):qI (x::l)=zF x++qI l:=by rw[zCK,zCK]; rfl
theorem zGS (l l':List Dfn):qI (l++l')=qI l++qI l':=by simp only[zCK,jCh]
@[simp] theorem qCy (l:List Dfn):(qI l).length=l.length*31:=by rw[zCK,zBU (k:=31) (fun _=>rfl)]
theorem zAH {l:List Dfn}{i:Nat}(h:i<l.length):(qI l).drop (i*31)=zF l[i]++qI (l.drop (i+1)):=by rw[zCK,zCK,zD7 (k:=31) (fun _=>rfl) h]
@[simp] theorem zWn (d:Dfn):(zF d).length=31:=rfl
@[simp] theorem qIG (d:Dfn):(zF d).take 31=zF d:=jAk (jA _)
@[simp] theorem qET (d:Dfn)(l:List A):(zF d++l).take 31=zF d:=by rw[jBr (by simp)]; exact jAk (by simp)
@[simp] theorem qF1 (d:Dfn):jF (zF d)=zF d:=(zA3 d).1
@[simp] theorem qNm (d:Dfn) {rf g}:vwL rf g (zF d)=zF d:=(zA3 d).2 _ _
theorem zFa (l:List Md):qJ (jE l):=zBl zHs l
@[simp] theorem qBz (l:List Md):jF (jE l)=jE l:=(zFa l).1
@[simp] theorem qGk {rf g}(l:List Md):vwL rf g (jE l)=jE l:=(zFa l).2 _ _
@[simp] theorem qC7:jE []=[]:=by rw[zG3]; rfl
theorem zPf (x:Md)(l:List Md):jE (x::l)=zGK x++jE l:=by rw[zG3,zG3]; rfl
@[simp] theorem qC6 (l:List Md):(jE l).length=l.length*6:=by rw[zG3,zBU (k:=6) (fun _=>rfl)]
@[simp] theorem qIO (d:Md):(zGK d).length=6:=rfl
@[simp] theorem qIN (d:Md):(zGK d).take 6=zGK d:=jAk (jA _)
@[simp] theorem qEY (d:Md)(l:List A):(zGK d++l).take 6=zGK d:=by rw[jBr (by simp)]; exact jAk (by simp)
@[simp] theorem qF5 (d:Md):jF (zGK d)=zGK d:=(zHs d).1
@[simp] theorem qNq (d:Md) {rf g}:vwL rf g (zGK d)=zGK d:=(zHs d).2 _ _
def Typ.zero:Typ:=.mk 0 Id.zero []
def Exp.zero:Exp:=.mk Id.zero 0 0 Id.zero Typ.zero [] []
def Dfn.zero:Dfn:=⟨Id.zero,0,Id.zero,⟨#[]⟩,[],Typ.zero,Exp.zero,0,[]⟩
end Go.Proofs.YtdnelmeboihpkaaGreatDoor
namespace Go.Abs
section
variable {P:Program}
theorem zZM:∀f e,findTb f []=some e→zCd P f e:=fun f e h=>by cases h
theorem zEP {f0:Nat}{e0:Entry}{T:List (Nat×Entry)}(h0:zCd P f0 e0)(hT:∀f e,findTb f T=some e→zCd P f e):∀f e,findTb f ((f0,e0)::T)=some e→zCd P f e:=fun f e h=>by
 simp only[findTb]at h;cases hb:Nat.beq f f0
 ·rw[hb]at h; exact hT f e h
 ·rw[hb]at h;cases h;rw[jD0 hb];exact h0
theorem zX2 {f:FuncId}{xs:List A} {σ σ':St}{r:A}(h:Ret P f xs σ r σ'):Ret P f xs σ (nrm0 r) σ':=fun H L w vs hs ha=>(h H L w vs hs ha).mono fun e w' hh=>by obtain⟨o,τ,H',L',ho,hn,rfl,rfl⟩:=hh;obtain⟨v,rfl,hv⟩:=ho;exact⟨.ret (nrm0 r),_,H',L',⟨v,rfl,Rel.nrm0 _ hv⟩,hn,rfl,rfl⟩
def qBF (T:List (Nat×Entry))(orc:Run)(lf n:Nat)(f:FuncId)(xs:List A) (σ : St):Option (A×St):=match zUQ T orc lf n f xs σ with
 | some (r,σ')=>some (nrm0 r,σ')
 | none=>none
theorem zX6 {T:List (Nat×Entry)}{orc:Run}{lf n:Nat}(hT:∀f e,findTb f T=some e→zCd P f e)(hO:zBM P orc){f:FuncId}{xs:List A} {σ σ':St}{r:A}(h:qBF T orc lf n f xs σ = some (r,σ')):Ret P f xs σ r σ':=by
 unfold qBF at h;split at h
 ·rename_i r0 τ h0;cases h;exact zX2 (zTt hT hO n _ _ _ _ _ h0).2
 ·cases h
end
end Go.Abs
namespace Go.Abs
def Pan (P:Program)(f:FuncId)(args:List A) (σ0:St)(v:Value):Prop:=zAk P f args σ0 fun o _=>o=.pan v
section
variable {P:Program}{n0:Nat}{Qp:Value→Env→St→Prop}{Qd:Value→St→Prop}{K':Env→St→Prop}{env:Env} {σ : St}{d:Option Nat}
theorem Pan.mono {f:FuncId}{args:List A} {σ0:St}{v:Value}(h:Pan P f args σ0 v){Q:Out→St→Prop}(hq:∀τ,Q (.pan v) τ):zAk P f args σ0 Q:=fun H L w vs h1 h2=>(h H L w vs h1 h2).mono fun e w' hh=>by obtain⟨o,σ',H',L',g1,g2,rfl⟩:=hh;exact⟨_,σ',H',L',g1,g2,hq σ'⟩
theorem zEE {f:FuncId}{fn:Func}{c:Code}{k:K}{rs:List RS}(hf:P.funcs[f]?=some fn)(hb:fn.body=some c)(hc:zQ P fn.ntmps c=some k.erase)(hr:zCi P fn.results.toList=some rs)
 {args:List A} {σ : St}{v:Value}(h:wpF P k rs args σ fun o _=>o=.pan v):Pan P f args σ v:=zFP hf hb hc hr h
theorem zAv {hint:Nat→Option (List (Nat×Nat))}{f:FuncId}{fn:Func}{c:Code}{k:K}{rs:List RS}(hf:P.funcs[f]?=some fn)(hb:fn.body=some c)(hc:qD P fn.ntmps hint c=some k.erase)(hr:zCi P fn.results.toList=some rs)
 {args:List A} {σ : St}{v:Value}(h:wpF P k rs args σ fun o _=>o=.pan v):Pan P f args σ v:=zDq hf hb hc hr h
theorem zOW {f:FuncId}{args args':List A} {σ0:St}{v:Value}(h:Pan P f args σ0 v)(js:List Nat)(hd:js.Nodup)(ho:yQ σ jL (zX js) js σ0)(ha:zBB js args' args){Q:Out→St→Prop}
 (hq:∀τ : St,Q (.pan v) (qO σ js τ)):zAk P f args' σ Q :=
 zIL (C:=fun vs w R=>Calls P f vs.toArray w R) (zHj P f) (Q0:=fun o _=>o=.pan v) h js hd ho ha fun o σ1 h0=>by subst h0;exact hq _
theorem zHL {f:FuncId}{args args':List A} {σ0:St}{v:Value}(h:Pan P f args σ0 v)(js:List Nat)(hd:js.Nodup)(ho:yQ σ jL (zX js) js σ0)(ha:zBB js args' args)
 (hq:∀τ : St,Qp v env (qO σ js τ)):zAk P f args' σ (zH1 d env K' Qp):=zOW h js hd ho ha fun τ=>by simpa [zH1] using hq τ
theorem zDt {f:FuncId}{args args':List A} {σ0:St}{v:Value}(h:Pan P f args σ0 v)(js:List Nat)(hd:js.Nodup)(ho:yQ σ jL (zX js) js σ0)(ha:zBB js args' args)
 (hq:∀τ : St,Qd v (qO σ js τ)):zIB P Qd σ d K' f args' env:=zOW h js hd ho ha fun τ=>.inr ⟨v,rfl,hq τ⟩
theorem zCo {f:FuncId}{args args':List A} {σ0 σ1:St}{r:A}(h:Ret P f args σ0 r σ1)(js:List Nat)(hd:js.Nodup)(ho:yQ σ jL (zX js) js σ0)(ha:zBB js args' args)
 (hq:K' (env.put d (ren js σ.length r)) (qO σ js (σ1.map (zAN js σ.length)))):zIB P Qd σ d K' f args' env:=zAZ h js hd ho ha (.inl ⟨_,rfl,hq⟩)
theorem zCQ {α : Type}:∀{js:List Nat} {s t:List α} {x:Nat},x<s.length→x∉js→(qO s js t)[x]?=s[x]?
 | [],s,t,x,hx,_=>by simp[qO,jAd hx]
 | j::js,s,[],x,_,_=>by simp[qO]
 | j::js,s,o::os,x,hx,hn=>by simp only[jA5,not_or]at hn;simp only[qO];rw[zCQ (by simpa using hx) hn.2,jA8 (Ne.symm hn.1)]
end
end Go.Abs
namespace Go.Abs
mutual
theorem qCj {k:Nat}:∀(a:A),(vw jL (fun _=>none) a=a)→a.bnd k=true
 | .any,_=>by simp
 | .nil,_=>by simp
 | .lit _,_=>by simp
 | .agg cs,h=>by simp at h; simp[zDp cs h]
 | .tup cs,h=>by simp at h; simp[zDp cs h]
 | .sl _ cs,h=>by simp at h; simp[zDp cs h]
 | .fsl _ cs,h=>by simp at h; simp[zDp cs h]
 | .rptr cs,h=>by simp at h; simp[zDp cs h]
 | .ptr l _,h=>by simp at h
 | .row l _,h=>by simp at h
 | .rwp l _ _,h=>by simp at h
 | .win l _ _ _ _,h=>by simp[zTQ]at h
 | .map l,h=>by simp at h
 | .clo _ fs cs,h=>by simp at h; simp[zDp fs h.1,zDp cs h.2]
theorem zDp {k:Nat}:∀(cs:List A),(vwL jL (fun _=>none) cs=cs)→zBq k cs=true
 | [],_=>by simp
 | c::cs,h=>by simp at h; simp[qCj c h.1,zDp cs h.2]
end
theorem qJ.bnd {cs:List A}(h:qJ cs)(k:Nat):zBq k cs=true:=zDp cs (h.2 _ _)
def shL (m:Nat)(ks:List Nat):List Nat:=List.range m++ks.map fun k=>m+k
theorem zOr {m l:Nat}{ks:List Nat}(h:l<m):zX (shL m ks) l=some l:=zH2 (zGo h)
theorem zNn {m k:Nat}:∀ks:List Nat,zX (ks.map fun k=>m+k) (m+k)=zX ks k
 | []=>rfl
 | x::ks=>by
  simp only[jAc,zH3];by_cases h:k=x
  ·simp[h]
  ·rw[if_neg (by omega),if_neg h,zNn ks]
@[simp] theorem zUJ {m k:Nat}{ks:List Nat}:zX (shL m ks) (m+k)=(zX ks k).map (m + ·):=by unfold shL;rw[zJm (by simp),zNn,List.length_range];cases zX ks k<;>simp[jCt]
@[simp] theorem qDG {m:Nat}{ks:List Nat}:zX (shL m ks) m=(zX ks 0).map (m + ·):=by
 have:=zUJ (m:=m) (k:=0) (ks:=ks)
 simpa using this
theorem zJs {m:Nat}{ks:List Nat}(h:ks.Nodup):(shL m ks).Nodup:=by
 unfold shL;rw[jCi];refine⟨List.nodup_range,?_,fun a ha b hb=>?_⟩
 ·exact List.Pairwise.map _ (fun a b hab e=>hab (Nat.add_left_cancel e)) h
 ·obtain⟨k,_,rfl⟩:=jAn.1 hb;rw[jCj]at ha;omega
theorem zTx {m c:Nat}{ks:List Nat}(h:∀j,j<c→ks[j]?=some j):∀i,i<m+c→(shL m ks)[i]?=some i:=by
 intro i hi;unfold shL;by_cases hm:i<m
 ·rw[jAd (by simpa using hm),List.getElem?_range hm]
 ·rw[jAr (by simp; omega),List.length_range,jCu,h (i-m) (by omega)];simp; omega
theorem zNw {σ : St}{rf:Bool→Nat→Nat→A}{g:Nat→Option Nat}:∀{ks js:List Nat} {a b:St},yQ σ rf g ks a→yQ σ rf g js b→yQ σ rf g (ks++js) (a++b)
 | [],_,[],_,_,h=>h
 | k::ks,js,x::a,b,h,h'=>⟨h.1,zNw h.2 h'⟩
 | [],_,_::_,_,h,_=>h.elim
 | _::_,_,[],_,h,_=>h.elim
theorem zJZ {m:Nat}{S own:St}(hS:S.length=m){rf:Bool→Nat→Nat→A}{g:Nat→Option Nat}:∀{ks:List Nat} {a:St},yQ own rf g ks a→yQ (S++own) rf g (ks.map fun k=>m+k) a
 | [],[],_=>trivial
 | k::ks,x::a,h=>by simp only[jAc,yQ];refine⟨?_,zJZ hS h.2⟩;rw[zAb hS];exact h.1
 | [],_::_,h=>h.elim
 | _::_,[],h=>h.elim
theorem zOz {m:Nat}{S own own':St}(h:Cl m S){rf:Bool→Nat→Nat→A}{ks:List Nat}(ho:yQ own rf (zX (shL m ks)) ks own'):yQ (S++own) rf (zX (shL m ks)) (shL m ks) (S++own'):=by refine zNw ?_ (zJZ h.1 ho);have:=zLL (rf:=rf) (g:=zX (shL m ks)) (m:=m) (fun l hl=>zOr hl) (σ:=S++own) 0 S (by rw[h.1]; omega) (fun i o hi=>by rw[jAt,jAd (jA1.1 hi).1]; exact hi) h.2;rw[h.1,←List.range_eq_range']at this;exact this
@[simp] theorem qLd {rf:Bool→Nat→Nat→A}{g:Nat→Option Nat}:vwO rf g .dead=.dead:=rfl
@[simp] theorem qFJ {js:List Nat}{n:Nat}:zAN js n .dead=.dead:=rfl
section
variable {P:Program}{n0:Nat}{Qp:Value→Env→St→Prop}{K':Env→St→Prop}{env:Env}{d:Option Nat}
theorem zNy {m c:Nat}{S own own':St}(h:Cl m S)(hn:n0=m+c)(ks:List Nat)(fuel:Nat){l:List (Nat×A)}(hk:∀j,j<c→ks[j]?=some j)(hd:ks.Nodup)
 (ho:yQ own (seen (S++own) (zX (shL m ks)) fuel) (zX (shL m ks)) ks own')
 (hl:∀p∈l,p.2=vw (seen (S++own) (zX (shL m ks)) fuel) (zX (shL m ks)) (env p.1)∨p.2=nrm0 (vw (seen (S++own) (zX (shL m ks)) fuel) (zX (shL m ks)) (env p.1))):zA7 n0 (qG l) (S++own') env (S++own) :=
 zP (shL m ks) fuel (by subst hn; exact zTx hk) (zJs hd) (zOz h ho) hl
theorem zJq {m c n:Nat}{r r':A}{S own own':St}(h:Cl m S)(hn:n=m+c)(ks:List Nat)(fuel:Nat)(hk:∀j,j<c→ks[j]?=some j)(hd:ks.Nodup)
 (ho:yQ own (seen (S++own) (zX (shL m ks)) fuel) (zX (shL m ks)) ks own')
 (hr:r=vw (seen (S++own) (zX (shL m ks)) fuel) (zX (shL m ks)) r'∨r=nrm0 (vw (seen (S++own) (zX (shL m ks)) fuel) (zX (shL m ks)) r')):zHe n r (S++own') (.ret r') (S++own) :=
 zL (shL m ks) fuel (by subst hn; exact zTx hk) (zJs hd) (zOz h ho) hr
theorem zOQ:∀{js ks:List Nat} {n k:Nat},back (js++ks) n (js.length+k)=back ks n k
 | [],ks,n,k=>by simp
 | j::js,ks,n,k=>by
  have e:(j::js).length+k=js.length+k+1:=by simp; omega
  rw[e];simp only[jB5,back];exact zOQ
theorem zMv:∀{js ks:List Nat} {n l:Nat},l<js.length→back (js++ks) n l=back js n l
 | [],_,_,l,h=>by simp at h
 | j::js,ks,n,0,h=>rfl
 | j::js,ks,n,l+1,h=>by simp only[jB5,back];exact zMv (by simpa using h)
@[simp] theorem zV9 {m k n:Nat}{ks:List Nat}:back (shL m ks) n (m+k)=back (ks.map fun k=>m+k) n k:=by
 have:=zOQ (js:=List.range m) (ks:=ks.map fun k=>m+k) (n:=n) (k:=k)
 rwa [List.length_range]at this
@[simp] theorem qEG {m n:Nat}{ks:List Nat}:back (shL m ks) n m=back (ks.map fun k=>m+k) n 0:=by
 have:=zV9 (m:=m) (k:=0) (n:=n) (ks:=ks)
 simpa using this
theorem zOR {m l n:Nat}{ks:List Nat}(h:l<m):back (shL m ks) n l=l:=by unfold shL;rw[zMv (by simpa using h),zK4 h]
theorem zH5 {α : Type}:∀{js ks:List Nat} {s a b:List α},a.length=js.length→qO s (js++ks) (a++b)=qO (qO s js a) ks b
 | [],ks,s,[],b,_=>by simp[qO]
 | j::js,ks,s,x::a,b,h=>by simp only[jB5,qO];exact zH5 (by simpa using h)
 | [],_,_,_::_,_,h=>by simp at h
 | _::_,_,_,[],_,h=>by simp at h
theorem zIu {m:Nat}{S:St}(hS:S.length=m):∀{ks:List Nat} {own t:St},qO (S++own) (ks.map fun k=>m+k) t=S++qO own ks t
 | [],own,t=>by simp[qO]
 | k::ks,own,[]=>by simp[qO]
 | k::ks,own,x::t=>by simp only[jAc,qO];rw[zAQ hS];exact zIu hS
theorem zVM {m:Nat}{S S' own o0 o1:St}(h:Cl m S)(h':Cl m S'){f:FuncId}{args args':List A}{r:A}(hr:Ret P f args (S++o0) r (S'++o1))(ks:List Nat)(hd:ks.Nodup)
 (ho:yQ own jL (zX (shL m ks)) ks o0)(ha:zBB (shL m ks) args' args)
 (hq:K' (env.put d (ren (shL m ks) (m+own.length) r)) (S'++qO own ks (o1.map (zAN (shL m ks) (m+own.length))))):zAk P f args' (S++own) (zH1 d env K' Qp):=by
 refine jO hr (shL m ks) (zJs hd) (zOz h ho) ha ?_;have hlen:(S++own).length=m+own.length:=by rw[jA7,h.1]
 rw[hlen,jCk];have e:S'.map (zAN (shL m ks) (m+own.length))=S':=by
  conv=>rhs; rw[←List.map_id S']
  exact jBs fun o ho=>by simp only[zAN,id];exact zO7 (fun l hl=>by rw[zOR hl]) o (h'.2 o ho)
 rw[e];have hput:qO (S++own) (shL m ks) (S'++o1.map (zAN (shL m ks) (m+own.length)))=S'++qO own ks (o1.map (zAN (shL m ks) (m+own.length))):=by have h0:=zH7 (own:=own) 0 [] rfl (by rw[h.1,h'.1]:S'.length=S.length);rw[h.1,←List.range_eq_range']at h0;simp only[jBm]at h0;unfold shL;rw[zH5 (by rw[h'.1,List.length_range]),h0];exact zIu h'.1
 rw[hput];exact hq
end
end Go.Abs
namespace Go.Proofs.YtdnelmeboihpkaaGreatDoor
section
variable (marked:List Id)(x:Id)
def zEo:List Edg→List Id→List Id
 | [],M=>M
 | e::l,M=>zEo l (if e.fro=x∧e.to∉M∧e.to∉marked then M++[e.to] else M)
theorem zMt (e:Edg):∀(l:List Edg) (M:List Id),zEo marked x (l++[e]) M=(if e.fro=x∧e.to∉zEo marked x l M∧e.to∉marked then zEo marked x l M++[e.to] else zEo marked x l M)
 | [],M=>rfl
 | a::l,M=>by simp only[jB5,zEo]; exact zMt e l _
theorem zHD:∀(l:List Edg) (M:List Id),∃N,zEo marked x l M=M++N
 | [],M=>⟨[],by simp[zEo]⟩
 | e::l,M=>by
  simp only[zEo];split
  ·obtain⟨N,h⟩:=zHD l (M++[e.to]);exact⟨e.to::N,by rw[h]; simp⟩
  ·exact zHD l M
variable {marked x}
theorem zNA:∀(l:List Edg) {M:List Id},M.Nodup→(zEo marked x l M).Nodup
 | [],_,h=>h
 | e::l,M,h=>by
  simp only[zEo];split
  ·rename_i hc;refine zNA l ?_;rw[jCi];refine⟨h,by simp,fun a ha b hb=>?_⟩;rw[jAh]at hb;subst hb;exact fun e=>hc.2.1 (e▸ha)
  ·exact zNA l h
theorem zOI:∀(l:List Edg) (M:List Id) (e:Edg),e∈l→e.fro=x→e.to∈zEo marked x l M∨e.to∈marked
 | a::l,M,e,he,hx=>by
  simp only[zEo];rcases jA5.1 he with rfl | he
  ·obtain⟨N,h⟩:=zHD marked x l (if e.fro=x∧e.to∉M∧e.to∉marked then M++[e.to] else M);rw[h];by_cases h1:e.to∈M
   ·exact .inl (by split<;>simp[h1])
   ·by_cases h2:e.to∈marked
    ·exact .inr h2
    ·exact .inl (by rw[if_pos ⟨hx,h1,h2⟩]; simp)
  ·exact zOI l _ e he hx
theorem zOJ:∀(l:List Edg) (M:List Id) (y:Id),y∈zEo marked x l M→y∈M∨∃e∈l,e.fro=x∧e.to=y∧y∉marked
 | [],M,y,h=>.inl h
 | a::l,M,y,h=>by
  simp only[zEo]at h;rcases zOJ l _ y h with h | ⟨e,he,h1,h2,h3⟩
  ·split at h
   ·rename_i hc;rcases jAe.1 h with h | h
    ·exact .inl h
    ·rw[jAh]at h;subst h;exact .inr ⟨a,by simp,hc.1,rfl,hc.2.2⟩
   ·exact .inl h
  ·exact .inr ⟨e,by simp[he],h1,h2,h3⟩
end
structure Bfs (L:List Edg)(to:Id)(marked:List Id)(fro:Id)(M:List Id)(k:Nat):Prop where
 nd:M.Nodup
 first:fro∈M
 from_:∀y∈M,y=fro∨∃e∈L,e.to=y
 back:∀y∈M,Rchs L to marked y→Rchs L to marked fro
 not_:∀j (hj:j<M.length),j<k→M[j]≠to
 closed:∀j (hj:j<M.length),j<k→∀e∈L,e.fro=M[j]→e.to∈M∨e.to∈marked
 le:k≤M.length
theorem Bfs.start (L:List Edg)(to:Id)(marked:List Id)(fro:Id):Bfs L to marked fro [fro] 0 :=
 ⟨by simp,by simp,by simp,by simp,by omega,by omega,by simp⟩
theorem Bfs.len {L:List Edg}{to:Id}{marked:List Id}{fro:Id}{M:List Id}{k:Nat}(h:Bfs L to marked fro M k):M.length≤L.length+1:=by
 have:=h.nd.length_le_of_subset (l₂:=fro::L.map (·.to)) fun y hy=>by
  rcases h.from_ y hy with rfl | ⟨e,he,rfl⟩
  ·simp
  ·simp only[jA5,jAn];exact .inr ⟨e,he,rfl⟩
 simpa using this
theorem Bfs.next {L:List Edg}{to:Id}{marked:List Id}{fro:Id}{M:List Id}{k:Nat}(h:Bfs L to marked fro M k)(hk:k<M.length)(hne:M[k]≠to):Bfs L to marked fro (zEo marked M[k] L M) (k+1):=by
 obtain⟨N,hN⟩:=zHD marked M[k] L M;have hall:=zOI (marked:=marked) (x:=M[k]) L M;have hmem:=zOJ (marked:=marked) (x:=M[k]) L M;have hnd:=zNA (marked:=marked) (x:=M[k]) L h.nd;rw[hN]at hall hmem hnd ⊢;refine⟨hnd,jBf _ h.first,fun y hy=>?_,fun y hy hr=>?_,fun j hj hjk=>?_,fun j hj hjk e he hx=>?_,by simp; omega⟩
 ·rcases hmem y hy with hy | ⟨e,he,_,h2,_⟩
  ·exact h.from_ y hy
  ·exact .inr ⟨e,he,h2⟩
 ·rcases hmem y hy with hy | ⟨e,he,h1,h2,h3⟩
  ·exact h.back y hy hr
  ·refine h.back _ (jA3 hk) ?_;rw[←h1];exact .step e he (by rw[h2]; exact h3) (by rw[h2]; exact hr)
 ·rw[jBt (by omega)];by_cases hjk':j=k
  ·subst hjk'; exact hne
  ·exact h.not_ j (by omega) (by omega)
 ·rw[jBt (by omega)]at hx;by_cases hjk':j=k
  ·subst hjk'; exact hall e he hx
  ·rcases h.closed j (by omega) (by omega) e he hx with h' | h'
   ·exact .inl (jBf _ h')
   ·exact .inr h'
theorem Bfs.yes {L:List Edg}{to:Id}{marked:List Id}{fro:Id}{M:List Id}{k:Nat}(h:Bfs L to marked fro M k)(hk:k<M.length)(he:M[k]=to):Rchs L to marked fro :=
 h.back _ (jA3 hk) (he▸.here)
theorem Bfs.no {L:List Edg}{to:Id}{marked:List Id}{fro:Id}{M:List Id}{k:Nat}(h:Bfs L to marked fro M k)(hk:k=M.length):¬Rchs L to marked fro:=by
 intro hr;have key:∀y,Rchs L to marked y→y∈M→to∈M:=by
  intro y hy;induction hy with
  | here=>exact fun h=>h
  | step e he hn _ ih =>
   intro hm;obtain⟨j,hj,e'⟩:=jAo hm;rcases h.closed j hj (by omega) e he e'.symm with h' | h'
   ·exact ih h'
   ·exact(hn h').elim
 obtain⟨j,hj,e⟩:=jAo (key fro hr h.first);exact h.not_ j hj (by omega) e
end Go.Proofs.YtdnelmeboihpkaaGreatDoor
namespace Go.Proofs.YtdnelmeboihpkaaGreatDoor
open Go.Abs
def zQM:K:=G [kMn 2] (Z (G [M 3 0,⟨none,.isz (some 4) false (kt 3)⟩] (Y 4 (G [kMn 2] kr) ks)) (G [kd 5 31 3 0 [] [],M 6 0,kP 7 31 3 24 5 6,M 2 7] kr))
theorem zVB:zQ Tryz.prog Tryz.f100.ntmps (Tryz.f100.body.getD .skip)=some zQM.erase:=by kernel_rfl
@[simp] theorem qIy:zB Tryz.prog 100=true:=by kernel_rfl
def zEY (Ls:List (List Id)):List A:=Ls.map fun l=>A.sl l.length (zS l)
theorem zEZ:∀(Ls:List (List Id)),qJ (zEY Ls)
 | []=>qJ.nil
 | l::Ls=>by
  have h1:=zEZ Ls;have h2:=zB1 l;refine⟨?_,fun rf g=>?_⟩
  ·show jF (A.sl l.length (zS l)::zEY Ls)=_;simp[h1.1];rfl
  ·show vwL rf g (A.sl l.length (zS l)::zEY Ls)=_;simp[h1.2];rfl
@[simp] theorem qBy (l:List (List Id)):jF (zEY l)=zEY l:=(zEZ l).1
@[simp] theorem qGj {rf g}(l:List (List Id)):vwL rf g (zEY l)=zEY l:=(zEZ l).2 _ _
@[simp] theorem qC5 (l:List (List Id)):(zEY l).length=l.length:=by simp[zEY]
def zGJ {α : Type}(same : α→α→Bool):List α→List α→Bool
 | [],[]=>true
 | x::a,y::b=>same x y&&zGJ same a b
 | _,_=>false
theorem zOM {α : Type}{same : α→α→Bool}:∀{a b:List α},a.length≠b.length→zGJ same a b=false
 | [],[],h=>(h rfl).elim
 | x::a,y::b,h=>by simp only[zGJ,zOM (a:=a) (b:=b) (by simpa using h),Bool.and_false]
 | [],_::_,_=>rfl
 | _::_,[],_=>rfl
theorem zKy {α : Type}{same : α→α→Bool}:∀{a b:List α} (hl:a.length=b.length),zGJ same a b=true↔∀(j:Nat) (h:j<a.length),same a[j] (b[j]'(hl▸h))=true
 | [],[],_=>by simp[zGJ]
 | x::a,y::b,hl=>by
  simp only[zGJ,jA4,zKy (a:=a) (b:=b) (by simpa using hl)];constructor
  ·rintro⟨h1,h2⟩ j h;cases j with
   | zero=>exact h1
   | succ j=>exact h2 j (by simpa using h)
  ·intro h;exact⟨h 0 (by simp),fun j hj=>h (j+1) (by simpa using hj)⟩
 | [],_::_,hl=>by simp at hl
 | _::_,[],hl=>by simp at hl
def qGW:K:=G [kMb 6 false] (Z (G [M 10 0,kN 11 10,M 12 1,kN 13 12,kQ 14 11 13 true] (Y 14 (G [kMb 6 false] kr) ks)) (Z (G [M 15 0,kN 16 15,kMi 17 0] (K.block 0 (K.loop (G [kB 18 17 16 .lss] (Z (Y 18 ks (K.exit 0)) (Z (K.block 1 (G [M 19 17,kX 20 15 17 5,J 21 20 5,kZ 8 kz2,M 7 19,S 8 21 5] (G [M 22 1,M 23 7,kX 24 22 23 5,J 25 24 5,kZ 9 kz2,S 9 25 5] (G [M 26 2,J 27 8 5,J 28 9 5,⟨none,.call (some 29) (kt 26) [(kt 27),(kt 28)]⟩,kR 30 29] (Y 30 (G [kMb 6 false] kr) ks))))) (K.ops [kBi 31 17 1 .add,M 17 31]))))))) (G [kMb 6 true] kr)))
theorem qOh:zQ Tryz.prog Tryz.f140.ntmps (Tryz.f140.body.getD .skip)=some qGW.erase:=by kernel_rfl
@[simp] theorem qOS:zB Tryz.prog 140=true:=by kernel_rfl
theorem zYI (g:FuncId)(hcal:zB Tryz.prog g=true)(same:Typ→Typ→Bool)(a b:List Typ)(h:∀x∈a,∀y∈b,Ret Tryz.prog g [.agg (zM x),.agg (zM y)] [] (bl (same x y)) []) :
 Ret Tryz.prog 140 [.sl a.length (jY a),.sl b.length (jY b),.clo g [] []] [] (bl (zGJ same a b)) []:=by
 refine zH Tryz.func140 rfl qOh (rs:=[.slot 6]) (by kernel_rfl) ?_;unfold qGW;by_cases hab:a.length=b.length
 ·simp[hab];intro hlb;refine jR (S:=Nat) (fun i=>[(1,.sl b.length (jY b)),(2,.clo g [] []),(15,.sl a.length (jY a)),(16,int a.length),(17,int i)]) (fun s=>[]) (fun i=>i≤a.length∧∀(j:Nat) (h:j<a.length),j<i→same a[j] (b[j]'(hab▸h))=true) (fun i=>a.length-i) 0 (by simp)
   (zP [] 0 (by simp) (by simp) (by simp) (by simp[hab])) ?_
  rintro i ⟨hi,hn⟩;by_cases hia:i<a.length
  ·have hib:i<b.length:=by omega
   have hla:i*5<a.length*5:=by omega
   have hlb':i*5<b.length*5:=by omega
   simp[hia,hib,zJ5 hia,zJ5 hib,hcal,zM];refine qE (h a[i] (jA3 hia) b[i] (jA3 hib)) (by simp[zM]) (by simp) ?_;cases hs:same a[i] b[i]with
   | true =>
    simp;exact zO (i+1) ⟨hia,fun j hj hji=>by
     by_cases e:j=i
     ·subst e; exact hs
     ·exact hn j hj (by omega)⟩ (by omega) (zP [] 0 (by simp) (by simp) (by simp) (by simp[qC hib hlb]))
   | false =>
    have hf:zGJ same a b=false:=by
     cases hh:zGJ same a b with
     | false=>rfl
     | true=>have:=(zKy hab).1 hh i hia; rw[hs]at this; cases this
    simp;exact zA 0 (by simp[hf])
  ·have hil:i=a.length:=by omega
   subst hil;have ht:zGJ same a b=true:=(zKy hab).2 fun j hj=>hn j hj hj
   simp;exact zA 0 (by simp[ht])
 ·have hab':¬(a.length:Int)=b.length:=by omega
  simp[hab'];exact fun _ _=>zA 0 (by simp[zOM hab])
end Go.Proofs.YtdnelmeboihpkaaGreatDoor
