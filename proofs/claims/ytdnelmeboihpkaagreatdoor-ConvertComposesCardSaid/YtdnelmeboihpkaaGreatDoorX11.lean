/-
  An evaluator of small code at closed abstract states: code, functions, calls.
  Rules for flags; rows that move to a new level; parts of rows; maps that are not ranged over.
  Paths in a graph: all of them in order, and whether there is one.
  Lists of IDs in increasing order, each once: what the reference's insertion gives, and what a sort and a compaction give.
  The reference's joins of traces.
  Programs as data: types, expressions, definitions, and their cells.
  Tables of the evaluator; results in their plain form.
  Functions that panic: contracts and how a call meets them.
  States that begin with a caller's: levels behind it that are kept, and calls on them.
  Breadth first: what a search has met, and what that says.
  slices.Clone, Grow, Concat, SortFunc, Compact at lists of IDs.
  Types, definitions and nodes are compared.
-/
import Derived.Test.YtdnelmeboihpkaaGreatDoorX9
import Derived.Test.YtdnelmeboihpkaaGreatDoorX8
set_option linter.unusedVariables false
set_option maxHeartbeats 8000000
set_option maxRecDepth 100000
set_option linter.unusedSimpArgs false
namespace Go.Abs
section
variable {P:Program}{n0:Nat}
mutual
def lvA:A→List Nat
 | .any | .nil | .lit _=>[]
 | .agg cs | .tup cs | .sl _ cs | .fsl _ cs | .rptr cs=>lvL cs
 | .ptr l _ | .row l _ | .rwp l _ _ | .map l | .win l _ _ _ _=>[l]
 | .clo _ fs cs=>lvL fs++lvL cs
def lvL:List A→List Nat
 | []=>[]
 | c::cs=>lvA c++lvL cs
end
def lvM:List (List Int×A)→List Nat
 | []=>[]
 | p::l=>lvA p.2++lvM l
def lvO:AObj→List Nat
 | .box cs=>lvL cs
 | .row _ _ _ _ cs=>lvL cs
 | .mp _ _ es=>lvM es
 | .it m _ _=>[m]
 | _=>[]
def zRY (x:Nat):List Nat→Bool
 | []=>false
 | y::l=>bif Nat.beq x y then true else zRY x l
theorem zQf {x:Nat}:∀{l:List Nat},zRY x l=true↔x∈l
 | []=>by simp[zRY]
 | y::l=>by
  simp only[zRY,jA6];cases h:Nat.beq x y
  ·have:x≠y:=fun e=>by subst e; simp at h
   simp only[cond_false,this,false_or,zQf]
  ·have:=jD2 h;simp[this]
def zF1 (keep:Nat→AObj→Bool) (σ : St):Nat→List Nat→List Nat→List Nat
 | 0,_,acc=>acc
 | _+1,[],acc=>acc
 | n+1,l::t,acc=>bif zRY l acc then zF1 keep σ n t acc else match σ[l]? with
  | some o=>bif keep l o then zF1 keep σ n (lvO o++t) (acc++[l]) else zF1 keep σ n t acc
  | none=>zF1 keep σ n t acc
def zFx:List Nat→Bool
 | []=>true
 | x::l=>!(zRY x l)&&zFx l
theorem zD0:∀{l:List Nat},zFx l=true→l.Nodup
 | [],_=>List.nodup_nil
 | x::l,h=>by simp only[zFx,jA4,jBd]at h;rw[jD3];refine⟨fun hm=>?_,zD0 h.2⟩;rw[zQf.2 hm]at h;cases h.1
def zVs (σ : St)(rf:Bool→Nat→Nat→A)(g:Nat→Option Nat):List Nat→Option St
 | []=>some []
 | j::js=>match σ[j]?,zVs σ rf g js with
  | some o,some os=>some (vwO rf g o::os)
  | _,_=>none
theorem zF4 {σ : St}{rf:Bool→Nat→Nat→A}{g:Nat→Option Nat}:∀{js:List Nat} {σ':St},zVs σ rf g js=some σ'→yW σ rf g js σ'
 | [],σ',h=>by cases h; trivial
 | j::js,σ',h=>by
  simp only[zVs]at h;split at h<;>try (cases h; done)
  rename_i o os h1 h2;cases h;simp only[yW,h1];exact⟨.inl trivial,zF4 h2⟩
mutual
theorem qCe {rf:Bool→Nat→Nat→A}{g:Nat→Option Nat}:∀(a:A),a.bnd 0=true→vw rf g a=a
 | .any,_=>rfl
 | .nil,_=>rfl
 | .lit _,_=>rfl
 | .agg cs,h=>by simp only[A.bnd]at h; simp only[vw,zG3 cs h]
 | .tup cs,h=>by simp only[A.bnd]at h; simp only[vw,zG3 cs h]
 | .sl n cs,h=>by simp only[A.bnd]at h; simp only[vw,zG3 cs h]
 | .fsl n cs,h=>by simp only[A.bnd]at h; simp only[vw,zG3 cs h]
 | .rptr cs,h=>by simp only[A.bnd]at h; simp only[vw,zG3 cs h]
 | .ptr l o,h=>by simp[A.bnd]at h
 | .row l n,h=>by simp[A.bnd]at h
 | .rwp l n o,h=>by simp[A.bnd]at h
 | .win l n o k c,h=>by simp[A.bnd]at h
 | .map l,h=>by simp[A.bnd]at h
 | .clo f fs cs,h=>by simp only[A.bnd,jA4]at h; simp only[vw,zG3 fs h.1,zG3 cs h.2]
theorem zG3 {rf:Bool→Nat→Nat→A}{g:Nat→Option Nat}:∀(cs:List A),zBm 0 cs=true→vwL rf g cs=cs
 | [],_=>rfl
 | c::cs,h=>by simp only[zBm,jA4]at h; simp only[vwL,qCe c h.1,zG3 cs h.2]
end
theorem zHR {js:List Nat}:∀{xs:List A},zB6 js xs (xs.map (vw jL (zY js)))
 | []=>trivial
 | _::_=>⟨.inl rfl,zHR⟩
abbrev Run:=FuncId→List A→St→Option (A×St)
def zWh (R:Run):Run:=fun f xs σ =>
 let js:=zF1 (fun _ _=>true) σ 1000 (lvL xs) []
 match zVs σ jL (zY js) js with
 | some σ0=>match R f (xs.map (vw jL (zY js))) σ0 with
  | some (r,σ1)=>bif zFx js then some (ren js σ.length r,qR σ js (σ1.map (zAM js σ.length))) else none
  | none=>none
 | none=>none
theorem zWi {R:Run}(hR:zBH P R):zBH P (zWh R):=by
 intro f xs σ r σ' h;simp only[zWh]at h;generalize zF1 _ _ _ _ _=js at h;split at h<;>try (cases h; done)
 rename_i σ0 h0;split at h<;>try (cases h; done)
 rename_i r0 σ1 h1;cases hd:zFx js
 ·rw[hd]at h; cases h
 ·rw[hd]at h;cases h;obtain⟨h2,h3⟩:=hR _ _ _ _ _ h1;exact⟨h2,zAW h3 js (zD0 hd) (zF4 h0) zHR ⟨rfl,rfl⟩⟩
def zWm (R:Run):FuncId→List A→Option A:=fun f xs=>match R f (xs.map (vw jL (zY []))) []with
 | some (r,[])=>bif r.bnd 0 then some r else none
 | _=>none
def zXu:AObj→Bool
 | .rsv=>true
 | _=>false
def zWj (R:Run):FuncId→List A→Nat→Option (A×St):=fun f xs n=>match R f (xs.map (vw jL (zY []))) []with
 | some (r,σ1)=>bif σ1.any zXu then none else some (ren [] n r,σ1.map (zAM [] n))
 | none=>none
theorem zWn {R:Run}(hR:zBH P R):zFJ P (zWm R,zWj R):=by
 refine⟨fun f xs r h=>?_,fun f xs n r own h=>?_⟩
 ·simp only[zWm]at h;split at h<;>try (cases h; done)
  rename_i r0 h1;cases hb:r0.bnd 0
  ·rw[hb]at h; cases h
  ·rw[hb]at h;cases h;obtain⟨h2,h3⟩:=hR _ _ _ _ _ h1;refine⟨h2,fun τ=>?_⟩;refine zAW h3 [] (by simp) trivial zHR ⟨?_,by simp[qR]⟩;simp only[ren,qCe r hb]
 ·simp only[zWj]at h;split at h<;>try (cases h; done)
  rename_i r0 σ1 h1;cases hb : σ1.any zXu
  ·rw[hb]at h;cases h;obtain⟨h2,h3⟩:=hR _ _ _ _ _ h1;refine⟨h2,fun o ho=>?_,fun τ hl=>?_⟩
   ·obtain⟨o',ho',rfl⟩:=jAm.1 ho;rw[List.any_eq_false]at hb;have:=hb o' ho';cases o'<;>simp[zAM,vwO,zXu]at this ⊢
   ·subst hl;exact zAW h3 [] (by simp) trivial zHR ⟨rfl,by simp[qR]⟩
  ·rw[hb]at h; cases h
def evG (C:Run)(g:KG)(l:List (Nat×A)) (σ : St):Option (List (Nat×A)×St):=match g.guard with
 | none=>(match evO C g.op (lkB l) σ with
  | some (r,σ')=>some (zOF g.op.dst r l,σ')
  | none=>none)
 | some (s,want)=>match lkB l s with
  | .lit (.bool b)=>bif b==want then (match evO C g.op (lkB l) σ with
   | some (r,σ')=>some (zOF g.op.dst r l,σ')
   | none=>none) else some (zOF g.op.dst (.lit undef) l,σ)
  | .lit (.tuple _)=>some (zOF g.op.dst (.lit undef) l,σ)
  | _=>none
def zTm (C:Run):List KG→List (Nat×A)→St→Option (List (Nat×A)×St)
 | [],l,σ=>some (l,σ)
 | g::gs,l,σ=>match evG C g l σ with
  | some (l',σ')=>zTm C gs l' σ'
  | none=>none
def qDn (C:Run)(C0:Cl0)(f:Nat)(g:KG)(l:List (Nat×A)) (σ : St):Option (List (Nat×A)×St):=bif qAi f g.op (lkB l) then (match g.guard with
 | none=>(match zTl C C0 f g.op (lkB l) σ with
  | some (r,σ')=>some (zOF g.op.dst r l,σ')
  | none=>none)
 | some (s,want)=>match lkB l s with
  | .lit (.bool b)=>bif b==want then (match zTl C C0 f g.op (lkB l) σ with
   | some (r,σ')=>some (zOF g.op.dst r l,σ')
   | none=>none) else some (zOF g.op.dst (.lit undef) l,σ)
  | .lit (.tuple _)=>some (zOF g.op.dst (.lit undef) l,σ)
  | _=>none) else none
def zZg (C:Run)(C0:Cl0):List (Nat×Nat×KG)→List (Nat×A)→St→Option (List (Nat×A)×St)
 | [],l,σ=>some (l,σ)
 | x::gs,l,σ=>match qDn C C0 x.2.1 x.2.2 l σ with
  | some (l',σ')=>zZg C C0 gs l' σ'
  | none=>none
abbrev Res:=Option (Ex×List (Nat×A)×St)
def zT0 (f:List (Nat×A)→St→Res):Nat→List (Nat×A)→St→Res
 | 0,_,_=>none
 | n+1,l,σ=>match f l σ with
  | some (.norm,l',σ')=>zT0 f n l' σ'
  | r=>r
def qDM:List (Nat×Nat×KG)→Nat
 | []=>0
 | x::l=>match x.2.2.op with
  | .alr _ q _=>max (q+1) (qDM l)
  | _=>qDM l
def qL2:K→Nat
 | .dops l=>qDM l
 | _=>0
def qJJ:K→Bool
 | .wk _=>true
 | _=>false
def qBw:List (Nat×A)→List Nat→List Nat
 | [],acc=>acc
 | p::l,acc=>qBw l (bif zRY p.1 acc then acc else p.1::acc)
def zO6 (n0:Nat) (σ : St)(i:Nat):List AObj→List Nat
 | []=>[]
 | o::os=>bif (match o with | .row ..=>Nat.blt i n0 | _=>true) then i::zO6 n0 σ (i+1) os else zO6 n0 σ (i+1) os
def zFh:Nat→List Nat→Bool
 | 0,_=>true
 | _+1,[]=>false
 | n+1,l=>go 0 (n+1) l
where go:Nat→Nat→List Nat→Bool
 | _,0,_=>true
 | _,_+1,[]=>false
 | i,n+1,x::l=>Nat.beq x i&&go (i+1) n l
theorem zMZ:∀{n i:Nat} {l:List Nat},zFh.go i n l=true→∀j,j<n→l[j]?=some (i+j)
 | 0,i,l,_,j,hj=>by omega
 | n+1,i,[],h,j,hj=>by simp[zFh.go]at h
 | n+1,i,x::l,h,j,hj=>by
  simp only[zFh.go,jA4]at h;have hx:=jD2 h.1;cases j with
  | zero=>simp[hx]
  | succ j=>rw[jBc,zMZ h.2 j (by omega)]; simp; omega
theorem zIm {n:Nat}{l:List Nat}(h:zFh n l=true):∀j,j<n→l[j]?=some j:=by
 cases n with
 | zero=>intro j hj; omega
 | succ n =>
  cases l with
  | nil=>simp[zFh]at h
  | cons x l=>intro j hj; simpa using zMZ (i:=0) h j hj
def qDz (n0:Nat)(l:List (Nat×A)) (σ : St):Option (List (Nat×A)×St) :=
 let ks:=zO6 n0 σ 0 σ
 bif zFx ks&&zFh n0 ks then (match zVs σ (seen σ (zY ks) 8) (zY ks) ks with
  | some σ'=>some ((qBw l []).map fun t=>(t,vw (seen σ (zY ks) 8) (zY ks) (lkB l t)),σ')
  | none=>none) else none
def evK (C:Run)(C0:Cl0)(n0 lf:Nat):K→List (Nat×A)→St→Res
 | .skip,l,σ=>some (.norm,l,σ)
 | .seq a b,l,σ=>match evK C C0 n0 lf a l σ with
  | some (.norm,l',σ')=>evK C C0 n0 lf b l' σ'
  | r=>r
 | .cond c a b,l,σ=>match ev (lkB l) c with
  | .lit (.bool t)=>bif t then evK C C0 n0 lf a l σ else evK C C0 n0 lf b l σ
  | _=>none
 | .block id b,l,σ=>match evK C C0 n0 lf b l σ with
  | some (.exit i,l',σ')=>bif Nat.beq i id then some (.norm,l',σ') else some (.exit i,l',σ')
  | r=>r
 | .loop b,l,σ=>zT0 (evK C C0 n0 lf b) lf l σ
 | .exit id,l,σ=>some (.exit id,l,σ)
 | .ret,l,σ=>some (.ret,l,σ)
 | .ops gs,l,σ=>match zTm C gs l σ with
  | some (l',σ')=>some (.norm,l',σ')
  | none=>none
 | .dops xs,l,σ=>match zZg C C0 xs l σ with
  | some (l',σ')=>some (.norm,l',σ')
  | none=>none
 | .rng ..,_,_=>none
 | .wk b,l,σ=>bif qJJ b then (match qDz n0 l σ with
  | some (l',σ')=>evK C C0 n0 lf b l' σ'
  | none=>none) else evK C C0 n0 lf b l (σ++List.replicate (qL2 b - σ.length) .rsv)
theorem zUx {C:Run}(hC:zBH P C){g:KG}{l l':List (Nat×A)} {σ σ':St}(h:evG C g l σ = some (l',σ')){Qp:Value→Env→St→Prop}{K:Env→St→Prop}(hK:K (qN l') σ'):wpG P Qp K g (qN l) σ:=by
 unfold evG at h;unfold wpG;rw[zJq]at h;split at h
 ·rename_i hg;split at h<;>try (cases h; done)
  rename_i r τ h1;cases h;simp only[hg];exact zJf hC h1 (by rw[←zEp]; exact hK)
 ·rename_i s want hg;simp only[hg];split at h
  ·rename_i b hb;rw[hb];simp only;cases hw:b==want
   ·rw[hw]at h;cases h;exact⟨fun e=>(by cases e),fun _=>(by rw[zG1,←zEp]; exact hK)⟩
   ·rw[hw]at h;simp only[cond_true]at h;split at h<;>try (cases h; done)
    rename_i r τ h1;cases h;exact⟨fun _=>zJf hC h1 (by rw[←zEp]; exact hK),fun e=>(by cases e)⟩
  ·rename_i hb;cases h;rw[hb];simp only[zG1,←zEp];exact hK
  ·cases h
theorem zJS {C:Run}(hC:zBH P C){Qp:Value→Env→St→Prop}{K:Env→St→Prop}:∀{gs:List KG} {l l':List (Nat×A)} {σ σ':St},zTm C gs l σ = some (l',σ')→K (qN l') σ'→zCD P Qp K gs (qN l) σ
 | [],l,l',σ,σ',h,hK=>by cases h; exact hK
 | g::gs,l,l',σ,σ',h,hK=>by
  simp only[zTm]at h;split at h<;>try (cases h; done)
  rename_i l1 σ1 h1;exact zUx hC h1 (zJS hC h hK)
theorem zRE {C:Run}(hC:zBH P C){C0:Cl0}(hC0:zFJ P C0){f:Nat}{g:KG}{l l':List (Nat×A)} {σ σ':St}(h:qDn C C0 f g l σ = some (l',σ')){Qd:Value→St→Prop}{K:Env→St→Prop}(hK:K (qN l') σ') :
 zBe f g.op (qN l)∧zSN P Qd f K g (qN l) σ:=by
 unfold qDn at h;unfold zSN;rw[zJq]at h;cases ht:qAi f g.op (qN l)
 ·rw[ht]at h; cases h
 ·refine⟨zSD ht,?_⟩;rw[ht]at h;simp only[cond_true]at h;split at h
  ·rename_i hg;split at h<;>try (cases h; done)
   rename_i r τ h1;cases h;simp only[hg];exact zJR hC hC0 h1 (by rw[←zEp]; exact hK)
  ·rename_i s want hg;simp only[hg];split at h
   ·rename_i b hb;rw[hb];simp only;cases hw:b==want
    ·rw[hw]at h;cases h;exact⟨fun e=>(by cases e),fun _=>(by rw[zG1,←zEp]; exact hK)⟩
    ·rw[hw]at h;simp only[cond_true]at h;split at h<;>try (cases h; done)
     rename_i r τ h1;cases h;exact⟨fun _=>zJR hC hC0 h1 (by rw[←zEp]; exact hK),fun e=>(by cases e)⟩
   ·rename_i hb;cases h;rw[hb];simp only[zG1,←zEp];exact hK
   ·cases h
theorem zLj {C:Run}(hC:zBH P C){C0:Cl0}(hC0:zFJ P C0){Qd:Value→St→Prop}{K:Env→St→Prop}:∀{gs:List (Nat×Nat×KG)} {l l':List (Nat×A)} {σ σ':St},zZg C C0 gs l σ = some (l',σ')→K (qN l') σ'→wpD P Qd K gs (qN l) σ
 | [],l,l',σ,σ',h,hK=>by cases h; exact hK
 | g::gs,l,l',σ,σ',h,hK=>by
  simp only[zZg]at h;split at h<;>try (cases h; done)
  rename_i l1 σ1 h1;exact zRE hC hC0 h1 (zLj hC hC0 h hK)
theorem zYq {env:Env} {σ : St}:zAD n0 env (σ++[AObj.rsv]) env σ:=by
 intro H0 L0 w0 H L w N tmps h0 h1 h2;have hll:=LLe.append L [(⟨none,0,0,false⟩:LI)];refine⟨H,L++[(⟨none,0,0,false⟩:LI)],h1.trans ?_,h2.mono (HLe.refl _) hll⟩;have hs:=h1.st;refine⟨⟨hs.pers,by simp[hs.len],fun i l o hL hσ=>?_,fun i j x y b hi hj hx hy=>?_,fun i x b hi hx=>?_⟩,Step.refl _ _ _,hll,fun b ⟨i,x,hi,hx⟩=>?_⟩
 ·rcases jH hL with hL' | ⟨rfl,rfl⟩
  ·have hi:i<L.length:=(jA1.1 hL').1;rw[jAc (by rw[←hs.len]; exact hi)]at hσ;exact(hs.obj i l o hL' hσ).carry (fun _ _=>rfl) (HLe.refl _) hll (fun _ _ _=>rfl)
  ·rw[hs.len]at hσ;rw[jAo (jA _)]at hσ;simp only[jBz,jAx,jA0]at hσ;subst hσ;exact⟨rfl,rfl⟩
 ·rcases jH hi with hi' | ⟨rfl,rfl⟩
  ·rcases jH hj with hj' | ⟨rfl,rfl⟩
   ·exact hs.inj i j x y b hi' hj' hx hy
   ·cases hy
  ·cases hx
 ·rcases jH hi with hi' | ⟨rfl,rfl⟩
  ·exact hs.lt i x b hi' hx
  ·cases hx
 ·rcases jH hi with hi' | ⟨rfl,rfl⟩
  ·exact .inl ⟨i,x,hi',hx⟩
  ·cases hx
theorem yM {env:Env}:∀(n:Nat) {σ : St},zAD n0 env (σ++List.replicate n AObj.rsv) env σ
 | 0,σ=>by simpa using zAD.refl n0 env σ
 | n+1,σ=>by
  have:=(zYq (n0:=n0) (env:=env) (σ:=σ)).trans (yM n);rw[List.replicate_succ]
  simpa using this
theorem zRL {l l':List (Nat×A)} {σ σ':St}(h:qDz n0 l σ = some (l',σ')):zAD n0 (qN l') σ' (qN l) σ:=by
 simp only[qDz]at h;generalize zO6 n0 σ 0 σ = ks at h;cases hb:zFx ks&&zFh n0 ks
 ·rw[hb]at h; cases h
 ·rw[hb]at h;simp only[jA4]at hb;simp only[cond_true]at h;split at h<;>try (cases h; done)
  rename_i σ1 h1;cases h;refine zAD.sel ks 8 _ (zIm hb.2) (zD0 hb.1) (zF4 h1) fun p hp=>?_
  obtain⟨t,_,rfl⟩:=jAm.1 hp;left;simp only[zJq]
theorem zAV {C:Run}(hC:zBH P C){C0:Cl0}(hC0:zFJ P C0){lf:Nat}:∀(k:K) {l l':List (Nat×A)} {σ σ':St} {x:Ex} {Q:Ex→Env→St→Prop},evK C C0 n0 lf k l σ = some (x,l',σ')→Q x (qN l') σ'→wpK P n0 k Q (qN l) σ
 | .skip,l,l',σ,σ',x,Q,h,hQ=>by cases h; exact hQ
 | .seq a b,l,l',σ,σ',x,Q,h,hQ=>by
  simp only[evK]at h;simp only[wpK];split at h
  ·rename_i l1 σ1 h1;exact zAV hC hC0 a h1 (zAV hC hC0 b h hQ)
  ·rename_i r hr;refine zAV hC hC0 a h ?_;cases x<;>first | exact(hr _ _ h).elim | exact hQ
 | .cond c a b,l,l',σ,σ',x,Q,h,hQ=>by
  simp only[evK,zJq]at h;simp only[wpK];split at h<;>try (cases h; done)
  rename_i t ht;rw[ht];simp only;cases t
  ·exact⟨fun e=>(by cases e),fun _=>zAV hC hC0 b h hQ⟩
  ·exact⟨fun _=>zAV hC hC0 a h hQ,fun e=>(by cases e)⟩
 | .block id b,l,l',σ,σ',x,Q,h,hQ=>by
  simp only[evK]at h;simp only[wpK];split at h
  ·rename_i i l1 σ1 h1;refine zAV hC hC0 b h1 ?_;simp only[blk];cases hb:Nat.beq i id
   ·rw[hb]at h;cases h;have:i≠id:=fun e=>by subst e; simp at hb
    rw[if_neg this];exact hQ
   ·rw[hb]at h;cases h;rw[if_pos (jD2 hb)];exact hQ
  ·rename_i r hr;refine zAV hC hC0 b h ?_;cases x<;>first | exact(hr _ _ _ h).elim | exact hQ
 | .loop b,l,l',σ,σ',x,Q,h,hQ=>by
  simp only[evK]at h;simp only[wpK];refine⟨fun n env τ=>∃l0,env=qN l0∧zT0 (evK C C0 n0 lf b) n l0 τ = some (x,l',σ'),⟨lf,Wk.here ⟨l,rfl,h⟩⟩,?_⟩;rintro n env τ ⟨l0,rfl,h0⟩;cases n with
  | zero=>cases h0
  | succ n =>
   simp only[zT0]at h0;split at h0
   ·rename_i l1 σ1 h1;refine zAV hC hC0 b h1 ?_;exact⟨n,Nat.lt_succ_self n,Wk.here ⟨l1,rfl,h0⟩⟩
   ·rename_i r hr;refine zAV hC hC0 b h0 ?_;cases x<;>first | exact(hr _ _ h0).elim | exact hQ
 | .exit id,l,l',σ,σ',x,Q,h,hQ=>by cases h; exact hQ
 | .ret,l,l',σ,σ',x,Q,h,hQ=>by cases h; exact hQ
 | .ops gs,l,l',σ,σ',x,Q,h,hQ=>by
  simp only[evK]at h;simp only[wpK];split at h<;>try (cases h; done)
  rename_i l1 σ1 h1;cases h;exact zJS hC h1 hQ
 | .dops gs,l,l',σ,σ',x,Q,h,hQ=>by
  simp only[evK]at h;simp only[wpK];split at h<;>try (cases h; done)
  rename_i l1 σ1 h1;cases h;exact zLj hC hC0 h1 hQ
 | .rng ..,l,l',σ,σ',x,Q,h,hQ=>by simp[evK]at h
 | .wk b,l,l',σ,σ',x,Q,h,hQ=>by
  simp only[evK]at h;simp only[wpK];cases hb:qJJ b
  ·rw[hb]at h;exact Wk.by (yM _) (Wk.here (zAV hC hC0 b h hQ))
  ·rw[hb]at h;simp only[cond_true]at h;split at h<;>try (cases h; done)
   rename_i l1 σ1 h1;exact Wk.by (zRL h1) (Wk.here (zAV hC hC0 b h hQ))
structure Entry where
 k:K
 rs:List RS
 frz:Bool
def zKI:Nat→List A→List (Nat×A)
 | _,[]=>[]
 | i,a::xs=>(i,a)::zKI (i+1) xs
theorem zMD:∀{xs:List A} {i t:Nat},qN (zKI i xs) t=.any∨(i≤t∧xs[t-i]?=some (qN (zKI i xs) t))
 | [],i,t=>.inl rfl
 | a::xs,i,t=>by
  simp only[zKI,qN];split
  ·rename_i h; subst h; exact .inr ⟨jA _,by simp⟩
  ·rcases zMD (xs:=xs) (i:=i+1) (t:=t)with h | ⟨h1,h2⟩
   ·exact .inl h
   ·refine .inr ⟨by omega,?_⟩;have:t-i=(t-(i+1))+1:=by omega
    rw[this]
    simpa using h2
def qB5:Ex→Bool
 | .ret | .norm=>true
 | _=>false
def zKd (frz:Bool)(n0:Nat)(r:A) (σ : St):Option (A×St) :=
 let k0:=List.range n0;let k1:=zF1 (fun _ _=>true) σ 1000 (lvO (.box ((σ.take n0).map fun o=>.agg ((lvO o).map fun l=>.map l)))) k0;let ks:=zF1 (fun _ o=>bif frz then (match o with | .row ..=>false | _=>true) else true) σ 1000 (lvA r) k1
 bif zFx ks&&zFh n0 ks then (match zVs σ (seen σ (zY ks) 8) (zY ks) ks with
  | some σ1=>some (vw (seen σ (zY ks) 8) (zY ks) r,σ1)
  | none=>none) else none
theorem zQn {frz:Bool}{r r1:A} {σ σ1:St}(h:zKd frz n0 r σ = some (r1,σ1)):zGS n0 r1 σ1 (.ret r) σ:=by
 simp only[zKd]at h;generalize zF1 _ σ 1000 (lvA r) _=ks at h;cases hb:zFx ks&&zFh n0 ks
 ·rw[hb]at h; cases h
 ·rw[hb]at h;simp only[jA4]at hb;simp only[cond_true]at h;split at h<;>try (cases h; done)
  rename_i σ2 h1;cases h;exact⟨r,ks,8,rfl,zIm hb.2,zD0 hb.1,zF4 h1,.inl rfl⟩
def findTb (f:Nat):List (Nat×Entry)→Option Entry
 | []=>none
 | p::l=>bif Nat.beq f p.1 then some p.2 else findTb f l
def zVq (T:List (Nat×Entry))(orc:Run)(lf:Nat):Nat→Run
 | 0=>fun _ _ _=>none
 | n+1=>fun f xs σ=>match findTb f T with
  | none=>orc f xs σ
  | some e=>match evK (zWh (zVq T orc lf n)) (zWm (zVq T orc lf n),zWj (zVq T orc lf n)) σ.length lf e.k (zKI 0 xs) σ with
   | some (x,l,σ')=>bif qB5 x then (match zS2 (lkB l) σ' e.rs with
    | some r=>zKd e.frz σ.length r σ'
    | none=>none) else none
   | none=>none
def zCa (P:Program)(f:FuncId)(e:Entry):Prop :=
 zB P f=true∧∃fn c hint,P.funcs[f]?=some fn∧fn.body=some c∧qG P fn.ntmps hint c=some e.k.erase∧zCf P fn.results.toList=some e.rs
theorem zOc {hint:Nat→Option (List (Nat×Nat))}{f:FuncId}{fn:Func}{c:Code}{k:K}{rs:List RS}(hf:P.funcs[f]?=some fn)(hb:fn.body=some c)(hc:qG P fn.ntmps hint c=some k.erase)(hr:zCf P fn.results.toList=some rs)
 {args:List A} {σ : St}{Q:Out→St→Prop}(h:wpK P σ.length k (fin rs Q) (qN (zKI 0 args)) σ):zAi P f args σ Q:=by
 refine zDt (k:=.wk k) hf hb hc hr ?_;unfold wpF;simp only[wpK];refine Wk.by (env':=qN (zKI 0 args)) (σ':=σ) ?_ (Wk.here h);intro H0 L0 w0 H L w N tmps _ h1 h2;refine⟨H,L,h1,h2.1,fun t=>?_⟩;rcases zMD (xs:=args) (i:=0) (t:=t)with e | ⟨_,e⟩
 ·rw[e]; simp[Rel]
 ·have:=h2.2 t;simp only[zC2,List.getD]at this;rw[Nat.sub_zero]at e;rw[e]at this;exact this
theorem zTJ {T:List (Nat×Entry)}{orc:Run}{lf:Nat}(hT:∀f e,findTb f T=some e→zCa P f e)(hO:zBH P orc):∀n,zBH P (zVq T orc lf n)
 | 0=>fun f xs σ r σ' h=>(by cases h)
 | n+1=>fun f xs σ r σ' h=>by
  have ih:=zTJ (lf:=lf) hT hO n;simp only[zVq]at h;split at h
  ·exact hO _ _ _ _ _ h
  ·rename_i e he;obtain⟨hcal,fn,c,hint,h1,h2,h3,h4⟩:=hT _ _ he;refine⟨hcal,?_⟩;split at h<;>try (cases h; done)
   rename_i x l σ1 h5;cases hx:qB5 x
   ·rw[hx]at h; cases h
   ·rw[hx]at h;simp only[cond_true]at h;split at h<;>try (cases h; done)
    rename_i r0 h6;refine zF2 (zOc h1 h2 h3 h4 (zAV (zWi ih) (zWn ih) e.k h5 ?_));have hq:=zQn h;rw[zJq]at h6;cases x<;>first | (cases hx; done) | (simp only[fin,zKy,h6]; exact hq)
end
end Go.Abs
namespace Go.Abs
section
variable {d:Option Nat}{x v:Operand}{n f:Nat}{g:Bool}{env:Env} {σ : St}
@[simp] theorem qLr (h1:1000≤f)(h2:f<2000):zBe f (.st d x v n) env=zFt (f-1000) (ev env x):=propext (zOR h1 h2)
@[simp] theorem qLo (h1:2000≤f)(h2:f<4000):zBe f (.ld d x n g) env=zB3 (f-2000) (ev env x):=propext (zGR h1 h2)
@[simp] theorem zZ1 {c l o:Nat}:zFt c (.ptr l o)=(l<c):=rfl
@[simp] theorem zZ0 {c l o:Nat}:zB3 c (.ptr l o)=(c≤l):=rfl
@[simp] theorem qKZ (h1:2<f):zDe f σ = σ:=by unfold zDe; rw[if_neg (by omega),if_neg (by omega)]
@[simp] theorem qLp {o:KOp}(h1:6<f)(h2:f<1000):zBe f o env=True:=by
 unfold zBe;split
 ·omega
 ·omega
 ·rw[if_neg (by omega),if_neg (by omega),if_neg (by omega)]
end
section
variable {n0:Nat}{env:Env} {σ : St}
theorem zMn {l nk:Nat}{fr:Bool}{es:List (List Int×A)}(hl : σ[l]?=some (.mp fr nk es)):zAD n0 env (σ.set l (.mp false nk es)) env σ:=by
 intro H0 L0 w0 H L w N tmps h0 h1 h2;have hs:=zJ1 (o':=.mp false nk es) h1.st hl (fun li hob=>by simp only[zP]at hob ⊢;obtain⟨g0,b,ents,ck,g1,g2,g3,_,g5⟩:=hob;exact⟨g0,b,ents,ck,g1,g2,g3,(fun h=>by cases h),g5⟩)
 exact⟨H,L,⟨hs,h1.step,h1.lle,h1.own⟩,h2⟩
theorem zYs {t l m sz:Nat}{fz:Bool}{e:TypeId}{cs:List A}(ht:env t=.row l m)(hl : σ[l]?=some (.row fz e sz m cs)):zAD n0 (env.put (some t) (.win l m 0 m sz)) σ env σ:=by
 intro H0 L0 w0 H L w N tmps h0 h1 h2;refine⟨H,L,h1,h2.1,fun x=>?_⟩;simp only[zZQ];split
 ·rename_i hx;subst hx;have hr:=h2.2 x;rw[ht]at hr;simp only[Rel]at hr ⊢;obtain⟨g0,li,e1,e2,e3,hv⟩:=hr;refine⟨g0,li,e1,e2,e3,fun hn=>⟨jA _,?_⟩⟩;have hob:=h1.st.obj l li _ e1 hl;simp only[zP]at hob;obtain⟨_,_,_,hob⟩:=hob;rw[hv hn];rcases hob with ⟨hb,hz⟩ | ⟨b,cur,hb,_,k1,k2,_⟩
  ·rw[hb];exact⟨none,0,by rw[hz],by omega,jAy _,.inl rfl⟩
  ·rw[hb];exact⟨_,_,rfl,k1,k2,.inr ⟨b,rfl,rfl,by simp⟩⟩
 ·exact h2.2 x
theorem zXL {H:Mem}{L:List LI}{w:World}(hs:RelSt H L σ w){l:Nat}{o o':AObj}(hl : σ[l]?=some o)(h:∀li,L[l]?=some li→zP H L w li o→zP H L w li o'):RelSt H L (σ.set l o') w:=by
 refine⟨hs.pers,by simp[hs.len],fun i x p hL hp=>?_,hs.inj,hs.lt⟩;by_cases hi:i=l
 ·subst hi;rw[jAi (jA1.1 hl).1]at hp;cases hp;exact h x hL (hs.obj i x o hL hl)
 ·rw[jA8 (Ne.symm hi)]at hp;exact hs.obj i x p hL hp
theorem qDU {H:Mem}{L:List LI}{w:World}(hs:RelSt H L σ w){l n sz:Nat}{li:LI}{e:TypeId}{cs:List A}(hL:L[l]?=some li)(hr:li.isRow=true)(hσ : σ[l]?=some (.row false e sz n cs)) :
 Nxt H L w H (L.set l ⟨none,0,li.len+1,true⟩++[li]) (σ.set l .dead++[AObj.row false e sz n cs]) w:=by
 have hll:=(zEm (li':=(⟨none,0,li.len+1,true⟩:LI)) hL hr rfl (Nat.lt_succ_self _)).trans (LLe.append _ [li]);have hl:l<L.length:=(jA1.1 hL).1;have get:∀(i:Nat) x,(L.set l ⟨none,0,li.len+1,true⟩++[li])[i]?=some x→(i=l∧x.block=none)∨(i≠l∧L[i]?=some x)∨(i=L.length∧x=li):=by
  intro i x hx;rcases jH hx with hx | ⟨rfl,rfl⟩
  ·by_cases hi:i=l
   ·subst hi;rw[jAi hl]at hx;cases hx;exact .inl ⟨rfl,rfl⟩
   ·rw[jA8 (Ne.symm hi)]at hx;exact .inr (.inl ⟨hi,hx⟩)
  ·exact .inr (.inr ⟨by simp,rfl⟩)
 have hob:=hs.obj l li _ hL hσ;refine⟨⟨hs.pers,by simp[hs.len],fun i x o hx ho=>?_,fun i j x y b' hi hj hx hy=>?_,fun i x b' hi hx=>?_⟩,Step.refl _ _ _,hll,fun b' ⟨i,x,hi,hx⟩=>?_⟩
 ·rcases get i x hx with ⟨rfl,_⟩ | ⟨hi,hx'⟩ | ⟨rfl,rfl⟩
  ·rw[jAc (by rw[jBm,←hs.len]; exact hl),jAi (by rw[←hs.len]; exact hl)]at ho;cases ho;trivial
  ·rw[jAc (by rw[jBm,←hs.len]; exact(jA1.1 hx').1),jA8 (Ne.symm hi)]at ho;exact(hs.obj i x o hx' ho).carry (fun _ _=>rfl) (HLe.refl _) hll (fun _ _ _=>rfl)
  ·rw[hs.len,jAo (by simp)]at ho;simp only[jBm,jBz,jAx,jA0]at ho;subst ho;exact hob.carry (fun _ _=>rfl) (HLe.refl _) hll (fun _ _ _=>rfl)
 ·rcases get i x hi with ⟨_,h0⟩ | ⟨hi1,hi'⟩ | ⟨rfl,rfl⟩
  ·rw[h0]at hx; cases hx
  ·rcases get j y hj with ⟨_,h0⟩ | ⟨hj1,hj'⟩ | ⟨rfl,rfl⟩
   ·rw[h0]at hy; cases hy
   ·exact hs.inj i j x y b' hi' hj' hx hy
   ·exact(hi1 (hs.inj i l x _ b' hi' hL hx hy)).elim
  ·rcases get j y hj with ⟨_,h0⟩ | ⟨hj1,hj'⟩ | ⟨rfl,rfl⟩
   ·rw[h0]at hy; cases hy
   ·exact(hj1 (hs.inj j l y _ b' hj' hL hy hx)).elim
   ·rfl
 ·rcases get i x hi with ⟨_,h0⟩ | ⟨hi1,hi'⟩ | ⟨rfl,rfl⟩
  ·rw[h0]at hx; cases hx
  ·exact hs.lt i x b' hi' hx
  ·exact hs.lt l _ b' hL hx
 ·rcases get i x hi with ⟨_,h0⟩ | ⟨hi1,hi'⟩ | ⟨rfl,rfl⟩
  ·rw[h0]at hx; cases hx
  ·exact .inl ⟨i,x,hi',hx⟩
  ·exact .inl ⟨l,_,hL,hx⟩
theorem qAq {j o l n sz:Nat}{e:TypeId}{ds cs:List A}(hj : σ[j]?=some (.box ds))(ho:ds[o]?=some (.row l n))(hl : σ[l]?=some (.row false e sz n cs)) :
 zAD n0 env ((σ.set l .dead).set j (.box (ds.set o (.row σ.length n)))++[AObj.row false e sz n cs]) env σ:=by
 intro H0 L0 w0 H L w N tmps h0 h1 h2;have hjl:j≠l:=fun e=>by subst e; rw[hj]at hl; cases hl
 have hjlt:j < σ.length:=(jA1.1 hj).1;have hllt:l < σ.length:=(jA1.1 hl).1;have hLl:L[l]?=some (L[l]'(by rw[h1.st.len]; exact hllt)):=jA2 _;generalize L[l]'(by rw[h1.st.len]; exact hllt)=li at hLl;have hob:=h1.st.obj l li _ hLl hl;have hrow:li.isRow=true:=by simp only[zP]at hob; exact hob.1
 have hn:=qDU h1.st hLl hrow hl;have hj':(σ.set l .dead++[AObj.row false e sz n cs])[j]?=some (.box ds):=by rw[jAc (by rw[jBm]; exact hjlt),jA8 (Ne.symm hjl)];exact hj
 obtain⟨lj,hLj⟩:∃lj,L[j]?=some lj:=⟨_,jA2 (by rw[h1.st.len]; exact hjlt)⟩;have hbj:=h1.st.obj j lj _ hLj hj;simp only[zP]at hbj;obtain⟨_,b0,vs0,e0,p1,p2,p3,_⟩:=hbj;obtain⟨v0,hv0,hr0⟩:=p3.get ho;simp only[Rel]at hr0;obtain⟨q0,li',q1,q2,q3,q4⟩:=hr0;rw[hLl]at q1;cases q1;have hs:=zXL (o':=.box (ds.set o (.row σ.length n))) hn.st hj' (fun lx hlx hob=>by
  have hlj:lx=lj:=by rw[jAc (by rw[jBm,h1.st.len]; exact hjlt),jA8 (Ne.symm hjl),hLj]at hlx;exact(jAq hlx).symm
  subst hlj;simp only[zP]at hob ⊢;obtain⟨g0,b,vs,e',g1,g2,g3,g4,g5⟩:=hob;rw[p1]at g1;cases g1;rw[p2]at g2;cases g2;refine⟨g0,b0,vs0,e0,p1,p2,?_,g4,g5⟩;have hset:vs0=vs0.set o v0:=by
   apply jC8;intro i;by_cases hi:i=o
   ·subst hi; rw[jAi (jA1.1 hv0).1,hv0]
   ·rw[jA8 (Ne.symm hi)]
  rw[hset];refine g3.set o ?_;simp only[Rel];exact⟨q0,li,by rw[←h1.st.len,jAo (by simp)]; simp,q2,q3,q4⟩)
 rw[List.set_append_left _ _ (by rw[jBm]; exact hjlt)]at hs;have hm:=h1.trans hn;exact⟨H,_,⟨hs,hm.step,hm.lle,hm.own⟩,h2.1,fun x=>Rel.mono (HLe.refl _) hn.lle _ (h2.2 x)⟩
end
end Go.Abs
namespace Go.Proofs.YtdnelmeboihpkaaGreatDoor
structure Edg where
 id:Id
 fro:Id
 to:Id
section
variable (L:List Edg)(to:Id)
def zB7:Nat→Id→List Id→List (List Id)
 | 0,at_,_=>if at_=to then [[]] else []
 | n+1,at_,met=>if at_=to then [[]] else L.flatMap fun e=>if e.fro=at_∧e.to∉met then (zB7 n e.to (met++[e.to])).map (e.id::·) else []
inductive Rchs (met:List Id):Id→Prop
 | here:Rchs met to
 | step (e:Edg) (he:e∈L) (hn:e.to∉met) (h:Rchs met e.to):Rchs met e.fro
def zJY (met:List Id):Nat:=(L.filter fun e=>decide (e.to∉met)).length
variable {L to}
theorem zE7 {met:List Id}{e:Edg}(he:e∈L)(hn:e.to∉met):zJY L (met++[e.to])<zJY L met:=by
 unfold zJY;have h1:∀M:List Edg,(M.filter fun x=>decide (x.to∉met++[e.to])).length≤(M.filter fun x=>decide (x.to∉met)).length:=by
  intro M;induction M with
  | nil=>simp
  | cons x M ih =>
   rw[List.filter_cons,List.filter_cons];by_cases hx:x.to∈met
   ·simp[hx]; simpa using ih
   ·by_cases hx2:x.to=e.to
    ·simp[hx,hx2,hn];have:=ih;simp at this;omega
    ·simp[hx,hx2]
     simpa using ih
 induction L with
 | nil=>cases he
 | cons x M ih =>
  rw[List.filter_cons,List.filter_cons];rcases jA6.1 he with rfl | he
  ·have:=h1 M;simp[hn];simp at this;omega
  ·have:=ih he;by_cases hx:x.to∈met
   ·simp[hx]; simpa using this
   ·by_cases hx2:x.to=e.to
    ·simp[hx,hx2,hn];simp at this;omega
    ·simp[hx,hx2]
     simpa using this
theorem Rchs.mono {m m':List Id}(hs:∀x∈m',x∈m){x:Id}(h:Rchs L to m x):Rchs L to m' x:=by
 induction h with
 | here=>exact .here
 | step e he hn _ ih=>exact .step e he (fun h=>hn (hs _ h)) ih
theorem Rchs.last {m:List Id}(w:Id){x:Id}(h:Rchs L to m x):Rchs L to (m++[w]) x∨Rchs L to (m++[w]) w:=by
 induction h with
 | here=>exact .inl .here
 | step e he hn _ ih =>
  rcases ih with ih | ih
  ·by_cases hw:e.to=w
   ·exact .inr (hw▸ih)
   ·exact .inl (.step e he (by simp[hn,hw]) ih)
  ·exact .inr ih
theorem Rchs.own {m:List Id}{x:Id}(h:Rchs L to m x):Rchs L to (m++[x]) x:=(h.last x).elim id id
theorem zLh:∀(n:Nat) (at_:Id) (met:List Id),zJY L met≤n→(zB7 L to n at_ met≠[]↔Rchs L to met at_)
 | 0,at_,met,hn=>by
  unfold zB7;split
  ·rename_i h; subst h; simpa using Rchs.here
  ·rename_i h;refine⟨fun h=>(h rfl).elim,fun hr=>?_⟩;cases hr with
   | here=>exact(h rfl).elim
   | step e he hm _ =>
    have:=zE7 he hm;omega
 | n+1,at_,met,hn=>by
  unfold zB7;split
  ·rename_i h; subst h; simpa using Rchs.here
  ·rename_i h;constructor
   ·intro hne;have hx:∃x,x∈L.flatMap fun e=>if e.fro=at_∧e.to∉met then (zB7 L to n e.to (met++[e.to])).map (e.id::·) else []:=List.exists_mem_of_ne_nil _ hne
    obtain⟨x,hx⟩:=hx;rw[List.mem_flatMap]at hx;obtain⟨e,he,hx⟩:=hx;split at hx
    ·rename_i hc;have hlt:=zE7 he hc.2;have:=(zLh n e.to (met++[e.to]) (by omega)).1 (fun h0=>by rw[h0]at hx; simp at hx);rw[←hc.1];exact .step e he hc.2 (this.mono (by simp +contextual))
    ·simp at hx
   ·intro hr h0;cases hr with
    | here=>exact h rfl
    | step e he hm hr =>
     have hlt:=zE7 he hm;have h1:=(zLh n e.to (met++[e.to]) (by omega)).2 hr.own;have h2:=(List.flatMap_eq_nil_iff.1 h0) e he;rw[if_pos ⟨rfl,hm⟩,List.map_eq_nil_iff]at h2;exact h1 h2
theorem zXa (m:List Id):zJY L m≤L.length:=jDg _ _
end
end Go.Proofs.YtdnelmeboihpkaaGreatDoor
namespace Go.Proofs.YtdnelmeboihpkaaGreatDoor
open Go.Abs
theorem zGI {x y:Id}:zA7 x y=true↔x.a<y.a∨(x.a=y.a∧(x.b<y.b∨(x.b=y.b∧x.c<y.c))):=by
 unfold zA7;split
 ·simp only[decide_eq_true_eq]; omega
 ·split
  ·simp only[decide_eq_true_eq]; omega
  ·simp only[decide_eq_true_eq]; omega
theorem zGJ {x y:Id}:zA7 x y=false↔¬(x.a<y.a∨(x.a=y.a∧(x.b<y.b∨(x.b=y.b∧x.c<y.c)))):=by rw[←zGI]; simp
theorem zB4 (x:Id):zA7 x x=false:=by rw[zGJ]; omega
theorem zKe {x y z:Id}(h:zA7 x y=true)(k:zA7 y z=true):zA7 x z=true:=by rw[zGI]at *; omega
theorem zDN {x y:Id}(h:zA7 x y=false)(k:zA7 y x=false):x=y:=by
 rw[zGJ]at *
 rw[Id.eq_iff]; omega
theorem zSe {x y:Id}(h:zA7 x y=true):zA7 y x=false:=by rw[zGI]at h; rw[zGJ]; omega
theorem zE4 {x y:Id}:zIW x y<0↔zA7 x y=true:=by
 rw[zGI];simp only[zIW,orI,zA5]
 repeat' split
 all_goals omega
theorem zDO:Ord zIW where
 irrefl x:=by rw[zE4,zB4]; simp
 trans x y z h k:=by rw[zE4]at *; exact zKe h k
 ntrans x y z h k:=by
  rw[zE4,jB0]at *
  rw[zGJ]at *; omega
 anti x y h k:=by
  rw[zE4,jB0]at *
  exact zDN h k
def SS (l:List Id):Prop:=l.Pairwise fun x y=>zA7 x y=true
theorem zEA {x y:Id}:∀{l:List Id},y∈zDk l x↔y∈l∨y=x
 | []=>by simp[zDk]
 | z::l=>by
  simp only[zDk];split
  ·simp only[jA6,zEA (l:=l),or_assoc]
  ·split
   ·rename_i h; subst h;simp only[jA6];constructor
    ·exact fun h=>.inl h
    ·rintro(h | h)
     ·exact h
     ·exact .inl h
   ·simp only[jA6];constructor
    ·rintro(h | h)
     ·exact .inr h
     ·exact .inl h
    ·rintro(h | h)
     ·exact .inr h
     ·exact .inl h
theorem zO0 {x:Id}:∀{l:List Id},SS l→SS (zDk l x)
 | [],_=>by simp[zDk,SS]
 | z::l,h=>by
  have h':=jBr.1 h;simp only[zDk];split
  ·rename_i hz;refine jBr.2 ⟨fun y hy=>?_,zO0 h'.2⟩;rcases zEA.1 hy with hy | rfl
   ·exact h'.1 y hy
   ·exact hz
  ·rename_i hz;split
   ·exact h
   ·rename_i hne;have hxz:zA7 x z=true:=by
     cases hh:zA7 x z with
     | true=>rfl
     | false=>exact(hne (zDN (by simpa using hz) hh)).elim
    refine jBr.2 ⟨fun y hy=>?_,h⟩;rcases jA6.1 hy with rfl | hy
    ·exact hxz
    ·exact zKe hxz (h'.1 y hy)
theorem zLp:∀{l acc:List Id},SS acc→SS (l.foldl zDk acc)
 | [],_,h=>h
 | _::l,_,h=>zLp (l:=l) (zO0 h)
theorem zJh {y:Id}:∀{l acc:List Id},y∈l.foldl zDk acc↔y∈acc∨y∈l
 | [],_=>by simp
 | x::l,acc=>by simp only[jBe,zJh (l:=l),zEA,jA6,or_assoc]
theorem SS.unique:∀{l l':List Id},SS l→SS l'→(∀x,x∈l↔x∈l')→l=l'
 | [],[],_,_,_=>rfl
 | [],y::l',_,_,h=>by have:=(h y).2 (jAl ..); simp at this
 | x::l,[],_,_,h=>by have:=(h x).1 (jAl ..); simp at this
 | x::l,y::l',h1,h2,h=>by
  have p1:=jBr.1 h1;have p2:=jBr.1 h2;have hxy:x=y:=by
   rcases jA6.1 ((h x).1 (jAl ..))with e | e
   ·exact e
   ·rcases jA6.1 ((h y).2 (jAl ..))with e' | e'
    ·exact e'.symm
    ·have a:=p2.1 x e;have b:=p1.1 y e';rw[zSe b]at a; cases a
  subst hxy
  congr 1
  refine SS.unique p1.2 p2.2 fun z=>?_
  constructor
  ·intro hz;rcases jA6.1 ((h z).1 (jAf _ hz))with e | e
   ·have:=p1.1 z hz; subst e; rw[zB4]at this; cases this
   ·exact e
  ·intro hz;rcases jA6.1 ((h z).2 (jAf _ hz))with e | e
   ·have:=p2.1 z hz; subst e; rw[zB4]at this; cases this
   ·exact e
theorem zGQ {α : Type}{motive:List α→Prop}(nil:motive [])(snoc:∀l y,motive l→motive (l++[y]))(l:List α):motive l:=by
 have h:∀r:List α,motive r.reverse:=fun r=>by
  induction r with
  | nil=>exact nil
  | cons a r ih=>rw[List.reverse_cons]; exact snoc _ _ ih
 have:=h l.reverse
 rwa [List.reverse_reverse]at this
def zQY (acc:List Id)(y:Id):List Id:=if acc.getLast?=some y then acc else acc++[y]
def zHe (l:List Id):List Id:=l.foldl zQY []
theorem zHr (l:List Id)(y:Id):zHe (l++[y])=zQY (zHe l) y:=by simp[zHe,jC9]
theorem zR6:∀(l:List Id),(zHe l).getLast?=l.getLast?:=by
 intro l;induction l using zGQ with
 | nil=>rfl
 | snoc l y ih =>
  rw[zHr,zQY];split
  ·rename_i h; rw[h]; simp
  ·simp
theorem zMP {x:Id}(l:List Id):x∈zHe l↔x∈l:=by
 induction l using zGQ with
 | nil=>simp[zHe]
 | snoc l y ih =>
  rw[zHr,zQY];split
  ·rename_i h;have hy:y∈zHe l:=List.mem_of_getLast? h;simp only[ih,jAh,jAp];constructor
   ·exact .inl
   ·rintro(h | rfl)
    ·exact h
    ·exact ih.1 hy |> fun h=>h
  ·simp[ih]
theorem zWv (l:List Id)(h:l.Pairwise fun x y=>zA7 y x=false):SS (zHe l):=by
 induction l using zGQ with
 | nil=>simp[zHe,SS]
 | snoc l y ih =>
  rw[jCr]at h;have hi:=ih h.1;rw[zHr,zQY];split
  ·exact hi
  ·rename_i hne;unfold SS;rw[jCr];refine⟨hi,by simp,fun z hz y' hy'=>?_⟩;simp only[jAp]at hy';subst hy';have hzl:=(zMP l).1 hz;have h1:=h.2.2 z hzl y' (by simp);cases hh:zA7 z y' with
   | true=>rfl
   | false =>
    exfalso;have e:=zDN hh h1;subst e;rw[zR6]at hne;have hl:l≠[]:=fun e=>by rw[e]at hzl; simp at hzl
    obtain⟨w,hw⟩:∃w,l.getLast?=some w:=⟨_,List.getLast?_eq_some_getLast hl⟩;have hwl:w∈l:=List.mem_of_getLast? hw;have h2:=h.2.2 w hwl z (by simp);have hwz:w=z∨zA7 w z=false:=by
     obtain⟨l',rfl⟩:∃l',l=l'++[w]:=List.getLast?_eq_some_iff.1 hw;rcases jAh.1 hzl with hz' | hz'
     ·have:=h.1;rw[jCr]at this;exact .inr (this.2.2 z hz' w (by simp))
     ·exact .inl (jAp.1 hz').symm
    have:w=z:=by
     rcases hwz with e | e
     ·exact e
     ·exact zDN e h2
    subst this;exact hne hw
def zXV (l:List Id):List Id:=zHe (zEr zIW l)
theorem zSA (l:List Id):(zEr zIW l).Perm l:=List.mergeSort_perm l _
theorem zOQ (l:List Id):(zEr zIW l).Pairwise fun x y=>zA7 y x=false:=by
 have h:=List.pairwise_mergeSort (le:=fun x y=>!decide (zIW y x<0)) (fun a b c h1 h2=>by simp only[jBd,decide_eq_false_iff_not]at *; exact zDO.ntrans c b a h2 h1)
  (fun a b=>by
   simp only[jB6,jBd,decide_eq_false_iff_not];by_cases h:zIW b a<0
   ·exact .inr fun h'=>zDO.irrefl _ (zDO.trans _ _ _ h h')
   ·exact .inl h) l
 exact h.imp fun h=>by simp only[jBd,decide_eq_false_iff_not,zE4,jB0]at h;exact h
theorem zIB {l:List Id}{x:Id}:x∈zXV l↔x∈l:=by rw[zXV,zMP,(zSA l).mem_iff]
theorem zON (l:List Id):SS (zXV l):=zWv _ (zOQ l)
theorem qAc (l:List Id):zXV l=l.foldl zDk [] :=
 SS.unique (zON l) (zLp (by simp[SS])) fun x=>by rw[zIB,zJh]; simp
@[simp] theorem qJh (d:Id):(zF d).take 3=zF d:=jAj (jA _)
@[simp] theorem qJi (d:Id):(zF d).length=3:=rfl
theorem zLf (d:Id):qJ (zF d):=qJ.lit (qJ.lit (qJ.lit qJ.nil))
@[simp] theorem qFQ (d:Id):jF (zF d)=zF d:=(zLf d).1
@[simp] theorem qNB (d:Id) {rf g}:vwL rf g (zF d)=zF d:=(zLf d).2 _ _
def qJl (s:ByteArray):List A:=[.lit (.string s)]
def zAJ (l:List ByteArray):List A:=l.flatMap qJl
theorem zRC (s:ByteArray):qJ (qJl s):=qJ.lit qJ.nil
theorem zBx (l:List ByteArray):qJ (zAJ l):=zBi zRC l
@[simp] theorem qBK (l:List ByteArray):jF (zAJ l)=zAJ l:=(zBx l).1
@[simp] theorem qG7 {rf g}(l:List ByteArray):vwL rf g (zAJ l)=zAJ l:=(zBx l).2 _ _
@[simp] theorem qCS (l:List ByteArray):(zAJ l).length=l.length:=by rw[zAJ,zBR (k:=1) (fun _=>rfl),Nat.mul_one]
@[simp] theorem qCT:zAJ []=[]:=rfl
inductive Typ where
 | mk (k:Int) (id:Id) (kids:List Typ)
def Typ.k:Typ→Int | .mk k _ _=>k
def Typ.id:Typ→Id | .mk _ d _=>d
def Typ.kids:Typ→List Typ | .mk _ _ l=>l
@[simp] theorem Typ.k_mk {k:Int}{i:Id}{l:List Typ}:(Typ.mk k i l).k=k:=rfl
@[simp] theorem Typ.id_mk {k:Int}{i:Id}{l:List Typ}:(Typ.mk k i l).id=i:=rfl
@[simp] theorem Typ.kids_mk {k:Int}{i:Id}{l:List Typ}:(Typ.mk k i l).kids=l:=rfl
mutual
def zJI:Typ→A
 | .mk _ _ l=>.sl l.length (yA l)
def yA:List Typ→List A
 | []=>[]
 | t::l=>.lit (.int .i64 t.k)::.lit (.int .i64 t.id.a)::.lit (.int .i64 t.id.b)::.lit (.int .i64 t.id.c)::zJI t::yA l
end
theorem zWq (t:Typ):zJI t=.sl t.kids.length (yA t.kids):=by cases t; simp only[zJI,Typ.kids]
def zM (t:Typ):List A:=[.lit (.int .i64 t.k),.lit (.int .i64 t.id.a),.lit (.int .i64 t.id.b),.lit (.int .i64 t.id.c),.sl t.kids.length (yA t.kids)]
theorem zD6 (l:List Typ):yA l=l.flatMap zM:=by
 induction l with
 | nil=>simp only[yA,List.flatMap_nil]
 | cons t l ih=>simp only[yA,jBh,ih,zWq,zM]; rfl
mutual
theorem zPz:∀t:Typ,nrm0 (zJI t)=zJI t∧∀rf g,vw rf g (zJI t)=zJI t
 | .mk k n l=>by have h:=yU l;simp only[zJI];exact⟨by simp[h.1],fun rf g=>by simp[h.2]⟩
theorem yU:∀l:List Typ,qJ (yA l)
 | []=>by simp only[yA]; exact qJ.nil
 | v::l=>by have h:=zPz v;have h':=yU l;simp only[yA];exact⟨by simp[h.1,h'.1],fun rf g=>by simp[h.2,h'.2]⟩
end
theorem zLg (t:Typ):qJ (zM t):=qJ.lit (qJ.lit (qJ.lit (qJ.lit (qJ.sl (yU _) qJ.nil))))
inductive Exp where
 | mk (id:Id) (k n:Int) (ref:Id) (typ:Typ) (kids:List Exp) (names:List ByteArray)
def Exp.id:Exp→Id | .mk x _ _ _ _ _ _=>x
def Exp.k:Exp→Int | .mk _ x _ _ _ _ _=>x
def Exp.n:Exp→Int | .mk _ _ x _ _ _ _=>x
def Exp.ref:Exp→Id | .mk _ _ _ x _ _ _=>x
def Exp.typ:Exp→Typ | .mk _ _ _ _ x _ _=>x
def Exp.kids:Exp→List Exp | .mk _ _ _ _ _ x _=>x
def Exp.names:Exp→List ByteArray | .mk _ _ _ _ _ _ x=>x
@[simp] theorem Exp.id_mk {a:Id}{b c:Int}{d:Id}{e:Typ}{f:List Exp}{g:List ByteArray}:(Exp.mk a b c d e f g).id=a:=rfl
@[simp] theorem Exp.k_mk {a:Id}{b c:Int}{d:Id}{e:Typ}{f:List Exp}{g:List ByteArray}:(Exp.mk a b c d e f g).k=b:=rfl
@[simp] theorem Exp.n_mk {a:Id}{b c:Int}{d:Id}{e:Typ}{f:List Exp}{g:List ByteArray}:(Exp.mk a b c d e f g).n=c:=rfl
@[simp] theorem Exp.ref_mk {a:Id}{b c:Int}{d:Id}{e:Typ}{f:List Exp}{g:List ByteArray}:(Exp.mk a b c d e f g).ref=d:=rfl
@[simp] theorem Exp.typ_mk {a:Id}{b c:Int}{d:Id}{e:Typ}{f:List Exp}{g:List ByteArray}:(Exp.mk a b c d e f g).typ=e:=rfl
@[simp] theorem Exp.kids_mk {a:Id}{b c:Int}{d:Id}{e:Typ}{f:List Exp}{g:List ByteArray}:(Exp.mk a b c d e f g).kids=f:=rfl
@[simp] theorem Exp.names_mk {a:Id}{b c:Int}{d:Id}{e:Typ}{f:List Exp}{g:List ByteArray}:(Exp.mk a b c d e f g).names=g:=rfl
mutual
def zJH:Exp→A
 | .mk _ _ _ _ _ l _=>.sl l.length (jR l)
def jR:List Exp→List A
 | []=>[]
 | e::l=>[.lit (.int .i64 e.id.a),.lit (.int .i64 e.id.b),.lit (.int .i64 e.id.c),.lit (.int .i64 e.k),.lit (.int .i64 e.n),.lit (.int .i64 e.ref.a),.lit (.int .i64 e.ref.b),.lit (.int .i64 e.ref.c),.lit (.int .i64 e.typ.k),.lit (.int .i64 e.typ.id.a),.lit (.int .i64 e.typ.id.b),.lit (.int .i64 e.typ.id.c),.sl e.typ.kids.length (yA e.typ.kids),zJH e,.sl e.names.length (zAJ e.names)]++jR l
end
theorem zWp (e:Exp):zJH e=.sl e.kids.length (jR e.kids):=by cases e; simp only[zJH,Exp.kids]
def zV (e:Exp):List A:=[.lit (.int .i64 e.id.a),.lit (.int .i64 e.id.b),.lit (.int .i64 e.id.c),.lit (.int .i64 e.k),.lit (.int .i64 e.n),.lit (.int .i64 e.ref.a),.lit (.int .i64 e.ref.b),.lit (.int .i64 e.ref.c),.lit (.int .i64 e.typ.k),.lit (.int .i64 e.typ.id.a),.lit (.int .i64 e.typ.id.b),.lit (.int .i64 e.typ.id.c),.sl e.typ.kids.length (yA e.typ.kids),.sl e.kids.length (jR e.kids),.sl e.names.length (zAJ e.names)]
theorem zCM (l:List Exp):jR l=l.flatMap zV:=by
 induction l with
 | nil=>simp only[jR,List.flatMap_nil]
 | cons t l ih=>simp only[jR,jBh,ih,zWp,zV]
mutual
theorem zPy:∀t:Exp,nrm0 (zJH t)=zJH t∧∀rf g,vw rf g (zJH t)=zJH t
 | .mk _ _ _ _ _ l _=>by have h:=zCb l;simp only[zJH];exact⟨by simp[h.1],fun rf g=>by simp[h.2]⟩
theorem zCb:∀l:List Exp,qJ (jR l)
 | []=>by simp only[jR]; exact qJ.nil
 | v::l=>by have h:=zPy v;have h':=zCb l;have h1:=yU v.typ.kids;have h2:=zBx v.names;simp only[jR];exact⟨by simp[h.1,h'.1,h1.1,h2.1],fun rf g=>by simp[h.2,h'.2,h1.2,h2.2]⟩
end
theorem zHx (e:Exp):qJ (zV e):=by have h:=zCb e.kids;have h1:=yU e.typ.kids;have h2:=zBx e.names;exact⟨by simp[zV,h.1,h1.1,h2.1],fun rf g=>by simp[zV,h.2,h1.2,h2.2]⟩
structure Slt where
 id:Id
 name:ByteArray
 typ:Typ
 most:Int
 place:Int
def yQ (s:Slt):List A:=[.lit (.int .i64 s.id.a),.lit (.int .i64 s.id.b),.lit (.int .i64 s.id.c),.lit (.string s.name),.lit (.int .i64 s.typ.k),.lit (.int .i64 s.typ.id.a),.lit (.int .i64 s.typ.id.b),.lit (.int .i64 s.typ.id.c),.sl s.typ.kids.length (yA s.typ.kids),.lit (.int .i64 s.most),.lit (.int .i64 s.place)]
theorem zFe (s:Slt):qJ (yQ s):=by have h1:=yU s.typ.kids;exact⟨by simp[yQ,h1.1],fun rf g=>by simp[yQ,h1.2]⟩
def yT (l:List Slt):List A:=l.flatMap yQ
theorem zCN (l:List Slt):yT l=l.flatMap yQ:=rfl
structure Dfn where
 id:Id
 kind:Int
 mod:Id
 name:ByteArray
 slots:List Slt
 res:Typ
 body:Exp
 place:Int
 lay:List ByteArray
def zG (d:Dfn):List A:=[.lit (.int .i64 d.id.a),.lit (.int .i64 d.id.b),.lit (.int .i64 d.id.c),.lit (.int .i64 d.kind),.lit (.int .i64 d.mod.a),.lit (.int .i64 d.mod.b),.lit (.int .i64 d.mod.c),.lit (.string d.name),.sl d.slots.length (yT d.slots),.lit (.int .i64 d.res.k),.lit (.int .i64 d.res.id.a),.lit (.int .i64 d.res.id.b),.lit (.int .i64 d.res.id.c),.sl d.res.kids.length (yA d.res.kids),.lit (.int .i64 d.body.id.a),.lit (.int .i64 d.body.id.b),.lit (.int .i64 d.body.id.c),.lit (.int .i64 d.body.k),.lit (.int .i64 d.body.n),.lit (.int .i64 d.body.ref.a),.lit (.int .i64 d.body.ref.b),.lit (.int .i64 d.body.ref.c),.lit (.int .i64 d.body.typ.k),.lit (.int .i64 d.body.typ.id.a),.lit (.int .i64 d.body.typ.id.b),.lit (.int .i64 d.body.typ.id.c),.sl d.body.typ.kids.length (yA d.body.typ.kids),.sl d.body.kids.length (jR d.body.kids),.sl d.body.names.length (zAJ d.body.names),.lit (.int .i64 d.place),.sl d.lay.length (zAJ d.lay)]
theorem zA2 (d:Dfn):qJ (zG d):=by have h1:=yU d.res.kids;have h2:=yU d.body.typ.kids;have h3:=zCb d.body.kids;have h4:=zBx d.body.names;have h5:=zBx d.lay;have h6:=zBi zFe d.slots;exact⟨by simp[zG,yT,h1.1,h2.1,h3.1,h4.1,h5.1,h6.1],fun rf g=>by simp[zG,yT,h1.2,h2.2,h3.2,h4.2,h5.2,h6.2]⟩
def qK (l:List Dfn):List A:=l.flatMap zG
theorem zCL (l:List Dfn):qK l=l.flatMap zG:=rfl
structure Md where
 id:Id
 name:ByteArray
 uses:List Id
 defs:List Id
def zGT (m:Md):List A:=[.lit (.int .i64 m.id.a),.lit (.int .i64 m.id.b),.lit (.int .i64 m.id.c),.lit (.string m.name),.sl m.uses.length (zO m.uses),.sl m.defs.length (zO m.defs)]
theorem zHz (m:Md):qJ (zGT m):=by have h1:=zBw m.uses;have h2:=zBw m.defs;exact⟨by simp[zGT,h1.1,h2.1],fun rf g=>by simp[zGT,h1.2,h2.2]⟩
def jG (l:List Md):List A:=l.flatMap zGT
theorem zG6 (l:List Md):jG l=l.flatMap zGT:=rfl
structure Prg where
 mods:List Md
 defs:List Dfn
def zK (p:Prg):List A:=[.sl p.mods.length (jG p.mods),.sl p.defs.length (qK p.defs)]
theorem eP(p:Prg):zK p=[.sl p.mods.length (jG p.mods),.sl p.defs.length (qK p.defs)]:=rfl
@[simp] theorem qBM (l:List Typ):jF (yA l)=yA l:=(yU l).1
@[simp] theorem qG9 {rf g}(l:List Typ):vwL rf g (yA l)=yA l:=(yU l).2 _ _
@[simp] theorem qCZ:yA []=[]:=by rw[zD6]; rfl
theorem zBs (x:Typ)(l:List Typ):yA (x::l)=zM x++yA l:=by rw[zD6,zD6]; rfl
@[simp] theorem qCY (l:List Typ):(yA l).length=l.length*5:=by rw[zD6,zBR (k:=5) (fun _=>rfl)]
theorem zEf {l:List Typ}{i:Nat}(h:i<l.length):(yA l).drop (i*5)=zM l[i]++yA (l.drop (i+1)):=by rw[zD6,zD6,zDB (k:=5) (fun _=>rfl) h]
@[simp] theorem qJp (d:Typ):(zM d).length=5:=rfl
@[simp] theorem qJo (d:Typ):(zM d).take 5=zM d:=jAj (jA _)
@[simp] theorem qFw (d:Typ)(l:List A):(zM d++l).take 5=zM d:=by rw[jC (by simp)]; exact jAj (by simp)
@[simp] theorem qFT (d:Typ):jF (zM d)=zM d:=(zLg d).1
@[simp] theorem qNE (d:Typ) {rf g}:vwL rf g (zM d)=zM d:=(zLg d).2 _ _
@[simp] theorem qBF (l:List Exp):jF (jR l)=jR l:=(zCb l).1
@[simp] theorem qG2 {rf g}(l:List Exp):vwL rf g (jR l)=jR l:=(zCb l).2 _ _
@[simp] theorem qCL:jR []=[]:=by rw[zCM]; rfl
theorem qE (x:Exp)(l:List Exp):jR (x::l)=zV x++jR l:=by rw[zCM,zCM]; rfl
theorem zMt (l l':List Exp):jR (l++l')=jR l++jR l':=by simp only[zCM,jCf]
@[simp] theorem qCK (l:List Exp):(jR l).length=l.length*15:=by rw[zCM,zBR (k:=15) (fun _=>rfl)]
theorem zBr {l:List Exp}{i:Nat}(h:i<l.length):(jR l).drop (i*15)=zV l[i]++jR (l.drop (i+1)):=by rw[zCM,zCM,zDB (k:=15) (fun _=>rfl) h]
@[simp] theorem qJe (d:Exp):(zV d).length=15:=rfl
@[simp] theorem qJd (d:Exp):(zV d).take 15=zV d:=jAj (jA _)
@[simp] theorem qFq (d:Exp)(l:List A):(zV d++l).take 15=zV d:=by rw[jC (by simp)]; exact jAj (by simp)
@[simp] theorem qFO (d:Exp):jF (zV d)=zV d:=(zHx d).1
@[simp] theorem qN9 (d:Exp) {rf g}:vwL rf g (zV d)=zV d:=(zHx d).2 _ _
theorem zIa (l:List Slt):qJ (yT l):=zBi zFe l
@[simp] theorem qBL (l:List Slt):jF (yT l)=yT l:=(zIa l).1
@[simp] theorem qG8 {rf g}(l:List Slt):vwL rf g (yT l)=yT l:=(zIa l).2 _ _
@[simp] theorem qCX:yT []=[]:=by rw[zCN]; rfl
theorem zEe (x:Slt)(l:List Slt):yT (x::l)=yQ x++yT l:=by rw[zCN,zCN]; rfl
theorem zEw (l l':List Slt):yT (l++l')=yT l++yT l':=by simp only[zCN,jCf]
@[simp] theorem qCW (l:List Slt):(yT l).length=l.length*11:=by rw[zCN,zBR (k:=11) (fun _=>rfl)]
theorem jW {l:List Slt}{i:Nat}(h:i<l.length):(yT l).drop (i*11)=yQ l[i]++yT (l.drop (i+1)):=by rw[zCN,zCN,zDB (k:=11) (fun _=>rfl) h]
@[simp] theorem qJn (d:Slt):(yQ d).length=11:=rfl
@[simp] theorem qJm (d:Slt):(yQ d).take 11=yQ d:=jAj (jA _)
@[simp] theorem qFv (d:Slt)(l:List A):(yQ d++l).take 11=yQ d:=by rw[jC (by simp)]; exact jAj (by simp)
@[simp] theorem qFS (d:Slt):jF (yQ d)=yQ d:=(zFe d).1
@[simp] theorem qND (d:Slt) {rf g}:vwL rf g (yQ d)=yQ d:=(zFe d).2 _ _
theorem zEW (l:List Dfn):qJ (qK l):=zBi zA2 l
@[simp] theorem qBE (l:List Dfn):jF (qK l)=qK l:=(zEW l).1
@[simp] theorem qG1 {rf g}(l:List Dfn):vwL rf g (qK l)=qK l:=(zEW l).2 _ _
@[simp] theorem qCJ:qK []=[]:=by rw[zCL]; rfl
theorem zJJ (x:Dfn)(l:List Dfn):qK (x::l)=zG x++qK l:=by rw[zCL,zCL]; rfl
theorem zHa (l l':List Dfn):qK (l++l')=qK l++qK l':=by simp only[zCL,jCf]
@[simp] theorem qCI (l:List Dfn):(qK l).length=l.length*31:=by rw[zCL,zBR (k:=31) (fun _=>rfl)]
theorem zAF {l:List Dfn}{i:Nat}(h:i<l.length):(qK l).drop (i*31)=zG l[i]++qK (l.drop (i+1)):=by rw[zCL,zCL,zDB (k:=31) (fun _=>rfl) h]
@[simp] theorem zWB (d:Dfn):(zG d).length=31:=rfl
@[simp] theorem qJc (d:Dfn):(zG d).take 31=zG d:=jAj (jA _)
@[simp] theorem qFp (d:Dfn)(l:List A):(zG d++l).take 31=zG d:=by rw[jC (by simp)]; exact jAj (by simp)
@[simp] theorem qFN (d:Dfn):jF (zG d)=zG d:=(zA2 d).1
@[simp] theorem qN8 (d:Dfn) {rf g}:vwL rf g (zG d)=zG d:=(zA2 d).2 _ _
theorem zFa (l:List Md):qJ (jG l):=zBi zHz l
@[simp] theorem qBJ (l:List Md):jF (jG l)=jG l:=(zFa l).1
@[simp] theorem qG6 {rf g}(l:List Md):vwL rf g (jG l)=jG l:=(zFa l).2 _ _
@[simp] theorem qCR:jG []=[]:=by rw[zG6]; rfl
theorem zP2 (x:Md)(l:List Md):jG (x::l)=zGT x++jG l:=by rw[zG6,zG6]; rfl
@[simp] theorem qCQ (l:List Md):(jG l).length=l.length*6:=by rw[zG6,zBR (k:=6) (fun _=>rfl)]
@[simp] theorem qJk (d:Md):(zGT d).length=6:=rfl
@[simp] theorem qJj (d:Md):(zGT d).take 6=zGT d:=jAj (jA _)
@[simp] theorem qFu (d:Md)(l:List A):(zGT d++l).take 6=zGT d:=by rw[jC (by simp)]; exact jAj (by simp)
@[simp] theorem qFR (d:Md):jF (zGT d)=zGT d:=(zHz d).1
@[simp] theorem qNC (d:Md) {rf g}:vwL rf g (zGT d)=zGT d:=(zHz d).2 _ _
def Typ.zero:Typ:=.mk 0 Id.zero []
def Exp.zero:Exp:=.mk Id.zero 0 0 Id.zero Typ.zero [] []
def Dfn.zero:Dfn:=⟨Id.zero,0,Id.zero,⟨#[]⟩,[],Typ.zero,Exp.zero,0,[]⟩
end Go.Proofs.YtdnelmeboihpkaaGreatDoor
namespace Go.Abs
section
variable {P:Program}
theorem qAh:∀f e,findTb f []=some e→zCa P f e:=fun f e h=>by cases h
theorem zEQ {f0:Nat}{e0:Entry}{T:List (Nat×Entry)}(h0:zCa P f0 e0)(hT:∀f e,findTb f T=some e→zCa P f e):∀f e,findTb f ((f0,e0)::T)=some e→zCa P f e:=fun f e h=>by
 simp only[findTb]at h;cases hb:Nat.beq f f0
 ·rw[hb]at h; exact hT f e h
 ·rw[hb]at h;cases h;rw[jD2 hb];exact h0
theorem zXM {f:FuncId}{xs:List A} {σ σ':St}{r:A}(h:Ret P f xs σ r σ'):Ret P f xs σ (nrm0 r) σ':=fun H L w vs hs ha=>(h H L w vs hs ha).mono fun e w' hh=>by obtain⟨o,τ,H',L',ho,hn,rfl,rfl⟩:=hh;obtain⟨v,rfl,hv⟩:=ho;exact⟨.ret (nrm0 r),_,H',L',⟨v,rfl,Rel.nrm0 _ hv⟩,hn,rfl,rfl⟩
def qBZ (T:List (Nat×Entry))(orc:Run)(lf n:Nat)(f:FuncId)(xs:List A) (σ : St):Option (A×St):=match zVq T orc lf n f xs σ with
 | some (r,σ')=>some (nrm0 r,σ')
 | none=>none
theorem zXQ {T:List (Nat×Entry)}{orc:Run}{lf n:Nat}(hT:∀f e,findTb f T=some e→zCa P f e)(hO:zBH P orc){f:FuncId}{xs:List A} {σ σ':St}{r:A}(h:qBZ T orc lf n f xs σ = some (r,σ')):Ret P f xs σ r σ':=by
 unfold qBZ at h;split at h
 ·rename_i r0 τ h0;cases h;exact zXM (zTJ hT hO n _ _ _ _ _ h0).2
 ·cases h
end
end Go.Abs
namespace Go.Abs
def Pan (P:Program)(f:FuncId)(args:List A) (σ0:St)(v:Value):Prop:=zAi P f args σ0 fun o _=>o=.pan v
section
variable {P:Program}{n0:Nat}{Qp:Value→Env→St→Prop}{Qd:Value→St→Prop}{K':Env→St→Prop}{env:Env} {σ : St}{d:Option Nat}
theorem Pan.mono {f:FuncId}{args:List A} {σ0:St}{v:Value}(h:Pan P f args σ0 v){Q:Out→St→Prop}(hq:∀τ,Q (.pan v) τ):zAi P f args σ0 Q:=fun H L w vs h1 h2=>(h H L w vs h1 h2).mono fun e w' hh=>by obtain⟨o,σ',H',L',g1,g2,rfl⟩:=hh;exact⟨_,σ',H',L',g1,g2,hq σ'⟩
theorem zEG {f:FuncId}{fn:Func}{c:Code}{k:K}{rs:List RS}(hf:P.funcs[f]?=some fn)(hb:fn.body=some c)(hc:zQ P fn.ntmps c=some k.erase)(hr:zCf P fn.results.toList=some rs)
 {args:List A} {σ : St}{v:Value}(h:wpF P k rs args σ fun o _=>o=.pan v):Pan P f args σ v:=zFR hf hb hc hr h
theorem zAu {hint:Nat→Option (List (Nat×Nat))}{f:FuncId}{fn:Func}{c:Code}{k:K}{rs:List RS}(hf:P.funcs[f]?=some fn)(hb:fn.body=some c)(hc:qG P fn.ntmps hint c=some k.erase)(hr:zCf P fn.results.toList=some rs)
 {args:List A} {σ : St}{v:Value}(h:wpF P k rs args σ fun o _=>o=.pan v):Pan P f args σ v:=zDt hf hb hc hr h
theorem zPu {f:FuncId}{args args':List A} {σ0:St}{v:Value}(h:Pan P f args σ0 v)(js:List Nat)(hd:js.Nodup)(ho:yW σ jL (zY js) js σ0)(ha:zB6 js args' args){Q:Out→St→Prop}
 (hq:∀τ : St,Q (.pan v) (qR σ js τ)):zAi P f args' σ Q :=
 zIV (C:=fun vs w R=>Calls P f vs.toArray w R) (zHq P f) (Q0:=fun o _=>o=.pan v) h js hd ho ha fun o σ1 h0=>by subst h0;exact hq _
theorem zHW {f:FuncId}{args args':List A} {σ0:St}{v:Value}(h:Pan P f args σ0 v)(js:List Nat)(hd:js.Nodup)(ho:yW σ jL (zY js) js σ0)(ha:zB6 js args' args)
 (hq:∀τ : St,Qp v env (qR σ js τ)):zAi P f args' σ (zHB d env K' Qp):=zPu h js hd ho ha fun τ=>by simpa [zHB] using hq τ
theorem zDx {f:FuncId}{args args':List A} {σ0:St}{v:Value}(h:Pan P f args σ0 v)(js:List Nat)(hd:js.Nodup)(ho:yW σ jL (zY js) js σ0)(ha:zB6 js args' args)
 (hq:∀τ : St,Qd v (qR σ js τ)):zIL P Qd σ d K' f args' env:=zPu h js hd ho ha fun τ=>.inr ⟨v,rfl,hq τ⟩
theorem zCq {f:FuncId}{args args':List A} {σ0 σ1:St}{r:A}(h:Ret P f args σ0 r σ1)(js:List Nat)(hd:js.Nodup)(ho:yW σ jL (zY js) js σ0)(ha:zB6 js args' args)
 (hq:K' (env.put d (ren js σ.length r)) (qR σ js (σ1.map (zAM js σ.length)))):zIL P Qd σ d K' f args' env:=zAW h js hd ho ha (.inl ⟨_,rfl,hq⟩)
theorem zCS {α : Type}:∀{js:List Nat} {s t:List α} {x:Nat},x<s.length→x∉js→(qR s js t)[x]?=s[x]?
 | [],s,t,x,hx,_=>by simp[qR,jAc hx]
 | j::js,s,[],x,_,_=>by simp[qR]
 | j::js,s,o::os,x,hx,hn=>by simp only[jA6,not_or]at hn;simp only[qR];rw[zCS (by simpa using hx) hn.2,jA8 (Ne.symm hn.1)]
end
end Go.Abs
namespace Go.Abs
mutual
theorem qC3 {k:Nat}:∀(a:A),(vw jL (fun _=>none) a=a)→a.bnd k=true
 | .any,_=>by simp
 | .nil,_=>by simp
 | .lit _,_=>by simp
 | .agg cs,h=>by simp at h; simp[zDs cs h]
 | .tup cs,h=>by simp at h; simp[zDs cs h]
 | .sl _ cs,h=>by simp at h; simp[zDs cs h]
 | .fsl _ cs,h=>by simp at h; simp[zDs cs h]
 | .rptr cs,h=>by simp at h; simp[zDs cs h]
 | .ptr l _,h=>by simp at h
 | .row l _,h=>by simp at h
 | .rwp l _ _,h=>by simp at h
 | .win l _ _ _ _,h=>by simp[zUp]at h
 | .map l,h=>by simp at h
 | .clo _ fs cs,h=>by simp at h; simp[zDs fs h.1,zDs cs h.2]
theorem zDs {k:Nat}:∀(cs:List A),(vwL jL (fun _=>none) cs=cs)→zBm k cs=true
 | [],_=>by simp
 | c::cs,h=>by simp at h; simp[qC3 c h.1,zDs cs h.2]
end
theorem qJ.bnd {cs:List A}(h:qJ cs)(k:Nat):zBm k cs=true:=zDs cs (h.2 _ _)
def shL (m:Nat)(ks:List Nat):List Nat:=List.range m++ks.map fun k=>m+k
theorem zOE {m l:Nat}{ks:List Nat}(h:l<m):zY (shL m ks) l=some l:=zHC (zGs h)
theorem zNB {m k:Nat}:∀ks:List Nat,zY (ks.map fun k=>m+k) (m+k)=zY ks k
 | []=>rfl
 | x::ks=>by
  simp only[jAd,zHD];by_cases h:k=x
  ·simp[h]
  ·rw[if_neg (by omega),if_neg h,zNB ks]
@[simp] theorem zVi {m k:Nat}{ks:List Nat}:zY (shL m ks) (m+k)=(zY ks k).map (m + ·):=by unfold shL;rw[zJy (by simp),zNB,List.length_range];cases zY ks k<;>simp[jCs]
@[simp] theorem qEc {m:Nat}{ks:List Nat}:zY (shL m ks) m=(zY ks 0).map (m + ·):=by
 have:=zVi (m:=m) (k:=0) (ks:=ks)
 simpa using this
theorem zJ5 {m:Nat}{ks:List Nat}(h:ks.Nodup):(shL m ks).Nodup:=by
 unfold shL;rw[jCg];refine⟨List.nodup_range,?_,fun a ha b hb=>?_⟩
 ·exact List.Pairwise.map _ (fun a b hab e=>hab (Nat.add_left_cancel e)) h
 ·obtain⟨k,_,rfl⟩:=jAm.1 hb;rw[jCh]at ha;omega
theorem zTN {m c:Nat}{ks:List Nat}(h:∀j,j<c→ks[j]?=some j):∀i,i<m+c→(shL m ks)[i]?=some i:=by
 intro i hi;unfold shL;by_cases hm:i<m
 ·rw[jAc (by simpa using hm),List.getElem?_range hm]
 ·rw[jAo (by simp; omega),List.length_range,jCt,h (i-m) (by omega)];simp; omega
theorem zNN {σ : St}{rf:Bool→Nat→Nat→A}{g:Nat→Option Nat}:∀{ks js:List Nat} {a b:St},yW σ rf g ks a→yW σ rf g js b→yW σ rf g (ks++js) (a++b)
 | [],_,[],_,_,h=>h
 | k::ks,js,x::a,b,h,h'=>⟨h.1,zNN h.2 h'⟩
 | [],_,_::_,_,h,_=>h.elim
 | _::_,_,[],_,h,_=>h.elim
theorem zKn {m:Nat}{S own:St}(hS:S.length=m){rf:Bool→Nat→Nat→A}{g:Nat→Option Nat}:∀{ks:List Nat} {a:St},yW own rf g ks a→yW (S++own) rf g (ks.map fun k=>m+k) a
 | [],[],_=>trivial
 | k::ks,x::a,h=>by simp only[jAd,yW];refine⟨?_,zKn hS h.2⟩;rw[zAc hS];exact h.1
 | [],_::_,h=>h.elim
 | _::_,[],h=>h.elim
theorem zOM {m:Nat}{S own own':St}(h:Cl m S){rf:Bool→Nat→Nat→A}{ks:List Nat}(ho:yW own rf (zY (shL m ks)) ks own'):yW (S++own) rf (zY (shL m ks)) (shL m ks) (S++own'):=by refine zNN ?_ (zKn h.1 ho);have:=zMc (rf:=rf) (g:=zY (shL m ks)) (m:=m) (fun l hl=>zOE hl) (σ:=S++own) 0 S (by rw[h.1]; omega) (fun i o hi=>by rw[jAr,jAc (jA1.1 hi).1]; exact hi) h.2;rw[h.1,←List.range_eq_range']at this;exact this
@[simp] theorem qLz {rf:Bool→Nat→Nat→A}{g:Nat→Option Nat}:vwO rf g .dead=.dead:=rfl
@[simp] theorem qGf {js:List Nat}{n:Nat}:zAM js n .dead=.dead:=rfl
section
variable {P:Program}{n0:Nat}{Qp:Value→Env→St→Prop}{K':Env→St→Prop}{env:Env}{d:Option Nat}
theorem zNP {m c:Nat}{S own own':St}(h:Cl m S)(hn:n0=m+c)(ks:List Nat)(fuel:Nat){l:List (Nat×A)}(hk:∀j,j<c→ks[j]?=some j)(hd:ks.Nodup)
 (ho:yW own (seen (S++own) (zY (shL m ks)) fuel) (zY (shL m ks)) ks own')
 (hl:∀p∈l,p.2=vw (seen (S++own) (zY (shL m ks)) fuel) (zY (shL m ks)) (env p.1)∨p.2=nrm0 (vw (seen (S++own) (zY (shL m ks)) fuel) (zY (shL m ks)) (env p.1))):zAD n0 (qN l) (S++own') env (S++own) :=
 zT (shL m ks) fuel (by subst hn; exact zTN hk) (zJ5 hd) (zOM h ho) hl
theorem zJ2 {m c n:Nat}{r r':A}{S own own':St}(h:Cl m S)(hn:n=m+c)(ks:List Nat)(fuel:Nat)(hk:∀j,j<c→ks[j]?=some j)(hd:ks.Nodup)
 (ho:yW own (seen (S++own) (zY (shL m ks)) fuel) (zY (shL m ks)) ks own')
 (hr:r=vw (seen (S++own) (zY (shL m ks)) fuel) (zY (shL m ks)) r'∨r=nrm0 (vw (seen (S++own) (zY (shL m ks)) fuel) (zY (shL m ks)) r')):zGS n r (S++own') (.ret r') (S++own) :=
 zL (shL m ks) fuel (by subst hn; exact zTN hk) (zJ5 hd) (zOM h ho) hr
theorem zPn:∀{js ks:List Nat} {n k:Nat},back (js++ks) n (js.length+k)=back ks n k
 | [],ks,n,k=>by simp
 | j::js,ks,n,k=>by
  have e:(j::js).length+k=js.length+k+1:=by simp; omega
  rw[e];simp only[jB4,back];exact zPn
theorem zMF:∀{js ks:List Nat} {n l:Nat},l<js.length→back (js++ks) n l=back js n l
 | [],_,_,l,h=>by simp at h
 | j::js,ks,n,0,h=>rfl
 | j::js,ks,n,l+1,h=>by simp only[jB4,back];exact zMF (by simpa using h)
@[simp] theorem zVX {m k n:Nat}{ks:List Nat}:back (shL m ks) n (m+k)=back (ks.map fun k=>m+k) n k:=by
 have:=zPn (js:=List.range m) (ks:=ks.map fun k=>m+k) (n:=n) (k:=k)
 rwa [List.length_range]at this
@[simp] theorem qFc {m n:Nat}{ks:List Nat}:back (shL m ks) n m=back (ks.map fun k=>m+k) n 0:=by
 have:=zVX (m:=m) (k:=0) (n:=n) (ks:=ks)
 simpa using this
theorem zPo {m l n:Nat}{ks:List Nat}(h:l<m):back (shL m ks) n l=l:=by unfold shL;rw[zMF (by simpa using h),zKJ h]
theorem zHF {α : Type}:∀{js ks:List Nat} {s a b:List α},a.length=js.length→qR s (js++ks) (a++b)=qR (qR s js a) ks b
 | [],ks,s,[],b,_=>by simp[qR]
 | j::js,ks,s,x::a,b,h=>by simp only[jB4,qR];exact zHF (by simpa using h)
 | [],_,_,_::_,_,h=>by simp at h
 | _::_,_,_,[],_,h=>by simp at h
theorem zI4 {m:Nat}{S:St}(hS:S.length=m):∀{ks:List Nat} {own t:St},qR (S++own) (ks.map fun k=>m+k) t=S++qR own ks t
 | [],own,t=>by simp[qR]
 | k::ks,own,[]=>by simp[qR]
 | k::ks,own,x::t=>by simp only[jAd,qR];rw[zAO hS];exact zI4 hS
theorem zWk {m:Nat}{S S' own o0 o1:St}(h:Cl m S)(h':Cl m S'){f:FuncId}{args args':List A}{r:A}(hr:Ret P f args (S++o0) r (S'++o1))(ks:List Nat)(hd:ks.Nodup)
 (ho:yW own jL (zY (shL m ks)) ks o0)(ha:zB6 (shL m ks) args' args)
 (hq:K' (env.put d (ren (shL m ks) (m+own.length) r)) (S'++qR own ks (o1.map (zAM (shL m ks) (m+own.length))))):zAi P f args' (S++own) (zHB d env K' Qp):=by
 refine jO hr (shL m ks) (zJ5 hd) (zOM h ho) ha ?_;have hlen:(S++own).length=m+own.length:=by rw[jA7,h.1]
 rw[hlen,jCi];have e:S'.map (zAM (shL m ks) (m+own.length))=S':=by
  conv=>rhs; rw[←List.map_id S']
  exact jBs fun o ho=>by simp only[zAM,id];exact zOU (fun l hl=>by rw[zPo hl]) o (h'.2 o ho)
 rw[e];have hput:qR (S++own) (shL m ks) (S'++o1.map (zAM (shL m ks) (m+own.length)))=S'++qR own ks (o1.map (zAM (shL m ks) (m+own.length))):=by have h0:=zHH (own:=own) 0 [] rfl (by rw[h.1,h'.1]:S'.length=S.length);rw[h.1,←List.range_eq_range']at h0;simp only[jCa]at h0;unfold shL;rw[zHF (by rw[h'.1,List.length_range]),h0];exact zI4 h'.1
 rw[hput];exact hq
end
end Go.Abs
namespace Go.Proofs.YtdnelmeboihpkaaGreatDoor
section
variable (marked:List Id)(x:Id)
def zEs:List Edg→List Id→List Id
 | [],M=>M
 | e::l,M=>zEs l (if e.fro=x∧e.to∉M∧e.to∉marked then M++[e.to] else M)
theorem zMB (e:Edg):∀(l:List Edg) (M:List Id),zEs marked x (l++[e]) M=(if e.fro=x∧e.to∉zEs marked x l M∧e.to∉marked then zEs marked x l M++[e.to] else zEs marked x l M)
 | [],M=>rfl
 | a::l,M=>by simp only[jB4,zEs]; exact zMB e l _
theorem zHM:∀(l:List Edg) (M:List Id),∃N,zEs marked x l M=M++N
 | [],M=>⟨[],by simp[zEs]⟩
 | e::l,M=>by
  simp only[zEs];split
  ·obtain⟨N,h⟩:=zHM l (M++[e.to]);exact⟨e.to::N,by rw[h]; simp⟩
  ·exact zHM l M
variable {marked x}
theorem zNZ:∀(l:List Edg) {M:List Id},M.Nodup→(zEs marked x l M).Nodup
 | [],_,h=>h
 | e::l,M,h=>by
  simp only[zEs];split
  ·rename_i hc;refine zNZ l ?_;rw[jCg];refine⟨h,by simp,fun a ha b hb=>?_⟩;rw[jAp]at hb;subst hb;exact fun e=>hc.2.1 (e▸ha)
  ·exact zNZ l h
theorem zPf:∀(l:List Edg) (M:List Id) (e:Edg),e∈l→e.fro=x→e.to∈zEs marked x l M∨e.to∈marked
 | a::l,M,e,he,hx=>by
  simp only[zEs];rcases jA6.1 he with rfl | he
  ·obtain⟨N,h⟩:=zHM marked x l (if e.fro=x∧e.to∉M∧e.to∉marked then M++[e.to] else M);rw[h];by_cases h1:e.to∈M
   ·exact .inl (by split<;>simp[h1])
   ·by_cases h2:e.to∈marked
    ·exact .inr h2
    ·exact .inl (by rw[if_pos ⟨hx,h1,h2⟩]; simp)
  ·exact zPf l _ e he hx
theorem zPg:∀(l:List Edg) (M:List Id) (y:Id),y∈zEs marked x l M→y∈M∨∃e∈l,e.fro=x∧e.to=y∧y∉marked
 | [],M,y,h=>.inl h
 | a::l,M,y,h=>by
  simp only[zEs]at h;rcases zPg l _ y h with h | ⟨e,he,h1,h2,h3⟩
  ·split at h
   ·rename_i hc;rcases jAh.1 h with h | h
    ·exact .inl h
    ·rw[jAp]at h;subst h;exact .inr ⟨a,by simp,hc.1,rfl,hc.2.2⟩
   ·exact .inl h
  ·exact .inr ⟨e,by simp[he],h1,h2,h3⟩
end
structure Bfs (L:List Edg)(to:Id)(marked:List Id)(fro:Id)(M:List Id)(k:Nat):Prop where
 nd:M.Nodup
 first:fro∈M
 from_:∀y∈M,y=fro∨∃e∈L,e.to=y
 back:∀y∈M,Rchs L to marked y→Rchs L to marked fro
 not_:∀j (hj:j<M.length),j<k→M[j]≠to
 closed:∀j (hj:j<M.length),j<k→∀e∈L,e.fro=M[j]→e.to∈M∨e.to∈marked
 le:k≤M.length
theorem Bfs.start (L:List Edg)(to:Id)(marked:List Id)(fro:Id):Bfs L to marked fro [fro] 0 :=
 ⟨by simp,by simp,by simp,by simp,by omega,by omega,by simp⟩
theorem Bfs.len {L:List Edg}{to:Id}{marked:List Id}{fro:Id}{M:List Id}{k:Nat}(h:Bfs L to marked fro M k):M.length≤L.length+1:=by
 have:=h.nd.length_le_of_subset (l₂:=fro::L.map (·.to)) fun y hy=>by
  rcases h.from_ y hy with rfl | ⟨e,he,rfl⟩
  ·simp
  ·simp only[jA6,jAm];exact .inr ⟨e,he,rfl⟩
 simpa using this
theorem Bfs.next {L:List Edg}{to:Id}{marked:List Id}{fro:Id}{M:List Id}{k:Nat}(h:Bfs L to marked fro M k)(hk:k<M.length)(hne:M[k]≠to):Bfs L to marked fro (zEs marked M[k] L M) (k+1):=by
 obtain⟨N,hN⟩:=zHM marked M[k] L M;have hall:=zPf (marked:=marked) (x:=M[k]) L M;have hmem:=zPg (marked:=marked) (x:=M[k]) L M;have hnd:=zNZ (marked:=marked) (x:=M[k]) L h.nd;rw[hN]at hall hmem hnd ⊢;refine⟨hnd,jBi _ h.first,fun y hy=>?_,fun y hy hr=>?_,fun j hj hjk=>?_,fun j hj hjk e he hx=>?_,by simp; omega⟩
 ·rcases hmem y hy with hy | ⟨e,he,_,h2,_⟩
  ·exact h.from_ y hy
  ·exact .inr ⟨e,he,h2⟩
 ·rcases hmem y hy with hy | ⟨e,he,h1,h2,h3⟩
  ·exact h.back y hy hr
  ·refine h.back _ (jA3 hk) ?_;rw[←h1];exact .step e he (by rw[h2]; exact h3) (by rw[h2]; exact hr)
 ·rw[jBt (by omega)];by_cases hjk':j=k
  ·subst hjk'; exact hne
  ·exact h.not_ j (by omega) (by omega)
 ·rw[jBt (by omega)]at hx;by_cases hjk':j=k
  ·subst hjk'; exact hall e he hx
  ·rcases h.closed j (by omega) (by omega) e he hx with h' | h'
   ·exact .inl (jBi _ h')
   ·exact .inr h'
theorem Bfs.yes {L:List Edg}{to:Id}{marked:List Id}{fro:Id}{M:List Id}{k:Nat}(h:Bfs L to marked fro M k)(hk:k<M.length)(he:M[k]=to):Rchs L to marked fro :=
 h.back _ (jA3 hk) (he▸.here)
theorem Bfs.no {L:List Edg}{to:Id}{marked:List Id}{fro:Id}{M:List Id}{k:Nat}(h:Bfs L to marked fro M k)(hk:k=M.length):¬Rchs L to marked fro:=by
 intro hr;have key:∀y,Rchs L to marked y→y∈M→to∈M:=by
  intro y hy;induction hy with
  | here=>exact fun h=>h
  | step e he hn _ ih =>
   intro hm;obtain⟨j,hj,e'⟩:=jAz hm;rcases h.closed j hj (by omega) e he e'.symm with h' | h'
   ·exact ih h'
   ·exact(hn h').elim
 obtain⟨j,hj,e⟩:=jAz (key fro hr h.first);exact h.not_ j hj (by omega) e
end Go.Proofs.YtdnelmeboihpkaaGreatDoor
namespace Go.Proofs.YtdnelmeboihpkaaGreatDoor
open Go.Abs
def zRl:K:=G [kMn 2] (Z (G [M 3 0,⟨none,.isz (some 4) false (kt 3)⟩] (Y 4 (G [kMn 2] kr) ks)) (G [kd 5 31 3 0 [] [],M 6 0,kP 7 31 3 24 5 6,M 2 7] kr))
theorem zVZ:zQ Tryz.prog Tryz.f100.ntmps (Tryz.f100.body.getD .skip)=some zRl.erase:=by kernel_rfl
@[simp] theorem qIK:zB Tryz.prog 100=true:=by kernel_rfl
def zEY (Ls:List (List Id)):List A:=Ls.map fun l=>A.sl l.length (zO l)
theorem zEZ:∀(Ls:List (List Id)),qJ (zEY Ls)
 | []=>qJ.nil
 | l::Ls=>by
  have h1:=zEZ Ls;have h2:=zBw l;refine⟨?_,fun rf g=>?_⟩
  ·show jF (A.sl l.length (zO l)::zEY Ls)=_;simp[h1.1];rfl
  ·show vwL rf g (A.sl l.length (zO l)::zEY Ls)=_;simp[h1.2];rfl
@[simp] theorem qBI (l:List (List Id)):jF (zEY l)=zEY l:=(zEZ l).1
@[simp] theorem qG5 {rf g}(l:List (List Id)):vwL rf g (zEY l)=zEY l:=(zEZ l).2 _ _
@[simp] theorem qCP (l:List (List Id)):(zEY l).length=l.length:=by simp[zEY]
def zFG {α : Type}(same : α→α→Bool):List α→List α→Bool
 | [],[]=>true
 | x::a,y::b=>same x y&&zFG same a b
 | _,_=>false
theorem zKD {α : Type}{same : α→α→Bool}:∀{a b:List α},a.length≠b.length→zFG same a b=false
 | [],[],h=>(h rfl).elim
 | x::a,y::b,h=>by simp only[zFG,zKD (a:=a) (b:=b) (by simpa using h),Bool.and_false]
 | [],_::_,_=>rfl
 | _::_,[],_=>rfl
theorem zFL {α : Type}{same : α→α→Bool}:∀{a b:List α} (hl:a.length=b.length),zFG same a b=true↔∀(j:Nat) (h:j<a.length),same a[j] (b[j]'(hl▸h))=true
 | [],[],_=>by simp[zFG]
 | x::a,y::b,hl=>by
  simp only[zFG,jA4,zFL (a:=a) (b:=b) (by simpa using hl)];constructor
  ·rintro⟨h1,h2⟩ j h;cases j with
   | zero=>exact h1
   | succ j=>exact h2 j (by simpa using h)
  ·intro h;exact⟨h 0 (by simp),fun j hj=>h (j+1) (by simpa using hj)⟩
 | [],_::_,hl=>by simp at hl
 | _::_,[],hl=>by simp at hl
def qHt:K:=G [kMb 6 false] (Z (G [M 10 0,kN 11 10,M 12 1,kN 13 12,kQ 14 11 13 true] (Y 14 (G [kMb 6 false] kr) ks)) (Z (G [M 15 0,kN 16 15,kMi 17 0] (K.block 0 (K.loop (G [kB 18 17 16 .lss] (Z (Y 18 ks (K.exit 0)) (Z (K.block 1 (G [M 19 17,kX 20 15 17 5,J 21 20 5,kZ 8 kz2,M 7 19,S 8 21 5] (G [M 22 1,M 23 7,kX 24 22 23 5,J 25 24 5,kZ 9 kz2,S 9 25 5] (G [M 26 2,J 27 8 5,J 28 9 5,⟨none,.call (some 29) (kt 26) [(kt 27),(kt 28)]⟩,kR 30 29] (Y 30 (G [kMb 6 false] kr) ks))))) (K.ops [kBi 31 17 1 .add,M 17 31]))))))) (G [kMb 6 true] kr)))
theorem qO4:zQ Tryz.prog Tryz.f140.ntmps (Tryz.f140.body.getD .skip)=some qHt.erase:=by kernel_rfl
@[simp] theorem qPo:zB Tryz.prog 140=true:=by kernel_rfl
theorem zZd (g:FuncId)(hcal:zB Tryz.prog g=true)(same:Typ→Typ→Bool)(a b:List Typ)(h:∀x∈a,∀y∈b,Ret Tryz.prog g [.agg (zM x),.agg (zM y)] [] (bl (same x y)) []) :
 Ret Tryz.prog 140 [.sl a.length (yA a),.sl b.length (yA b),.clo g [] []] [] (bl (zFG same a b)) []:=by
 refine zI Tryz.func140 rfl qO4 (rs:=[.slot 6]) (by kernel_rfl) ?_;unfold qHt;by_cases hab:a.length=b.length
 ·simp[hab];intro hlb;refine jQ (S:=Nat) (fun i=>[(1,.sl b.length (yA b)),(2,.clo g [] []),(15,.sl a.length (yA a)),(16,int a.length),(17,int i)]) (fun s=>[]) (fun i=>i≤a.length∧∀(j:Nat) (h:j<a.length),j<i→same a[j] (b[j]'(hab▸h))=true) (fun i=>a.length-i) 0 (by simp)
   (zT [] 0 (by simp) (by simp) (by simp) (by simp[hab])) ?_
  rintro i ⟨hi,hn⟩;by_cases hia:i<a.length
  ·have hib:i<b.length:=by omega
   have hla:i*5<a.length*5:=by omega
   have hlb':i*5<b.length*5:=by omega
   simp[hia,hib,zEf hia,zEf hib,hcal,zM];refine qA (h a[i] (jA3 hia) b[i] (jA3 hib)) (by simp[zM]) (by simp) ?_;cases hs:same a[i] b[i]with
   | true =>
    simp;exact zR (i+1) ⟨hia,fun j hj hji=>by
     by_cases e:j=i
     ·subst e; exact hs
     ·exact hn j hj (by omega)⟩ (by omega) (zT [] 0 (by simp) (by simp) (by simp) (by simp[qD hib hlb]))
   | false =>
    have hf:zFG same a b=false:=by
     cases hh:zFG same a b with
     | false=>rfl
     | true=>have:=(zFL hab).1 hh i hia; rw[hs]at this; cases this
    simp;exact zA 0 (by simp[hf])
  ·have hil:i=a.length:=by omega
   subst hil;have ht:zFG same a b=true:=(zFL hab).2 fun j hj=>hn j hj hj
   simp;exact zA 0 (by simp[ht])
 ·have hab':¬(a.length:Int)=b.length:=by omega
  simp[hab'];exact fun _ _=>zA 0 (by simp[zKD hab])
end Go.Proofs.YtdnelmeboihpkaaGreatDoor
