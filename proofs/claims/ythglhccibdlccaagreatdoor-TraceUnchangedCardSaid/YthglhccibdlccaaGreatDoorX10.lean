/-
  An evaluator of small code at closed abstract states: code, functions, calls.
  Lists of IDs in increasing order, each once: what the reference's insertion gives, and what a sort and a compaction give.
  Programs as data: types, expressions, definitions, and their cells.
  Tables of the evaluator; results in their plain form.
  Functions that panic: contracts and how a call meets them.
  slices.Clone, Grow, Concat, SortFunc, Compact at lists of IDs.
  The law's example.
  Types, definitions and nodes are compared.
-/
import Derived.Test.YthglhccibdlccaaGreatDoorX8
import Derived.Test.YthglhccibdlccaaGreatDoorX7
set_option linter.unusedVariables false
set_option maxHeartbeats 8000000
set_option maxRecDepth 100000
set_option linter.unusedSimpArgs false
open Go.Proofs.Tryz (prog)
namespace Go.Abs
section
variable {P:Program}{n0:Nat}
mutual
def lvA:A→List Nat
 | .any | .nil | .lit _=>[]
 | .agg cs | .tup cs | .sl _ cs | .fsl _ cs | .rptr cs=>lvL cs
 | .ptr l _ | .row l _ | .rwp l _ _ | .map l | .win l _ _ _ _=>[l]
 | .clo _ fs cs=>lvL fs++lvL cs
def lvL:List A→List Nat
 | []=>[]
 | c::cs=>lvA c++lvL cs
end
def lvM:List (List Int×A)→List Nat
 | []=>[]
 | p::l=>lvA p.2++lvM l
def lvO:AObj→List Nat
 | .box cs=>lvL cs
 | .row _ _ _ _ cs=>lvL cs
 | .mp _ _ es=>lvM es
 | .it m _ _=>[m]
 | _=>[]
def zRr (x:Nat):List Nat→Bool
 | []=>false
 | y::l=>bif Nat.beq x y then true else zRr x l
theorem zPr {x:Nat}:∀{l:List Nat},zRr x l=true↔x∈l
 | []=>by simp[zRr]
 | y::l=>by
  simp only[zRr,jA3];cases h:Nat.beq x y
  ·have:x≠y:=fun e=>by subst e; simp at h
   simp only[cond_false,this,false_or,zPr]
  ·have:=jC2 h;simp[this]
def zFs (keep:Nat→AObj→Bool) (σ : St):Nat→List Nat→List Nat→List Nat
 | 0,_,acc=>acc
 | _+1,[],acc=>acc
 | n+1,l::t,acc=>bif zRr l acc then zFs keep σ n t acc else match σ[l]? with
  | some o=>bif keep l o then zFs keep σ n (lvO o++t) (acc++[l]) else zFs keep σ n t acc
  | none=>zFs keep σ n t acc
def zFp:List Nat→Bool
 | []=>true
 | x::l=>!(zRr x l)&&zFp l
theorem zD4:∀{l:List Nat},zFp l=true→l.Nodup
 | [],_=>List.nodup_nil
 | x::l,h=>by simp only[zFp,jA6,jBr]at h;rw[jCf];refine⟨fun hm=>?_,zD4 h.2⟩;rw[zPr.2 hm]at h;cases h.1
def zU0 (σ : St)(rf:Bool→Nat→Nat→A)(g:Nat→Option Nat):List Nat→Option St
 | []=>some []
 | j::js=>match σ[j]?,zU0 σ rf g js with
  | some o,some os=>some (vwO rf g o::os)
  | _,_=>none
theorem zFx {σ : St}{rf:Bool→Nat→Nat→A}{g:Nat→Option Nat}:∀{js:List Nat} {σ':St},zU0 σ rf g js=some σ'→zAB σ rf g js σ'
 | [],σ',h=>by cases h; trivial
 | j::js,σ',h=>by
  simp only[zU0]at h;split at h<;>try (cases h; done)
  rename_i o os h1 h2;cases h;simp only[zAB,h1];exact⟨.inl trivial,zFx h2⟩
mutual
theorem qCi {rf:Bool→Nat→Nat→A}{g:Nat→Option Nat}:∀(a:A),a.bnd 0=true→vw rf g a=a
 | .any,_=>rfl
 | .nil,_=>rfl
 | .lit _,_=>rfl
 | .agg cs,h=>by simp only[A.bnd]at h; simp only[vw,zGw cs h]
 | .tup cs,h=>by simp only[A.bnd]at h; simp only[vw,zGw cs h]
 | .sl n cs,h=>by simp only[A.bnd]at h; simp only[vw,zGw cs h]
 | .fsl n cs,h=>by simp only[A.bnd]at h; simp only[vw,zGw cs h]
 | .rptr cs,h=>by simp only[A.bnd]at h; simp only[vw,zGw cs h]
 | .ptr l o,h=>by simp[A.bnd]at h
 | .row l n,h=>by simp[A.bnd]at h
 | .rwp l n o,h=>by simp[A.bnd]at h
 | .win l n o k c,h=>by simp[A.bnd]at h
 | .map l,h=>by simp[A.bnd]at h
 | .clo f fs cs,h=>by simp only[A.bnd,jA6]at h; simp only[vw,zGw fs h.1,zGw cs h.2]
theorem zGw {rf:Bool→Nat→Nat→A}{g:Nat→Option Nat}:∀(cs:List A),zDl 0 cs=true→vwL rf g cs=cs
 | [],_=>rfl
 | c::cs,h=>by simp only[zDl,jA6]at h; simp only[vwL,qCi c h.1,zGw cs h.2]
end
theorem zHK {js:List Nat}:∀{xs:List A},zBC js xs (xs.map (vw yA (qX js)))
 | []=>trivial
 | _::_=>⟨.inl rfl,zHK⟩
abbrev Run:=FuncId→List A→St→Option (A×St)
def zVL (R:Run):Run:=fun f xs σ =>
 let js:=zFs (fun _ _=>true) σ 1000 (lvL xs) []
 match zU0 σ yA (qX js) js with
 | some σ0=>match R f (xs.map (vw yA (qX js))) σ0 with
  | some (r,σ1)=>bif zFp js then some (ren js σ.length r,jX σ js (σ1.map (zBM js σ.length))) else none
  | none=>none
 | none=>none
theorem zVM {R:Run}(hR:zA3 P R):zA3 P (zVL R):=by
 intro f xs σ r σ' h;simp only[zVL]at h;generalize zFs _ _ _ _ _=js at h;split at h<;>try (cases h; done)
 rename_i σ0 h0;split at h<;>try (cases h; done)
 rename_i r0 σ1 h1;cases hd:zFp js
 ·rw[hd]at h; cases h
 ·rw[hd]at h;cases h;obtain⟨h2,h3⟩:=hR _ _ _ _ _ h1;exact⟨h2,zAF h3 js (zD4 hd) (zFx h0) zHK ⟨rfl,rfl⟩⟩
def zVP (R:Run):FuncId→List A→Option A:=fun f xs=>match R f (xs.map (vw yA (qX []))) []with
 | some (r,[])=>bif r.bnd 0 then some r else none
 | _=>none
def zWR:AObj→Bool
 | .rsv=>true
 | _=>false
def zVN (R:Run):FuncId→List A→Nat→Option (A×St):=fun f xs n=>match R f (xs.map (vw yA (qX []))) []with
 | some (r,σ1)=>bif σ1.any zWR then none else some (ren [] n r,σ1.map (zBM [] n))
 | none=>none
theorem zVQ {R:Run}(hR:zA3 P R):zFF P (zVP R,zVN R):=by
 refine⟨fun f xs r h=>?_,fun f xs n r own h=>?_⟩
 ·simp only[zVP]at h;split at h<;>try (cases h; done)
  rename_i r0 h1;cases hb:r0.bnd 0
  ·rw[hb]at h; cases h
  ·rw[hb]at h;cases h;obtain⟨h2,h3⟩:=hR _ _ _ _ _ h1;refine⟨h2,fun τ=>?_⟩;refine zAF h3 [] (by simp) trivial zHK ⟨?_,by simp[jX]⟩;simp only[ren,qCi r hb]
 ·simp only[zVN]at h;split at h<;>try (cases h; done)
  rename_i r0 σ1 h1;cases hb : σ1.any zWR
  ·rw[hb]at h;cases h;obtain⟨h2,h3⟩:=hR _ _ _ _ _ h1;refine⟨h2,fun o ho=>?_,fun τ hl=>?_⟩
   ·obtain⟨o',ho',rfl⟩:=jAi.1 ho;rw[jDh]at hb;have:=hb o' ho';cases o'<;>simp[zBM,vwO,zWR]at this ⊢
   ·subst hl;exact zAF h3 [] (by simp) trivial zHK ⟨rfl,by simp[jX]⟩
  ·rw[hb]at h; cases h
def evG (C:Run)(g:KG)(l:List (Nat×A)) (σ : St):Option (List (Nat×A)×St):=match g.guard with
 | none=>(match evO C g.op (lkB l) σ with
  | some (r,σ')=>some (zOt g.op.dst r l,σ')
  | none=>none)
 | some (s,want)=>match lkB l s with
  | .lit (.bool b)=>bif b==want then (match evO C g.op (lkB l) σ with
   | some (r,σ')=>some (zOt g.op.dst r l,σ')
   | none=>none) else some (zOt g.op.dst (.lit undef) l,σ)
  | .lit (.tuple _)=>some (zOt g.op.dst (.lit undef) l,σ)
  | _=>none
def zS1 (C:Run):List KG→List (Nat×A)→St→Option (List (Nat×A)×St)
 | [],l,σ=>some (l,σ)
 | g::gs,l,σ=>match evG C g l σ with
  | some (l',σ')=>zS1 C gs l' σ'
  | none=>none
def qDx (C:Run)(C0:Cl0)(f:Nat)(g:KG)(l:List (Nat×A)) (σ : St):Option (List (Nat×A)×St):=bif qAh f g.op (lkB l) then (match g.guard with
 | none=>(match zS0 C C0 f g.op (lkB l) σ with
  | some (r,σ')=>some (zOt g.op.dst r l,σ')
  | none=>none)
 | some (s,want)=>match lkB l s with
  | .lit (.bool b)=>bif b==want then (match zS0 C C0 f g.op (lkB l) σ with
   | some (r,σ')=>some (zOt g.op.dst r l,σ')
   | none=>none) else some (zOt g.op.dst (.lit undef) l,σ)
  | .lit (.tuple _)=>some (zOt g.op.dst (.lit undef) l,σ)
  | _=>none) else none
def zZg (C:Run)(C0:Cl0):List (Nat×Nat×KG)→List (Nat×A)→St→Option (List (Nat×A)×St)
 | [],l,σ=>some (l,σ)
 | x::gs,l,σ=>match qDx C C0 x.2.1 x.2.2 l σ with
  | some (l',σ')=>zZg C C0 gs l' σ'
  | none=>none
abbrev Res:=Option (Ex×List (Nat×A)×St)
def zS9 (f:List (Nat×A)→St→Res):Nat→List (Nat×A)→St→Res
 | 0,_,_=>none
 | n+1,l,σ=>match f l σ with
  | some (.norm,l',σ')=>zS9 f n l' σ'
  | r=>r
def qDP:List (Nat×Nat×KG)→Nat
 | []=>0
 | x::l=>match x.2.2.op with
  | .alr _ q _=>max (q+1) (qDP l)
  | _=>qDP l
def qLu:K→Nat
 | .dops l=>qDP l
 | _=>0
def qJH:K→Bool
 | .wk _=>true
 | _=>false
def qBy:List (Nat×A)→List Nat→List Nat
 | [],acc=>acc
 | p::l,acc=>qBy l (bif zRr p.1 acc then acc else p.1::acc)
def zOm (n0:Nat) (σ : St)(i:Nat):List AObj→List Nat
 | []=>[]
 | o::os=>bif (match o with | .row ..=>Nat.blt i n0 | _=>true) then i::zOm n0 σ (i+1) os else zOm n0 σ (i+1) os
def zEZ:Nat→List Nat→Bool
 | 0,_=>true
 | _+1,[]=>false
 | n+1,l=>go 0 (n+1) l
where go:Nat→Nat→List Nat→Bool
 | _,0,_=>true
 | _,_+1,[]=>false
 | i,n+1,x::l=>Nat.beq x i&&go (i+1) n l
theorem zMW:∀{n i:Nat} {l:List Nat},zEZ.go i n l=true→∀j,j<n→l[j]?=some (i+j)
 | 0,i,l,_,j,hj=>by omega
 | n+1,i,[],h,j,hj=>by simp[zEZ.go]at h
 | n+1,i,x::l,h,j,hj=>by
  simp only[zEZ.go,jA6]at h;have hx:=jC2 h.1;cases j with
  | zero=>simp[hx]
  | succ j=>rw[jB5,zMW h.2 j (by omega)]; simp; omega
theorem zIa {n:Nat}{l:List Nat}(h:zEZ n l=true):∀j,j<n→l[j]?=some j:=by
 cases n with
 | zero=>intro j hj; omega
 | succ n =>
  cases l with
  | nil=>simp[zEZ]at h
  | cons x l=>intro j hj; simpa using zMW (i:=0) h j hj
def qDA (n0:Nat)(l:List (Nat×A)) (σ : St):Option (List (Nat×A)×St) :=
 let ks:=zOm n0 σ 0 σ
 bif zFp ks&&zEZ n0 ks then (match zU0 σ (seen σ (qX ks) 8) (qX ks) ks with
  | some σ'=>some ((qBy l []).map fun t=>(t,vw (seen σ (qX ks) 8) (qX ks) (lkB l t)),σ')
  | none=>none) else none
def evK (C:Run)(C0:Cl0)(n0 lf:Nat):K→List (Nat×A)→St→Res
 | .skip,l,σ=>some (.norm,l,σ)
 | .seq a b,l,σ=>match evK C C0 n0 lf a l σ with
  | some (.norm,l',σ')=>evK C C0 n0 lf b l' σ'
  | r=>r
 | .cond c a b,l,σ=>match ev (lkB l) c with
  | .lit (.bool t)=>bif t then evK C C0 n0 lf a l σ else evK C C0 n0 lf b l σ
  | _=>none
 | .block id b,l,σ=>match evK C C0 n0 lf b l σ with
  | some (.exit i,l',σ')=>bif Nat.beq i id then some (.norm,l',σ') else some (.exit i,l',σ')
  | r=>r
 | .loop b,l,σ=>zS9 (evK C C0 n0 lf b) lf l σ
 | .exit id,l,σ=>some (.exit id,l,σ)
 | .ret,l,σ=>some (.ret,l,σ)
 | .ops gs,l,σ=>match zS1 C gs l σ with
  | some (l',σ')=>some (.norm,l',σ')
  | none=>none
 | .dops xs,l,σ=>match zZg C C0 xs l σ with
  | some (l',σ')=>some (.norm,l',σ')
  | none=>none
 | .rng ..,_,_=>none
 | .wk b,l,σ=>bif qJH b then (match qDA n0 l σ with
  | some (l',σ')=>evK C C0 n0 lf b l' σ'
  | none=>none) else evK C C0 n0 lf b l (σ++List.replicate (qLu b - σ.length) .rsv)
theorem zTE {C:Run}(hC:zA3 P C){g:KG}{l l':List (Nat×A)} {σ σ':St}(h:evG C g l σ = some (l',σ')){Qp:Value→Env→St→Prop}{K:Env→St→Prop}(hK:K (qT l') σ'):wpG P Qp K g (qT l) σ:=by
 unfold evG at h;unfold wpG;rw[zIX]at h;split at h
 ·rename_i hg;split at h<;>try (cases h; done)
  rename_i r τ h1;cases h;simp only[hg];exact zIP hC h1 (by rw[←zEn]; exact hK)
 ·rename_i s want hg;simp only[hg];split at h
  ·rename_i b hb;rw[hb];simp only;cases hw:b==want
   ·rw[hw]at h;cases h;exact⟨fun e=>(by cases e),fun _=>(by rw[zGq,←zEn]; exact hK)⟩
   ·rw[hw]at h;simp only[cond_true]at h;split at h<;>try (cases h; done)
    rename_i r τ h1;cases h;exact⟨fun _=>zIP hC h1 (by rw[←zEn]; exact hK),fun e=>(by cases e)⟩
  ·rename_i hb;cases h;rw[hb];simp only[zGq,←zEn];exact hK
  ·cases h
theorem zJI {C:Run}(hC:zA3 P C){Qp:Value→Env→St→Prop}{K:Env→St→Prop}:∀{gs:List KG} {l l':List (Nat×A)} {σ σ':St},zS1 C gs l σ = some (l',σ')→K (qT l') σ'→zCF P Qp K gs (qT l) σ
 | [],l,l',σ,σ',h,hK=>by cases h; exact hK
 | g::gs,l,l',σ,σ',h,hK=>by
  simp only[zS1]at h;split at h<;>try (cases h; done)
  rename_i l1 σ1 h1;exact zTE hC h1 (zJI hC h hK)
theorem zRb {C:Run}(hC:zA3 P C){C0:Cl0}(hC0:zFF P C0){f:Nat}{g:KG}{l l':List (Nat×A)} {σ σ':St}(h:qDx C C0 f g l σ = some (l',σ')){Qd:Value→St→Prop}{K:Env→St→Prop}(hK:K (qT l') σ') :
 zBi f g.op (qT l)∧zRT P Qd f K g (qT l) σ:=by
 unfold qDx at h;unfold zRT;rw[zIX]at h;cases ht:qAh f g.op (qT l)
 ·rw[ht]at h; cases h
 ·refine⟨zRO ht,?_⟩;rw[ht]at h;simp only[cond_true]at h;split at h
  ·rename_i hg;split at h<;>try (cases h; done)
   rename_i r τ h1;cases h;simp only[hg];exact zJH hC hC0 h1 (by rw[←zEn]; exact hK)
  ·rename_i s want hg;simp only[hg];split at h
   ·rename_i b hb;rw[hb];simp only;cases hw:b==want
    ·rw[hw]at h;cases h;exact⟨fun e=>(by cases e),fun _=>(by rw[zGq,←zEn]; exact hK)⟩
    ·rw[hw]at h;simp only[cond_true]at h;split at h<;>try (cases h; done)
     rename_i r τ h1;cases h;exact⟨fun _=>zJH hC hC0 h1 (by rw[←zEn]; exact hK),fun e=>(by cases e)⟩
   ·rename_i hb;cases h;rw[hb];simp only[zGq,←zEn];exact hK
   ·cases h
theorem zKX {C:Run}(hC:zA3 P C){C0:Cl0}(hC0:zFF P C0){Qd:Value→St→Prop}{K:Env→St→Prop}:∀{gs:List (Nat×Nat×KG)} {l l':List (Nat×A)} {σ σ':St},zZg C C0 gs l σ = some (l',σ')→K (qT l') σ'→wpD P Qd K gs (qT l) σ
 | [],l,l',σ,σ',h,hK=>by cases h; exact hK
 | g::gs,l,l',σ,σ',h,hK=>by
  simp only[zZg]at h;split at h<;>try (cases h; done)
  rename_i l1 σ1 h1;exact zRb hC hC0 h1 (zKX hC hC0 h hK)
theorem zXY {env:Env} {σ : St}:zBL n0 env (σ++[AObj.rsv]) env σ:=by
 intro H0 L0 w0 H L w N tmps h0 h1 h2;have hll:=LLe.append L [(⟨none,0,0,false⟩:LI)];refine⟨H,L++[(⟨none,0,0,false⟩:LI)],h1.trans ?_,h2.mono (HLe.refl _) hll⟩;have hs:=h1.st;refine⟨⟨hs.pers,by simp[hs.len],fun i l o hL hσ=>?_,fun i j x y b hi hj hx hy=>?_,fun i x b hi hx=>?_⟩,Step.refl _ _ _,hll,fun b ⟨i,x,hi,hx⟩=>?_⟩
 ·rcases jQ hL with hL' | ⟨rfl,rfl⟩
  ·have hi:i<L.length:=(jA4.1 hL').1;rw[jAo (by rw[←hs.len]; exact hi)]at hσ;exact(hs.obj i l o hL' hσ).carry (fun _ _=>rfl) (HLe.refl _) hll (fun _ _ _=>rfl)
  ·rw[hs.len]at hσ;rw[jBg (jA _)]at hσ;simp only[jBx,jAx,jA1]at hσ;subst hσ;exact⟨rfl,rfl⟩
 ·rcases jQ hi with hi' | ⟨rfl,rfl⟩
  ·rcases jQ hj with hj' | ⟨rfl,rfl⟩
   ·exact hs.inj i j x y b hi' hj' hx hy
   ·cases hy
  ·cases hx
 ·rcases jQ hi with hi' | ⟨rfl,rfl⟩
  ·exact hs.lt i x b hi' hx
  ·cases hx
 ·rcases jQ hi with hi' | ⟨rfl,rfl⟩
  ·exact .inl ⟨i,x,hi',hx⟩
  ·cases hx
theorem zAj {env:Env}:∀(n:Nat) {σ : St},zBL n0 env (σ++List.replicate n AObj.rsv) env σ
 | 0,σ=>by simpa using zBL.refl n0 env σ
 | n+1,σ=>by
  have:=(zXY (n0:=n0) (env:=env) (σ:=σ)).trans (zAj n);rw[List.replicate_succ]
  simpa using this
theorem zRi {l l':List (Nat×A)} {σ σ':St}(h:qDA n0 l σ = some (l',σ')):zBL n0 (qT l') σ' (qT l) σ:=by
 simp only[qDA]at h;generalize zOm n0 σ 0 σ = ks at h;cases hb:zFp ks&&zEZ n0 ks
 ·rw[hb]at h; cases h
 ·rw[hb]at h;simp only[jA6]at hb;simp only[cond_true]at h;split at h<;>try (cases h; done)
  rename_i σ1 h1;cases h;refine zBL.sel ks 8 _ (zIa hb.2) (zD4 hb.1) (zFx h1) fun p hp=>?_
  obtain⟨t,_,rfl⟩:=jAi.1 hp;left;simp only[zIX]
theorem zAU {C:Run}(hC:zA3 P C){C0:Cl0}(hC0:zFF P C0){lf:Nat}:∀(k:K) {l l':List (Nat×A)} {σ σ':St} {x:Ex} {Q:Ex→Env→St→Prop},evK C C0 n0 lf k l σ = some (x,l',σ')→Q x (qT l') σ'→wpK P n0 k Q (qT l) σ
 | .skip,l,l',σ,σ',x,Q,h,hQ=>by cases h; exact hQ
 | .seq a b,l,l',σ,σ',x,Q,h,hQ=>by
  simp only[evK]at h;simp only[wpK];split at h
  ·rename_i l1 σ1 h1;exact zAU hC hC0 a h1 (zAU hC hC0 b h hQ)
  ·rename_i r hr;refine zAU hC hC0 a h ?_;cases x<;>first | exact(hr _ _ h).elim | exact hQ
 | .cond c a b,l,l',σ,σ',x,Q,h,hQ=>by
  simp only[evK,zIX]at h;simp only[wpK];split at h<;>try (cases h; done)
  rename_i t ht;rw[ht];simp only;cases t
  ·exact⟨fun e=>(by cases e),fun _=>zAU hC hC0 b h hQ⟩
  ·exact⟨fun _=>zAU hC hC0 a h hQ,fun e=>(by cases e)⟩
 | .block id b,l,l',σ,σ',x,Q,h,hQ=>by
  simp only[evK]at h;simp only[wpK];split at h
  ·rename_i i l1 σ1 h1;refine zAU hC hC0 b h1 ?_;simp only[blk];cases hb:Nat.beq i id
   ·rw[hb]at h;cases h;have:i≠id:=fun e=>by subst e; simp at hb
    rw[if_neg this];exact hQ
   ·rw[hb]at h;cases h;rw[if_pos (jC2 hb)];exact hQ
  ·rename_i r hr;refine zAU hC hC0 b h ?_;cases x<;>first | exact(hr _ _ _ h).elim | exact hQ
 | .loop b,l,l',σ,σ',x,Q,h,hQ=>by
  simp only[evK]at h;simp only[wpK];refine⟨fun n env τ=>∃l0,env=qT l0∧zS9 (evK C C0 n0 lf b) n l0 τ = some (x,l',σ'),⟨lf,Wk.here ⟨l,rfl,h⟩⟩,?_⟩;rintro n env τ ⟨l0,rfl,h0⟩;cases n with
  | zero=>cases h0
  | succ n =>
   simp only[zS9]at h0;split at h0
   ·rename_i l1 σ1 h1;refine zAU hC hC0 b h1 ?_;exact⟨n,Nat.lt_succ_self n,Wk.here ⟨l1,rfl,h0⟩⟩
   ·rename_i r hr;refine zAU hC hC0 b h0 ?_;cases x<;>first | exact(hr _ _ h0).elim | exact hQ
 | .exit id,l,l',σ,σ',x,Q,h,hQ=>by cases h; exact hQ
 | .ret,l,l',σ,σ',x,Q,h,hQ=>by cases h; exact hQ
 | .ops gs,l,l',σ,σ',x,Q,h,hQ=>by
  simp only[evK]at h;simp only[wpK];split at h<;>try (cases h; done)
  rename_i l1 σ1 h1;cases h;exact zJI hC h1 hQ
 | .dops gs,l,l',σ,σ',x,Q,h,hQ=>by
  simp only[evK]at h;simp only[wpK];split at h<;>try (cases h; done)
  rename_i l1 σ1 h1;cases h;exact zKX hC hC0 h1 hQ
 | .rng ..,l,l',σ,σ',x,Q,h,hQ=>by simp[evK]at h
 | .wk b,l,l',σ,σ',x,Q,h,hQ=>by
  simp only[evK]at h;simp only[wpK];cases hb:qJH b
  ·rw[hb]at h;exact Wk.by (zAj _) (Wk.here (zAU hC hC0 b h hQ))
  ·rw[hb]at h;simp only[cond_true]at h;split at h<;>try (cases h; done)
   rename_i l1 σ1 h1;exact Wk.by (zRi h1) (Wk.here (zAU hC hC0 b h hQ))
structure Entry where
 k:K
 rs:List RS
 frz:Bool
def zK5:Nat→List A→List (Nat×A)
 | _,[]=>[]
 | i,a::xs=>(i,a)::zK5 (i+1) xs
theorem zME:∀{xs:List A} {i t:Nat},qT (zK5 i xs) t=.any∨(i≤t∧xs[t-i]?=some (qT (zK5 i xs) t))
 | [],i,t=>.inl rfl
 | a::xs,i,t=>by
  simp only[zK5,qT];split
  ·rename_i h; subst h; exact .inr ⟨jA _,by simp⟩
  ·rcases zME (xs:=xs) (i:=i+1) (t:=t)with h | ⟨h1,h2⟩
   ·exact .inl h
   ·refine .inr ⟨by omega,?_⟩;have:t-i=(t-(i+1))+1:=by omega
    rw[this]
    simpa using h2
def qB9:Ex→Bool
 | .ret | .norm=>true
 | _=>false
def zJS (frz:Bool)(n0:Nat)(r:A) (σ : St):Option (A×St) :=
 let k0:=List.range n0;let k1:=zFs (fun _ _=>true) σ 1000 (lvO (.box ((σ.take n0).map fun o=>.agg ((lvO o).map fun l=>.map l)))) k0;let ks:=zFs (fun _ o=>bif frz then (match o with | .row ..=>false | _=>true) else true) σ 1000 (lvA r) k1
 bif zFp ks&&zEZ n0 ks then (match zU0 σ (seen σ (qX ks) 8) (qX ks) ks with
  | some σ1=>some (vw (seen σ (qX ks) 8) (qX ks) r,σ1)
  | none=>none) else none
theorem zP1 {frz:Bool}{r r1:A} {σ σ1:St}(h:zJS frz n0 r σ = some (r1,σ1)):zGS n0 r1 σ1 (.ret r) σ:=by
 simp only[zJS]at h;generalize zFs _ σ 1000 (lvA r) _=ks at h;cases hb:zFp ks&&zEZ n0 ks
 ·rw[hb]at h; cases h
 ·rw[hb]at h;simp only[jA6]at hb;simp only[cond_true]at h;split at h<;>try (cases h; done)
  rename_i σ2 h1;cases h;exact⟨r,ks,8,rfl,zIa hb.2,zD4 hb.1,zFx h1,.inl rfl⟩
def zEw (f:Nat):List (Nat×Entry)→Option Entry
 | []=>none
 | p::l=>bif Nat.beq f p.1 then some p.2 else zEw f l
def zUz (T:List (Nat×Entry))(orc:Run)(lf:Nat):Nat→Run
 | 0=>fun _ _ _=>none
 | n+1=>fun f xs σ=>match zEw f T with
  | none=>orc f xs σ
  | some e=>match evK (zVL (zUz T orc lf n)) (zVP (zUz T orc lf n),zVN (zUz T orc lf n)) σ.length lf e.k (zK5 0 xs) σ with
   | some (x,l,σ')=>bif qB9 x then (match zRB (lkB l) σ' e.rs with
    | some r=>zJS e.frz σ.length r σ'
    | none=>none) else none
   | none=>none
def jW (P:Program)(f:FuncId)(e:Entry):Prop :=
 zA P f=true∧∃fn c hint,P.funcs[f]?=some fn∧fn.body=some c∧qD P fn.ntmps hint c=some e.k.erase∧zB9 P fn.results.toList=some e.rs
theorem zNL {hint:Nat→Option (List (Nat×Nat))}{f:FuncId}{fn:Func}{c:Code}{k:K}{rs:List RS}(hf:P.funcs[f]?=some fn)(hb:fn.body=some c)(hc:qD P fn.ntmps hint c=some k.erase)(hr:zB9 P fn.results.toList=some rs)
 {args:List A} {σ : St}{Q:Out→St→Prop}(h:wpK P σ.length k (fin rs Q) (qT (zK5 0 args)) σ):yX P f args σ Q:=by
 refine zC3 (k:=.wk k) hf hb hc hr ?_;unfold wpF;simp only[wpK];refine Wk.by (env':=qT (zK5 0 args)) (σ':=σ) ?_ (Wk.here h);intro H0 L0 w0 H L w N tmps _ h1 h2;refine⟨H,L,h1,h2.1,fun t=>?_⟩;rcases zME (xs:=args) (i:=0) (t:=t)with e | ⟨_,e⟩
 ·rw[e]; simp[Rel]
 ·have:=h2.2 t;simp only[zC1,List.getD]at this;rw[Nat.sub_zero]at e;rw[e]at this;exact this
theorem zSS {T:List (Nat×Entry)}{orc:Run}{lf:Nat}(hT:∀f e,zEw f T=some e→jW P f e)(hO:zA3 P orc):∀n,zA3 P (zUz T orc lf n)
 | 0=>fun f xs σ r σ' h=>(by cases h)
 | n+1=>fun f xs σ r σ' h=>by
  have ih:=zSS (lf:=lf) hT hO n;simp only[zUz]at h;split at h
  ·exact hO _ _ _ _ _ h
  ·rename_i e he;obtain⟨hcal,fn,c,hint,h1,h2,h3,h4⟩:=hT _ _ he;refine⟨hcal,?_⟩;split at h<;>try (cases h; done)
   rename_i x l σ1 h5;cases hx:qB9 x
   ·rw[hx]at h; cases h
   ·rw[hx]at h;simp only[cond_true]at h;split at h<;>try (cases h; done)
    rename_i r0 h6;refine zFu (zNL h1 h2 h3 h4 (zAU (zVM ih) (zVQ ih) e.k h5 ?_));have hq:=zP1 h;rw[zIX]at h6;cases x<;>first | (cases hx; done) | (simp only[fin,zKi,h6]; exact hq)
end
end Go.Abs
namespace Go.Proofs.YthglhccibdlccaaGreatDoor
open Go.Abs
theorem zGE {x y:Id}:zCj x y=true↔x.a<y.a∨(x.a=y.a∧(x.b<y.b∨(x.b=y.b∧x.c<y.c))):=by
 unfold zCj;split
 ·simp only[decide_eq_true_eq]; omega
 ·split
  ·simp only[decide_eq_true_eq]; omega
  ·simp only[decide_eq_true_eq]; omega
theorem zGF {x y:Id}:zCj x y=false↔¬(x.a<y.a∨(x.a=y.a∧(x.b<y.b∨(x.b=y.b∧x.c<y.c)))):=by rw[←zGE]; simp
theorem zFk (x:Id):zCj x x=false:=by rw[zGF]; omega
theorem zJT {x y z:Id}(h:zCj x y=true)(k:zCj y z=true):zCj x z=true:=by rw[zGE]at *; omega
theorem zFj {x y:Id}(h:zCj x y=false)(k:zCj y x=false):x=y:=by
 rw[zGF]at *
 rw[Id.eq_iff]; omega
theorem zRz {x y:Id}(h:zCj x y=true):zCj y x=false:=by rw[zGE]at h; rw[zGF]; omega
theorem zFO {x y:Id}:zFC x y<0↔zCj x y=true:=by
 rw[zGE];simp only[zFC,orI,zBR]
 repeat' split
 all_goals omega
theorem zGb:Ord zFC where
 irrefl x:=by rw[zFO,zFk]; simp
 trans x y z h k:=by rw[zFO]at *; exact zJT h k
 ntrans x y z h k:=by
  rw[zFO,jAu]at *
  rw[zGF]at *; omega
 anti x y h k:=by
  rw[zFO,jAu]at *
  exact zFj h k
def SS (l:List Id):Prop:=l.Pairwise fun x y=>zCj x y=true
theorem zE7 {x y:Id}:∀{l:List Id},y∈zFE l x↔y∈l∨y=x
 | []=>by simp[zFE]
 | z::l=>by
  simp only[zFE];split
  ·simp only[jA3,zE7 (l:=l),or_assoc]
  ·split
   ·rename_i h; subst h;simp only[jA3];constructor
    ·exact fun h=>.inl h
    ·rintro(h | h)
     ·exact h
     ·exact .inl h
   ·simp only[jA3];constructor
    ·rintro(h | h)
     ·exact .inr h
     ·exact .inl h
    ·rintro(h | h)
     ·exact .inr h
     ·exact .inl h
theorem zOh {x:Id}:∀{l:List Id},SS l→SS (zFE l x)
 | [],_=>by simp[zFE,SS]
 | z::l,h=>by
  have h':=jCt.1 h;simp only[zFE];split
  ·rename_i hz;refine jCt.2 ⟨fun y hy=>?_,zOh h'.2⟩;rcases zE7.1 hy with hy | rfl
   ·exact h'.1 y hy
   ·exact hz
  ·rename_i hz;split
   ·exact h
   ·rename_i hne;have hxz:zCj x z=true:=by
     cases hh:zCj x z with
     | true=>rfl
     | false=>exact(hne (zFj (by simpa using hz) hh)).elim
    refine jCt.2 ⟨fun y hy=>?_,h⟩;rcases jA3.1 hy with rfl | hy
    ·exact hxz
    ·exact zJT hxz (h'.1 y hy)
theorem zPe:∀{l acc:List Id},SS acc→SS (l.foldl zFE acc)
 | [],_,h=>h
 | _::l,_,h=>zPe (l:=l) (zOh h)
theorem zMY {y:Id}:∀{l acc:List Id},y∈l.foldl zFE acc↔y∈acc∨y∈l
 | [],_=>by simp
 | x::l,acc=>by simp only[jBh,zMY (l:=l),zE7,jA3,or_assoc]
theorem SS.unique:∀{l l':List Id},SS l→SS l'→(∀x,x∈l↔x∈l')→l=l'
 | [],[],_,_,_=>rfl
 | [],y::l',_,_,h=>by have:=(h y).2 (jAn ..); simp at this
 | x::l,[],_,_,h=>by have:=(h x).1 (jAn ..); simp at this
 | x::l,y::l',h1,h2,h=>by
  have p1:=jCt.1 h1;have p2:=jCt.1 h2;have hxy:x=y:=by
   rcases jA3.1 ((h x).1 (jAn ..))with e | e
   ·exact e
   ·rcases jA3.1 ((h y).2 (jAn ..))with e' | e'
    ·exact e'.symm
    ·have a:=p2.1 x e;have b:=p1.1 y e';rw[zRz b]at a; cases a
  subst hxy
  congr 1
  refine SS.unique p1.2 p2.2 fun z=>?_
  constructor
  ·intro hz;rcases jA3.1 ((h z).1 (jAm _ hz))with e | e
   ·have:=p1.1 z hz; subst e; rw[zFk]at this; cases this
   ·exact e
  ·intro hz;rcases jA3.1 ((h z).2 (jAm _ hz))with e | e
   ·have:=p2.1 z hz; subst e; rw[zFk]at this; cases this
   ·exact e
theorem zBK {α : Type}{motive:List α→Prop}(nil:motive [])(snoc:∀l y,motive l→motive (l++[y]))(l:List α):motive l:=by
 have h:∀r:List α,motive r.reverse:=fun r=>by
  induction r with
  | nil=>exact nil
  | cons a r ih=>rw[List.reverse_cons]; exact snoc _ _ ih
 have:=h l.reverse
 rwa [List.reverse_reverse]at this
def zHh (acc:List Id)(y:Id):List Id:=if acc.getLast?=some y then acc else acc++[y]
def zAy (l:List Id):List Id:=l.foldl zHh []
theorem zCM (l:List Id)(y:Id):zAy (l++[y])=zHh (zAy l) y:=by simp[zAy,jC3]
theorem zKJ:∀(l:List Id),(zAy l).getLast?=l.getLast?:=by
 intro l;induction l using zBK with
 | nil=>rfl
 | snoc l y ih =>
  rw[zCM,zHh];split
  ·rename_i h; rw[h]; simp
  ·simp
theorem zIG {x:Id}(l:List Id):x∈zAy l↔x∈l:=by
 induction l using zBK with
 | nil=>simp[zAy]
 | snoc l y ih =>
  rw[zCM,zHh];split
  ·rename_i h;have hy:y∈zAy l:=List.mem_of_getLast? h;simp only[ih,jA8,jAg];constructor
   ·exact .inl
   ·rintro(h | rfl)
    ·exact h
    ·exact ih.1 hy |> fun h=>h
  ·simp[ih]
theorem zVY (l:List Id)(h:l.Pairwise fun x y=>zCj y x=false):SS (zAy l):=by
 induction l using zBK with
 | nil=>simp[zAy,SS]
 | snoc l y ih =>
  rw[jCg]at h;have hi:=ih h.1;rw[zCM,zHh];split
  ·exact hi
  ·rename_i hne;unfold SS;rw[jCg];refine⟨hi,by simp,fun z hz y' hy'=>?_⟩;simp only[jAg]at hy';subst hy';have hzl:=(zIG l).1 hz;have h1:=h.2.2 z hzl y' (by simp);cases hh:zCj z y' with
   | true=>rfl
   | false =>
    exfalso;have e:=zFj hh h1;subst e;rw[zKJ]at hne;have hl:l≠[]:=fun e=>by rw[e]at hzl; simp at hzl
    obtain⟨w,hw⟩:∃w,l.getLast?=some w:=⟨_,List.getLast?_eq_some_getLast hl⟩;have hwl:w∈l:=List.mem_of_getLast? hw;have h2:=h.2.2 w hwl z (by simp);have hwz:w=z∨zCj w z=false:=by
     obtain⟨l',rfl⟩:∃l',l=l'++[w]:=List.getLast?_eq_some_iff.1 hw;rcases jA8.1 hzl with hz' | hz'
     ·have:=h.1;rw[jCg]at this;exact .inr (this.2.2 z hz' w (by simp))
     ·exact .inl (jAg.1 hz').symm
    have:w=z:=by
     rcases hwz with e | e
     ·exact e
     ·exact zFj e h2
    subst this;exact hne hw
def zCz (l:List Id):List Id:=zAy (zDv zFC l)
theorem zH7 (l:List Id):(zDv zFC l).Perm l:=List.mergeSort_perm l _
theorem zO3 (l:List Id):(zDv zFC l).Pairwise fun x y=>zCj y x=false:=by
 have h:=List.pairwise_mergeSort (le:=fun x y=>!decide (zFC y x<0)) (fun a b c h1 h2=>by simp only[jBr,decide_eq_false_iff_not]at *; exact zGb.ntrans c b a h2 h1)
  (fun a b=>by
   simp only[jB7,jBr,decide_eq_false_iff_not];by_cases h:zFC b a<0
   ·exact .inr fun h'=>zGb.irrefl _ (zGb.trans _ _ _ h h')
   ·exact .inl h) l
 exact h.imp fun h=>by simp only[jBr,decide_eq_false_iff_not,zFO,jAu]at h;exact h
theorem zDR {l:List Id}{x:Id}:x∈zCz l↔x∈l:=by rw[zCz,zIG,(zH7 l).mem_iff]
theorem zIw (l:List Id):SS (zCz l):=zVY _ (zO3 l)
theorem zO0 (l:List Id):zCz l=l.foldl zFE [] :=
 SS.unique (zIw l) (zPe (by simp[SS])) fun x=>by rw[zDR,zMY]; simp
end Go.Proofs.YthglhccibdlccaaGreatDoor
namespace Go.Proofs.YthglhccibdlccaaGreatDoor
open Go.Abs
@[simp] theorem qJr (d:Id):(jF d).take 3=jF d:=jAk (jA _)
@[simp] theorem qJs (d:Id):(jF d).length=3:=rfl
theorem zKU (d:Id):jM (jF d):=jM.lit (jM.lit (jM.lit jM.nil))
@[simp] theorem qFF (d:Id):jK (jF d)=jF d:=(zKU d).1
@[simp] theorem qNv (d:Id) {rf g}:vwL rf g (jF d)=jF d:=(zKU d).2 _ _
def zWo (s:ByteArray):List A:=[.lit (.string s)]
def yK (l:List ByteArray):List A:=l.flatMap zWo
theorem zQY (s:ByteArray):jM (zWo s):=jM.lit jM.nil
theorem zB5 (l:List ByteArray):jM (yK l):=zBg zQY l
@[simp] theorem qBM (l:List ByteArray):jK (yK l)=yK l:=(zB5 l).1
@[simp] theorem qGu {rf g}(l:List ByteArray):vwL rf g (yK l)=yK l:=(zB5 l).2 _ _
@[simp] theorem qCZ (l:List ByteArray):(yK l).length=l.length:=by rw[yK,zBD (k:=1) (fun _=>rfl),Nat.mul_one]
@[simp] theorem qDa:yK []=[]:=rfl
inductive Typ where
 | mk (k:Int) (id:Id) (kids:List Typ)
def Typ.k:Typ→Int | .mk k _ _=>k
def Typ.id:Typ→Id | .mk _ d _=>d
def Typ.kids:Typ→List Typ | .mk _ _ l=>l
@[simp] theorem Typ.k_mk {k:Int}{i:Id}{l:List Typ}:(Typ.mk k i l).k=k:=rfl
@[simp] theorem Typ.id_mk {k:Int}{i:Id}{l:List Typ}:(Typ.mk k i l).id=i:=rfl
@[simp] theorem Typ.kids_mk {k:Int}{i:Id}{l:List Typ}:(Typ.mk k i l).kids=l:=rfl
mutual
def zJ9:Typ→A
 | .mk _ _ l=>.sl l.length (jH l)
def jH:List Typ→List A
 | []=>[]
 | t::l=>.lit (.int .i64 t.k)::.lit (.int .i64 t.id.a)::.lit (.int .i64 t.id.b)::.lit (.int .i64 t.id.c)::zJ9 t::jH l
end
theorem zVT (t:Typ):zJ9 t=.sl t.kids.length (jH t.kids):=by cases t; simp only[zJ9,Typ.kids]
def zB (t:Typ):List A:=[.lit (.int .i64 t.k),.lit (.int .i64 t.id.a),.lit (.int .i64 t.id.b),.lit (.int .i64 t.id.c),.sl t.kids.length (jH t.kids)]
theorem zCL (l:List Typ):jH l=l.flatMap zB:=by
 induction l with
 | nil=>simp only[jH,List.flatMap_nil]
 | cons t l ih=>simp only[jH,jBc,ih,zVT,zB]; rfl
mutual
theorem zOL:∀t:Typ,nrm0 (zJ9 t)=zJ9 t∧∀rf g,vw rf g (zJ9 t)=zJ9 t
 | .mk k n l=>by have h:=yZ l;simp only[zJ9];exact⟨by simp[h.1],fun rf g=>by simp[h.2]⟩
theorem yZ:∀l:List Typ,jM (jH l)
 | []=>by simp only[jH]; exact jM.nil
 | v::l=>by have h:=zOL v;have h':=yZ l;simp only[jH];exact⟨by simp[h.1,h'.1],fun rf g=>by simp[h.2,h'.2]⟩
end
theorem zKV (t:Typ):jM (zB t):=jM.lit (jM.lit (jM.lit (jM.lit (jM.sl (yZ _) jM.nil))))
inductive Exp where
 | mk (id:Id) (k n:Int) (ref:Id) (typ:Typ) (kids:List Exp) (names:List ByteArray)
def Exp.id:Exp→Id | .mk x _ _ _ _ _ _=>x
def Exp.k:Exp→Int | .mk _ x _ _ _ _ _=>x
def Exp.n:Exp→Int | .mk _ _ x _ _ _ _=>x
def Exp.ref:Exp→Id | .mk _ _ _ x _ _ _=>x
def Exp.typ:Exp→Typ | .mk _ _ _ _ x _ _=>x
def Exp.kids:Exp→List Exp | .mk _ _ _ _ _ x _=>x
def Exp.names:Exp→List ByteArray | .mk _ _ _ _ _ _ x=>x
@[simp] theorem Exp.id_mk {a:Id}{b c:Int}{d:Id}{e:Typ}{f:List Exp}{g:List ByteArray}:(Exp.mk a b c d e f g).id=a:=rfl
@[simp] theorem Exp.k_mk {a:Id}{b c:Int}{d:Id}{e:Typ}{f:List Exp}{g:List ByteArray}:(Exp.mk a b c d e f g).k=b:=rfl
@[simp] theorem Exp.n_mk {a:Id}{b c:Int}{d:Id}{e:Typ}{f:List Exp}{g:List ByteArray}:(Exp.mk a b c d e f g).n=c:=rfl
@[simp] theorem Exp.ref_mk {a:Id}{b c:Int}{d:Id}{e:Typ}{f:List Exp}{g:List ByteArray}:(Exp.mk a b c d e f g).ref=d:=rfl
@[simp] theorem Exp.typ_mk {a:Id}{b c:Int}{d:Id}{e:Typ}{f:List Exp}{g:List ByteArray}:(Exp.mk a b c d e f g).typ=e:=rfl
@[simp] theorem Exp.kids_mk {a:Id}{b c:Int}{d:Id}{e:Typ}{f:List Exp}{g:List ByteArray}:(Exp.mk a b c d e f g).kids=f:=rfl
@[simp] theorem Exp.names_mk {a:Id}{b c:Int}{d:Id}{e:Typ}{f:List Exp}{g:List ByteArray}:(Exp.mk a b c d e f g).names=g:=rfl
mutual
def zJ8:Exp→A
 | .mk _ _ _ _ _ l _=>.sl l.length (qL l)
def qL:List Exp→List A
 | []=>[]
 | e::l=>[.lit (.int .i64 e.id.a),.lit (.int .i64 e.id.b),.lit (.int .i64 e.id.c),.lit (.int .i64 e.k),.lit (.int .i64 e.n),.lit (.int .i64 e.ref.a),.lit (.int .i64 e.ref.b),.lit (.int .i64 e.ref.c),.lit (.int .i64 e.typ.k),.lit (.int .i64 e.typ.id.a),.lit (.int .i64 e.typ.id.b),.lit (.int .i64 e.typ.id.c),.sl e.typ.kids.length (jH e.typ.kids),zJ8 e,.sl e.names.length (yK e.names)]++qL l
end
theorem zVS (e:Exp):zJ8 e=.sl e.kids.length (qL e.kids):=by cases e; simp only[zJ8,Exp.kids]
def zF (e:Exp):List A:=[.lit (.int .i64 e.id.a),.lit (.int .i64 e.id.b),.lit (.int .i64 e.id.c),.lit (.int .i64 e.k),.lit (.int .i64 e.n),.lit (.int .i64 e.ref.a),.lit (.int .i64 e.ref.b),.lit (.int .i64 e.ref.c),.lit (.int .i64 e.typ.k),.lit (.int .i64 e.typ.id.a),.lit (.int .i64 e.typ.id.b),.lit (.int .i64 e.typ.id.c),.sl e.typ.kids.length (jH e.typ.kids),.sl e.kids.length (qL e.kids),.sl e.names.length (yK e.names)]
theorem zBW (l:List Exp):qL l=l.flatMap zF:=by
 induction l with
 | nil=>simp only[qL,List.flatMap_nil]
 | cons t l ih=>simp only[qL,jBc,ih,zVS,zF]
mutual
theorem zOK:∀t:Exp,nrm0 (zJ8 t)=zJ8 t∧∀rf g,vw rf g (zJ8 t)=zJ8 t
 | .mk _ _ _ _ _ l _=>by have h:=zBX l;simp only[zJ8];exact⟨by simp[h.1],fun rf g=>by simp[h.2]⟩
theorem zBX:∀l:List Exp,jM (qL l)
 | []=>by simp only[qL]; exact jM.nil
 | v::l=>by have h:=zOK v;have h':=zBX l;have h1:=yZ v.typ.kids;have h2:=zB5 v.names;simp only[qL];exact⟨by simp[h.1,h'.1,h1.1,h2.1],fun rf g=>by simp[h.2,h'.2,h1.2,h2.2]⟩
end
theorem zHs (e:Exp):jM (zF e):=by have h:=zBX e.kids;have h1:=yZ e.typ.kids;have h2:=zB5 e.names;exact⟨by simp[zF,h.1,h1.1,h2.1],fun rf g=>by simp[zF,h.2,h1.2,h2.2]⟩
structure Slt where
 id:Id
 name:ByteArray
 typ:Typ
 most:Int
 place:Int
def zAu (s:Slt):List A:=[.lit (.int .i64 s.id.a),.lit (.int .i64 s.id.b),.lit (.int .i64 s.id.c),.lit (.string s.name),.lit (.int .i64 s.typ.k),.lit (.int .i64 s.typ.id.a),.lit (.int .i64 s.typ.id.b),.lit (.int .i64 s.typ.id.c),.sl s.typ.kids.length (jH s.typ.kids),.lit (.int .i64 s.most),.lit (.int .i64 s.place)]
theorem zEW (s:Slt):jM (zAu s):=by have h1:=yZ s.typ.kids;exact⟨by simp[zAu,h1.1],fun rf g=>by simp[zAu,h1.2]⟩
def yE (l:List Slt):List A:=l.flatMap zAu
theorem zDA (l:List Slt):yE l=l.flatMap zAu:=rfl
structure Dfn where
 id:Id
 kind:Int
 mod:Id
 name:ByteArray
 slots:List Slt
 res:Typ
 body:Exp
 place:Int
 lay:List ByteArray
def zO (d:Dfn):List A:=[.lit (.int .i64 d.id.a),.lit (.int .i64 d.id.b),.lit (.int .i64 d.id.c),.lit (.int .i64 d.kind),.lit (.int .i64 d.mod.a),.lit (.int .i64 d.mod.b),.lit (.int .i64 d.mod.c),.lit (.string d.name),.sl d.slots.length (yE d.slots),.lit (.int .i64 d.res.k),.lit (.int .i64 d.res.id.a),.lit (.int .i64 d.res.id.b),.lit (.int .i64 d.res.id.c),.sl d.res.kids.length (jH d.res.kids),.lit (.int .i64 d.body.id.a),.lit (.int .i64 d.body.id.b),.lit (.int .i64 d.body.id.c),.lit (.int .i64 d.body.k),.lit (.int .i64 d.body.n),.lit (.int .i64 d.body.ref.a),.lit (.int .i64 d.body.ref.b),.lit (.int .i64 d.body.ref.c),.lit (.int .i64 d.body.typ.k),.lit (.int .i64 d.body.typ.id.a),.lit (.int .i64 d.body.typ.id.b),.lit (.int .i64 d.body.typ.id.c),.sl d.body.typ.kids.length (jH d.body.typ.kids),.sl d.body.kids.length (qL d.body.kids),.sl d.body.names.length (yK d.body.names),.lit (.int .i64 d.place),.sl d.lay.length (yK d.lay)]
theorem zEV (d:Dfn):jM (zO d):=by have h1:=yZ d.res.kids;have h2:=yZ d.body.typ.kids;have h3:=zBX d.body.kids;have h4:=zB5 d.body.names;have h5:=zB5 d.lay;have h6:=zBg zEW d.slots;exact⟨by simp[zO,yE,h1.1,h2.1,h3.1,h4.1,h5.1,h6.1],fun rf g=>by simp[zO,yE,h1.2,h2.2,h3.2,h4.2,h5.2,h6.2]⟩
def zX (l:List Dfn):List A:=l.flatMap zO
theorem zCq (l:List Dfn):zX l=l.flatMap zO:=rfl
structure Md where
 id:Id
 name:ByteArray
 uses:List Id
 defs:List Id
def zEv (m:Md):List A:=[.lit (.int .i64 m.id.a),.lit (.int .i64 m.id.b),.lit (.int .i64 m.id.c),.lit (.string m.name),.sl m.uses.length (qE m.uses),.sl m.defs.length (qE m.defs)]
theorem zHu (m:Md):jM (zEv m):=by have h1:=zBY m.uses;have h2:=zBY m.defs;exact⟨by simp[zEv,h1.1,h2.1],fun rf g=>by simp[zEv,h1.2,h2.2]⟩
def qM (l:List Md):List A:=l.flatMap zEv
theorem zG5 (l:List Md):qM l=l.flatMap zEv:=rfl
structure Prg where
 mods:List Md
 defs:List Dfn
def zS (p:Prg):List A:=[.sl p.mods.length (qM p.mods),.sl p.defs.length (zX p.defs)]
theorem eP(p:Prg):zS p=[.sl p.mods.length (qM p.mods),.sl p.defs.length (zX p.defs)]:=rfl
@[simp] theorem qBP (l:List Typ):jK (jH l)=jH l:=(yZ l).1
@[simp] theorem qGy {rf g}(l:List Typ):vwL rf g (jH l)=jH l:=(yZ l).2 _ _
@[simp] theorem qDi:jH []=[]:=by rw[zCL]; rfl
theorem qN (x:Typ)(l:List Typ):jH (x::l)=zB x++jH l:=by rw[zCL,zCL]; rfl
theorem zEu (l l':List Typ):jH (l++l')=jH l++jH l':=by simp only[zCL,jCh]
@[simp] theorem qDh (l:List Typ):(jH l).length=l.length*5:=by rw[zCL,zBD (k:=5) (fun _=>rfl)]
theorem zCt {l:List Typ}{i:Nat}(h:i<l.length):(jH l).drop (i*5)=zB l[i]++jH (l.drop (i+1)):=by rw[zCL,zCL,zCu (k:=5) (fun _=>rfl) h]
@[simp] theorem qJy (d:Typ):(zB d).length=5:=rfl
@[simp] theorem qJx (d:Typ):(zB d).take 5=zB d:=jAk (jA _)
@[simp] theorem qFk (d:Typ)(l:List A):(zB d++l).take 5=zB d:=by rw[jC4 (by simp)]; exact jAk (by simp)
@[simp] theorem qFI (d:Typ):jK (zB d)=zB d:=(zKV d).1
@[simp] theorem qNy (d:Typ) {rf g}:vwL rf g (zB d)=zB d:=(zKV d).2 _ _
@[simp] theorem qBH (l:List Exp):jK (qL l)=qL l:=(zBX l).1
@[simp] theorem qGp {rf g}(l:List Exp):vwL rf g (qL l)=qL l:=(zBX l).2 _ _
@[simp] theorem qCS:qL []=[]:=by rw[zBW]; rfl
theorem zH (x:Exp)(l:List Exp):qL (x::l)=zF x++qL l:=by rw[zBW,zBW]; rfl
theorem zHc (l l':List Exp):qL (l++l')=qL l++qL l':=by simp only[zBW,jCh]
@[simp] theorem qCR (l:List Exp):(qL l).length=l.length*15:=by rw[zBW,zBD (k:=15) (fun _=>rfl)]
theorem yJ {l:List Exp}{i:Nat}(h:i<l.length):(qL l).drop (i*15)=zF l[i]++qL (l.drop (i+1)):=by rw[zBW,zBW,zCu (k:=15) (fun _=>rfl) h]
theorem zAz {l:List Exp}{i:Nat}(h:i<l.length):qL (l.take (i+1))=qL (l.take i)++zF l[i]:=by rw[zBW,zBW,zC8 (k:=15) (fun _=>rfl) h]
@[simp] theorem qJo (d:Exp):(zF d).length=15:=rfl
@[simp] theorem qJn (d:Exp):(zF d).take 15=zF d:=jAk (jA _)
@[simp] theorem qFg (d:Exp)(l:List A):(zF d++l).take 15=zF d:=by rw[jC4 (by simp)]; exact jAk (by simp)
@[simp] theorem qFD (d:Exp):jK (zF d)=zF d:=(zHs d).1
@[simp] theorem qNt (d:Exp) {rf g}:vwL rf g (zF d)=zF d:=(zHs d).2 _ _
theorem zHS (l:List Slt):jM (yE l):=zBg zEW l
@[simp] theorem qBO (l:List Slt):jK (yE l)=yE l:=(zHS l).1
@[simp] theorem qGx {rf g}(l:List Slt):vwL rf g (yE l)=yE l:=(zHS l).2 _ _
@[simp] theorem qDg:yE []=[]:=by rw[zDA]; rfl
@[simp] theorem qDf (l:List Slt):(yE l).length=l.length*11:=by rw[zDA,zBD (k:=11) (fun _=>rfl)]
theorem jU {l:List Slt}{i:Nat}(h:i<l.length):(yE l).drop (i*11)=zAu l[i]++yE (l.drop (i+1)):=by rw[zDA,zDA,zCu (k:=11) (fun _=>rfl) h]
theorem zIE {l:List Slt}{i:Nat}(h:i<l.length):yE (l.take (i+1))=yE (l.take i)++zAu l[i]:=by rw[zDA,zDA,zC8 (k:=11) (fun _=>rfl) h]
@[simp] theorem qJw (d:Slt):(zAu d).length=11:=rfl
@[simp] theorem qJv (d:Slt):(zAu d).take 11=zAu d:=jAk (jA _)
@[simp] theorem qFj (d:Slt)(l:List A):(zAu d++l).take 11=zAu d:=by rw[jC4 (by simp)]; exact jAk (by simp)
@[simp] theorem qFH (d:Slt):jK (zAu d)=zAu d:=(zEW d).1
@[simp] theorem qNx (d:Slt) {rf g}:vwL rf g (zAu d)=zAu d:=(zEW d).2 _ _
theorem zEP (l:List Dfn):jM (zX l):=zBg zEV l
@[simp] theorem qBG (l:List Dfn):jK (zX l)=zX l:=(zEP l).1
@[simp] theorem qGo {rf g}(l:List Dfn):vwL rf g (zX l)=zX l:=(zEP l).2 _ _
@[simp] theorem qCQ:zX []=[]:=by rw[zCq]; rfl
@[simp] theorem zQN (l:List Dfn):(zX l).length=l.length*31:=by rw[zCq,zBD (k:=31) (fun _=>rfl)]
theorem yI {l:List Dfn}{i:Nat}(h:i<l.length):(zX l).drop (i*31)=zO l[i]++zX (l.drop (i+1)):=by rw[zCq,zCq,zCu (k:=31) (fun _=>rfl) h]
theorem zIC {l:List Dfn}{i:Nat}(h:i<l.length):zX (l.take (i+1))=zX (l.take i)++zO l[i]:=by rw[zCq,zCq,zC8 (k:=31) (fun _=>rfl) h]
theorem zQO {l:List Dfn}{i:Nat}(x:Dfn)(h:i<l.length):(zX l).take (i*31)++(zO x++(zX l).drop (i*31+31))=zX (l.set i x):=by rw[zCq,zCq,zPc (k:=31) (fun _=>rfl) x h]
@[simp] theorem zWn (d:Dfn):(zO d).length=31:=rfl
@[simp] theorem qJm (d:Dfn):(zO d).take 31=zO d:=jAk (jA _)
@[simp] theorem qFf (d:Dfn)(l:List A):(zO d++l).take 31=zO d:=by rw[jC4 (by simp)]; exact jAk (by simp)
@[simp] theorem qFC (d:Dfn):jK (zO d)=zO d:=(zEV d).1
@[simp] theorem qNs (d:Dfn) {rf g}:vwL rf g (zO d)=zO d:=(zEV d).2 _ _
theorem zES (l:List Md):jM (qM l):=zBg zHu l
@[simp] theorem qBL (l:List Md):jK (qM l)=qM l:=(zES l).1
@[simp] theorem qGt {rf g}(l:List Md):vwL rf g (qM l)=qM l:=(zES l).2 _ _
@[simp] theorem qCY:qM []=[]:=by rw[zG5]; rfl
theorem zCs (x:Md)(l:List Md):qM (x::l)=zEv x++qM l:=by rw[zG5,zG5]; rfl
@[simp] theorem qCX (l:List Md):(qM l).length=l.length*6:=by rw[zG5,zBD (k:=6) (fun _=>rfl)]
@[simp] theorem qJu (d:Md):(zEv d).length=6:=rfl
@[simp] theorem qJt (d:Md):(zEv d).take 6=zEv d:=jAk (jA _)
@[simp] theorem qFi (d:Md)(l:List A):(zEv d++l).take 6=zEv d:=by rw[jC4 (by simp)]; exact jAk (by simp)
@[simp] theorem qFG (d:Md):jK (zEv d)=zEv d:=(zHu d).1
@[simp] theorem qNw (d:Md) {rf g}:vwL rf g (zEv d)=zEv d:=(zHu d).2 _ _
def Typ.zero:Typ:=.mk 0 Id.zero []
def Exp.zero:Exp:=.mk Id.zero 0 0 Id.zero Typ.zero [] []
def Dfn.zero:Dfn:=⟨Id.zero,0,Id.zero,⟨#[]⟩,[],Typ.zero,Exp.zero,0,[]⟩
end Go.Proofs.YthglhccibdlccaaGreatDoor
namespace Go.Abs
section
variable {P:Program}
theorem qAg:∀f e,zEw f []=some e→jW P f e:=fun f e h=>by cases h
theorem yB {f0:Nat}{e0:Entry}{T:List (Nat×Entry)}(h0:jW P f0 e0)(hT:∀f e,zEw f T=some e→jW P f e):∀f e,zEw f ((f0,e0)::T)=some e→jW P f e:=fun f e h=>by
 simp only[zEw]at h;cases hb:Nat.beq f f0
 ·rw[hb]at h; exact hT f e h
 ·rw[hb]at h;cases h;rw[jC2 hb];exact h0
theorem zX1 {f:FuncId}{xs:List A} {σ σ':St}{r:A}(h:Ret P f xs σ r σ'):Ret P f xs σ (nrm0 r) σ':=fun H L w vs hs ha=>(h H L w vs hs ha).mono fun e w' hh=>by obtain⟨o,τ,H',L',ho,hn,rfl,rfl⟩:=hh;obtain⟨v,rfl,hv⟩:=ho;exact⟨.ret (nrm0 r),_,H',L',⟨v,rfl,Rel.nrm0 _ hv⟩,hn,rfl,rfl⟩
def qCd (T:List (Nat×Entry))(orc:Run)(lf n:Nat)(f:FuncId)(xs:List A) (σ : St):Option (A×St):=match zUz T orc lf n f xs σ with
 | some (r,σ')=>some (nrm0 r,σ')
 | none=>none
theorem zX5 {T:List (Nat×Entry)}{orc:Run}{lf n:Nat}(hT:∀f e,zEw f T=some e→jW P f e)(hO:zA3 P orc){f:FuncId}{xs:List A} {σ σ':St}{r:A}(h:qCd T orc lf n f xs σ = some (r,σ')):Ret P f xs σ r σ':=by
 unfold qCd at h;split at h
 ·rename_i r0 τ h0;cases h;exact zX1 (zSS hT hO n _ _ _ _ _ h0).2
 ·cases h
def idV:Value→Value→Bool
 | .int .i64 a,.int .i64 b=>decide (a=b)
 | .bool a,.bool b=>a==b
 | .string a,.string b=>decide (a=b)
 | _,_=>false
theorem zUd {a b:Value}(h:idV a b=true):a=b:=by
 unfold idV at h;split at h
 ·rw[of_decide_eq_true h]
 ·rw[eq_of_beq h]
 ·rw[of_decide_eq_true h]
 ·cases h
mutual
def idA:A→A→Bool
 | .nil,.nil=>true
 | .lit a,.lit b=>idV a b
 | .agg a,.agg b=>idL a b
 | .sl n a,.sl m b=>Nat.beq n m&&idL a b
 | _,_=>false
def idL:List A→List A→Bool
 | [],[]=>true
 | a::l,b::l'=>idA a b&&idL l l'
 | _,_=>false
end
mutual
theorem zUc:∀{a b:A},idA a b=true→a=b:=by
 intro a b h;cases a<;>cases b<;>first | rfl | (simp[idA]at h; done) | skip
 case lit.lit=>simp only[idA]at h; rw[zUd h]
 case agg.agg=>simp only[idA]at h; rw[zGD h]
 case sl.sl =>
  simp only[idA]at h;rw[jA6]at h;rw[jC2 h.1,zGD h.2]
theorem zGD:∀{a b:List A},idL a b=true→a=b:=by
 intro a b h;cases a<;>cases b<;>first | rfl | (simp[idL]at h; done) | skip
 ·simp only[idL]at h;rw[jA6]at h;rw[zUc h.1,zGD h.2]
end
theorem zN1 {H:Mem}{L:List LI}:∀{xs:List A} {vs:List Value},zY H L xs vs→zY H L (jK xs) vs
 | [],vs,h=>by simpa [jK] using h
 | x::xs,vs,h=>by obtain⟨u,us,rfl,h1,h2⟩:=qB h;simp only[jK];exact qR (Rel.nrm0 _ h1) (zN1 h2)
def zZT:List (Nat×List A×A)→Run
 | [],_,_,_=>none
 | (g,ys,r)::T,f,xs,σ=>match Nat.beq f g&&idL (jK xs) ys,σ with
  | true,[]=>some (r,[])
  | _,_=>zZT T f xs σ
theorem zSN:∀{T:List (Nat×List A×A)},(∀p∈T,zA P p.1=true∧Ret P p.1 p.2.1 [] p.2.2 [])→zA3 P (zZT T)
 | [],_=>fun f xs σ r σ' h=>by cases h
 | (g,ys,r0)::T,hT=>fun f xs σ r σ' h=>by
  simp only[zZT]at h;split at h
  ·rename_i hb;cases h;rw[jA6]at hb;obtain⟨h1,h2⟩:=hT _ (jAn ..);rw[jC2 hb.1];refine⟨h1,fun H L w vs hs ha=>h2 H L w vs hs ?_⟩;have:=zN1 ha;rw[zGD hb.2]at this;exact this
  ·exact zSN (fun p hp=>hT p (jAm _ hp)) _ _ _ _ _ h
def orE (a b:Run):Run:=fun f xs σ=>match a f xs σ with
 | some r=>some r
 | none=>b f xs σ
theorem zXv {a b:Run}(ha:zA3 P a)(hb:zA3 P b):zA3 P (orE a b):=fun f xs σ r σ' h=>by
 unfold orE at h;split at h
 ·rename_i hx;cases h;exact ha _ _ _ _ _ hx
 ·exact hb _ _ _ _ _ h
end
end Go.Abs
namespace Go.Abs
def Pan (P:Program)(f:FuncId)(args:List A) (σ0:St)(v:Value):Prop:=yX P f args σ0 fun o _=>o=.pan v
section
variable {P:Program}{n0:Nat}{Qp:Value→Env→St→Prop}{Qd:Value→St→Prop}{K':Env→St→Prop}{env:Env} {σ : St}{d:Option Nat}
theorem Pan.mono {f:FuncId}{args:List A} {σ0:St}{v:Value}(h:Pan P f args σ0 v){Q:Out→St→Prop}(hq:∀τ,Q (.pan v) τ):yX P f args σ0 Q:=fun H L w vs h1 h2=>(h H L w vs h1 h2).mono fun e w' hh=>by obtain⟨o,σ',H',L',g1,g2,rfl⟩:=hh;exact⟨_,σ',H',L',g1,g2,hq σ'⟩
theorem zED {f:FuncId}{fn:Func}{c:Code}{k:K}{rs:List RS}(hf:P.funcs[f]?=some fn)(hb:fn.body=some c)(hc:zL P fn.ntmps c=some k.erase)(hr:zB9 P fn.results.toList=some rs)
 {args:List A} {σ : St}{v:Value}(h:wpF P k rs args σ fun o _=>o=.pan v):Pan P f args σ v:=zFL hf hb hc hr h
theorem zAp {hint:Nat→Option (List (Nat×Nat))}{f:FuncId}{fn:Func}{c:Code}{k:K}{rs:List RS}(hf:P.funcs[f]?=some fn)(hb:fn.body=some c)(hc:qD P fn.ntmps hint c=some k.erase)(hr:zB9 P fn.results.toList=some rs)
 {args:List A} {σ : St}{v:Value}(h:wpF P k rs args σ fun o _=>o=.pan v):Pan P f args σ v:=zC3 hf hb hc hr h
theorem zOJ {f:FuncId}{args args':List A} {σ0:St}{v:Value}(h:Pan P f args σ0 v)(js:List Nat)(hd:js.Nodup)(ho:zAB σ yA (qX js) js σ0)(ha:zBC js args' args){Q:Out→St→Prop}
 (hq:∀τ : St,Q (.pan v) (jX σ js τ)):yX P f args' σ Q :=
 zIA (C:=fun vs w R=>Calls P f vs.toArray w R) (zEO P f) (Q0:=fun o _=>o=.pan v) h js hd ho ha fun o σ1 h0=>by subst h0;exact hq _
theorem zHN {f:FuncId}{args args':List A} {σ0:St}{v:Value}(h:Pan P f args σ0 v)(js:List Nat)(hd:js.Nodup)(ho:zAB σ yA (qX js) js σ0)(ha:zBC js args' args)
 (hq:∀τ : St,Qp v env (jX σ js τ)):yX P f args' σ (zIp d env K' Qp):=zOJ h js hd ho ha fun τ=>by simpa [zIp] using hq τ
theorem zD2 {f:FuncId}{args args':List A} {σ0:St}{v:Value}(h:Pan P f args σ0 v)(js:List Nat)(hd:js.Nodup)(ho:zAB σ yA (qX js) js σ0)(ha:zBC js args' args)
 (hq:∀τ : St,Qd v (jX σ js τ)):zI7 P Qd σ d K' f args' env:=zOJ h js hd ho ha fun τ=>.inr ⟨v,rfl,hq τ⟩
theorem zCl {f:FuncId}{args args':List A} {σ0 σ1:St}{r:A}(h:Ret P f args σ0 r σ1)(js:List Nat)(hd:js.Nodup)(ho:zAB σ yA (qX js) js σ0)(ha:zBC js args' args)
 (hq:K' (env.put d (ren js σ.length r)) (jX σ js (σ1.map (zBM js σ.length)))):zI7 P Qd σ d K' f args' env:=zAF h js hd ho ha (.inl ⟨_,rfl,hq⟩)
theorem zCT {α : Type}:∀{js:List Nat} {s t:List α} {x:Nat},x<s.length→x∉js→(jX s js t)[x]?=s[x]?
 | [],s,t,x,hx,_=>by simp[jX,jAo hx]
 | j::js,s,[],x,_,_=>by simp[jX]
 | j::js,s,o::os,x,hx,hn=>by simp only[jA3,not_or]at hn;simp only[jX];rw[zCT (by simpa using hx) hn.2,jAf (Ne.symm hn.1)]
end
end Go.Abs
namespace Go.Proofs.YthglhccibdlccaaGreatDoor
open Go.Abs
def qEl:Go.Shelf.Ren:=⟨fun | 6=>95 | 15=>133 | 14=>132 | 28=>154 | 29=>155 | 20=>146 | 21=>147 | 22=>148 | 23=>149 | 24=>150 | 25=>151 | 26=>152 | 27=>153 | 46=>169 | 49=>172 | 50=>173 | 57=>182 | 47=>170 | 48=>171 | n=>n,fun | 22=>45 | 24=>29 | 25=>161 | 3=>3 | 39=>197 | 0=>0 | 53=>218 | 55=>220 | 4=>4 | 46=>211 | 45=>210 | 50=>215 | 5=>5 | 9=>9 | 66=>230 | 70=>234 | 76=>240 | 77=>241 | n=>n,fun n=>n⟩
theorem zWZ:Go.Proofs.SlLaysF0.n6 prog qEl:={
 mixed:=by kernel_rfl,
 f6:=⟨Tryz.f95.name,by decide,Tryz.func95.trans (congrArg some (by kernel_rfl))⟩,
 f14:=⟨Tryz.f132.name,by decide,Tryz.func132.trans (congrArg some (by kernel_rfl))⟩,
 f15:=Tryz.func133.trans (congrArg some (by kernel_rfl)),
 f20:=⟨Tryz.f146.name,by decide,Tryz.func146.trans (congrArg some (by kernel_rfl))⟩,
 f21:=⟨Tryz.f147.name,by decide,Tryz.func147.trans (congrArg some (by kernel_rfl))⟩,
 f22:=⟨Tryz.f148.name,by decide,Tryz.func148.trans (congrArg some (by kernel_rfl))⟩,
 f23:=⟨Tryz.f149.name,by decide,Tryz.func149.trans (congrArg some (by kernel_rfl))⟩,
 f24:=⟨Tryz.f150.name,by decide,Tryz.func150.trans (congrArg some (by kernel_rfl))⟩,
 f25:=⟨Tryz.f151.name,by decide,Tryz.func151.trans (congrArg some (by kernel_rfl))⟩,
 f26:=⟨Tryz.f152.name,by decide,Tryz.func152.trans (congrArg some (by kernel_rfl))⟩,
 f27:=⟨Tryz.f153.name,by decide,Tryz.func153.trans (congrArg some (by kernel_rfl))⟩,
 f28:=Tryz.func154.trans (congrArg some (by kernel_rfl)),
 f29:=Tryz.func155.trans (congrArg some (by kernel_rfl)),
 f46:=⟨Tryz.f169.name,by decide,Tryz.func169.trans (congrArg some (by kernel_rfl))⟩,
 f47:=Tryz.func170.trans (congrArg some (by kernel_rfl)),
 f48:=Tryz.func171.trans (congrArg some (by kernel_rfl)),
 f49:=⟨Tryz.f172.name,by decide,Tryz.func172.trans (congrArg some (by kernel_rfl))⟩,
 f50:=⟨Tryz.f173.name,by decide,Tryz.func173.trans (congrArg some (by kernel_rfl))⟩,
 f57:=⟨Tryz.f182.name,by decide,Tryz.func182.trans (congrArg some (by kernel_rfl))⟩,
 t0:=Tryz.underlying0,
 a0:=Tryz.isAgg0,
 z0:=Tryz.sizeOf0,
 v0:=Tryz.zeroValue0,
 t3:=Tryz.underlying3,
 a3:=Tryz.isAgg3,
 z3:=Tryz.sizeOf3,
 v3:=Tryz.zeroValue3,
 t4:=Tryz.underlying4,
 a4:=Tryz.isAgg4,
 z4:=Tryz.sizeOf4,
 v4:=Tryz.zeroValue4,
 t5:=Tryz.underlying5,
 a5:=Tryz.isAgg5,
 z5:=Tryz.sizeOf5,
 v5:=Tryz.zeroValue5,
 t9:=Tryz.underlying9,
 a9:=Tryz.isAgg9,
 z9:=Tryz.sizeOf9,
 v9:=Tryz.zeroValue9,
 t22:=Tryz.underlying45,
 a22:=Tryz.isAgg45,
 z22:=Tryz.sizeOf45,
 v22:=Tryz.zeroValue45,
 t25:=Tryz.underlying161,
 a25:=Tryz.isAgg161,
 z25:=Tryz.sizeOf161,
 v25:=Tryz.zeroValue161,
 t39:=Tryz.underlying197,
 a39:=Tryz.isAgg197,
 z39:=Tryz.sizeOf197,
 v39:=Tryz.zeroValue197,
 t45:=Tryz.underlying210,
 a45:=Tryz.isAgg210,
 z45:=Tryz.sizeOf210,
 v45:=Tryz.zeroValue210,
 t46:=Tryz.underlying211,
 a46:=Tryz.isAgg211,
 z46:=Tryz.sizeOf211,
 v46:=Tryz.zeroValue211,
 t50:=Tryz.underlying215,
 a50:=Tryz.isAgg215,
 z50:=Tryz.sizeOf215,
 v50:=Tryz.zeroValue215,
 t53:=Tryz.underlying218,
 a53:=Tryz.isAgg218,
 z53:=Tryz.sizeOf218,
 v53:=Tryz.zeroValue218,
 t55:=Tryz.underlying220,
 a55:=Tryz.isAgg220,
 z55:=Tryz.sizeOf220,
 v55:=Tryz.zeroValue220,
 t66:=Tryz.underlying230,
 a66:=Tryz.isAgg230,
 z66:=Tryz.sizeOf230,
 v66:=Tryz.zeroValue230,
 t70:=Tryz.underlying234,
 a70:=Tryz.isAgg234,
 z70:=Tryz.sizeOf234,
 v70:=Tryz.zeroValue234,
 t76:=Tryz.underlying240,
 a76:=Tryz.isAgg240,
 z76:=Tryz.sizeOf240,
 v76:=Tryz.zeroValue240,
 t77:=Tryz.underlying241,
 a77:=Tryz.isAgg241,
 z77:=Tryz.sizeOf241,
 v77:=Tryz.zeroValue241}
def zSR:Go.Shelf.Ren:=⟨fun | 4=>116 | n=>n,fun | 0=>0 | 3=>3 | 4=>4 | 9=>9 | 20=>20 | 22=>45 | 25=>29 | n=>n,fun n=>n⟩
theorem zZy:Go.Proofs.Lays8.n4 prog zSR:={
 mixed:=by kernel_rfl,
 f4:=⟨Tryz.f116.name,by decide,Tryz.func116.trans (congrArg some (by kernel_rfl))⟩,
 t0:=Tryz.underlying0,
 a0:=Tryz.isAgg0,
 z0:=Tryz.sizeOf0,
 v0:=Tryz.zeroValue0,
 t3:=Tryz.underlying3,
 a3:=Tryz.isAgg3,
 z3:=Tryz.sizeOf3,
 v3:=Tryz.zeroValue3,
 t4:=Tryz.underlying4,
 a4:=Tryz.isAgg4,
 z4:=Tryz.sizeOf4,
 v4:=Tryz.zeroValue4,
 t9:=Tryz.underlying9,
 a9:=Tryz.isAgg9,
 z9:=Tryz.sizeOf9,
 v9:=Tryz.zeroValue9,
 t20:=Tryz.underlying20,
 a20:=Tryz.isAgg20,
 z20:=Tryz.sizeOf20,
 v20:=Tryz.zeroValue20,
 t22:=Tryz.underlying45,
 a22:=Tryz.isAgg45,
 z22:=Tryz.sizeOf45,
 v22:=Tryz.zeroValue45}
@[simp] theorem qLM:zA prog 116=true:=by kernel_rfl
@[simp] theorem qMa:zA prog 95=true:=by kernel_rfl
theorem zOZ:∀args w,(callFunc 96 args).run prog w=.ok (.enter 96 args) w:=enters_of Tryz.func96 (by kernel_rfl) rfl
theorem zXH:zQD prog 95 96 jF zFC :=
 qEy (k:=3) (fun _=>rfl) zGb zXw fun α _ enc hk h1 cf hO blk off cap d w hcmp hH hblk hsz =>
  Go.Proofs.AnyQ.slices_SortFunc zWZ 3 Tryz.isAgg29 Tryz.sizeOf29 enc hk h1 cf hO 96 #[] blk off cap d w zOZ hcmp hH hblk hsz
theorem zSM:∀(p:Option Addr) (cap:Nat) (fv:Value) (w:World),Calls prog 95 #[.slice p 0 cap,fv] w fun e w'=>e=.returned (.tuple #[])∧w'=w :=
 fun p cap fv w=>Go.Proofs.AnyF.slices_SortFunc_none zWZ p cap fv w
theorem zOO (l:List Id):l.flatMap jF=qE l:=by
 induction l with
 | nil=>rfl
 | cons v l ih=>rw[jBc,ih]; rfl
theorem zRJ (l:List Id)(hmx:l.length<4611686018427387904):Ret prog 95 [.row 0 l.length,.clo 96 [] []] [.row false 29 3 l.length (qE l)] (.tup []) [.row false 29 3 l.length (qE (zDv zFC l))]:=by
 have:=zXG (sz:=3) (by omega) (fun _=>rfl) (fun b=>by simp[jF]) zGb 29 zXH zSM l hmx
 simpa only[zOO] using this
theorem zRK (x:A):Ret prog 95 [.sl 0 [],x] [] (.tup []) []:=by
 intro H L w vs hs hvs;obtain⟨v,vs',rfl,h1,h2⟩:=qB hvs;obtain⟨fv,vs'',rfl,h3,h4⟩:=qB h2;have:=jR h4;subst this;simp only[Rel]at h1;obtain⟨p,cap,rfl,_⟩:=h1;refine(zSM p cap fv w).mono fun e' w' hh=>?_
 obtain⟨rfl,rfl⟩:=hh;exact⟨.ret (.tup []),_,H,L,⟨_,rfl,by simp[Rel,zY]⟩,Nxt.refl hs,rfl,rfl⟩
theorem zRq (n:Nat)(hn:n≤1000000):Ret prog 116 [.nil,int n] [] (.row 0 0) [.row false 29 3 0 []] :=
 zNg (ρ:=zSR) (sz:=3) (bs:=24) (z:=.agg #[.int .i64 0,.int .i64 0,.int .i64 0]) zZy (by kernel_rfl) rfl (by omega) (by omega) (by omega)
def zQA:K:=G [kMn 2] (Z (G [M 3 0,⟨none,.isz (some 4) false (kt 3)⟩] (Y 4 (G [kMn 2] kr) ks)) (G [kd 5 29 3 0 [] [],M 6 0,kP 7 29 3 24 5 6,M 2 7] kr))
theorem zV4:zL prog Tryz.f94.ntmps (Tryz.f94.body.getD .skip)=some zQA.erase:=by kernel_rfl
@[simp] theorem qIU:zA prog 94=true:=by kernel_rfl
def zSe:K:=G [kMn 2] (G [kMi 3 0] (Z (G [M 9 0,kN 10 9,kMi 11 0] (K.block 0 (K.loop (G [kB 12 11 10 .lss] (Z (Y 12 ks (K.exit 0)) (Z (K.block 1 (G [kX 13 9 11 1,L 14 13 1,M 5 14] (G [M 15 3,M 16 5,kN 17 16,kB 18 15 17 .add,M 3 18] (G [M 19 3,kBi 20 19 0 .lss] (Y 20 (K.ops [⟨none,.mki (some 21) 9 (.const (.string ⟨#[108,101,110,32,111,117,116,32,111,102,32,114,97,110,103,101]⟩))⟩,⟨none,.pan none (kt 21)⟩]) ks))))) (K.ops [kBi 22 11 1 .add,M 11 22]))))))) (G [M 23 3,kC 24 116 [(.const kl),(kt 23)],M 6 24] (Z (G [M 25 0,kN 26 25,kMi 27 0] (K.block 2 (K.loop (G [kB 28 27 26 .lss] (Z (Y 28 ks (K.exit 2)) (Z (K.block 3 (G [kX 29 25 27 1,L 30 29 1,M 8 30] (K.ops [M 31 6,M 32 8,kP 33 29 3 24 31 32,M 6 33]))) (K.ops [kBi 34 27 1 .add,M 27 34]))))))) (G [M 35 6,M 2 35] kr)))))
theorem zYs:zL prog Tryz.f69.ntmps (Tryz.f69.body.getD .skip)=some zSe.erase:=by kernel_rfl
@[simp] theorem qEZ:zA prog 69=true:=by kernel_rfl
def zK0:K:=G [kMn 2] (Z (G [M 6 0,kN 7 6,kBi 8 7 2 .lss] (Y 8 (G [M 9 0,M 2 9] kr) ks)) (Z (G [kMi 3 1] (K.block 0 (K.loop (Z (G [M 10 3,M 11 0,kN 12 11,kB 13 10 12 .lss] (Y 13 ks (K.exit 0))) (Z (K.block 1 (Z (K.dops [(0,0,M 16 0),(1,0,M 17 3),(2,0,kX 18 16 17 3),(3,0,J 19 18 3),(4,0,M 20 0),(5,0,M 21 3),(6,0,kBi 22 21 1 .sub),(7,0,kX 23 20 22 3),(8,0,J 24 23 3),(9,0,⟨none,.eqs (some 25) false [.i,.i,.i] (kt 19) (kt 24)⟩)]) (Y 25 (G [M 26 0,M 27 3,⟨none,.rslc (some 28) (kt 26) 3 (some (kt 27)) none⟩,M 4 28] (Z (G [kMi 5 1] (K.block 2 (K.loop (Z (G [M 29 5,M 30 4,kN 31 30,kB 32 29 31 .lss] (Y 32 ks (K.exit 2))) (Z (K.block 3 (Z (K.dops [(0,0,M 35 4),(1,0,M 36 5),(2,0,kX 37 35 36 3),(3,0,J 38 37 3),(4,0,M 39 4),(5,0,M 40 5),(6,0,kBi 41 40 1 .sub),(7,0,kX 42 39 41 3),(8,0,J 43 42 3),(9,0,⟨none,.eqs (some 44) true [.i,.i,.i] (kt 38) (kt 43)⟩)]) (Y 44 (G [M 45 0,M 46 3,M 47 4,M 48 5,kX 49 47 48 3,J 50 49 3,kX 51 45 46 3,S 51 50 3] (K.ops [M 52 3,kBi 53 52 1 .add,M 3 53])) ks))) (K.ops [M 33 5,kBi 34 33 1 .add,M 5 34])))))) (G [M 54 0,M 55 3,⟨none,.rslc (some 56) (kt 54) 3 (some (kt 55)) none⟩,⟨none,.mop none (.clr 3 [ki,ki,ki]) [(kt 56)]⟩] (G [M 57 0,M 58 3,⟨none,.rslc (some 59) (kt 57) 3 none (some (kt 58))⟩,M 2 59] kr)))) ks))) (K.ops [M 14 3,kBi 15 14 1 .add,M 3 15])))))) (G [M 60 0,M 2 60] kr)))
theorem zOI:zL prog Tryz.f97.ntmps (Tryz.f97.body.getD .skip)=some zK0.erase:=by kernel_rfl
@[simp] theorem qCF:zA prog 97=true:=by kernel_rfl
theorem zOR (l:List Id)(h:l≠[])(hb:l.length≤1000000):Ret prog 94 [.sl l.length (qE l)] [] (.row 0 l.length) [.row false 29 3 l.length (qE l)]:=by refine zK Tryz.func94 rfl zV4 (rs:=[.slot 2]) (by kernel_rfl) ?_;unfold zQA;simp[h];refine⟨⟨by simp[maxLen]; omega,by omega⟩,?_⟩;exact zG [0] 0 (by simp) (by simp) (by simp) (by simp)
theorem zOS:Ret prog 94 [.sl 0 []] [] (.sl 0 []) []:=by refine zK Tryz.func94 rfl zV4 (rs:=[.slot 2]) (by kernel_rfl) ?_;unfold zQA;simp;exact⟨zC 0 (by simp),zC 0 (by simp)⟩
def zBP (Ls:List (List Id)):List A:=Ls.map fun l=>A.sl l.length (qE l)
theorem zER:∀(Ls:List (List Id)),jM (zBP Ls)
 | []=>jM.nil
 | l::Ls=>by
  have h1:=zER Ls;have h2:=zBY l;refine⟨?_,fun rf g=>?_⟩
  ·show jK (A.sl l.length (qE l)::zBP Ls)=_;simp[h1.1];rfl
  ·show vwL rf g (A.sl l.length (qE l)::zBP Ls)=_;simp[h1.2];rfl
@[simp] theorem qBK (l:List (List Id)):jK (zBP l)=zBP l:=(zER l).1
@[simp] theorem qGs {rf g}(l:List (List Id)):vwL rf g (zBP l)=zBP l:=(zER l).2 _ _
@[simp] theorem qCW (l:List (List Id)):(zBP l).length=l.length:=by simp[zBP]
theorem zJD {Ls:List (List Id)}{i:Nat}(h:i<Ls.length):(zBP Ls).drop i=.sl Ls[i].length (qE Ls[i])::zBP (Ls.drop (i+1)):=by rw[zBP,←List.map_drop,jB8 h]; rfl
def zDZ (Ls:List (List Id)):Nat:=Ls.flatten.length
theorem zND {Ls:List (List Id)}{i:Nat}(h:i<Ls.length):zDZ (Ls.take (i+1))=zDZ (Ls.take i)+Ls[i].length:=by rw[zDZ,zDZ,jA9 h,jCi]; simp
theorem zTa (Ls:List (List Id))(i:Nat):zDZ (Ls.take i)≤zDZ Ls:=by
 have:Ls.flatten=(Ls.take i).flatten++(Ls.drop i).flatten:=by rw[←jCi,jBy]
 rw[zDZ,zDZ,this,jA5]; omega
theorem zNR (Ls:List (List Id))(hb:zDZ Ls≤1000000):Ret prog 69 [.sl Ls.length (zBP Ls)] [] (.sl (zDZ Ls) (qE Ls.flatten)) []:=by
 refine zK Tryz.func69 rfl zYs (rs:=[.slot 2]) (by kernel_rfl) ?_;unfold zSe;simp;intro hl;refine qW (S:=Nat) (fun i=>[(0,.sl Ls.length (zBP Ls)),(3,int (zDZ (Ls.take i))),(9,.sl Ls.length (zBP Ls)),(10,int Ls.length),(11,int i)]) (fun s=>[]) (fun i=>i≤Ls.length) (fun i=>Ls.length-i) 0 (by simp)
  (zR [] 0 (by simp) (by simp) (by simp) (by simp[zDZ])) ?_
 intro i hi;by_cases h:i<Ls.length
 ·have ht:=zND h;have hle:=zTa Ls (i+1);have hw:IntKind.i64.wrap ((zDZ (Ls.take i):Int)+(Ls[i].length:Int))=(zDZ (Ls.take (i+1)):Nat):=by rw[ht]; push_cast; exact IntWalk.i64_in _ (by omega)
  have h0:¬((zDZ (Ls.take (i+1)):Nat):Int)<0:=by omega
  simp[h,zJD h];intro _;simp[hw,h0];exact zU (i+1) h (by omega) (zR [] 0 (by simp) (by simp) (by simp) (by simp[qA h hl]))
 ·have hil:i=Ls.length:=by omega
  subst hil;have hI:¬(Ls.length:Int)<Ls.length:=by omega
  simp;refine zN (zRq (zDZ Ls) hb) [] (by simp) (by simp) (by simp) ?_;simp;intro _;refine qW (S:=Nat) (fun i=>[(6,.row 0 (zDZ (Ls.take i))),(25,.sl Ls.length (zBP Ls)),(26,int Ls.length),(27,int i)]) (fun i=>[.row false 29 3 (zDZ (Ls.take i)) (qE (Ls.take i).flatten)]) (fun i=>i≤Ls.length) (fun i=>Ls.length-i) 0 (by simp)
   (zR [0] 0 (by simp) (by simp) (by simp[zDZ]) (by simp[zDZ])) ?_
  intro i hi;by_cases h:i<Ls.length
  ·have ht:=zND h;have hle:=zTa Ls (i+1);have hf:(Ls.take (i+1)).flatten=(Ls.take i).flatten++Ls[i]:=by rw[jA9 h,jCi]; simp
   simp[h,zJD h];refine⟨⟨by simp[maxLen]; omega,by omega⟩,?_⟩;exact zU (i+1) h (by omega) (zR [0] 0 (by simp) (by simp) (by simp[ht,hf,jS]) (by simp[ht,qA h hl]))
  ·have hil:i=Ls.length:=by omega
   subst hil;simp;exact zC 1 (by simp)
def KId:K:=G [kZ 2 [ki,ki,ki]] (G [M 3 0,kb 4 [ki,ki,ki] [(1,1,(kc 1)),(2,1,(kt 3))],S 2 4 3] kr)
theorem cId:zL prog Tryz.f40.ntmps (Tryz.f40.body.getD .skip)=some KId.erase:=by kernel_rfl
@[simp] theorem qIZ:zA prog 40=true:=by kernel_rfl
def EId:Entry:=⟨KId,[.cell 2 3 true],false⟩
theorem qJ0:jW prog 40 EId:=⟨qIZ,_,_,zA1,Tryz.func40,rfl,cId,by kernel_rfl⟩
def qHT:K:=G [kZ 4 kz1] (G [M 5 0,kC 6 40 [(kt 5)],M 7 1,kC 8 40 [(kt 7)],kb 9 kz1 [(0,3,(kt 6)),(3,1,(kc 2)),(5,3,(kt 8))],S 4 9 15] kr)
theorem qOP:zL prog Tryz.f88.ntmps (Tryz.f88.body.getD .skip)=some qHT.erase:=by kernel_rfl
@[simp] theorem qCN:zA prog 88=true:=by kernel_rfl
def qGS:Entry:=⟨qHT,[.cell 4 15 true],false⟩
theorem qDw:jW prog 88 qGS:=⟨qCN,_,_,zA1,Tryz.func88,rfl,qOP,by kernel_rfl⟩
def KEx:K:=G [kZ 0 [kl,kl]] (G [kC 5 40 [(kc 11)],kC 6 88 [(kc 12),(kc 2)],kC 7 40 [(kc 13)],kb 8 kz1 [(0,3,(kt 7)),(4,1,(kc 3))],kd 9 37 15 2 kz6 [(0,15,(kt 6)),(15,15,(kt 8))],kb 10 kz1 [(0,3,(kt 5)),(3,1,(kc 4)),(4,1,(kc 5)),(13,1,(kt 9))],kZ 1 kz1,S 1 10 15] (G [kC 11 40 [(kc 15)],kC 12 40 [(kc 3)],kC 13 88 [(kc 16),(kc 2)],kd 14 37 15 1 kz1 [(0,15,(kt 13))],kb 15 kz1 [(0,3,(kt 11)),(3,1,(kc 3)),(5,3,(kt 12)),(13,1,(kt 14))],kZ 2 kz1,S 2 15 15] (Z (K.dops [(0,1,kC 16 40 [(kc 1)]),(1,1,kC 17 40 [(kc 0)]),(2,1,kC 18 40 [(kc 2)]),(3,0,⟨none,.build (some 19) kz5 [(0,3,(kt 18)),(3,1,(.const (.string ⟨#[97]⟩)))]⟩),(4,0,kd 20 90 11 1 kz5 [(0,11,(kt 19))]),(5,1,kC 21 40 [(kc 10)]),(6,1,J 22 1 15),(7,1,kC 23 88 [(kc 14),(kc 2)]),(8,1,J 24 2 15),(9,0,kd 25 37 15 3 kz4 [(0,15,(kt 22)),(15,15,(kt 23)),(30,15,(kt 24))]),(10,0,kb 26 kz1 [(0,3,(kt 21)),(3,1,(kc 5)),(13,1,(kt 25))]),(11,0,⟨none,.build (some 27) kz0 [(0,3,(kt 16)),(3,1,(kc 2)),(4,3,(kt 17)),(7,1,(.const (.string ⟨#[102]⟩))),(8,1,(kt 20)),(14,15,(kt 26))]⟩),(12,0,kZ 3 kz0),(13,0,S 3 27 31)]) (G [kC 28 40 [(kc 3)],kC 29 40 [(kc 0)],kC 30 40 [(kc 4)],⟨none,.build (some 31) kz5 [(0,3,(kt 30)),(3,1,(.const (.string ⟨#[97]⟩)))]⟩,kd 32 90 11 1 kz5 [(0,11,(kt 31))],kC 33 88 [(kc 17),(kc 4)],⟨none,.build (some 34) kz0 [(0,3,(kt 28)),(3,1,(kc 2)),(4,3,(kt 29)),(7,1,(.const (.string ⟨#[103]⟩))),(8,1,(kt 32)),(14,15,(kt 33))]⟩,kZ 4 kz0,
 S 4 34 31] (Z (K.dops [(0,1,kC 35 40 [(kc 0)]),(1,1,kC 36 40 [(kc 1)]),(2,1,kC 37 40 [(kc 3)]),(3,0,kd 38 29 3 2 [ki,ki,ki,ki,ki,ki] [(0,3,(kt 36)),(3,3,(kt 37))]),(4,0,⟨none,.build (some 39) kz9 [(0,3,(kt 35)),(3,1,(.const (.string ⟨#[109]⟩))),(5,1,(kt 38))]⟩),(5,0,kd 40 84 6 1 kz9 [(0,6,(kt 39))]),(6,1,J 41 3 31),(7,1,J 42 4 31),(8,9,⟨none,.brow (some 43) 39 31 2 kz8 [(0,31,(kt 41)),(31,31,(kt 42))]⟩),(9,0,kb 44 [kl,kl] [(0,1,(kt 40)),(1,1,(kt 43))]),(10,0,S 0 44 2)]) kr)))))
def hEx:Nat→Option (List (Nat×Nat)):=fun r=>match r with | 5=>some [(0,1),(1,1),(2,1),(3,0),(4,0),(5,0),(6,1),(7,1),(8,9),(9,0),(10,0)] | _=>none
theorem cEx:qD prog Tryz.f39.ntmps hEx (Tryz.f39.body.getD .skip)=some KEx.erase:=by kernel_rfl
@[simp] theorem qIW:zA prog 39=true:=by kernel_rfl
def EEx:Entry:=⟨KEx,[.cell 0 2 true],false⟩
theorem qJz:jW prog 39 EEx:=⟨qIW,_,_,hEx,Tryz.func39,rfl,cEx,by kernel_rfl⟩
def zNW (i:Int)(k n:Int)(r:Int)(kids:List Exp):Exp:=.mk ⟨0,1,i⟩ k n (if r<0 then Id.zero else ⟨0,1,r⟩) Typ.zero kids []
def exF:Dfn:=⟨⟨0,1,1⟩,2,⟨0,1,0⟩,⟨#[102]⟩,[⟨⟨0,1,2⟩,⟨#[97]⟩,Typ.zero,0,0⟩],Typ.zero,
 zNW 10 5 0 (-1) [zNW 11 4 5 (-1) [zNW 12 2 0 2 [],zNW 13 0 3 (-1) []],zNW 14 2 0 2 [],zNW 15 3 0 3 [zNW 16 2 0 2 []]],0,[]⟩
def exG (b:Exp):Dfn:=⟨⟨0,1,3⟩,2,⟨0,1,0⟩,⟨#[103]⟩,[⟨⟨0,1,4⟩,⟨#[97]⟩,Typ.zero,0,0⟩],Typ.zero,b,0,[]⟩
def exM:Md:=⟨⟨0,1,0⟩,⟨#[109]⟩,[],[⟨0,1,1⟩,⟨0,1,3⟩]⟩
def exP:Prg:=⟨[exM],[exF,exG (zNW 17 2 0 4 [])]⟩
def exQ:Prg:=⟨[exM],[exF,exG (zNW 17 0 7 (-1) [])]⟩
def zCf {α : Type}(same : α→α→Bool):List α→List α→Bool
 | [],[]=>true
 | x::a,y::b=>same x y&&zCf same a b
 | _,_=>false
theorem zFH {α : Type}{same : α→α→Bool}:∀{a b:List α},a.length≠b.length→zCf same a b=false
 | [],[],h=>(h rfl).elim
 | x::a,y::b,h=>by simp only[zCf,zFH (a:=a) (b:=b) (by simpa using h),Bool.and_false]
 | [],_::_,_=>rfl
 | _::_,[],_=>rfl
theorem zC0 {α : Type}{same : α→α→Bool}:∀{a b:List α} (hl:a.length=b.length),zCf same a b=true↔∀(j:Nat) (h:j<a.length),same a[j] (b[j]'(hl▸h))=true
 | [],[],_=>by simp[zCf]
 | x::a,y::b,hl=>by
  simp only[zCf,jA6,zC0 (a:=a) (b:=b) (by simpa using hl)];constructor
  ·rintro⟨h1,h2⟩ j h;cases j with
   | zero=>exact h1
   | succ j=>exact h2 j (by simpa using h)
  ·intro h;exact⟨h 0 (by simp),fun j hj=>h (j+1) (by simpa using hj)⟩
 | [],_::_,hl=>by simp at hl
 | _::_,[],hl=>by simp at hl
def qHp:K:=G [kMb 6 false] (Z (G [M 10 0,kN 11 10,M 12 1,kN 13 12,kQ 14 11 13 true] (Y 14 (G [kMb 6 false] kr) ks)) (Z (G [M 15 0,kN 16 15,kMi 17 0] (K.block 0 (K.loop (G [kB 18 17 16 .lss] (Z (Y 18 ks (K.exit 0)) (Z (K.block 1 (G [M 19 17,kX 20 15 17 5,J 21 20 5,kZ 8 kz2,M 7 19,S 8 21 5] (G [M 22 1,M 23 7,kX 24 22 23 5,J 25 24 5,kZ 9 kz2,S 9 25 5] (G [M 26 2,J 27 8 5,J 28 9 5,⟨none,.call (some 29) (kt 26) [(kt 27),(kt 28)]⟩,kR 30 29] (Y 30 (G [kMb 6 false] kr) ks))))) (K.ops [kBi 31 17 1 .add,M 17 31]))))))) (G [kMb 6 true] kr)))
theorem qOl:zL prog Tryz.f139.ntmps (Tryz.f139.body.getD .skip)=some qHp.erase:=by kernel_rfl
@[simp] theorem qPo:zA prog 139=true:=by kernel_rfl
theorem zZd (g:FuncId)(hcal:zA prog g=true)(same:Typ→Typ→Bool)(a b:List Typ)(h:∀x∈a,∀y∈b,Ret prog g [.agg (zB x),.agg (zB y)] [] (bl (same x y)) []) :
 Ret prog 139 [.sl a.length (jH a),.sl b.length (jH b),.clo g [] []] [] (bl (zCf same a b)) []:=by
 refine zK Tryz.func139 rfl qOl (rs:=[.slot 6]) (by kernel_rfl) ?_;unfold qHp;by_cases hab:a.length=b.length
 ·simp[hab];intro hlb;refine qW (S:=Nat) (fun i=>[(1,.sl b.length (jH b)),(2,.clo g [] []),(15,.sl a.length (jH a)),(16,int a.length),(17,int i)]) (fun s=>[]) (fun i=>i≤a.length∧∀(j:Nat) (h:j<a.length),j<i→same a[j] (b[j]'(hab▸h))=true) (fun i=>a.length-i) 0 (by simp)
   (zR [] 0 (by simp) (by simp) (by simp) (by simp[hab])) ?_
  rintro i ⟨hi,hn⟩;by_cases hia:i<a.length
  ·have hib:i<b.length:=by omega
   have hla:i*5<a.length*5:=by omega
   have hlb':i*5<b.length*5:=by omega
   simp[hia,hib,zCt hia,zCt hib,hcal,zB];refine zT (h a[i] (jA0 hia) b[i] (jA0 hib)) (by simp[zB]) (by simp) ?_;cases hs:same a[i] b[i]with
   | true =>
    simp;exact zU (i+1) ⟨hia,fun j hj hji=>by
     by_cases e:j=i
     ·subst e; exact hs
     ·exact hn j hj (by omega)⟩ (by omega) (zR [] 0 (by simp) (by simp) (by simp) (by simp[qA hib hlb]))
   | false =>
    have hf:zCf same a b=false:=by
     cases hh:zCf same a b with
     | false=>rfl
     | true=>have:=(zC0 hab).1 hh i hia; rw[hs]at this; cases this
    simp;exact zC 0 (by simp[hf])
  ·have hil:i=a.length:=by omega
   subst hil;have ht:zCf same a b=true:=(zC0 hab).2 fun j hj=>hn j hj hj
   simp;exact zC 0 (by simp[ht])
 ·have hab':¬(a.length:Int)=b.length:=by omega
  simp[hab'];exact fun _ _=>zC 0 (by simp[zFH hab])
def qHo:K:=G [kMb 6 false] (Z (G [M 10 0,kN 11 10,M 12 1,kN 13 12,kQ 14 11 13 true] (Y 14 (G [kMb 6 false] kr) ks)) (Z (G [M 15 0,kN 16 15,kMi 17 0] (K.block 0 (K.loop (G [kB 18 17 16 .lss] (Z (Y 18 ks (K.exit 0)) (Z (K.block 1 (G [M 19 17,kX 20 15 17 11,J 21 20 11,kZ 8 kz5,M 7 19,S 8 21 11] (G [M 22 1,M 23 7,kX 24 22 23 11,J 25 24 11,kZ 9 kz5,S 9 25 11] (G [M 26 2,J 27 8 11,J 28 9 11,⟨none,.call (some 29) (kt 26) [(kt 27),(kt 28)]⟩,kR 30 29] (Y 30 (G [kMb 6 false] kr) ks))))) (K.ops [kBi 31 17 1 .add,M 17 31]))))))) (G [kMb 6 true] kr)))
theorem qOk:zL prog Tryz.f106.ntmps (Tryz.f106.body.getD .skip)=some qHo.erase:=by kernel_rfl
@[simp] theorem qPn:zA prog 106=true:=by kernel_rfl
theorem zZc (g:FuncId)(hcal:zA prog g=true)(same:Slt→Slt→Bool)(a b:List Slt)(h:∀x∈a,∀y∈b,Ret prog g [.agg (zAu x),.agg (zAu y)] [] (bl (same x y)) []) :
 Ret prog 106 [.sl a.length (yE a),.sl b.length (yE b),.clo g [] []] [] (bl (zCf same a b)) []:=by
 refine zK Tryz.func106 rfl qOk (rs:=[.slot 6]) (by kernel_rfl) ?_;unfold qHo;by_cases hab:a.length=b.length
 ·simp[hab];intro hlb;refine qW (S:=Nat) (fun i=>[(1,.sl b.length (yE b)),(2,.clo g [] []),(15,.sl a.length (yE a)),(16,int a.length),(17,int i)]) (fun s=>[]) (fun i=>i≤a.length∧∀(j:Nat) (h:j<a.length),j<i→same a[j] (b[j]'(hab▸h))=true) (fun i=>a.length-i) 0 (by simp)
   (zR [] 0 (by simp) (by simp) (by simp) (by simp[hab])) ?_
  rintro i ⟨hi,hn⟩;by_cases hia:i<a.length
  ·have hib:i<b.length:=by omega
   have hla:i*11<a.length*11:=by omega
   have hlb':i*11<b.length*11:=by omega
   simp[hia,hib,jU hia,jU hib,hcal,zAu];refine zT (h a[i] (jA0 hia) b[i] (jA0 hib)) (by simp[zAu]) (by simp) ?_;cases hs:same a[i] b[i]with
   | true =>
    simp;exact zU (i+1) ⟨hia,fun j hj hji=>by
     by_cases e:j=i
     ·subst e; exact hs
     ·exact hn j hj (by omega)⟩ (by omega) (zR [] 0 (by simp) (by simp) (by simp) (by simp[qA hib hlb]))
   | false =>
    have hf:zCf same a b=false:=by
     cases hh:zCf same a b with
     | false=>rfl
     | true=>have:=(zC0 hab).1 hh i hia; rw[hs]at this; cases this
    simp;exact zC 0 (by simp[hf])
  ·have hil:i=a.length:=by omega
   subst hil;have ht:zCf same a b=true:=(zC0 hab).2 fun j hj=>hn j hj hj
   simp;exact zC 0 (by simp[ht])
 ·have hab':¬(a.length:Int)=b.length:=by omega
  simp[hab'];exact fun _ _=>zC 0 (by simp[zFH hab])
def qHn:K:=G [kMb 6 false] (Z (G [M 10 0,kN 11 10,M 12 1,kN 13 12,kQ 14 11 13 true] (Y 14 (G [kMb 6 false] kr) ks)) (Z (G [M 15 0,kN 16 15,kMi 17 0] (K.block 0 (K.loop (G [kB 18 17 16 .lss] (Z (Y 18 ks (K.exit 0)) (Z (K.block 1 (G [M 19 17,kX 20 15 17 15,J 21 20 15,kZ 8 kz1,M 7 19,S 8 21 15] (G [M 22 1,M 23 7,kX 24 22 23 15,J 25 24 15,kZ 9 kz1,S 9 25 15] (G [M 26 2,J 27 8 15,J 28 9 15,⟨none,.call (some 29) (kt 26) [(kt 27),(kt 28)]⟩,kR 30 29] (Y 30 (G [kMb 6 false] kr) ks))))) (K.ops [kBi 31 17 1 .add,M 17 31]))))))) (G [kMb 6 true] kr)))
theorem qOj:zL prog Tryz.f108.ntmps (Tryz.f108.body.getD .skip)=some qHn.erase:=by kernel_rfl
@[simp] theorem qPm:zA prog 108=true:=by kernel_rfl
theorem zZb (g:FuncId)(hcal:zA prog g=true)(same:Exp→Exp→Bool)(a b:List Exp)(h:∀x∈a,∀y∈b,Ret prog g [.agg (zF x),.agg (zF y)] [] (bl (same x y)) []) :
 Ret prog 108 [.sl a.length (qL a),.sl b.length (qL b),.clo g [] []] [] (bl (zCf same a b)) []:=by
 refine zK Tryz.func108 rfl qOj (rs:=[.slot 6]) (by kernel_rfl) ?_;unfold qHn;by_cases hab:a.length=b.length
 ·simp[hab];intro hlb;refine qW (S:=Nat) (fun i=>[(1,.sl b.length (qL b)),(2,.clo g [] []),(15,.sl a.length (qL a)),(16,int a.length),(17,int i)]) (fun s=>[]) (fun i=>i≤a.length∧∀(j:Nat) (h:j<a.length),j<i→same a[j] (b[j]'(hab▸h))=true) (fun i=>a.length-i) 0 (by simp)
   (zR [] 0 (by simp) (by simp) (by simp) (by simp[hab])) ?_
  rintro i ⟨hi,hn⟩;by_cases hia:i<a.length
  ·have hib:i<b.length:=by omega
   have hla:i*15<a.length*15:=by omega
   have hlb':i*15<b.length*15:=by omega
   simp[hia,hib,yJ hia,yJ hib,hcal,zF];refine zT (h a[i] (jA0 hia) b[i] (jA0 hib)) (by simp[zF]) (by simp) ?_;cases hs:same a[i] b[i]with
   | true =>
    simp;exact zU (i+1) ⟨hia,fun j hj hji=>by
     by_cases e:j=i
     ·subst e; exact hs
     ·exact hn j hj (by omega)⟩ (by omega) (zR [] 0 (by simp) (by simp) (by simp) (by simp[qA hib hlb]))
   | false =>
    have hf:zCf same a b=false:=by
     cases hh:zCf same a b with
     | false=>rfl
     | true=>have:=(zC0 hab).1 hh i hia; rw[hs]at this; cases this
    simp;exact zC 0 (by simp[hf])
  ·have hil:i=a.length:=by omega
   subst hil;have ht:zCf same a b=true:=(zC0 hab).2 fun j hj=>hn j hj hj
   simp;exact zC 0 (by simp[ht])
 ·have hab':¬(a.length:Int)=b.length:=by omega
  simp[hab'];exact fun _ _=>zC 0 (by simp[zFH hab])
end Go.Proofs.YthglhccibdlccaaGreatDoor
