/-
  An evaluator of small code at closed abstract states: code, functions, calls.
  Lists of IDs in increasing order, each once: what the reference's insertion gives, and what a sort and a compaction give.
-/
import Derived.Test.YthglhccibdlccaaGreatDoorX16
import Derived.Test.YthglhccibdlccaaGreatDoorX17
set_option linter.unusedVariables false
set_option linter.unusedSimpArgs false
namespace Go.Abs
section
variable {P:Program}{n0:Nat}
mutual
def lvA:A→List Nat
 | .any | .nil | .lit _=>[]
 | .agg cs | .tup cs | .sl _ cs | .fsl _ cs | .rptr cs=>lvL cs
 | .ptr l _ | .row l _ | .rwp l _ _ | .map l | .win l _ _ _ _=>[l]
 | .clo _ fs cs=>lvL fs++lvL cs
def lvL:List A→List Nat
 | []=>[]
 | c::cs=>lvA c++lvL cs
end
def lvM:List (List Int×A)→List Nat
 | []=>[]
 | p::l=>lvA p.2++lvM l
def lvO:AObj→List Nat
 | .box cs=>lvL cs
 | .row _ _ _ _ cs=>lvL cs
 | .mp _ _ es=>lvM es
 | .it m _ _=>[m]
 | _=>[]
def zQq (x:Nat):List Nat→Bool
 | []=>false
 | y::l=>bif Nat.beq x y then true else zQq x l
theorem zOr {x:Nat}:∀{l:List Nat},zQq x l=true↔x∈l
 | []=>by simp[zQq]
 | y::l=>by
  simp only[zQq,List.mem_cons];cases h:Nat.beq x y
  ·have:x≠y:=fun e=>by subst e; simp at h
   simp only[cond_false,this,false_or,zOr]
  ·have:=Nat.eq_of_beq_eq_true h;simp[this]
def zEJ (keep:Nat→AObj→Bool) (σ : St):Nat→List Nat→List Nat→List Nat
 | 0,_,acc=>acc
 | _+1,[],acc=>acc
 | n+1,l::t,acc=>bif zQq l acc then zEJ keep σ n t acc else match σ[l]? with
  | some o=>bif keep l o then zEJ keep σ n (lvO o++t) (acc++[l]) else zEJ keep σ n t acc
  | none=>zEJ keep σ n t acc
def zEG:List Nat→Bool
 | []=>true
 | x::l=>!(zQq x l)&&zEG l
theorem zDh:∀{l:List Nat},zEG l=true→l.Nodup
 | [],_=>List.nodup_nil
 | x::l,h=>by simp only[zEG,Bool.and_eq_true,Bool.not_eq_true']at h;rw[List.nodup_cons];refine⟨fun hm=>?_,zDh h.2⟩;rw[zOr.2 hm]at h;cases h.1
def zTA (σ : St)(rf:Bool→Nat→Nat→A)(g:Nat→Option Nat):List Nat→Option St
 | []=>some []
 | j::js=>match σ[j]?,zTA σ rf g js with
  | some o,some os=>some (vwO rf g o::os)
  | _,_=>none
theorem zEN {σ : St}{rf:Bool→Nat→Nat→A}{g:Nat→Option Nat}:∀{js:List Nat} {σ':St},zTA σ rf g js=some σ'→zA8 σ rf g js σ'
 | [],σ',h=>by cases h; trivial
 | j::js,σ',h=>by
  simp only[zTA]at h;split at h<;>try (cases h; done)
  rename_i o os h1 h2;cases h;simp only[zA8,h1];exact⟨.inl trivial,zEN h2⟩
mutual
theorem qBb {rf:Bool→Nat→Nat→A}{g:Nat→Option Nat}:∀(a:A),a.bnd 0=true→vw rf g a=a
 | .any,_=>rfl
 | .nil,_=>rfl
 | .lit _,_=>rfl
 | .agg cs,h=>by simp only[A.bnd]at h; simp only[vw,zF9 cs h]
 | .tup cs,h=>by simp only[A.bnd]at h; simp only[vw,zF9 cs h]
 | .sl n cs,h=>by simp only[A.bnd]at h; simp only[vw,zF9 cs h]
 | .fsl n cs,h=>by simp only[A.bnd]at h; simp only[vw,zF9 cs h]
 | .rptr cs,h=>by simp only[A.bnd]at h; simp only[vw,zF9 cs h]
 | .ptr l o,h=>by simp[A.bnd]at h
 | .row l n,h=>by simp[A.bnd]at h
 | .rwp l n o,h=>by simp[A.bnd]at h
 | .win l n o k c,h=>by simp[A.bnd]at h
 | .map l,h=>by simp[A.bnd]at h
 | .clo f fs cs,h=>by simp only[A.bnd,Bool.and_eq_true]at h; simp only[vw,zF9 fs h.1,zF9 cs h.2]
theorem zF9 {rf:Bool→Nat→Nat→A}{g:Nat→Option Nat}:∀(cs:List A),zCR 0 cs=true→vwL rf g cs=cs
 | [],_=>rfl
 | c::cs,h=>by simp only[zCR,Bool.and_eq_true]at h; simp only[vwL,qBb c h.1,zF9 cs h.2]
end
theorem zGV {js:List Nat}:∀{xs:List A},zBN js xs (xs.map (vw jR (qS js)))
 | []=>trivial
 | _::_=>⟨.inl rfl,zGV⟩
abbrev Run:=FuncId→List A→St→Option (A×St)
def zUS (R:Run):Run:=fun f xs σ =>
 let js:=zEJ (fun _ _=>true) σ 1000 (lvL xs) []
 match zTA σ jR (qS js) js with
 | some σ0=>match R f (xs.map (vw jR (qS js))) σ0 with
  | some (r,σ1)=>bif zEG js then some (ren js σ.length r,jW σ js (σ1.map (zBS js σ.length))) else none
  | none=>none
 | none=>none
theorem zUT {R:Run}(hR:zAm P R):zAm P (zUS R):=by
 intro f xs σ r σ' h;simp only[zUS]at h;generalize zEJ _ _ _ _ _=js at h;split at h<;>try (cases h; done)
 rename_i σ0 h0;split at h<;>try (cases h; done)
 rename_i r0 σ1 h1;cases hd:zEG js
 ·rw[hd]at h; cases h
 ·rw[hd]at h;cases h;obtain⟨h2,h3⟩:=hR _ _ _ _ _ h1;exact⟨h2,zAx h3 js (zDh hd) (zEN h0) zGV ⟨rfl,rfl⟩⟩
def zUW (R:Run):FuncId→List A→Option A:=fun f xs=>match R f (xs.map (vw jR (qS []))) []with
 | some (r,[])=>bif r.bnd 0 then some r else none
 | _=>none
def zVO:AObj→Bool
 | .rsv=>true
 | _=>false
def zUU (R:Run):FuncId→List A→Nat→Option (A×St):=fun f xs n=>match R f (xs.map (vw jR (qS []))) []with
 | some (r,σ1)=>bif σ1.any zVO then none else some (ren [] n r,σ1.map (zBS [] n))
 | none=>none
theorem zUX {R:Run}(hR:zAm P R):zFa P (zUW R,zUU R):=by
 refine⟨fun f xs r h=>?_,fun f xs n r own h=>?_⟩
 ·simp only[zUW]at h;split at h<;>try (cases h; done)
  rename_i r0 h1;cases hb:r0.bnd 0
  ·rw[hb]at h; cases h
  ·rw[hb]at h;cases h;obtain⟨h2,h3⟩:=hR _ _ _ _ _ h1;refine⟨h2,fun τ=>?_⟩;refine zAx h3 [] (by simp) trivial zGV ⟨?_,by simp[jW]⟩;simp only[ren,qBb r hb]
 ·simp only[zUU]at h;split at h<;>try (cases h; done)
  rename_i r0 σ1 h1;cases hb : σ1.any zVO
  ·rw[hb]at h;cases h;obtain⟨h2,h3⟩:=hR _ _ _ _ _ h1;refine⟨h2,fun o ho=>?_,fun τ hl=>?_⟩
   ·obtain⟨o',ho',rfl⟩:=List.mem_map.1 ho;rw[List.any_eq_false]at hb;have:=hb o' ho';cases o'<;>simp[zBS,vwO,zVO]at this ⊢
   ·subst hl;exact zAx h3 [] (by simp) trivial zGV ⟨rfl,by simp[jW]⟩
  ·rw[hb]at h; cases h
def evG (C:Run)(g:KG)(l:List (Nat×A)) (σ : St):Option (List (Nat×A)×St):=match g.guard with
 | none=>(match evO C g.op (lkB l) σ with
  | some (r,σ')=>some (zNl g.op.dst r l,σ')
  | none=>none)
 | some (s,want)=>match lkB l s with
  | .lit (.bool b)=>bif b==want then (match evO C g.op (lkB l) σ with
   | some (r,σ')=>some (zNl g.op.dst r l,σ')
   | none=>none) else some (zNl g.op.dst (.lit undef) l,σ)
  | .lit (.tuple _)=>some (zNl g.op.dst (.lit undef) l,σ)
  | _=>none
def zR4 (C:Run):List KG→List (Nat×A)→St→Option (List (Nat×A)×St)
 | [],l,σ=>some (l,σ)
 | g::gs,l,σ=>match evG C g l σ with
  | some (l',σ')=>zR4 C gs l' σ'
  | none=>none
def qCo (C:Run)(C0:Cl0)(f:Nat)(g:KG)(l:List (Nat×A)) (σ : St):Option (List (Nat×A)×St):=bif zZc f g.op (lkB l) then (match g.guard with
 | none=>(match zR3 C C0 f g.op (lkB l) σ with
  | some (r,σ')=>some (zNl g.op.dst r l,σ')
  | none=>none)
 | some (s,want)=>match lkB l s with
  | .lit (.bool b)=>bif b==want then (match zR3 C C0 f g.op (lkB l) σ with
   | some (r,σ')=>some (zNl g.op.dst r l,σ')
   | none=>none) else some (zNl g.op.dst (.lit undef) l,σ)
  | .lit (.tuple _)=>some (zNl g.op.dst (.lit undef) l,σ)
  | _=>none) else none
def zYg (C:Run)(C0:Cl0):List (Nat×Nat×KG)→List (Nat×A)→St→Option (List (Nat×A)×St)
 | [],l,σ=>some (l,σ)
 | x::gs,l,σ=>match qCo C C0 x.2.1 x.2.2 l σ with
  | some (l',σ')=>zYg C C0 gs l' σ'
  | none=>none
abbrev Res:=Option (Ex×List (Nat×A)×St)
def zR8 (f:List (Nat×A)→St→Res):Nat→List (Nat×A)→St→Res
 | 0,_,_=>none
 | n+1,l,σ=>match f l σ with
  | some (.norm,l',σ')=>zR8 f n l' σ'
  | r=>r
def qCE:List (Nat×Nat×KG)→Nat
 | []=>0
 | x::l=>match x.2.2.op with
  | .alr _ q _=>max (q+1) (qCE l)
  | _=>qCE l
def qJO:K→Nat
 | .dops l=>qCE l
 | _=>0
def qIs:K→Bool
 | .wk _=>true
 | _=>false
def qAs:List (Nat×A)→List Nat→List Nat
 | [],acc=>acc
 | p::l,acc=>qAs l (bif zQq p.1 acc then acc else p.1::acc)
def zNe (n0:Nat) (σ : St)(i:Nat):List AObj→List Nat
 | []=>[]
 | o::os=>bif (match o with | .row ..=>Nat.blt i n0 | _=>true) then i::zNe n0 σ (i+1) os else zNe n0 σ (i+1) os
def zE4:Nat→List Nat→Bool
 | 0,_=>true
 | _+1,[]=>false
 | n+1,l=>go 0 (n+1) l
where go:Nat→Nat→List Nat→Bool
 | _,0,_=>true
 | _,_+1,[]=>false
 | i,n+1,x::l=>Nat.beq x i&&go (i+1) n l
theorem zLK:∀{n i:Nat} {l:List Nat},zE4.go i n l=true→∀j,j<n→l[j]?=some (i+j)
 | 0,i,l,_,j,hj=>by omega
 | n+1,i,[],h,j,hj=>by simp[zE4.go]at h
 | n+1,i,x::l,h,j,hj=>by
  simp only[zE4.go,Bool.and_eq_true]at h;have hx:=Nat.eq_of_beq_eq_true h.1;cases j with
  | zero=>simp[hx]
  | succ j=>rw[List.getElem?_cons_succ,zLK h.2 j (by omega)]; simp; omega
theorem zHk {n:Nat}{l:List Nat}(h:zE4 n l=true):∀j,j<n→l[j]?=some j:=by
 cases n with
 | zero=>intro j hj; omega
 | succ n =>
  cases l with
  | nil=>simp[zE4]at h
  | cons x l=>intro j hj; simpa using zLK (i:=0) h j hj
def qCz (n0:Nat)(l:List (Nat×A)) (σ : St):Option (List (Nat×A)×St) :=
 let ks:=zNe n0 σ 0 σ
 bif zEG ks&&zE4 n0 ks then (match zTA σ (seen σ (qS ks) 8) (qS ks) ks with
  | some σ'=>some ((qAs l []).map fun t=>(t,vw (seen σ (qS ks) 8) (qS ks) (lkB l t)),σ')
  | none=>none) else none
def evK (C:Run)(C0:Cl0)(n0 lf:Nat):K→List (Nat×A)→St→Res
 | .skip,l,σ=>some (.norm,l,σ)
 | .seq a b,l,σ=>match evK C C0 n0 lf a l σ with
  | some (.norm,l',σ')=>evK C C0 n0 lf b l' σ'
  | r=>r
 | .cond c a b,l,σ=>match ev (lkB l) c with
  | .lit (.bool t)=>bif t then evK C C0 n0 lf a l σ else evK C C0 n0 lf b l σ
  | _=>none
 | .block id b,l,σ=>match evK C C0 n0 lf b l σ with
  | some (.exit i,l',σ')=>bif Nat.beq i id then some (.norm,l',σ') else some (.exit i,l',σ')
  | r=>r
 | .loop b,l,σ=>zR8 (evK C C0 n0 lf b) lf l σ
 | .exit id,l,σ=>some (.exit id,l,σ)
 | .ret,l,σ=>some (.ret,l,σ)
 | .ops gs,l,σ=>match zR4 C gs l σ with
  | some (l',σ')=>some (.norm,l',σ')
  | none=>none
 | .dops xs,l,σ=>match zYg C C0 xs l σ with
  | some (l',σ')=>some (.norm,l',σ')
  | none=>none
 | .rng ..,_,_=>none
 | .wk b,l,σ=>bif qIs b then (match qCz n0 l σ with
  | some (l',σ')=>evK C C0 n0 lf b l' σ'
  | none=>none) else evK C C0 n0 lf b l (σ++List.replicate (qJO b - σ.length) .rsv)
theorem zSJ {C:Run}(hC:zAm P C){g:KG}{l l':List (Nat×A)} {σ σ':St}(h:evG C g l σ = some (l',σ')){Qp:Value→Env→St→Prop}{K:Env→St→Prop}(hK:K (qP l') σ'):wpG P Qp K g (qP l) σ:=by
 unfold evG at h;unfold wpG;rw[zIc]at h;split at h
 ·rename_i hg;split at h<;>try (cases h; done)
  rename_i r τ h1;cases h;simp only[hg];exact zHU hC h1 (by rw[←zDO]; exact hK)
 ·rename_i s want hg;simp only[hg];split at h
  ·rename_i b hb;rw[hb];simp only;cases hw:b==want
   ·rw[hw]at h;cases h;exact⟨fun e=>(by cases e),fun _=>(by rw[zF3,←zDO]; exact hK)⟩
   ·rw[hw]at h;simp only[cond_true]at h;split at h<;>try (cases h; done)
    rename_i r τ h1;cases h;exact⟨fun _=>zHU hC h1 (by rw[←zDO]; exact hK),fun e=>(by cases e)⟩
  ·rename_i hb;cases h;rw[hb];simp only[zF3,←zDO];exact hK
  ·cases h
theorem zII {C:Run}(hC:zAm P C){Qp:Value→Env→St→Prop}{K:Env→St→Prop}:∀{gs:List KG} {l l':List (Nat×A)} {σ σ':St},zR4 C gs l σ = some (l',σ')→K (qP l') σ'→zD9 P Qp K gs (qP l) σ
 | [],l,l',σ,σ',h,hK=>by cases h; exact hK
 | g::gs,l,l',σ,σ',h,hK=>by
  simp only[zR4]at h;split at h<;>try (cases h; done)
  rename_i l1 σ1 h1;exact zSJ hC h1 (zII hC h hK)
theorem zQb {C:Run}(hC:zAm P C){C0:Cl0}(hC0:zFa P C0){f:Nat}{g:KG}{l l':List (Nat×A)} {σ σ':St}(h:qCo C C0 f g l σ = some (l',σ')){Qd:Value→St→Prop}{K:Env→St→Prop}(hK:K (qP l') σ') :
 zAP f g.op (qP l)∧zRa P Qd f K g (qP l) σ:=by
 unfold qCo at h;unfold zRa;rw[zIc]at h;cases ht:zZc f g.op (qP l)
 ·rw[ht]at h; cases h
 ·refine⟨zQU ht,?_⟩;rw[ht]at h;simp only[cond_true]at h;split at h
  ·rename_i hg;split at h<;>try (cases h; done)
   rename_i r τ h1;cases h;simp only[hg];exact zIH hC hC0 h1 (by rw[←zDO]; exact hK)
  ·rename_i s want hg;simp only[hg];split at h
   ·rename_i b hb;rw[hb];simp only;cases hw:b==want
    ·rw[hw]at h;cases h;exact⟨fun e=>(by cases e),fun _=>(by rw[zF3,←zDO]; exact hK)⟩
    ·rw[hw]at h;simp only[cond_true]at h;split at h<;>try (cases h; done)
     rename_i r τ h1;cases h;exact⟨fun _=>zIH hC hC0 h1 (by rw[←zDO]; exact hK),fun e=>(by cases e)⟩
   ·rename_i hb;cases h;rw[hb];simp only[zF3,←zDO];exact hK
   ·cases h
theorem zJP {C:Run}(hC:zAm P C){C0:Cl0}(hC0:zFa P C0){Qd:Value→St→Prop}{K:Env→St→Prop}:∀{gs:List (Nat×Nat×KG)} {l l':List (Nat×A)} {σ σ':St},zYg C C0 gs l σ = some (l',σ')→K (qP l') σ'→wpD P Qd K gs (qP l) σ
 | [],l,l',σ,σ',h,hK=>by cases h; exact hK
 | g::gs,l,l',σ,σ',h,hK=>by
  simp only[zYg]at h;split at h<;>try (cases h; done)
  rename_i l1 σ1 h1;exact zQb hC hC0 h1 (zJP hC hC0 h hK)
theorem zWZ {env:Env} {σ : St}:zBV n0 env (σ++[AObj.rsv]) env σ:=by
 intro H0 L0 w0 H L w N tmps h0 h1 h2;have hll:=LLe.append L [(⟨none,0,0,false⟩:LI)];refine⟨H,L++[(⟨none,0,0,false⟩:LI)],h1.trans ?_,h2.mono (HLe.refl _) hll⟩;have hs:=h1.st;refine⟨⟨hs.pers,by simp[hs.len],fun i l o hL hσ=>?_,fun i j x y b hi hj hx hy=>?_,fun i x b hi hx=>?_⟩,Step.refl _ _ _,hll,fun b ⟨i,x,hi,hx⟩=>?_⟩
 ·rcases jD hL with hL' | ⟨rfl,rfl⟩
  ·have hi:i<L.length:=(List.getElem?_eq_some_iff.1 hL').1;rw[List.getElem?_append_left (by rw[←hs.len]; exact hi)]at hσ;exact(hs.obj i l o hL' hσ).carry (fun _ _=>rfl) (HLe.refl _) hll (fun _ _ _=>rfl)
  ·rw[hs.len]at hσ;rw[List.getElem?_append_right (Nat.le_refl _)]at hσ;simp only[Nat.sub_self,List.getElem?_cons_zero,Option.some.injEq]at hσ;subst hσ;exact⟨rfl,rfl⟩
 ·rcases jD hi with hi' | ⟨rfl,rfl⟩
  ·rcases jD hj with hj' | ⟨rfl,rfl⟩
   ·exact hs.inj i j x y b hi' hj' hx hy
   ·cases hy
  ·cases hx
 ·rcases jD hi with hi' | ⟨rfl,rfl⟩
  ·exact hs.lt i x b hi' hx
  ·cases hx
 ·rcases jD hi with hi' | ⟨rfl,rfl⟩
  ·exact .inl ⟨i,x,hi',hx⟩
  ·cases hx
theorem yZ {env:Env}:∀(n:Nat) {σ : St},zBV n0 env (σ++List.replicate n AObj.rsv) env σ
 | 0,σ=>by simpa using zBV.refl n0 env σ
 | n+1,σ=>by
  have:=(zWZ (n0:=n0) (env:=env) (σ:=σ)).trans (yZ n);rw[List.replicate_succ]
  simpa using this
theorem zQh {l l':List (Nat×A)} {σ σ':St}(h:qCz n0 l σ = some (l',σ')):zBV n0 (qP l') σ' (qP l) σ:=by
 simp only[qCz]at h;generalize zNe n0 σ 0 σ = ks at h;cases hb:zEG ks&&zE4 n0 ks
 ·rw[hb]at h; cases h
 ·rw[hb]at h;simp only[Bool.and_eq_true]at hb;simp only[cond_true]at h;split at h<;>try (cases h; done)
  rename_i σ1 h1;cases h;refine zBV.sel ks 8 _ (zHk hb.2) (zDh hb.1) (zEN h1) fun p hp=>?_
  obtain⟨t,_,rfl⟩:=List.mem_map.1 hp;left;simp only[zIc]
theorem zAC {C:Run}(hC:zAm P C){C0:Cl0}(hC0:zFa P C0){lf:Nat}:∀(k:K) {l l':List (Nat×A)} {σ σ':St} {x:Ex} {Q:Ex→Env→St→Prop},evK C C0 n0 lf k l σ = some (x,l',σ')→Q x (qP l') σ'→wpK P n0 k Q (qP l) σ
 | .skip,l,l',σ,σ',x,Q,h,hQ=>by cases h; exact hQ
 | .seq a b,l,l',σ,σ',x,Q,h,hQ=>by
  simp only[evK]at h;simp only[wpK];split at h
  ·rename_i l1 σ1 h1;exact zAC hC hC0 a h1 (zAC hC hC0 b h hQ)
  ·rename_i r hr;refine zAC hC hC0 a h ?_;cases x<;>first | exact(hr _ _ h).elim | exact hQ
 | .cond c a b,l,l',σ,σ',x,Q,h,hQ=>by
  simp only[evK,zIc]at h;simp only[wpK];split at h<;>try (cases h; done)
  rename_i t ht;rw[ht];simp only;cases t
  ·exact⟨fun e=>(by cases e),fun _=>zAC hC hC0 b h hQ⟩
  ·exact⟨fun _=>zAC hC hC0 a h hQ,fun e=>(by cases e)⟩
 | .block id b,l,l',σ,σ',x,Q,h,hQ=>by
  simp only[evK]at h;simp only[wpK];split at h
  ·rename_i i l1 σ1 h1;refine zAC hC hC0 b h1 ?_;simp only[blk];cases hb:Nat.beq i id
   ·rw[hb]at h;cases h;have:i≠id:=fun e=>by subst e; simp at hb
    rw[if_neg this];exact hQ
   ·rw[hb]at h;cases h;rw[if_pos (Nat.eq_of_beq_eq_true hb)];exact hQ
  ·rename_i r hr;refine zAC hC hC0 b h ?_;cases x<;>first | exact(hr _ _ _ h).elim | exact hQ
 | .loop b,l,l',σ,σ',x,Q,h,hQ=>by
  simp only[evK]at h;simp only[wpK];refine⟨fun n env τ=>∃l0,env=qP l0∧zR8 (evK C C0 n0 lf b) n l0 τ = some (x,l',σ'),⟨lf,Wk.here ⟨l,rfl,h⟩⟩,?_⟩;rintro n env τ ⟨l0,rfl,h0⟩;cases n with
  | zero=>cases h0
  | succ n =>
   simp only[zR8]at h0;split at h0
   ·rename_i l1 σ1 h1;refine zAC hC hC0 b h1 ?_;exact⟨n,Nat.lt_succ_self n,Wk.here ⟨l1,rfl,h0⟩⟩
   ·rename_i r hr;refine zAC hC hC0 b h0 ?_;cases x<;>first | exact(hr _ _ h0).elim | exact hQ
 | .exit id,l,l',σ,σ',x,Q,h,hQ=>by cases h; exact hQ
 | .ret,l,l',σ,σ',x,Q,h,hQ=>by cases h; exact hQ
 | .ops gs,l,l',σ,σ',x,Q,h,hQ=>by
  simp only[evK]at h;simp only[wpK];split at h<;>try (cases h; done)
  rename_i l1 σ1 h1;cases h;exact zII hC h1 hQ
 | .dops gs,l,l',σ,σ',x,Q,h,hQ=>by
  simp only[evK]at h;simp only[wpK];split at h<;>try (cases h; done)
  rename_i l1 σ1 h1;cases h;exact zJP hC hC0 h1 hQ
 | .rng ..,l,l',σ,σ',x,Q,h,hQ=>by simp[evK]at h
 | .wk b,l,l',σ,σ',x,Q,h,hQ=>by
  simp only[evK]at h;simp only[wpK];cases hb:qIs b
  ·rw[hb]at h;exact Wk.by (yZ _) (Wk.here (zAC hC hC0 b h hQ))
  ·rw[hb]at h;simp only[cond_true]at h;split at h<;>try (cases h; done)
   rename_i l1 σ1 h1;exact Wk.by (zQh h1) (Wk.here (zAC hC hC0 b h hQ))
structure Entry where
 k:K
 rs:List RS
 frz:Bool
def zJ0:Nat→List A→List (Nat×A)
 | _,[]=>[]
 | i,a::xs=>(i,a)::zJ0 (i+1) xs
theorem zL4:∀{xs:List A} {i t:Nat},qP (zJ0 i xs) t=.any∨(i≤t∧xs[t-i]?=some (qP (zJ0 i xs) t))
 | [],i,t=>.inl rfl
 | a::xs,i,t=>by
  simp only[zJ0,qP];split
  ·rename_i h; subst h; exact .inr ⟨Nat.le_refl _,by simp⟩
  ·rcases zL4 (xs:=xs) (i:=i+1) (t:=t)with h | ⟨h1,h2⟩
   ·exact .inl h
   ·refine .inr ⟨by omega,?_⟩;have:t-i=(t-(i+1))+1:=by omega
    rw[this]
    simpa using h2
def qA3:Ex→Bool
 | .ret | .norm=>true
 | _=>false
def zIO (frz:Bool)(n0:Nat)(r:A) (σ : St):Option (A×St) :=
 let k0:=List.range n0;let k1:=zEJ (fun _ _=>true) σ 1000 (lvO (.box ((σ.take n0).map fun o=>.agg ((lvO o).map fun l=>.map l)))) k0;let ks:=zEJ (fun _ o=>bif frz then (match o with | .row ..=>false | _=>true) else true) σ 1000 (lvA r) k1
 bif zEG ks&&zE4 n0 ks then (match zTA σ (seen σ (qS ks) 8) (qS ks) ks with
  | some σ1=>some (vw (seen σ (qS ks) 8) (qS ks) r,σ1)
  | none=>none) else none
theorem zO1 {frz:Bool}{r r1:A} {σ σ1:St}(h:zIO frz n0 r σ = some (r1,σ1)):zFX n0 r1 σ1 (.ret r) σ:=by
 simp only[zIO]at h;generalize zEJ _ σ 1000 (lvA r) _=ks at h;cases hb:zEG ks&&zE4 n0 ks
 ·rw[hb]at h; cases h
 ·rw[hb]at h;simp only[Bool.and_eq_true]at hb;simp only[cond_true]at h;split at h<;>try (cases h; done)
  rename_i σ2 h1;cases h;exact⟨r,ks,8,rfl,zHk hb.2,zDh hb.1,zEN h1,.inl rfl⟩
def zDV (f:Nat):List (Nat×Entry)→Option Entry
 | []=>none
 | p::l=>bif Nat.beq f p.1 then some p.2 else zDV f l
def zT8 (T:List (Nat×Entry))(orc:Run)(lf:Nat):Nat→Run
 | 0=>fun _ _ _=>none
 | n+1=>fun f xs σ=>match zDV f T with
  | none=>orc f xs σ
  | some e=>match evK (zUS (zT8 T orc lf n)) (zUW (zT8 T orc lf n),zUU (zT8 T orc lf n)) σ.length lf e.k (zJ0 0 xs) σ with
   | some (x,l,σ')=>bif qA3 x then (match zW1 (lkB l) σ' e.rs with
    | some r=>zIO e.frz σ.length r σ'
    | none=>none) else none
   | none=>none
def jH (P:Program)(f:FuncId)(e:Entry):Prop :=
 zA P f=true∧∃fn c hint,P.funcs[f]?=some fn∧fn.body=some c∧qD P fn.ntmps hint c=some e.k.erase∧zBI P fn.results.toList=some e.rs
theorem zME {hint:Nat→Option (List (Nat×Nat))}{f:FuncId}{fn:Func}{c:Code}{k:K}{rs:List RS}(hf:P.funcs[f]?=some fn)(hb:fn.body=some c)(hc:qD P fn.ntmps hint c=some k.erase)(hr:zBI P fn.results.toList=some rs)
 {args:List A} {σ : St}{Q:Out→St→Prop}(h:wpK P σ.length k (fin rs Q) (qP (zJ0 0 args)) σ):zAa P f args σ Q:=by
 refine zDe (k:=.wk k) hf hb hc hr ?_;unfold wpF;simp only[wpK];refine Wk.by (env':=qP (zJ0 0 args)) (σ':=σ) ?_ (Wk.here h);intro H0 L0 w0 H L w N tmps _ h1 h2;refine⟨H,L,h1,h2.1,fun t=>?_⟩;rcases zL4 (xs:=args) (i:=0) (t:=t)with e | ⟨_,e⟩
 ·rw[e]; simp[Rel]
 ·have:=h2.2 t;simp only[zCk,List.getD]at this;rw[Nat.sub_zero]at e;rw[e]at this;exact this
theorem zRU {T:List (Nat×Entry)}{orc:Run}{lf:Nat}(hT:∀f e,zDV f T=some e→jH P f e)(hO:zAm P orc):∀n,zAm P (zT8 T orc lf n)
 | 0=>fun f xs σ r σ' h=>(by cases h)
 | n+1=>fun f xs σ r σ' h=>by
  have ih:=zRU (lf:=lf) hT hO n;simp only[zT8]at h;split at h
  ·exact hO _ _ _ _ _ h
  ·rename_i e he;obtain⟨hcal,fn,c,hint,h1,h2,h3,h4⟩:=hT _ _ he;refine⟨hcal,?_⟩;split at h<;>try (cases h; done)
   rename_i x l σ1 h5;cases hx:qA3 x
   ·rw[hx]at h; cases h
   ·rw[hx]at h;simp only[cond_true]at h;split at h<;>try (cases h; done)
    rename_i r0 h6;refine zGB (zME h1 h2 h3 h4 (zAC (zUT ih) (zUX ih) e.k h5 ?_));have hq:=zO1 h;rw[zIc]at h6;cases x<;>first | (cases hx; done) | (simp only[fin,zJi,h6]; exact hq)
end
end Go.Abs
namespace Go.Proofs.YthglhccibdlccaaGreatDoor
open Go.Abs
theorem zFI {x y:Id}:zBQ x y=true↔x.a<y.a∨(x.a=y.a∧(x.b<y.b∨(x.b=y.b∧x.c<y.c))):=by
 unfold zBQ;split
 ·simp only[decide_eq_true_eq]; omega
 ·split
  ·simp only[decide_eq_true_eq]; omega
  ·simp only[decide_eq_true_eq]; omega
theorem zFJ {x y:Id}:zBQ x y=false↔¬(x.a<y.a∨(x.a=y.a∧(x.b<y.b∨(x.b=y.b∧x.c<y.c)))):=by rw[←zFI]; simp
theorem zEB (x:Id):zBQ x x=false:=by rw[zFJ]; omega
theorem zIP {x y z:Id}(h:zBQ x y=true)(k:zBQ y z=true):zBQ x z=true:=by rw[zFI]at *; omega
theorem zEA {x y:Id}(h:zBQ x y=false)(k:zBQ y x=false):x=y:=by
 rw[zFJ]at *
 rw[Id.eq_iff]; omega
theorem zQx {x y:Id}(h:zBQ x y=true):zBQ y x=false:=by rw[zFI]at h; rw[zFJ]; omega
theorem zFf {x y:Id}:zEY x y<0↔zBQ x y=true:=by
 rw[zFI];simp only[zEY,orI,zBA]
 repeat' split
 all_goals omega
theorem zFr:Ord zEY where
 irrefl x:=by rw[zFf,zEB]; simp
 trans x y z h k:=by rw[zFf]at *; exact zIP h k
 ntrans x y z h k:=by
  rw[zFf,Bool.not_eq_true]at *
  rw[zFJ]at *; omega
 anti x y h k:=by
  rw[zFf,Bool.not_eq_true]at *
  exact zEA h k
def SS (l:List Id):Prop:=l.Pairwise fun x y=>zBQ x y=true
theorem zEf {x y:Id}:∀{l:List Id},y∈zIa l x↔y∈l∨y=x
 | []=>by simp[zIa]
 | z::l=>by
  simp only[zIa];split
  ·simp only[List.mem_cons,zEf (l:=l),or_assoc]
  ·split
   ·rename_i h; subst h;simp only[List.mem_cons];constructor
    ·exact fun h=>.inl h
    ·rintro(h | h)
     ·exact h
     ·exact .inl h
   ·simp only[List.mem_cons];constructor
    ·rintro(h | h)
     ·exact .inr h
     ·exact .inl h
    ·rintro(h | h)
     ·exact .inr h
     ·exact .inl h
theorem zNb {x:Id}:∀{l:List Id},SS l→SS (zIa l x)
 | [],_=>by simp[zIa,SS]
 | z::l,h=>by
  have h':=List.pairwise_cons.1 h;simp only[zIa];split
  ·rename_i hz;refine List.pairwise_cons.2 ⟨fun y hy=>?_,zNb h'.2⟩;rcases zEf.1 hy with hy | rfl
   ·exact h'.1 y hy
   ·exact hz
  ·rename_i hz;split
   ·exact h
   ·rename_i hne;have hxz:zBQ x z=true:=by
     cases hh:zBQ x z with
     | true=>rfl
     | false=>exact(hne (zEA (by simpa using hz) hh)).elim
    refine List.pairwise_cons.2 ⟨fun y hy=>?_,h⟩;rcases List.mem_cons.1 hy with rfl | hy
    ·exact hxz
    ·exact zIP hxz (h'.1 y hy)
theorem zOe:∀{l acc:List Id},SS acc→SS (l.foldl zIa acc)
 | [],_,h=>h
 | _::l,_,h=>zOe (l:=l) (zNb h)
theorem zLN {y:Id}:∀{l acc:List Id},y∈l.foldl zIa acc↔y∈acc∨y∈l
 | [],_=>by simp
 | x::l,acc=>by simp only[List.foldl_cons,zLN (l:=l),zEf,List.mem_cons,or_assoc]
theorem SS.unique:∀{l l':List Id},SS l→SS l'→(∀x,x∈l↔x∈l')→l=l'
 | [],[],_,_,_=>rfl
 | [],y::l',_,_,h=>by have:=(h y).2 (List.mem_cons_self ..); simp at this
 | x::l,[],_,_,h=>by have:=(h x).1 (List.mem_cons_self ..); simp at this
 | x::l,y::l',h1,h2,h=>by
  have p1:=List.pairwise_cons.1 h1;have p2:=List.pairwise_cons.1 h2;have hxy:x=y:=by
   rcases List.mem_cons.1 ((h x).1 (List.mem_cons_self ..))with e | e
   ·exact e
   ·rcases List.mem_cons.1 ((h y).2 (List.mem_cons_self ..))with e' | e'
    ·exact e'.symm
    ·have a:=p2.1 x e;have b:=p1.1 y e';rw[zQx b]at a; cases a
  subst hxy
  congr 1
  refine SS.unique p1.2 p2.2 fun z=>?_
  constructor
  ·intro hz;rcases List.mem_cons.1 ((h z).1 (List.mem_cons_of_mem _ hz))with e | e
   ·have:=p1.1 z hz; subst e; rw[zEB]at this; cases this
   ·exact e
  ·intro hz;rcases List.mem_cons.1 ((h z).2 (List.mem_cons_of_mem _ hz))with e | e
   ·have:=p2.1 z hz; subst e; rw[zEB]at this; cases this
   ·exact e
theorem zB3 {α : Type}{motive:List α→Prop}(nil:motive [])(snoc:∀l y,motive l→motive (l++[y]))(l:List α):motive l:=by
 have h:∀r:List α,motive r.reverse:=fun r=>by
  induction r with
  | nil=>exact nil
  | cons a r ih=>rw[List.reverse_cons]; exact snoc _ _ ih
 have:=h l.reverse
 rwa [List.reverse_reverse]at this
def zGm (acc:List Id)(y:Id):List Id:=if acc.getLast?=some y then acc else acc++[y]
def zAj (l:List Id):List Id:=l.foldl zGm []
theorem zC4 (l:List Id)(y:Id):zAj (l++[y])=zGm (zAj l) y:=by simp[zAj,List.foldl_append]
theorem zJB:∀(l:List Id),(zAj l).getLast?=l.getLast?:=by
 intro l;induction l using zB3 with
 | nil=>rfl
 | snoc l y ih =>
  rw[zC4,zGm];split
  ·rename_i h; rw[h]; simp
  ·simp
theorem zHM {x:Id}(l:List Id):x∈zAj l↔x∈l:=by
 induction l using zB3 with
 | nil=>simp[zAj]
 | snoc l y ih =>
  rw[zC4,zGm];split
  ·rename_i h;have hy:y∈zAj l:=List.mem_of_getLast? h;simp only[ih,List.mem_append,List.mem_singleton];constructor
   ·exact .inl
   ·rintro(h | rfl)
    ·exact h
    ·exact ih.1 hy |> fun h=>h
  ·simp[ih]
theorem zVf (l:List Id)(h:l.Pairwise fun x y=>zBQ y x=false):SS (zAj l):=by
 induction l using zB3 with
 | nil=>simp[zAj,SS]
 | snoc l y ih =>
  rw[List.pairwise_append]at h;have hi:=ih h.1;rw[zC4,zGm];split
  ·exact hi
  ·rename_i hne;unfold SS;rw[List.pairwise_append];refine⟨hi,by simp,fun z hz y' hy'=>?_⟩;simp only[List.mem_singleton]at hy';subst hy';have hzl:=(zHM l).1 hz;have h1:=h.2.2 z hzl y' (by simp);cases hh:zBQ z y' with
   | true=>rfl
   | false =>
    exfalso;have e:=zEA hh h1;subst e;rw[zJB]at hne;have hl:l≠[]:=fun e=>by rw[e]at hzl; simp at hzl
    obtain⟨w,hw⟩:∃w,l.getLast?=some w:=⟨_,List.getLast?_eq_some_getLast hl⟩;have hwl:w∈l:=List.mem_of_getLast? hw;have h2:=h.2.2 w hwl z (by simp);have hwz:w=z∨zBQ w z=false:=by
     obtain⟨l',rfl⟩:∃l',l=l'++[w]:=List.getLast?_eq_some_iff.1 hw;rcases List.mem_append.1 hzl with hz' | hz'
     ·have:=h.1;rw[List.pairwise_append]at this;exact .inr (this.2.2 z hz' w (by simp))
     ·exact .inl (List.mem_singleton.1 hz').symm
    have:w=z:=by
     rcases hwz with e | e
     ·exact e
     ·exact zEA e h2
    subst this;exact hne hw
def zCB (l:List Id):List Id:=zAj (zDb zEY l)
theorem zGG (l:List Id):(zDb zEY l).Perm l:=List.mergeSort_perm l _
theorem zNt (l:List Id):(zDb zEY l).Pairwise fun x y=>zBQ y x=false:=by
 have h:=List.pairwise_mergeSort (le:=fun x y=>!decide (zEY y x<0)) (fun a b c h1 h2=>by simp only[Bool.not_eq_true',decide_eq_false_iff_not]at *; exact zFr.ntrans c b a h2 h1)
  (fun a b=>by
   simp only[Bool.or_eq_true,Bool.not_eq_true',decide_eq_false_iff_not];by_cases h:zEY b a<0
   ·exact .inr fun h'=>zFr.irrefl _ (zFr.trans _ _ _ h h')
   ·exact .inl h) l
 exact h.imp fun h=>by simp only[Bool.not_eq_true',decide_eq_false_iff_not,zFf,Bool.not_eq_true]at h;exact h
theorem zCt {l:List Id}{x:Id}:x∈zCB l↔x∈l:=by rw[zCB,zHM,(zGG l).mem_iff]
theorem zEO (l:List Id):SS (zCB l):=zVf _ (zNt l)
theorem zRY (l:List Id):zCB l=l.foldl zIa [] :=
 SS.unique (zEO l) (zOe (by simp[SS])) fun x=>by rw[zCt,zLN]; simp
end Go.Proofs.YthglhccibdlccaaGreatDoor
