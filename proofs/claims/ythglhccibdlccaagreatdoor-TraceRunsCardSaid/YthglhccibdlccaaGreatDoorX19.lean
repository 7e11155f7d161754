/-
  An evaluator of small code at closed abstract states: code, functions, calls.
  Lists of IDs in increasing order, each once: what the reference's insertion gives, and what a sort and a compaction give.
-/
import Derived.Test.YthglhccibdlccaaGreatDoorX16
import Derived.Test.YthglhccibdlccaaGreatDoorX17
set_option linter.unusedVariables false
set_option linter.unusedSimpArgs false
namespace Go.Abs
section
variable {P:Program}{n0:Nat}
mutual
def lvA:A→List Nat
 | .any | .nil | .lit _=>[]
 | .agg cs | .tup cs | .sl _ cs | .fsl _ cs | .rptr cs=>lvL cs
 | .ptr l _ | .row l _ | .rwp l _ _ | .map l | .win l _ _ _ _=>[l]
 | .clo _ fs cs=>lvL fs++lvL cs
def lvL:List A→List Nat
 | []=>[]
 | c::cs=>lvA c++lvL cs
end
def lvM:List (List Int×A)→List Nat
 | []=>[]
 | p::l=>lvA p.2++lvM l
def lvO:AObj→List Nat
 | .box cs=>lvL cs
 | .row _ _ _ _ cs=>lvL cs
 | .mp _ _ es=>lvM es
 | .it m _ _=>[m]
 | _=>[]
def zPN (x:Nat):List Nat→Bool
 | []=>false
 | y::l=>bif Nat.beq x y then true else zPN x l
theorem zNZ {x:Nat}:∀{l:List Nat},zPN x l=true↔x∈l
 | []=>by simp[zPN]
 | y::l=>by
  simp only[zPN,List.mem_cons];cases h:Nat.beq x y
  ·have:x≠y:=fun e=>by subst e; simp at h
   simp only[cond_false,this,false_or,zNZ]
  ·have:=Nat.eq_of_beq_eq_true h;simp[this]
def zEQ (keep:Nat→AObj→Bool) (σ : St):Nat→List Nat→List Nat→List Nat
 | 0,_,acc=>acc
 | _+1,[],acc=>acc
 | n+1,l::t,acc=>bif zPN l acc then zEQ keep σ n t acc else match σ[l]? with
  | some o=>bif keep l o then zEQ keep σ n (lvO o++t) (acc++[l]) else zEQ keep σ n t acc
  | none=>zEQ keep σ n t acc
def zEN:List Nat→Bool
 | []=>true
 | x::l=>!(zPN x l)&&zEN l
theorem zDj:∀{l:List Nat},zEN l=true→l.Nodup
 | [],_=>List.nodup_nil
 | x::l,h=>by simp only[zEN,Bool.and_eq_true,Bool.not_eq_true']at h;rw[List.nodup_cons];refine⟨fun hm=>?_,zDj h.2⟩;rw[zNZ.2 hm]at h;cases h.1
def zSP (σ : St)(rf:Bool→Nat→Nat→A)(g:Nat→Option Nat):List Nat→Option St
 | []=>some []
 | j::js=>match σ[j]?,zSP σ rf g js with
  | some o,some os=>some (vwO rf g o::os)
  | _,_=>none
theorem zEV {σ : St}{rf:Bool→Nat→Nat→A}{g:Nat→Option Nat}:∀{js:List Nat} {σ':St},zSP σ rf g js=some σ'→zAt σ rf g js σ'
 | [],σ',h=>by cases h; trivial
 | j::js,σ',h=>by
  simp only[zSP]at h;split at h<;>try (cases h; done)
  rename_i o os h1 h2;cases h;simp only[zAt,h1];exact⟨.inl trivial,zEV h2⟩
mutual
theorem qAu {rf:Bool→Nat→Nat→A}{g:Nat→Option Nat}:∀(a:A),a.bnd 0=true→vw rf g a=a
 | .any,_=>rfl
 | .nil,_=>rfl
 | .lit _,_=>rfl
 | .agg cs,h=>by simp only[A.bnd]at h; simp only[vw,zFN cs h]
 | .tup cs,h=>by simp only[A.bnd]at h; simp only[vw,zFN cs h]
 | .sl n cs,h=>by simp only[A.bnd]at h; simp only[vw,zFN cs h]
 | .fsl n cs,h=>by simp only[A.bnd]at h; simp only[vw,zFN cs h]
 | .rptr cs,h=>by simp only[A.bnd]at h; simp only[vw,zFN cs h]
 | .ptr l o,h=>by simp[A.bnd]at h
 | .row l n,h=>by simp[A.bnd]at h
 | .rwp l n o,h=>by simp[A.bnd]at h
 | .win l n o k c,h=>by simp[A.bnd]at h
 | .map l,h=>by simp[A.bnd]at h
 | .clo f fs cs,h=>by simp only[A.bnd,Bool.and_eq_true]at h; simp only[vw,zFN fs h.1,zFN cs h.2]
theorem zFN {rf:Bool→Nat→Nat→A}{g:Nat→Option Nat}:∀(cs:List A),zCU 0 cs=true→vwL rf g cs=cs
 | [],_=>rfl
 | c::cs,h=>by simp only[zCU,Bool.and_eq_true]at h; simp only[vwL,qAu c h.1,zFN cs h.2]
end
theorem zHe {js:List Nat}:∀{xs:List A},zBo js xs (xs.map (vw jQ (qU js)))
 | []=>trivial
 | _::_=>⟨.inl rfl,zHe⟩
abbrev Run:=FuncId→List A→St→Option (A×St)
def zUd (R:Run):Run:=fun f xs σ =>
 let js:=zEQ (fun _ _=>true) σ 1000 (lvL xs) []
 match zSP σ jQ (qU js) js with
 | some σ0=>match R f (xs.map (vw jQ (qU js))) σ0 with
  | some (r,σ1)=>bif zEN js then some (ren js σ.length r,jO σ js (σ1.map (zB0 js σ.length))) else none
  | none=>none
 | none=>none
theorem zUe {R:Run}(hR:zAn P R):zAn P (zUd R):=by
 intro f xs σ r σ' h;simp only[zUd]at h;generalize zEQ _ _ _ _ _=js at h;split at h<;>try (cases h; done)
 rename_i σ0 h0;split at h<;>try (cases h; done)
 rename_i r0 σ1 h1;cases hd:zEN js
 ·rw[hd]at h; cases h
 ·rw[hd]at h;cases h;obtain⟨h2,h3⟩:=hR _ _ _ _ _ h1;exact⟨h2,zAw h3 js (zDj hd) (zEV h0) zHe ⟨rfl,rfl⟩⟩
def zUi (R:Run):FuncId→List A→Option A:=fun f xs=>match R f (xs.map (vw jQ (qU []))) []with
 | some (r,[])=>bif r.bnd 0 then some r else none
 | _=>none
def zVl:AObj→Bool
 | .rsv=>true
 | _=>false
def zUf (R:Run):FuncId→List A→Nat→Option (A×St):=fun f xs n=>match R f (xs.map (vw jQ (qU []))) []with
 | some (r,σ1)=>bif σ1.any zVl then none else some (ren [] n r,σ1.map (zB0 [] n))
 | none=>none
theorem zUj {R:Run}(hR:zAn P R):zFk P (zUi R,zUf R):=by
 refine⟨fun f xs r h=>?_,fun f xs n r own h=>?_⟩
 ·simp only[zUi]at h;split at h<;>try (cases h; done)
  rename_i r0 h1;cases hb:r0.bnd 0
  ·rw[hb]at h; cases h
  ·rw[hb]at h;cases h;obtain⟨h2,h3⟩:=hR _ _ _ _ _ h1;refine⟨h2,fun τ=>?_⟩;refine zAw h3 [] (by simp) trivial zHe ⟨?_,by simp[jO]⟩;simp only[ren,qAu r hb]
 ·simp only[zUf]at h;split at h<;>try (cases h; done)
  rename_i r0 σ1 h1;cases hb : σ1.any zVl
  ·rw[hb]at h;cases h;obtain⟨h2,h3⟩:=hR _ _ _ _ _ h1;refine⟨h2,fun o ho=>?_,fun τ hl=>?_⟩
   ·obtain⟨o',ho',rfl⟩:=List.mem_map.1 ho;rw[List.any_eq_false]at hb;have:=hb o' ho';cases o'<;>simp[zB0,vwO,zVl]at this ⊢
   ·subst hl;exact zAw h3 [] (by simp) trivial zHe ⟨rfl,by simp[jO]⟩
  ·rw[hb]at h; cases h
def evG (C:Run)(g:KG)(l:List (Nat×A)) (σ : St):Option (List (Nat×A)×St):=match g.guard with
 | none=>(match evO C g.op (lkB l) σ with
  | some (r,σ')=>some (zNb g.op.dst r l,σ')
  | none=>none)
 | some (s,want)=>match lkB l s with
  | .lit (.bool b)=>bif b==want then (match evO C g.op (lkB l) σ with
   | some (r,σ')=>some (zNb g.op.dst r l,σ')
   | none=>none) else some (zNb g.op.dst (.lit undef) l,σ)
  | .lit (.tuple _)=>some (zNb g.op.dst (.lit undef) l,σ)
  | _=>none
def zQX (C:Run):List KG→List (Nat×A)→St→Option (List (Nat×A)×St)
 | [],l,σ=>some (l,σ)
 | g::gs,l,σ=>match evG C g l σ with
  | some (l',σ')=>zQX C gs l' σ'
  | none=>none
def qB6 (C:Run)(C0:Cl0)(f:Nat)(g:KG)(l:List (Nat×A)) (σ : St):Option (List (Nat×A)×St):=bif zYx f g.op (lkB l) then (match g.guard with
 | none=>(match zQW C C0 f g.op (lkB l) σ with
  | some (r,σ')=>some (zNb g.op.dst r l,σ')
  | none=>none)
 | some (s,want)=>match lkB l s with
  | .lit (.bool b)=>bif b==want then (match zQW C C0 f g.op (lkB l) σ with
   | some (r,σ')=>some (zNb g.op.dst r l,σ')
   | none=>none) else some (zNb g.op.dst (.lit undef) l,σ)
  | .lit (.tuple _)=>some (zNb g.op.dst (.lit undef) l,σ)
  | _=>none) else none
def zXy (C:Run)(C0:Cl0):List (Nat×Nat×KG)→List (Nat×A)→St→Option (List (Nat×A)×St)
 | [],l,σ=>some (l,σ)
 | x::gs,l,σ=>match qB6 C C0 x.2.1 x.2.2 l σ with
  | some (l',σ')=>zXy C C0 gs l' σ'
  | none=>none
abbrev Res:=Option (Ex×List (Nat×A)×St)
def zRe (f:List (Nat×A)→St→Res):Nat→List (Nat×A)→St→Res
 | 0,_,_=>none
 | n+1,l,σ=>match f l σ with
  | some (.norm,l',σ')=>zRe f n l' σ'
  | r=>r
def qBX:List (Nat×Nat×KG)→Nat
 | []=>0
 | x::l=>match x.2.2.op with
  | .alr _ q _=>max (q+1) (qBX l)
  | _=>qBX l
def qJr:K→Nat
 | .dops l=>qBX l
 | _=>0
def qHG:K→Bool
 | .wk _=>true
 | _=>false
def zZC:List (Nat×A)→List Nat→List Nat
 | [],acc=>acc
 | p::l,acc=>zZC l (bif zPN p.1 acc then acc else p.1::acc)
def zMT (n0:Nat) (σ : St)(i:Nat):List AObj→List Nat
 | []=>[]
 | o::os=>bif (match o with | .row ..=>Nat.blt i n0 | _=>true) then i::zMT n0 σ (i+1) os else zMT n0 σ (i+1) os
def zE8:Nat→List Nat→Bool
 | 0,_=>true
 | _+1,[]=>false
 | n+1,l=>go 0 (n+1) l
where go:Nat→Nat→List Nat→Bool
 | _,0,_=>true
 | _,_+1,[]=>false
 | i,n+1,x::l=>Nat.beq x i&&go (i+1) n l
theorem zLK:∀{n i:Nat} {l:List Nat},zE8.go i n l=true→∀j,j<n→l[j]?=some (i+j)
 | 0,i,l,_,j,hj=>by omega
 | n+1,i,[],h,j,hj=>by simp[zE8.go]at h
 | n+1,i,x::l,h,j,hj=>by
  simp only[zE8.go,Bool.and_eq_true]at h;have hx:=Nat.eq_of_beq_eq_true h.1;cases j with
  | zero=>simp[hx]
  | succ j=>rw[List.getElem?_cons_succ,zLK h.2 j (by omega)]; simp; omega
theorem zHw {n:Nat}{l:List Nat}(h:zE8 n l=true):∀j,j<n→l[j]?=some j:=by
 cases n with
 | zero=>intro j hj; omega
 | succ n =>
  cases l with
  | nil=>simp[zE8]at h
  | cons x l=>intro j hj; simpa using zLK (i:=0) h j hj
def qBJ (n0:Nat)(l:List (Nat×A)) (σ : St):Option (List (Nat×A)×St) :=
 let ks:=zMT n0 σ 0 σ
 bif zEN ks&&zE8 n0 ks then (match zSP σ (seen σ (qU ks) 8) (qU ks) ks with
  | some σ'=>some ((zZC l []).map fun t=>(t,vw (seen σ (qU ks) 8) (qU ks) (lkB l t)),σ')
  | none=>none) else none
def evK (C:Run)(C0:Cl0)(n0 lf:Nat):K→List (Nat×A)→St→Res
 | .skip,l,σ=>some (.norm,l,σ)
 | .seq a b,l,σ=>match evK C C0 n0 lf a l σ with
  | some (.norm,l',σ')=>evK C C0 n0 lf b l' σ'
  | r=>r
 | .cond c a b,l,σ=>match ev (lkB l) c with
  | .lit (.bool t)=>bif t then evK C C0 n0 lf a l σ else evK C C0 n0 lf b l σ
  | _=>none
 | .block id b,l,σ=>match evK C C0 n0 lf b l σ with
  | some (.exit i,l',σ')=>bif Nat.beq i id then some (.norm,l',σ') else some (.exit i,l',σ')
  | r=>r
 | .loop b,l,σ=>zRe (evK C C0 n0 lf b) lf l σ
 | .exit id,l,σ=>some (.exit id,l,σ)
 | .ret,l,σ=>some (.ret,l,σ)
 | .ops gs,l,σ=>match zQX C gs l σ with
  | some (l',σ')=>some (.norm,l',σ')
  | none=>none
 | .dops xs,l,σ=>match zXy C C0 xs l σ with
  | some (l',σ')=>some (.norm,l',σ')
  | none=>none
 | .rng ..,_,_=>none
 | .wk b,l,σ=>bif qHG b then (match qBJ n0 l σ with
  | some (l',σ')=>evK C C0 n0 lf b l' σ'
  | none=>none) else evK C C0 n0 lf b l (σ++List.replicate (qJr b - σ.length) .rsv)
theorem zSe {C:Run}(hC:zAn P C){g:KG}{l l':List (Nat×A)} {σ σ':St}(h:evG C g l σ = some (l',σ')){Qp:Value→Env→St→Prop}{K:Env→St→Prop}(hK:K (qT l') σ'):wpG P Qp K g (qT l) σ:=by
 unfold evG at h;unfold wpG;rw[zIt]at h;split at h
 ·rename_i hg;split at h<;>try (cases h; done)
  rename_i r τ h1;cases h;simp only[hg];exact zIl hC h1 (by rw[←zDN]; exact hK)
 ·rename_i s want hg;simp only[hg];split at h
  ·rename_i b hb;rw[hb];simp only;cases hw:b==want
   ·rw[hw]at h;cases h;exact⟨fun e=>(by cases e),fun _=>(by rw[zFK,←zDN]; exact hK)⟩
   ·rw[hw]at h;simp only[cond_true]at h;split at h<;>try (cases h; done)
    rename_i r τ h1;cases h;exact⟨fun _=>zIl hC h1 (by rw[←zDN]; exact hK),fun e=>(by cases e)⟩
  ·rename_i hb;cases h;rw[hb];simp only[zFK,←zDN];exact hK
  ·cases h
theorem zIZ {C:Run}(hC:zAn P C){Qp:Value→Env→St→Prop}{K:Env→St→Prop}:∀{gs:List KG} {l l':List (Nat×A)} {σ σ':St},zQX C gs l σ = some (l',σ')→K (qT l') σ'→zCx P Qp K gs (qT l) σ
 | [],l,l',σ,σ',h,hK=>by cases h; exact hK
 | g::gs,l,l',σ,σ',h,hK=>by
  simp only[zQX]at h;split at h<;>try (cases h; done)
  rename_i l1 σ1 h1;exact zSe hC h1 (zIZ hC h hK)
theorem zP8 {C:Run}(hC:zAn P C){C0:Cl0}(hC0:zFk P C0){f:Nat}{g:KG}{l l':List (Nat×A)} {σ σ':St}(h:qB6 C C0 f g l σ = some (l',σ')){Qd:Value→St→Prop}{K:Env→St→Prop}(hK:K (qT l') σ') :
 zAP f g.op (qT l)∧zQ2 P Qd f K g (qT l) σ:=by
 unfold qB6 at h;unfold zQ2;rw[zIt]at h;cases ht:zYx f g.op (qT l)
 ·rw[ht]at h; cases h
 ·refine⟨zQv ht,?_⟩;rw[ht]at h;simp only[cond_true]at h;split at h
  ·rename_i hg;split at h<;>try (cases h; done)
   rename_i r τ h1;cases h;simp only[hg];exact zIY hC hC0 h1 (by rw[←zDN]; exact hK)
  ·rename_i s want hg;simp only[hg];split at h
   ·rename_i b hb;rw[hb];simp only;cases hw:b==want
    ·rw[hw]at h;cases h;exact⟨fun e=>(by cases e),fun _=>(by rw[zFK,←zDN]; exact hK)⟩
    ·rw[hw]at h;simp only[cond_true]at h;split at h<;>try (cases h; done)
     rename_i r τ h1;cases h;exact⟨fun _=>zIY hC hC0 h1 (by rw[←zDN]; exact hK),fun e=>(by cases e)⟩
   ·rename_i hb;cases h;rw[hb];simp only[zFK,←zDN];exact hK
   ·cases h
theorem zKd {C:Run}(hC:zAn P C){C0:Cl0}(hC0:zFk P C0){Qd:Value→St→Prop}{K:Env→St→Prop}:∀{gs:List (Nat×Nat×KG)} {l l':List (Nat×A)} {σ σ':St},zXy C C0 gs l σ = some (l',σ')→K (qT l') σ'→wpD P Qd K gs (qT l) σ
 | [],l,l',σ,σ',h,hK=>by cases h; exact hK
 | g::gs,l,l',σ,σ',h,hK=>by
  simp only[zXy]at h;split at h<;>try (cases h; done)
  rename_i l1 σ1 h1;exact zP8 hC hC0 h1 (zKd hC hC0 h hK)
theorem zWp {env:Env} {σ : St}:zBz n0 env (σ++[AObj.rsv]) env σ:=by
 intro H0 L0 w0 H L w N tmps h0 h1 h2;have hll:=LLe.append L [(⟨none,0,0,false⟩:LI)];refine⟨H,L++[(⟨none,0,0,false⟩:LI)],h1.trans ?_,h2.mono (HLe.refl _) hll⟩;have hs:=h1.st;refine⟨⟨hs.pers,by simp[hs.len],fun i l o hL hσ=>?_,fun i j x y b hi hj hx hy=>?_,fun i x b hi hx=>?_⟩,Step.refl _ _ _,hll,fun b ⟨i,x,hi,hx⟩=>?_⟩
 ·rcases jH hL with hL' | ⟨rfl,rfl⟩
  ·have hi:i<L.length:=(List.getElem?_eq_some_iff.1 hL').1;rw[List.getElem?_append_left (by rw[←hs.len]; exact hi)]at hσ;exact(hs.obj i l o hL' hσ).carry (fun _ _=>rfl) (HLe.refl _) hll (fun _ _ _=>rfl)
  ·rw[hs.len]at hσ;rw[List.getElem?_append_right (Nat.le_refl _)]at hσ;simp only[Nat.sub_self,List.getElem?_cons_zero,Option.some.injEq]at hσ;subst hσ;exact⟨rfl,rfl⟩
 ·rcases jH hi with hi' | ⟨rfl,rfl⟩
  ·rcases jH hj with hj' | ⟨rfl,rfl⟩
   ·exact hs.inj i j x y b hi' hj' hx hy
   ·cases hy
  ·cases hx
 ·rcases jH hi with hi' | ⟨rfl,rfl⟩
  ·exact hs.lt i x b hi' hx
  ·cases hx
 ·rcases jH hi with hi' | ⟨rfl,rfl⟩
  ·exact .inl ⟨i,x,hi',hx⟩
  ·cases hx
theorem zAc {env:Env}:∀(n:Nat) {σ : St},zBz n0 env (σ++List.replicate n AObj.rsv) env σ
 | 0,σ=>by simpa using zBz.refl n0 env σ
 | n+1,σ=>by
  have:=(zWp (n0:=n0) (env:=env) (σ:=σ)).trans (zAc n);rw[List.replicate_succ]
  simpa using this
theorem zPE {l l':List (Nat×A)} {σ σ':St}(h:qBJ n0 l σ = some (l',σ')):zBz n0 (qT l') σ' (qT l) σ:=by
 simp only[qBJ]at h;generalize zMT n0 σ 0 σ = ks at h;cases hb:zEN ks&&zE8 n0 ks
 ·rw[hb]at h; cases h
 ·rw[hb]at h;simp only[Bool.and_eq_true]at hb;simp only[cond_true]at h;split at h<;>try (cases h; done)
  rename_i σ1 h1;cases h;refine zBz.sel ks 8 _ (zHw hb.2) (zDj hb.1) (zEV h1) fun p hp=>?_
  obtain⟨t,_,rfl⟩:=List.mem_map.1 hp;left;simp only[zIt]
theorem zAB {C:Run}(hC:zAn P C){C0:Cl0}(hC0:zFk P C0){lf:Nat}:∀(k:K) {l l':List (Nat×A)} {σ σ':St} {x:Ex} {Q:Ex→Env→St→Prop},evK C C0 n0 lf k l σ = some (x,l',σ')→Q x (qT l') σ'→wpK P n0 k Q (qT l) σ
 | .skip,l,l',σ,σ',x,Q,h,hQ=>by cases h; exact hQ
 | .seq a b,l,l',σ,σ',x,Q,h,hQ=>by
  simp only[evK]at h;simp only[wpK];split at h
  ·rename_i l1 σ1 h1;exact zAB hC hC0 a h1 (zAB hC hC0 b h hQ)
  ·rename_i r hr;refine zAB hC hC0 a h ?_;cases x<;>first | exact(hr _ _ h).elim | exact hQ
 | .cond c a b,l,l',σ,σ',x,Q,h,hQ=>by
  simp only[evK,zIt]at h;simp only[wpK];split at h<;>try (cases h; done)
  rename_i t ht;rw[ht];simp only;cases t
  ·exact⟨fun e=>(by cases e),fun _=>zAB hC hC0 b h hQ⟩
  ·exact⟨fun _=>zAB hC hC0 a h hQ,fun e=>(by cases e)⟩
 | .block id b,l,l',σ,σ',x,Q,h,hQ=>by
  simp only[evK]at h;simp only[wpK];split at h
  ·rename_i i l1 σ1 h1;refine zAB hC hC0 b h1 ?_;simp only[blk];cases hb:Nat.beq i id
   ·rw[hb]at h;cases h;have:i≠id:=fun e=>by subst e; simp at hb
    rw[if_neg this];exact hQ
   ·rw[hb]at h;cases h;rw[if_pos (Nat.eq_of_beq_eq_true hb)];exact hQ
  ·rename_i r hr;refine zAB hC hC0 b h ?_;cases x<;>first | exact(hr _ _ _ h).elim | exact hQ
 | .loop b,l,l',σ,σ',x,Q,h,hQ=>by
  simp only[evK]at h;simp only[wpK];refine⟨fun n env τ=>∃l0,env=qT l0∧zRe (evK C C0 n0 lf b) n l0 τ = some (x,l',σ'),⟨lf,Wk.here ⟨l,rfl,h⟩⟩,?_⟩;rintro n env τ ⟨l0,rfl,h0⟩;cases n with
  | zero=>cases h0
  | succ n =>
   simp only[zRe]at h0;split at h0
   ·rename_i l1 σ1 h1;refine zAB hC hC0 b h1 ?_;exact⟨n,Nat.lt_succ_self n,Wk.here ⟨l1,rfl,h0⟩⟩
   ·rename_i r hr;refine zAB hC hC0 b h0 ?_;cases x<;>first | exact(hr _ _ h0).elim | exact hQ
 | .exit id,l,l',σ,σ',x,Q,h,hQ=>by cases h; exact hQ
 | .ret,l,l',σ,σ',x,Q,h,hQ=>by cases h; exact hQ
 | .ops gs,l,l',σ,σ',x,Q,h,hQ=>by
  simp only[evK]at h;simp only[wpK];split at h<;>try (cases h; done)
  rename_i l1 σ1 h1;cases h;exact zIZ hC h1 hQ
 | .dops gs,l,l',σ,σ',x,Q,h,hQ=>by
  simp only[evK]at h;simp only[wpK];split at h<;>try (cases h; done)
  rename_i l1 σ1 h1;cases h;exact zKd hC hC0 h1 hQ
 | .rng ..,l,l',σ,σ',x,Q,h,hQ=>by simp[evK]at h
 | .wk b,l,l',σ,σ',x,Q,h,hQ=>by
  simp only[evK]at h;simp only[wpK];cases hb:qHG b
  ·rw[hb]at h;exact Wk.by (zAc _) (Wk.here (zAB hC hC0 b h hQ))
  ·rw[hb]at h;simp only[cond_true]at h;split at h<;>try (cases h; done)
   rename_i l1 σ1 h1;exact Wk.by (zPE h1) (Wk.here (zAB hC hC0 b h hQ))
structure Entry where
 k:K
 rs:List RS
 frz:Bool
def zJH:Nat→List A→List (Nat×A)
 | _,[]=>[]
 | i,a::xs=>(i,a)::zJH (i+1) xs
theorem zL3:∀{xs:List A} {i t:Nat},qT (zJH i xs) t=.any∨(i≤t∧xs[t-i]?=some (qT (zJH i xs) t))
 | [],i,t=>.inl rfl
 | a::xs,i,t=>by
  simp only[zJH,qT];split
  ·rename_i h; subst h; exact .inr ⟨Nat.le_refl _,by simp⟩
  ·rcases zL3 (xs:=xs) (i:=i+1) (t:=t)with h | ⟨h1,h2⟩
   ·exact .inl h
   ·refine .inr ⟨by omega,?_⟩;have:t-i=(t-(i+1))+1:=by omega
    rw[this]
    simpa using h2
def zZN:Ex→Bool
 | .ret | .norm=>true
 | _=>false
def zJi (frz:Bool)(n0:Nat)(r:A) (σ : St):Option (A×St) :=
 let k0:=List.range n0;let k1:=zEQ (fun _ _=>true) σ 1000 (lvO (.box ((σ.take n0).map fun o=>.agg ((lvO o).map fun l=>.map l)))) k0;let ks:=zEQ (fun _ o=>bif frz then (match o with | .row ..=>false | _=>true) else true) σ 1000 (lvA r) k1
 bif zEN ks&&zE8 n0 ks then (match zSP σ (seen σ (qU ks) 8) (qU ks) ks with
  | some σ1=>some (vw (seen σ (qU ks) 8) (qU ks) r,σ1)
  | none=>none) else none
theorem zOi {frz:Bool}{r r1:A} {σ σ1:St}(h:zJi frz n0 r σ = some (r1,σ1)):zHa n0 r1 σ1 (.ret r) σ:=by
 simp only[zJi]at h;generalize zEQ _ σ 1000 (lvA r) _=ks at h;cases hb:zEN ks&&zE8 n0 ks
 ·rw[hb]at h; cases h
 ·rw[hb]at h;simp only[Bool.and_eq_true]at hb;simp only[cond_true]at h;split at h<;>try (cases h; done)
  rename_i σ2 h1;cases h;exact⟨r,ks,8,rfl,zHw hb.2,zDj hb.1,zEV h1,.inl rfl⟩
def zDW (f:Nat):List (Nat×Entry)→Option Entry
 | []=>none
 | p::l=>bif Nat.beq f p.1 then some p.2 else zDW f l
def zSO (T:List (Nat×Entry))(orc:Run)(lf:Nat):Nat→Run
 | 0=>fun _ _ _=>none
 | n+1=>fun f xs σ=>match zDW f T with
  | none=>orc f xs σ
  | some e=>match evK (zUd (zSO T orc lf n)) (zUi (zSO T orc lf n),zUf (zSO T orc lf n)) σ.length lf e.k (zJH 0 xs) σ with
   | some (x,l,σ')=>bif zZN x then (match zQi (lkB l) σ' e.rs with
    | some r=>zJi e.frz σ.length r σ'
    | none=>none) else none
   | none=>none
def jN (P:Program)(f:FuncId)(e:Entry):Prop :=
 zA P f=true∧∃fn c hint,P.funcs[f]?=some fn∧fn.body=some c∧qC P fn.ntmps hint c=some e.k.erase∧zBl P fn.results.toList=some e.rs
theorem zM4 {hint:Nat→Option (List (Nat×Nat))}{f:FuncId}{fn:Func}{c:Code}{k:K}{rs:List RS}(hf:P.funcs[f]?=some fn)(hb:fn.body=some c)(hc:qC P fn.ntmps hint c=some k.erase)(hr:zBl P fn.results.toList=some rs)
 {args:List A} {σ : St}{Q:Out→St→Prop}(h:wpK P σ.length k (fin rs Q) (qT (zJH 0 args)) σ):yN P f args σ Q:=by
 refine zCm (k:=.wk k) hf hb hc hr ?_;unfold wpF;simp only[wpK];refine Wk.by (env':=qT (zJH 0 args)) (σ':=σ) ?_ (Wk.here h);intro H0 L0 w0 H L w N tmps _ h1 h2;refine⟨H,L,h1,h2.1,fun t=>?_⟩;rcases zL3 (xs:=args) (i:=0) (t:=t)with e | ⟨_,e⟩
 ·rw[e]; simp[Rel]
 ·have:=h2.2 t;simp only[zCk,List.getD]at this;rw[Nat.sub_zero]at e;rw[e]at this;exact this
theorem zRv {T:List (Nat×Entry)}{orc:Run}{lf:Nat}(hT:∀f e,zDW f T=some e→jN P f e)(hO:zAn P orc):∀n,zAn P (zSO T orc lf n)
 | 0=>fun f xs σ r σ' h=>(by cases h)
 | n+1=>fun f xs σ r σ' h=>by
  have ih:=zRv (lf:=lf) hT hO n;simp only[zSO]at h;split at h
  ·exact hO _ _ _ _ _ h
  ·rename_i e he;obtain⟨hcal,fn,c,hint,h1,h2,h3,h4⟩:=hT _ _ he;refine⟨hcal,?_⟩;split at h<;>try (cases h; done)
   rename_i x l σ1 h5;cases hx:zZN x
   ·rw[hx]at h; cases h
   ·rw[hx]at h;simp only[cond_true]at h;split at h<;>try (cases h; done)
    rename_i r0 h6;refine zES (zM4 h1 h2 h3 h4 (zAB (zUe ih) (zUj ih) e.k h5 ?_));have hq:=zOi h;rw[zIt]at h6;cases x<;>first | (cases hx; done) | (simp only[fin,zJx,h6]; exact hq)
end
end Go.Abs
namespace Go.Proofs.YthglhccibdlccaaGreatDoor
open Go.Abs
theorem zGf {x y:Id}:zBR x y=true↔x.a<y.a∨(x.a=y.a∧(x.b<y.b∨(x.b=y.b∧x.c<y.c))):=by
 unfold zBR;split
 ·simp only[decide_eq_true_eq]; omega
 ·split
  ·simp only[decide_eq_true_eq]; omega
  ·simp only[decide_eq_true_eq]; omega
theorem zGg {x y:Id}:zBR x y=false↔¬(x.a<y.a∨(x.a=y.a∧(x.b<y.b∨(x.b=y.b∧x.c<y.c)))):=by rw[←zGf]; simp
theorem zEI (x:Id):zBR x x=false:=by rw[zGg]; omega
theorem zJj {x y z:Id}(h:zBR x y=true)(k:zBR y z=true):zBR x z=true:=by rw[zGf]at *; omega
theorem zEH {x y:Id}(h:zBR x y=false)(k:zBR y x=false):x=y:=by
 rw[zGg]at *
 rw[Id.eq_iff]; omega
theorem zPV {x y:Id}(h:zBR x y=true):zBR y x=false:=by rw[zGf]at h; rw[zGg]; omega
theorem zFs {x y:Id}:zFg x y<0↔zBR x y=true:=by
 rw[zGf];simp only[zFg,orI,zB4]
 repeat' split
 all_goals omega
theorem zF4:Ord zFg where
 irrefl x:=by rw[zFs,zEI]; simp
 trans x y z h k:=by rw[zFs]at *; exact zJj h k
 ntrans x y z h k:=by
  rw[zFs,Bool.not_eq_true]at *
  rw[zGg]at *; omega
 anti x y h k:=by
  rw[zFs,Bool.not_eq_true]at *
  exact zEH h k
def SS (l:List Id):Prop:=l.Pairwise fun x y=>zBR x y=true
theorem zEh {x y:Id}:∀{l:List Id},y∈zFi l x↔y∈l∨y=x
 | []=>by simp[zFi]
 | z::l=>by
  simp only[zFi];split
  ·simp only[List.mem_cons,zEh (l:=l),or_assoc]
  ·split
   ·rename_i h; subst h;simp only[List.mem_cons];constructor
    ·exact fun h=>.inl h
    ·rintro(h | h)
     ·exact h
     ·exact .inl h
   ·simp only[List.mem_cons];constructor
    ·rintro(h | h)
     ·exact .inr h
     ·exact .inl h
    ·rintro(h | h)
     ·exact .inr h
     ·exact .inl h
theorem zMQ {x:Id}:∀{l:List Id},SS l→SS (zFi l x)
 | [],_=>by simp[zFi,SS]
 | z::l,h=>by
  have h':=List.pairwise_cons.1 h;simp only[zFi];split
  ·rename_i hz;refine List.pairwise_cons.2 ⟨fun y hy=>?_,zMQ h'.2⟩;rcases zEh.1 hy with hy | rfl
   ·exact h'.1 y hy
   ·exact hz
  ·rename_i hz;split
   ·exact h
   ·rename_i hne;have hxz:zBR x z=true:=by
     cases hh:zBR x z with
     | true=>rfl
     | false=>exact(hne (zEH (by simpa using hz) hh)).elim
    refine List.pairwise_cons.2 ⟨fun y hy=>?_,h⟩;rcases List.mem_cons.1 hy with rfl | hy
    ·exact hxz
    ·exact zJj hxz (h'.1 y hy)
theorem zNP:∀{l acc:List Id},SS acc→SS (l.foldl zFi acc)
 | [],_,h=>h
 | _::l,_,h=>zNP (l:=l) (zMQ h)
theorem zLM {y:Id}:∀{l acc:List Id},y∈l.foldl zFi acc↔y∈acc∨y∈l
 | [],_=>by simp
 | x::l,acc=>by simp only[List.foldl_cons,zLM (l:=l),zEh,List.mem_cons,or_assoc]
theorem SS.unique:∀{l l':List Id},SS l→SS l'→(∀x,x∈l↔x∈l')→l=l'
 | [],[],_,_,_=>rfl
 | [],y::l',_,_,h=>by have:=(h y).2 (List.mem_cons_self ..); simp at this
 | x::l,[],_,_,h=>by have:=(h x).1 (List.mem_cons_self ..); simp at this
 | x::l,y::l',h1,h2,h=>by
  have p1:=List.pairwise_cons.1 h1;have p2:=List.pairwise_cons.1 h2;have hxy:x=y:=by
   rcases List.mem_cons.1 ((h x).1 (List.mem_cons_self ..))with e | e
   ·exact e
   ·rcases List.mem_cons.1 ((h y).2 (List.mem_cons_self ..))with e' | e'
    ·exact e'.symm
    ·have a:=p2.1 x e;have b:=p1.1 y e';rw[zPV b]at a; cases a
  subst hxy
  congr 1
  refine SS.unique p1.2 p2.2 fun z=>?_
  constructor
  ·intro hz;rcases List.mem_cons.1 ((h z).1 (List.mem_cons_of_mem _ hz))with e | e
   ·have:=p1.1 z hz; subst e; rw[zEI]at this; cases this
   ·exact e
  ·intro hz;rcases List.mem_cons.1 ((h z).2 (List.mem_cons_of_mem _ hz))with e | e
   ·have:=p2.1 z hz; subst e; rw[zEI]at this; cases this
   ·exact e
theorem zBy {α : Type}{motive:List α→Prop}(nil:motive [])(snoc:∀l y,motive l→motive (l++[y]))(l:List α):motive l:=by
 have h:∀r:List α,motive r.reverse:=fun r=>by
  induction r with
  | nil=>exact nil
  | cons a r ih=>rw[List.reverse_cons]; exact snoc _ _ ih
 have:=h l.reverse
 rwa [List.reverse_reverse]at this
def zG6 (acc:List Id)(y:Id):List Id:=if acc.getLast?=some y then acc else acc++[y]
def zAh (l:List Id):List Id:=l.foldl zG6 []
theorem zC3 (l:List Id)(y:Id):zAh (l++[y])=zG6 (zAh l) y:=by simp[zAh,List.foldl_append]
theorem zJQ:∀(l:List Id),(zAh l).getLast?=l.getLast?:=by
 intro l;induction l using zBy with
 | nil=>rfl
 | snoc l y ih =>
  rw[zC3,zG6];split
  ·rename_i h; rw[h]; simp
  ·simp
theorem zIc {x:Id}(l:List Id):x∈zAh l↔x∈l:=by
 induction l using zBy with
 | nil=>simp[zAh]
 | snoc l y ih =>
  rw[zC3,zG6];split
  ·rename_i h;have hy:y∈zAh l:=List.mem_of_getLast? h;simp only[ih,List.mem_append,List.mem_singleton];constructor
   ·exact .inl
   ·rintro(h | rfl)
    ·exact h
    ·exact ih.1 hy |> fun h=>h
  ·simp[ih]
theorem zUs (l:List Id)(h:l.Pairwise fun x y=>zBR y x=false):SS (zAh l):=by
 induction l using zBy with
 | nil=>simp[zAh,SS]
 | snoc l y ih =>
  rw[List.pairwise_append]at h;have hi:=ih h.1;rw[zC3,zG6];split
  ·exact hi
  ·rename_i hne;unfold SS;rw[List.pairwise_append];refine⟨hi,by simp,fun z hz y' hy'=>?_⟩;simp only[List.mem_singleton]at hy';subst hy';have hzl:=(zIc l).1 hz;have h1:=h.2.2 z hzl y' (by simp);cases hh:zBR z y' with
   | true=>rfl
   | false =>
    exfalso;have e:=zEH hh h1;subst e;rw[zJQ]at hne;have hl:l≠[]:=fun e=>by rw[e]at hzl; simp at hzl
    obtain⟨w,hw⟩:∃w,l.getLast?=some w:=⟨_,List.getLast?_eq_some_getLast hl⟩;have hwl:w∈l:=List.mem_of_getLast? hw;have h2:=h.2.2 w hwl z (by simp);have hwz:w=z∨zBR w z=false:=by
     obtain⟨l',rfl⟩:∃l',l=l'++[w]:=List.getLast?_eq_some_iff.1 hw;rcases List.mem_append.1 hzl with hz' | hz'
     ·have:=h.1;rw[List.pairwise_append]at this;exact .inr (this.2.2 z hz' w (by simp))
     ·exact .inl (List.mem_singleton.1 hz').symm
    have:w=z:=by
     rcases hwz with e | e
     ·exact e
     ·exact zEH e h2
    subst this;exact hne hw
def zBJ (l:List Id):List Id:=zAh (zDd zFg l)
theorem zGR (l:List Id):(zDd zFg l).Perm l:=List.mergeSort_perm l _
theorem zNl (l:List Id):(zDd zFg l).Pairwise fun x y=>zBR y x=false:=by
 have h:=List.pairwise_mergeSort (le:=fun x y=>!decide (zFg y x<0)) (fun a b c h1 h2=>by simp only[Bool.not_eq_true',decide_eq_false_iff_not]at *; exact zF4.ntrans c b a h2 h1)
  (fun a b=>by
   simp only[Bool.or_eq_true,Bool.not_eq_true',decide_eq_false_iff_not];by_cases h:zFg b a<0
   ·exact .inr fun h'=>zF4.irrefl _ (zF4.trans _ _ _ h h')
   ·exact .inl h) l
 exact h.imp fun h=>by simp only[Bool.not_eq_true',decide_eq_false_iff_not,zFs,Bool.not_eq_true]at h;exact h
theorem zB9 {l:List Id}{x:Id}:x∈zBJ l↔x∈l:=by rw[zBJ,zIc,(zGR l).mem_iff]
theorem zDo (l:List Id):SS (zBJ l):=zUs _ (zNl l)
theorem zNi (l:List Id):zBJ l=l.foldl zFi [] :=
 SS.unique (zDo l) (zNP (by simp[SS])) fun x=>by rw[zB9,zLM]; simp
end Go.Proofs.YthglhccibdlccaaGreatDoor
