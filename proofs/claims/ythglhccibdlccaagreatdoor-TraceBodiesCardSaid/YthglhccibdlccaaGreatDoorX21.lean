/-
  An evaluator of small code at closed abstract states: code, functions, calls.
  Lists of IDs in increasing order, each once: what the reference's insertion gives, and what a sort and a compaction give.
-/
import Derived.Test.YthglhccibdlccaaGreatDoorX18
import Derived.Test.YthglhccibdlccaaGreatDoorX19
import Derived.Test.YthglhccibdlccaaGreatDoorX17
set_option linter.unusedVariables false
set_option linter.unusedSimpArgs false
namespace Go.Abs
section
variable {P:Program}{n0:Nat}
mutual
def lvA:A→List Nat
 | .any | .nil | .lit _=>[]
 | .agg cs | .tup cs | .sl _ cs | .fsl _ cs | .rptr cs=>lvL cs
 | .ptr l _ | .row l _ | .rwp l _ _ | .map l | .win l _ _ _ _=>[l]
 | .clo _ fs cs=>lvL fs++lvL cs
def lvL:List A→List Nat
 | []=>[]
 | c::cs=>lvA c++lvL cs
end
def lvM:List (List Int×A)→List Nat
 | []=>[]
 | p::l=>lvA p.2++lvM l
def lvO:AObj→List Nat
 | .box cs=>lvL cs
 | .row _ _ _ _ cs=>lvL cs
 | .mp _ _ es=>lvM es
 | .it m _ _=>[m]
 | _=>[]
def zPw (x:Nat):List Nat→Bool
 | []=>false
 | y::l=>bif Nat.beq x y then true else zPw x l
theorem zN0 {x:Nat}:∀{l:List Nat},zPw x l=true↔x∈l
 | []=>by simp[zPw]
 | y::l=>by
  simp only[zPw,List.mem_cons];cases h:Nat.beq x y
  ·have:x≠y:=fun e=>by subst e; simp at h
   simp only[cond_false,this,false_or,zN0]
  ·have:=Nat.eq_of_beq_eq_true h;simp[this]
def zE3 (keep:Nat→AObj→Bool) (σ : St):Nat→List Nat→List Nat→List Nat
 | 0,_,acc=>acc
 | _+1,[],acc=>acc
 | n+1,l::t,acc=>bif zPw l acc then zE3 keep σ n t acc else match σ[l]? with
  | some o=>bif keep l o then zE3 keep σ n (lvO o++t) (acc++[l]) else zE3 keep σ n t acc
  | none=>zE3 keep σ n t acc
def zE0:List Nat→Bool
 | []=>true
 | x::l=>!(zPw x l)&&zE0 l
theorem zCT:∀{l:List Nat},zE0 l=true→l.Nodup
 | [],_=>List.nodup_nil
 | x::l,h=>by simp only[zE0,Bool.and_eq_true,Bool.not_eq_true']at h;rw[List.nodup_cons];refine⟨fun hm=>?_,zCT h.2⟩;rw[zN0.2 hm]at h;cases h.1
def zS3 (σ : St)(rf:Bool→Nat→Nat→A)(g:Nat→Option Nat):List Nat→Option St
 | []=>some []
 | j::js=>match σ[j]?,zS3 σ rf g js with
  | some o,some os=>some (vwO rf g o::os)
  | _,_=>none
theorem zE7 {σ : St}{rf:Bool→Nat→Nat→A}{g:Nat→Option Nat}:∀{js:List Nat} {σ':St},zS3 σ rf g js=some σ'→zA3 σ rf g js σ'
 | [],σ',h=>by cases h; trivial
 | j::js,σ',h=>by
  simp only[zS3]at h;split at h<;>try (cases h; done)
  rename_i o os h1 h2;cases h;simp only[zA3,h1];exact⟨.inl trivial,zE7 h2⟩
mutual
theorem zZI {rf:Bool→Nat→Nat→A}{g:Nat→Option Nat}:∀(a:A),a.bnd 0=true→vw rf g a=a
 | .any,_=>rfl
 | .nil,_=>rfl
 | .lit _,_=>rfl
 | .agg cs,h=>by simp only[A.bnd]at h; simp only[vw,zFq cs h]
 | .tup cs,h=>by simp only[A.bnd]at h; simp only[vw,zFq cs h]
 | .sl n cs,h=>by simp only[A.bnd]at h; simp only[vw,zFq cs h]
 | .fsl n cs,h=>by simp only[A.bnd]at h; simp only[vw,zFq cs h]
 | .rptr cs,h=>by simp only[A.bnd]at h; simp only[vw,zFq cs h]
 | .ptr l o,h=>by simp[A.bnd]at h
 | .row l n,h=>by simp[A.bnd]at h
 | .rwp l n o,h=>by simp[A.bnd]at h
 | .win l n o k c,h=>by simp[A.bnd]at h
 | .map l,h=>by simp[A.bnd]at h
 | .clo f fs cs,h=>by simp only[A.bnd,Bool.and_eq_true]at h; simp only[vw,zFq fs h.1,zFq cs h.2]
theorem zFq {rf:Bool→Nat→Nat→A}{g:Nat→Option Nat}:∀(cs:List A),zCF 0 cs=true→vwL rf g cs=cs
 | [],_=>rfl
 | c::cs,h=>by simp only[zCF,Bool.and_eq_true]at h; simp only[vwL,zZI c h.1,zFq cs h.2]
end
theorem zGA {js:List Nat}:∀{xs:List A},zBA js xs (xs.map (vw jO (qQ js)))
 | []=>trivial
 | _::_=>⟨.inl rfl,zGA⟩
abbrev Run:=FuncId→List A→St→Option (A×St)
def zTK (R:Run):Run:=fun f xs σ =>
 let js:=zE3 (fun _ _=>true) σ 1000 (lvL xs) []
 match zS3 σ jO (qQ js) js with
 | some σ0=>match R f (xs.map (vw jO (qQ js))) σ0 with
  | some (r,σ1)=>bif zE0 js then some (ren js σ.length r,jU σ js (σ1.map (zBD js σ.length))) else none
  | none=>none
 | none=>none
theorem zTL {R:Run}(hR:zAh P R):zAh P (zTK R):=by
 intro f xs σ r σ' h;simp only[zTK]at h;generalize zE3 _ _ _ _ _=js at h;split at h<;>try (cases h; done)
 rename_i σ0 h0;split at h<;>try (cases h; done)
 rename_i r0 σ1 h1;cases hd:zE0 js
 ·rw[hd]at h; cases h
 ·rw[hd]at h;cases h;obtain⟨h2,h3⟩:=hR _ _ _ _ _ h1;exact⟨h2,zAw h3 js (zCT hd) (zE7 h0) zGA ⟨rfl,rfl⟩⟩
def zTO (R:Run):FuncId→List A→Option A:=fun f xs=>match R f (xs.map (vw jO (qQ []))) []with
 | some (r,[])=>bif r.bnd 0 then some r else none
 | _=>none
def zUG:AObj→Bool
 | .rsv=>true
 | _=>false
def zTM (R:Run):FuncId→List A→Nat→Option (A×St):=fun f xs n=>match R f (xs.map (vw jO (qQ []))) []with
 | some (r,σ1)=>bif σ1.any zUG then none else some (ren [] n r,σ1.map (zBD [] n))
 | none=>none
theorem zTP {R:Run}(hR:zAh P R):zEJ P (zTO R,zTM R):=by
 refine⟨fun f xs r h=>?_,fun f xs n r own h=>?_⟩
 ·simp only[zTO]at h;split at h<;>try (cases h; done)
  rename_i r0 h1;cases hb:r0.bnd 0
  ·rw[hb]at h; cases h
  ·rw[hb]at h;cases h;obtain⟨h2,h3⟩:=hR _ _ _ _ _ h1;refine⟨h2,fun τ=>?_⟩;refine zAw h3 [] (by simp) trivial zGA ⟨?_,by simp[jU]⟩;simp only[ren,zZI r hb]
 ·simp only[zTM]at h;split at h<;>try (cases h; done)
  rename_i r0 σ1 h1;cases hb : σ1.any zUG
  ·rw[hb]at h;cases h;obtain⟨h2,h3⟩:=hR _ _ _ _ _ h1;refine⟨h2,fun o ho=>?_,fun τ hl=>?_⟩
   ·obtain⟨o',ho',rfl⟩:=List.mem_map.1 ho;rw[List.any_eq_false]at hb;have:=hb o' ho';cases o'<;>simp[zBD,vwO,zUG]at this ⊢
   ·subst hl;exact zAw h3 [] (by simp) trivial zGA ⟨rfl,by simp[jU]⟩
  ·rw[hb]at h; cases h
def evG (C:Run)(g:KG)(l:List (Nat×A)) (σ : St):Option (List (Nat×A)×St):=match g.guard with
 | none=>(match evO C g.op (lkB l) σ with
  | some (r,σ')=>some (zMv g.op.dst r l,σ')
  | none=>none)
 | some (s,want)=>match lkB l s with
  | .lit (.bool b)=>bif b==want then (match evO C g.op (lkB l) σ with
   | some (r,σ')=>some (zMv g.op.dst r l,σ')
   | none=>none) else some (zMv g.op.dst (.lit undef) l,σ)
  | .lit (.tuple _)=>some (zMv g.op.dst (.lit undef) l,σ)
  | _=>none
def zQ4 (C:Run):List KG→List (Nat×A)→St→Option (List (Nat×A)×St)
 | [],l,σ=>some (l,σ)
 | g::gs,l,σ=>match evG C g l σ with
  | some (l',σ')=>zQ4 C gs l' σ'
  | none=>none
def qAU (C:Run)(C0:Cl0)(f:Nat)(g:KG)(l:List (Nat×A)) (σ : St):Option (List (Nat×A)×St):=bif zXG f g.op (lkB l) then (match g.guard with
 | none=>(match zQ3 C C0 f g.op (lkB l) σ with
  | some (r,σ')=>some (zMv g.op.dst r l,σ')
  | none=>none)
 | some (s,want)=>match lkB l s with
  | .lit (.bool b)=>bif b==want then (match zQ3 C C0 f g.op (lkB l) σ with
   | some (r,σ')=>some (zMv g.op.dst r l,σ')
   | none=>none) else some (zMv g.op.dst (.lit undef) l,σ)
  | .lit (.tuple _)=>some (zMv g.op.dst (.lit undef) l,σ)
  | _=>none) else none
def zWN (C:Run)(C0:Cl0):List (Nat×Nat×KG)→List (Nat×A)→St→Option (List (Nat×A)×St)
 | [],l,σ=>some (l,σ)
 | x::gs,l,σ=>match qAU C C0 x.2.1 x.2.2 l σ with
  | some (l',σ')=>zWN C C0 gs l' σ'
  | none=>none
abbrev Res:=Option (Ex×List (Nat×A)×St)
def zQA (f:List (Nat×A)→St→Res):Nat→List (Nat×A)→St→Res
 | 0,_,_=>none
 | n+1,l,σ=>match f l σ with
  | some (.norm,l',σ')=>zQA f n l' σ'
  | r=>r
def qBt:List (Nat×Nat×KG)→Nat
 | []=>0
 | x::l=>match x.2.2.op with
  | .alr _ q _=>max (q+1) (qBt l)
  | _=>qBt l
def qI3:K→Nat
 | .dops l=>qBt l
 | _=>0
def qGV:K→Bool
 | .wk _=>true
 | _=>false
def zYX:List (Nat×A)→List Nat→List Nat
 | [],acc=>acc
 | p::l,acc=>zYX l (bif zPw p.1 acc then acc else p.1::acc)
def zMo (n0:Nat) (σ : St)(i:Nat):List AObj→List Nat
 | []=>[]
 | o::os=>bif (match o with | .row ..=>Nat.blt i n0 | _=>true) then i::zMo n0 σ (i+1) os else zMo n0 σ (i+1) os
def zEn:Nat→List Nat→Bool
 | 0,_=>true
 | _+1,[]=>false
 | n+1,l=>go 0 (n+1) l
where go:Nat→Nat→List Nat→Bool
 | _,0,_=>true
 | _,_+1,[]=>false
 | i,n+1,x::l=>Nat.beq x i&&go (i+1) n l
theorem zLd:∀{n i:Nat} {l:List Nat},zEn.go i n l=true→∀j,j<n→l[j]?=some (i+j)
 | 0,i,l,_,j,hj=>by omega
 | n+1,i,[],h,j,hj=>by simp[zEn.go]at h
 | n+1,i,x::l,h,j,hj=>by
  simp only[zEn.go,Bool.and_eq_true]at h;have hx:=Nat.eq_of_beq_eq_true h.1;cases j with
  | zero=>simp[hx]
  | succ j=>rw[List.getElem?_cons_succ,zLd h.2 j (by omega)]; simp; omega
theorem zGQ {n:Nat}{l:List Nat}(h:zEn n l=true):∀j,j<n→l[j]?=some j:=by
 cases n with
 | zero=>intro j hj; omega
 | succ n =>
  cases l with
  | nil=>simp[zEn]at h
  | cons x l=>intro j hj; simpa using zLd (i:=0) h j hj
def qBf (n0:Nat)(l:List (Nat×A)) (σ : St):Option (List (Nat×A)×St) :=
 let ks:=zMo n0 σ 0 σ
 bif zE0 ks&&zEn n0 ks then (match zS3 σ (seen σ (qQ ks) 8) (qQ ks) ks with
  | some σ'=>some ((zYX l []).map fun t=>(t,vw (seen σ (qQ ks) 8) (qQ ks) (lkB l t)),σ')
  | none=>none) else none
def evK (C:Run)(C0:Cl0)(n0 lf:Nat):K→List (Nat×A)→St→Res
 | .skip,l,σ=>some (.norm,l,σ)
 | .seq a b,l,σ=>match evK C C0 n0 lf a l σ with
  | some (.norm,l',σ')=>evK C C0 n0 lf b l' σ'
  | r=>r
 | .cond c a b,l,σ=>match ev (lkB l) c with
  | .lit (.bool t)=>bif t then evK C C0 n0 lf a l σ else evK C C0 n0 lf b l σ
  | _=>none
 | .block id b,l,σ=>match evK C C0 n0 lf b l σ with
  | some (.exit i,l',σ')=>bif Nat.beq i id then some (.norm,l',σ') else some (.exit i,l',σ')
  | r=>r
 | .loop b,l,σ=>zQA (evK C C0 n0 lf b) lf l σ
 | .exit id,l,σ=>some (.exit id,l,σ)
 | .ret,l,σ=>some (.ret,l,σ)
 | .ops gs,l,σ=>match zQ4 C gs l σ with
  | some (l',σ')=>some (.norm,l',σ')
  | none=>none
 | .dops xs,l,σ=>match zWN C C0 xs l σ with
  | some (l',σ')=>some (.norm,l',σ')
  | none=>none
 | .rng ..,_,_=>none
 | .wk b,l,σ=>bif qGV b then (match qBf n0 l σ with
  | some (l',σ')=>evK C C0 n0 lf b l' σ'
  | none=>none) else evK C C0 n0 lf b l (σ++List.replicate (qI3 b - σ.length) .rsv)
theorem zRD {C:Run}(hC:zAh P C){g:KG}{l l':List (Nat×A)} {σ σ':St}(h:evG C g l σ = some (l',σ')){Qp:Value→Env→St→Prop}{K:Env→St→Prop}(hK:K (qR l') σ'):wpG P Qp K g (qR l) σ:=by
 unfold evG at h;unfold wpG;rw[zHM]at h;split at h
 ·rename_i hg;split at h<;>try (cases h; done)
  rename_i r τ h1;cases h;simp only[hg];exact zHE hC h1 (by rw[←zD4]; exact hK)
 ·rename_i s want hg;simp only[hg];split at h
  ·rename_i b hb;rw[hb];simp only;cases hw:b==want
   ·rw[hw]at h;cases h;exact⟨fun e=>(by cases e),fun _=>(by rw[zFl,←zD4]; exact hK)⟩
   ·rw[hw]at h;simp only[cond_true]at h;split at h<;>try (cases h; done)
    rename_i r τ h1;cases h;exact⟨fun _=>zHE hC h1 (by rw[←zD4]; exact hK),fun e=>(by cases e)⟩
  ·rename_i hb;cases h;rw[hb];simp only[zFl,←zD4];exact hK
  ·cases h
theorem zIz {C:Run}(hC:zAh P C){Qp:Value→Env→St→Prop}{K:Env→St→Prop}:∀{gs:List KG} {l l':List (Nat×A)} {σ σ':St},zQ4 C gs l σ = some (l',σ')→K (qR l') σ'→zDo P Qp K gs (qR l) σ
 | [],l,l',σ,σ',h,hK=>by cases h; exact hK
 | g::gs,l,l',σ,σ',h,hK=>by
  simp only[zQ4]at h;split at h<;>try (cases h; done)
  rename_i l1 σ1 h1;exact zRD hC h1 (zIz hC h hK)
theorem zPi {C:Run}(hC:zAh P C){C0:Cl0}(hC0:zEJ P C0){f:Nat}{g:KG}{l l':List (Nat×A)} {σ σ':St}(h:qAU C C0 f g l σ = some (l',σ')){Qd:Value→St→Prop}{K:Env→St→Prop}(hK:K (qR l') σ') :
 zAG f g.op (qR l)∧zQa P Qd f K g (qR l) σ:=by
 unfold qAU at h;unfold zQa;rw[zHM]at h;cases ht:zXG f g.op (qR l)
 ·rw[ht]at h; cases h
 ·refine⟨zPW ht,?_⟩;rw[ht]at h;simp only[cond_true]at h;split at h
  ·rename_i hg;split at h<;>try (cases h; done)
   rename_i r τ h1;cases h;simp only[hg];exact zIy hC hC0 h1 (by rw[←zD4]; exact hK)
  ·rename_i s want hg;simp only[hg];split at h
   ·rename_i b hb;rw[hb];simp only;cases hw:b==want
    ·rw[hw]at h;cases h;exact⟨fun e=>(by cases e),fun _=>(by rw[zFl,←zD4]; exact hK)⟩
    ·rw[hw]at h;simp only[cond_true]at h;split at h<;>try (cases h; done)
     rename_i r τ h1;cases h;exact⟨fun _=>zIy hC hC0 h1 (by rw[←zD4]; exact hK),fun e=>(by cases e)⟩
   ·rename_i hb;cases h;rw[hb];simp only[zFl,←zD4];exact hK
   ·cases h
theorem zJv {C:Run}(hC:zAh P C){C0:Cl0}(hC0:zEJ P C0){Qd:Value→St→Prop}{K:Env→St→Prop}:∀{gs:List (Nat×Nat×KG)} {l l':List (Nat×A)} {σ σ':St},zWN C C0 gs l σ = some (l',σ')→K (qR l') σ'→wpD P Qd K gs (qR l) σ
 | [],l,l',σ,σ',h,hK=>by cases h; exact hK
 | g::gs,l,l',σ,σ',h,hK=>by
  simp only[zWN]at h;split at h<;>try (cases h; done)
  rename_i l1 σ1 h1;exact zPi hC hC0 h1 (zJv hC hC0 h hK)
theorem zVH {env:Env} {σ : St}:zBG n0 env (σ++[AObj.rsv]) env σ:=by
 intro H0 L0 w0 H L w N tmps h0 h1 h2;have hll:=LLe.append L [(⟨none,0,0,false⟩:LI)];refine⟨H,L++[(⟨none,0,0,false⟩:LI)],h1.trans ?_,h2.mono (HLe.refl _) hll⟩;have hs:=h1.st;refine⟨⟨hs.pers,by simp[hs.len],fun i l o hL hσ=>?_,fun i j x y b hi hj hx hy=>?_,fun i x b hi hx=>?_⟩,Step.refl _ _ _,hll,fun b ⟨i,x,hi,hx⟩=>?_⟩
 ·rcases jB hL with hL' | ⟨rfl,rfl⟩
  ·have hi:i<L.length:=(List.getElem?_eq_some_iff.1 hL').1;rw[List.getElem?_append_left (by rw[←hs.len]; exact hi)]at hσ;exact(hs.obj i l o hL' hσ).carry (fun _ _=>rfl) (HLe.refl _) hll (fun _ _ _=>rfl)
  ·rw[hs.len]at hσ;rw[List.getElem?_append_right (Nat.le_refl _)]at hσ;simp only[Nat.sub_self,List.getElem?_cons_zero,Option.some.injEq]at hσ;subst hσ;exact⟨rfl,rfl⟩
 ·rcases jB hi with hi' | ⟨rfl,rfl⟩
  ·rcases jB hj with hj' | ⟨rfl,rfl⟩
   ·exact hs.inj i j x y b hi' hj' hx hy
   ·cases hy
  ·cases hx
 ·rcases jB hi with hi' | ⟨rfl,rfl⟩
  ·exact hs.lt i x b hi' hx
  ·cases hx
 ·rcases jB hi with hi' | ⟨rfl,rfl⟩
  ·exact .inl ⟨i,x,hi',hx⟩
  ·cases hx
theorem yN {env:Env}:∀(n:Nat) {σ : St},zBG n0 env (σ++List.replicate n AObj.rsv) env σ
 | 0,σ=>by simpa using zBG.refl n0 env σ
 | n+1,σ=>by
  have:=(zVH (n0:=n0) (env:=env) (σ:=σ)).trans (yN n);rw[List.replicate_succ]
  simpa using this
theorem zPn {l l':List (Nat×A)} {σ σ':St}(h:qBf n0 l σ = some (l',σ')):zBG n0 (qR l') σ' (qR l) σ:=by
 simp only[qBf]at h;generalize zMo n0 σ 0 σ = ks at h;cases hb:zE0 ks&&zEn n0 ks
 ·rw[hb]at h; cases h
 ·rw[hb]at h;simp only[Bool.and_eq_true]at hb;simp only[cond_true]at h;split at h<;>try (cases h; done)
  rename_i σ1 h1;cases h;refine zBG.sel ks 8 _ (zGQ hb.2) (zCT hb.1) (zE7 h1) fun p hp=>?_
  obtain⟨t,_,rfl⟩:=List.mem_map.1 hp;left;simp only[zHM]
theorem zA6 {C:Run}(hC:zAh P C){C0:Cl0}(hC0:zEJ P C0){lf:Nat}:∀(k:K) {l l':List (Nat×A)} {σ σ':St} {x:Ex} {Q:Ex→Env→St→Prop},evK C C0 n0 lf k l σ = some (x,l',σ')→Q x (qR l') σ'→wpK P n0 k Q (qR l) σ
 | .skip,l,l',σ,σ',x,Q,h,hQ=>by cases h; exact hQ
 | .seq a b,l,l',σ,σ',x,Q,h,hQ=>by
  simp only[evK]at h;simp only[wpK];split at h
  ·rename_i l1 σ1 h1;exact zA6 hC hC0 a h1 (zA6 hC hC0 b h hQ)
  ·rename_i r hr;refine zA6 hC hC0 a h ?_;cases x<;>first | exact(hr _ _ h).elim | exact hQ
 | .cond c a b,l,l',σ,σ',x,Q,h,hQ=>by
  simp only[evK,zHM]at h;simp only[wpK];split at h<;>try (cases h; done)
  rename_i t ht;rw[ht];simp only;cases t
  ·exact⟨fun e=>(by cases e),fun _=>zA6 hC hC0 b h hQ⟩
  ·exact⟨fun _=>zA6 hC hC0 a h hQ,fun e=>(by cases e)⟩
 | .block id b,l,l',σ,σ',x,Q,h,hQ=>by
  simp only[evK]at h;simp only[wpK];split at h
  ·rename_i i l1 σ1 h1;refine zA6 hC hC0 b h1 ?_;simp only[blk];cases hb:Nat.beq i id
   ·rw[hb]at h;cases h;have:i≠id:=fun e=>by subst e; simp at hb
    rw[if_neg this];exact hQ
   ·rw[hb]at h;cases h;rw[if_pos (Nat.eq_of_beq_eq_true hb)];exact hQ
  ·rename_i r hr;refine zA6 hC hC0 b h ?_;cases x<;>first | exact(hr _ _ _ h).elim | exact hQ
 | .loop b,l,l',σ,σ',x,Q,h,hQ=>by
  simp only[evK]at h;simp only[wpK];refine⟨fun n env τ=>∃l0,env=qR l0∧zQA (evK C C0 n0 lf b) n l0 τ = some (x,l',σ'),⟨lf,Wk.here ⟨l,rfl,h⟩⟩,?_⟩;rintro n env τ ⟨l0,rfl,h0⟩;cases n with
  | zero=>cases h0
  | succ n =>
   simp only[zQA]at h0;split at h0
   ·rename_i l1 σ1 h1;refine zA6 hC hC0 b h1 ?_;exact⟨n,Nat.lt_succ_self n,Wk.here ⟨l1,rfl,h0⟩⟩
   ·rename_i r hr;refine zA6 hC hC0 b h0 ?_;cases x<;>first | exact(hr _ _ h0).elim | exact hQ
 | .exit id,l,l',σ,σ',x,Q,h,hQ=>by cases h; exact hQ
 | .ret,l,l',σ,σ',x,Q,h,hQ=>by cases h; exact hQ
 | .ops gs,l,l',σ,σ',x,Q,h,hQ=>by
  simp only[evK]at h;simp only[wpK];split at h<;>try (cases h; done)
  rename_i l1 σ1 h1;cases h;exact zIz hC h1 hQ
 | .dops gs,l,l',σ,σ',x,Q,h,hQ=>by
  simp only[evK]at h;simp only[wpK];split at h<;>try (cases h; done)
  rename_i l1 σ1 h1;cases h;exact zJv hC hC0 h1 hQ
 | .rng ..,l,l',σ,σ',x,Q,h,hQ=>by simp[evK]at h
 | .wk b,l,l',σ,σ',x,Q,h,hQ=>by
  simp only[evK]at h;simp only[wpK];cases hb:qGV b
  ·rw[hb]at h;exact Wk.by (yN _) (Wk.here (zA6 hC hC0 b h hQ))
  ·rw[hb]at h;simp only[cond_true]at h;split at h<;>try (cases h; done)
   rename_i l1 σ1 h1;exact Wk.by (zPn h1) (Wk.here (zA6 hC hC0 b h hQ))
structure Entry where
 k:K
 rs:List RS
 frz:Bool
def zJa:Nat→List A→List (Nat×A)
 | _,[]=>[]
 | i,a::xs=>(i,a)::zJa (i+1) xs
theorem zKQ:∀{xs:List A} {i t:Nat},qR (zJa i xs) t=.any∨(i≤t∧xs[t-i]?=some (qR (zJa i xs) t))
 | [],i,t=>.inl rfl
 | a::xs,i,t=>by
  simp only[zJa,qR];split
  ·rename_i h; subst h; exact .inr ⟨Nat.le_refl _,by simp⟩
  ·rcases zKQ (xs:=xs) (i:=i+1) (t:=t)with h | ⟨h1,h2⟩
   ·exact .inl h
   ·refine .inr ⟨by omega,?_⟩;have:t-i=(t-(i+1))+1:=by omega
    rw[this]
    simpa using h2
def zZj:Ex→Bool
 | .ret | .norm=>true
 | _=>false
def zI5 (frz:Bool)(n0:Nat)(r:A) (σ : St):Option (A×St) :=
 let k0:=List.range n0;let k1:=zE3 (fun _ _=>true) σ 1000 (lvO (.box ((σ.take n0).map fun o=>.agg ((lvO o).map fun l=>.map l)))) k0;let ks:=zE3 (fun _ o=>bif frz then (match o with | .row ..=>false | _=>true) else true) σ 1000 (lvA r) k1
 bif zE0 ks&&zEn n0 ks then (match zS3 σ (seen σ (qQ ks) 8) (qQ ks) ks with
  | some σ1=>some (vw (seen σ (qQ ks) 8) (qQ ks) r,σ1)
  | none=>none) else none
theorem zNA {frz:Bool}{r r1:A} {σ σ1:St}(h:zI5 frz n0 r σ = some (r1,σ1)):zHy n0 r1 σ1 (.ret r) σ:=by
 simp only[zI5]at h;generalize zE3 _ σ 1000 (lvA r) _=ks at h;cases hb:zE0 ks&&zEn n0 ks
 ·rw[hb]at h; cases h
 ·rw[hb]at h;simp only[Bool.and_eq_true]at hb;simp only[cond_true]at h;split at h<;>try (cases h; done)
  rename_i σ2 h1;cases h;exact⟨r,ks,8,rfl,zGQ hb.2,zCT hb.1,zE7 h1,.inl rfl⟩
def zDC (f:Nat):List (Nat×Entry)→Option Entry
 | []=>none
 | p::l=>bif Nat.beq f p.1 then some p.2 else zDC f l
def zS2 (T:List (Nat×Entry))(orc:Run)(lf:Nat):Nat→Run
 | 0=>fun _ _ _=>none
 | n+1=>fun f xs σ=>match zDC f T with
  | none=>orc f xs σ
  | some e=>match evK (zTK (zS2 T orc lf n)) (zTO (zS2 T orc lf n),zTM (zS2 T orc lf n)) σ.length lf e.k (zJa 0 xs) σ with
   | some (x,l,σ')=>bif zZj x then (match zVm (lkB l) σ' e.rs with
    | some r=>zI5 e.frz σ.length r σ'
    | none=>none) else none
   | none=>none
def jI (P:Program)(f:FuncId)(e:Entry):Prop :=
 zA P f=true∧∃fn c hint,P.funcs[f]?=some fn∧fn.body=some c∧qC P fn.ntmps hint c=some e.k.erase∧zB5 P fn.results.toList=some e.rs
theorem zLQ {hint:Nat→Option (List (Nat×Nat))}{f:FuncId}{fn:Func}{c:Code}{k:K}{rs:List RS}(hf:P.funcs[f]?=some fn)(hb:fn.body=some c)(hc:qC P fn.ntmps hint c=some k.erase)(hr:zB5 P fn.results.toList=some rs)
 {args:List A} {σ : St}{Q:Out→St→Prop}(h:wpK P σ.length k (fin rs Q) (qR (zJa 0 args)) σ):yR P f args σ Q:=by
 refine zCS (k:=.wk k) hf hb hc hr ?_;unfold wpF;simp only[wpK];refine Wk.by (env':=qR (zJa 0 args)) (σ':=σ) ?_ (Wk.here h);intro H0 L0 w0 H L w N tmps _ h1 h2;refine⟨H,L,h1,h2.1,fun t=>?_⟩;rcases zKQ (xs:=args) (i:=0) (t:=t)with e | ⟨_,e⟩
 ·rw[e]; simp[Rel]
 ·have:=h2.2 t;simp only[zBY,List.getD]at this;rw[Nat.sub_zero]at e;rw[e]at this;exact this
theorem zQT {T:List (Nat×Entry)}{orc:Run}{lf:Nat}(hT:∀f e,zDC f T=some e→jI P f e)(hO:zAh P orc):∀n,zAh P (zS2 T orc lf n)
 | 0=>fun f xs σ r σ' h=>(by cases h)
 | n+1=>fun f xs σ r σ' h=>by
  have ih:=zQT (lf:=lf) hT hO n;simp only[zS2]at h;split at h
  ·exact hO _ _ _ _ _ h
  ·rename_i e he;obtain⟨hcal,fn,c,hint,h1,h2,h3,h4⟩:=hT _ _ he;refine⟨hcal,?_⟩;split at h<;>try (cases h; done)
   rename_i x l σ1 h5;cases hx:zZj x
   ·rw[hx]at h; cases h
   ·rw[hx]at h;simp only[cond_true]at h;split at h<;>try (cases h; done)
    rename_i r0 h6;refine zGs (zLQ h1 h2 h3 h4 (zA6 (zTL ih) (zTP ih) e.k h5 ?_));have hq:=zNA h;rw[zHM]at h6;cases x<;>first | (cases hx; done) | (simp only[fin,zIJ,h6]; exact hq)
end
end Go.Abs
namespace Go.Proofs.YthglhccibdlccaaGreatDoor
open Go.Abs
theorem zF1 {x y:Id}:zBC x y=true↔x.a<y.a∨(x.a=y.a∧(x.b<y.b∨(x.b=y.b∧x.c<y.c))):=by
 unfold zBC;split
 ·simp only[decide_eq_true_eq]; omega
 ·split
  ·simp only[decide_eq_true_eq]; omega
  ·simp only[decide_eq_true_eq]; omega
theorem zF2 {x y:Id}:zBC x y=false↔¬(x.a<y.a∨(x.a=y.a∧(x.b<y.b∨(x.b=y.b∧x.c<y.c)))):=by rw[←zF1]; simp
theorem zEu (x:Id):zBC x x=false:=by rw[zF2]; omega
theorem zI6 {x y z:Id}(h:zBC x y=true)(k:zBC y z=true):zBC x z=true:=by rw[zF1]at *; omega
theorem zEt {x y:Id}(h:zBC x y=false)(k:zBC y x=false):x=y:=by
 rw[zF2]at *
 rw[Id.eq_iff]; omega
theorem zP3 {x y:Id}(h:zBC x y=true):zBC y x=false:=by rw[zF1]at h; rw[zF2]; omega
theorem zEO {x y:Id}:zEG x y<0↔zBC x y=true:=by
 rw[zF1];simp only[zEG,orI,zDf]
 repeat' split
 all_goals omega
theorem zFa:Ord zEG where
 irrefl x:=by rw[zEO,zEu]; simp
 trans x y z h k:=by rw[zEO]at *; exact zI6 h k
 ntrans x y z h k:=by
  rw[zEO,Bool.not_eq_true]at *
  rw[zF2]at *; omega
 anti x y h k:=by
  rw[zEO,Bool.not_eq_true]at *
  exact zEt h k
def SS (l:List Id):Prop:=l.Pairwise fun x y=>zBC x y=true
theorem zDP {x y:Id}:∀{l:List Id},y∈zHK l x↔y∈l∨y=x
 | []=>by simp[zHK]
 | z::l=>by
  simp only[zHK];split
  ·simp only[List.mem_cons,zDP (l:=l),or_assoc]
  ·split
   ·rename_i h; subst h;simp only[List.mem_cons];constructor
    ·exact fun h=>.inl h
    ·rintro(h | h)
     ·exact h
     ·exact .inl h
   ·simp only[List.mem_cons];constructor
    ·rintro(h | h)
     ·exact .inr h
     ·exact .inl h
    ·rintro(h | h)
     ·exact .inr h
     ·exact .inl h
theorem zMk {x:Id}:∀{l:List Id},SS l→SS (zHK l x)
 | [],_=>by simp[zHK,SS]
 | z::l,h=>by
  have h':=List.pairwise_cons.1 h;simp only[zHK];split
  ·rename_i hz;refine List.pairwise_cons.2 ⟨fun y hy=>?_,zMk h'.2⟩;rcases zDP.1 hy with hy | rfl
   ·exact h'.1 y hy
   ·exact hz
  ·rename_i hz;split
   ·exact h
   ·rename_i hne;have hxz:zBC x z=true:=by
     cases hh:zBC x z with
     | true=>rfl
     | false=>exact(hne (zEt (by simpa using hz) hh)).elim
    refine List.pairwise_cons.2 ⟨fun y hy=>?_,h⟩;rcases List.mem_cons.1 hy with rfl | hy
    ·exact hxz
    ·exact zI6 hxz (h'.1 y hy)
theorem zNp:∀{l acc:List Id},SS acc→SS (l.foldl zHK acc)
 | [],_,h=>h
 | _::l,_,h=>zNp (l:=l) (zMk h)
theorem zLi {y:Id}:∀{l acc:List Id},y∈l.foldl zHK acc↔y∈acc∨y∈l
 | [],_=>by simp
 | x::l,acc=>by simp only[List.foldl_cons,zLi (l:=l),zDP,List.mem_cons,or_assoc]
theorem SS.unique:∀{l l':List Id},SS l→SS l'→(∀x,x∈l↔x∈l')→l=l'
 | [],[],_,_,_=>rfl
 | [],y::l',_,_,h=>by have:=(h y).2 (List.mem_cons_self ..); simp at this
 | x::l,[],_,_,h=>by have:=(h x).1 (List.mem_cons_self ..); simp at this
 | x::l,y::l',h1,h2,h=>by
  have p1:=List.pairwise_cons.1 h1;have p2:=List.pairwise_cons.1 h2;have hxy:x=y:=by
   rcases List.mem_cons.1 ((h x).1 (List.mem_cons_self ..))with e | e
   ·exact e
   ·rcases List.mem_cons.1 ((h y).2 (List.mem_cons_self ..))with e' | e'
    ·exact e'.symm
    ·have a:=p2.1 x e;have b:=p1.1 y e';rw[zP3 b]at a; cases a
  subst hxy
  congr 1
  refine SS.unique p1.2 p2.2 fun z=>?_
  constructor
  ·intro hz;rcases List.mem_cons.1 ((h z).1 (List.mem_cons_of_mem _ hz))with e | e
   ·have:=p1.1 z hz; subst e; rw[zEu]at this; cases this
   ·exact e
  ·intro hz;rcases List.mem_cons.1 ((h z).2 (List.mem_cons_of_mem _ hz))with e | e
   ·have:=p2.1 z hz; subst e; rw[zEu]at this; cases this
   ·exact e
theorem zBu {α : Type}{motive:List α→Prop}(nil:motive [])(snoc:∀l y,motive l→motive (l++[y]))(l:List α):motive l:=by
 have h:∀r:List α,motive r.reverse:=fun r=>by
  induction r with
  | nil=>exact nil
  | cons a r ih=>rw[List.reverse_cons]; exact snoc _ _ ih
 have:=h l.reverse
 rwa [List.reverse_reverse]at this
def zFS (acc:List Id)(y:Id):List Id:=if acc.getLast?=some y then acc else acc++[y]
def zAc (l:List Id):List Id:=l.foldl zFS []
theorem zCr (l:List Id)(y:Id):zAc (l++[y])=zFS (zAc l) y:=by simp[zAc,List.foldl_append]
theorem zJj:∀(l:List Id),(zAc l).getLast?=l.getLast?:=by
 intro l;induction l using zBu with
 | nil=>rfl
 | snoc l y ih =>
  rw[zCr,zFS];split
  ·rename_i h; rw[h]; simp
  ·simp
theorem zH7 {x:Id}(l:List Id):x∈zAc l↔x∈l:=by
 induction l using zBu with
 | nil=>simp[zAc]
 | snoc l y ih =>
  rw[zCr,zFS];split
  ·rename_i h;have hy:y∈zAc l:=List.mem_of_getLast? h;simp only[ih,List.mem_append,List.mem_singleton];constructor
   ·exact .inl
   ·rintro(h | rfl)
    ·exact h
    ·exact ih.1 hy |> fun h=>h
  ·simp[ih]
theorem zTY (l:List Id)(h:l.Pairwise fun x y=>zBC y x=false):SS (zAc l):=by
 induction l using zBu with
 | nil=>simp[zAc,SS]
 | snoc l y ih =>
  rw[List.pairwise_append]at h;have hi:=ih h.1;rw[zCr,zFS];split
  ·exact hi
  ·rename_i hne;unfold SS;rw[List.pairwise_append];refine⟨hi,by simp,fun z hz y' hy'=>?_⟩;simp only[List.mem_singleton]at hy';subst hy';have hzl:=(zH7 l).1 hz;have h1:=h.2.2 z hzl y' (by simp);cases hh:zBC z y' with
   | true=>rfl
   | false =>
    exfalso;have e:=zEt hh h1;subst e;rw[zJj]at hne;have hl:l≠[]:=fun e=>by rw[e]at hzl; simp at hzl
    obtain⟨w,hw⟩:∃w,l.getLast?=some w:=⟨_,List.getLast?_eq_some_getLast hl⟩;have hwl:w∈l:=List.mem_of_getLast? hw;have h2:=h.2.2 w hwl z (by simp);have hwz:w=z∨zBC w z=false:=by
     obtain⟨l',rfl⟩:∃l',l=l'++[w]:=List.getLast?_eq_some_iff.1 hw;rcases List.mem_append.1 hzl with hz' | hz'
     ·have:=h.1;rw[List.pairwise_append]at this;exact .inr (this.2.2 z hz' w (by simp))
     ·exact .inl (List.mem_singleton.1 hz').symm
    have:w=z:=by
     rcases hwz with e | e
     ·exact e
     ·exact zEt e h2
    subst this;exact hne hw
def zCk (l:List Id):List Id:=zAc (zCO zEG l)
theorem zGu (l:List Id):(zCO zEG l).Perm l:=List.mergeSort_perm l _
theorem zM4 (l:List Id):(zCO zEG l).Pairwise fun x y=>zBC y x=false:=by
 have h:=List.pairwise_mergeSort (le:=fun x y=>!decide (zEG y x<0)) (fun a b c h1 h2=>by simp only[Bool.not_eq_true',decide_eq_false_iff_not]at *; exact zFa.ntrans c b a h2 h1)
  (fun a b=>by
   simp only[Bool.or_eq_true,Bool.not_eq_true',decide_eq_false_iff_not];by_cases h:zEG b a<0
   ·exact .inr fun h'=>zFa.irrefl _ (zFa.trans _ _ _ h h')
   ·exact .inl h) l
 exact h.imp fun h=>by simp only[Bool.not_eq_true',decide_eq_false_iff_not,zEO,Bool.not_eq_true]at h;exact h
theorem zAT {l:List Id}{x:Id}:x∈zCk l↔x∈l:=by rw[zCk,zH7,(zGu l).mem_iff]
theorem zHm (l:List Id):SS (zCk l):=zTY _ (zM4 l)
theorem zQY (l:List Id):zCk l=l.foldl zHK [] :=
 SS.unique (zHm l) (zNp (by simp[SS])) fun x=>by rw[zAT,zLi]; simp
end Go.Proofs.YthglhccibdlccaaGreatDoor
