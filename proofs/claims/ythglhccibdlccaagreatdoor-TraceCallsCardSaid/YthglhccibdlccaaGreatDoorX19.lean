/-
  An evaluator of small code at closed abstract states: code, functions, calls.
  Lists of IDs in increasing order, each once: what the reference's insertion gives, and what a sort and a compaction give.
-/
import Derived.Test.YthglhccibdlccaaGreatDoorX16
import Derived.Test.YthglhccibdlccaaGreatDoorX17
set_option linter.unusedVariables false
set_option linter.unusedSimpArgs false
namespace Go.Abs
section
variable {P:Program}{n0:Nat}
mutual
def lvA:A→List Nat
 | .any | .nil | .lit _=>[]
 | .agg cs | .tup cs | .sl _ cs | .fsl _ cs | .rptr cs=>lvL cs
 | .ptr l _ | .row l _ | .rwp l _ _ | .map l | .win l _ _ _ _=>[l]
 | .clo _ fs cs=>lvL fs++lvL cs
def lvL:List A→List Nat
 | []=>[]
 | c::cs=>lvA c++lvL cs
end
def lvM:List (List Int×A)→List Nat
 | []=>[]
 | p::l=>lvA p.2++lvM l
def lvO:AObj→List Nat
 | .box cs=>lvL cs
 | .row _ _ _ _ cs=>lvL cs
 | .mp _ _ es=>lvM es
 | .it m _ _=>[m]
 | _=>[]
def zPG (x:Nat):List Nat→Bool
 | []=>false
 | y::l=>bif Nat.beq x y then true else zPG x l
theorem zNZ {x:Nat}:∀{l:List Nat},zPG x l=true↔x∈l
 | []=>by simp[zPG]
 | y::l=>by
  simp only[zPG,List.mem_cons];cases h:Nat.beq x y
  ·have:x≠y:=fun e=>by subst e; simp at h
   simp only[cond_false,this,false_or,zNZ]
  ·have:=Nat.eq_of_beq_eq_true h;simp[this]
def zEP (keep:Nat→AObj→Bool) (σ : St):Nat→List Nat→List Nat→List Nat
 | 0,_,acc=>acc
 | _+1,[],acc=>acc
 | n+1,l::t,acc=>bif zPG l acc then zEP keep σ n t acc else match σ[l]? with
  | some o=>bif keep l o then zEP keep σ n (lvO o++t) (acc++[l]) else zEP keep σ n t acc
  | none=>zEP keep σ n t acc
def zE3:List Nat→Bool
 | []=>true
 | x::l=>!(zPG x l)&&zE3 l
theorem zDi:∀{l:List Nat},zE3 l=true→l.Nodup
 | [],_=>List.nodup_nil
 | x::l,h=>by simp only[zE3,Bool.and_eq_true,Bool.not_eq_true']at h;rw[List.nodup_cons];refine⟨fun hm=>?_,zDi h.2⟩;rw[zNZ.2 hm]at h;cases h.1
def zSV (σ : St)(rf:Bool→Nat→Nat→A)(g:Nat→Option Nat):List Nat→Option St
 | []=>some []
 | j::js=>match σ[j]?,zSV σ rf g js with
  | some o,some os=>some (vwO rf g o::os)
  | _,_=>none
theorem zEw {σ : St}{rf:Bool→Nat→Nat→A}{g:Nat→Option Nat}:∀{js:List Nat} {σ':St},zSV σ rf g js=some σ'→zAK σ rf g js σ'
 | [],σ',h=>by cases h; trivial
 | j::js,σ',h=>by
  simp only[zSV]at h;split at h<;>try (cases h; done)
  rename_i o os h1 h2;cases h;simp only[zAK,h1];exact⟨.inl trivial,zEw h2⟩
mutual
theorem zZR {rf:Bool→Nat→Nat→A}{g:Nat→Option Nat}:∀(a:A),a.bnd 0=true→vw rf g a=a
 | .any,_=>rfl
 | .nil,_=>rfl
 | .lit _,_=>rfl
 | .agg cs,h=>by simp only[A.bnd]at h; simp only[vw,zF4 cs h]
 | .tup cs,h=>by simp only[A.bnd]at h; simp only[vw,zF4 cs h]
 | .sl n cs,h=>by simp only[A.bnd]at h; simp only[vw,zF4 cs h]
 | .fsl n cs,h=>by simp only[A.bnd]at h; simp only[vw,zF4 cs h]
 | .rptr cs,h=>by simp only[A.bnd]at h; simp only[vw,zF4 cs h]
 | .ptr l o,h=>by simp[A.bnd]at h
 | .row l n,h=>by simp[A.bnd]at h
 | .rwp l n o,h=>by simp[A.bnd]at h
 | .win l n o k c,h=>by simp[A.bnd]at h
 | .map l,h=>by simp[A.bnd]at h
 | .clo f fs cs,h=>by simp only[A.bnd,Bool.and_eq_true]at h; simp only[vw,zF4 fs h.1,zF4 cs h.2]
theorem zF4 {rf:Bool→Nat→Nat→A}{g:Nat→Option Nat}:∀(cs:List A),zCZ 0 cs=true→vwL rf g cs=cs
 | [],_=>rfl
 | c::cs,h=>by simp only[zCZ,Bool.and_eq_true]at h; simp only[vwL,zZR c h.1,zF4 cs h.2]
end
theorem zH6 {js:List Nat}:∀{xs:List A},zCi js xs (xs.map (vw jW (qW js)))
 | []=>trivial
 | _::_=>⟨.inl rfl,zH6⟩
abbrev Run:=FuncId→List A→St→Option (A×St)
def zVF (R:Run):Run:=fun f xs σ =>
 let js:=zEP (fun _ _=>true) σ 1000 (lvL xs) []
 match zSV σ jW (qW js) js with
 | some σ0=>match R f (xs.map (vw jW (qW js))) σ0 with
  | some (r,σ1)=>bif zE3 js then some (ren js σ.length r,yB σ js (σ1.map (zBZ js σ.length))) else none
  | none=>none
 | none=>none
theorem zVx {R:Run}(hR:zAu P R):zAu P (zVF R):=by
 intro f xs σ r σ' h;simp only[zVF]at h;generalize zEP _ _ _ _ _=js at h;split at h<;>try (cases h; done)
 rename_i σ0 h0;split at h<;>try (cases h; done)
 rename_i r0 σ1 h1;cases hd:zE3 js
 ·rw[hd]at h; cases h
 ·rw[hd]at h;cases h;obtain⟨h2,h3⟩:=hR _ _ _ _ _ h1;exact⟨h2,zA4 h3 js (zDi hd) (zEw h0) zH6 ⟨rfl,rfl⟩⟩
def zUH (R:Run):FuncId→List A→Option A:=fun f xs=>match R f (xs.map (vw jW (qW []))) []with
 | some (r,[])=>bif r.bnd 0 then some r else none
 | _=>none
def zT3:AObj→Bool
 | .rsv=>true
 | _=>false
def zV7 (R:Run):FuncId→List A→Nat→Option (A×St):=fun f xs n=>match R f (xs.map (vw jW (qW []))) []with
 | some (r,σ1)=>bif σ1.any zT3 then none else some (ren [] n r,σ1.map (zBZ [] n))
 | none=>none
theorem zUt {R:Run}(hR:zAu P R):zFt P (zUH R,zV7 R):=by
 refine⟨fun f xs r h=>?_,fun f xs n r own h=>?_⟩
 ·simp only[zUH]at h;split at h<;>try (cases h; done)
  rename_i r0 h1;cases hb:r0.bnd 0
  ·rw[hb]at h; cases h
  ·rw[hb]at h;cases h;obtain⟨h2,h3⟩:=hR _ _ _ _ _ h1;refine⟨h2,fun τ=>?_⟩;refine zA4 h3 [] (by simp) trivial zH6 ⟨?_,by simp[yB]⟩;simp only[ren,zZR r hb]
 ·simp only[zV7]at h;split at h<;>try (cases h; done)
  rename_i r0 σ1 h1;cases hb : σ1.any zT3
  ·rw[hb]at h;cases h;obtain⟨h2,h3⟩:=hR _ _ _ _ _ h1;refine⟨h2,fun o ho=>?_,fun τ hl=>?_⟩
   ·obtain⟨o',ho',rfl⟩:=List.mem_map.1 ho;rw[List.any_eq_false]at hb;have:=hb o' ho';cases o'<;>simp[zBZ,vwO,zT3]at this ⊢
   ·subst hl;exact zA4 h3 [] (by simp) trivial zH6 ⟨rfl,by simp[yB]⟩
  ·rw[hb]at h; cases h
def evG (C:Run)(g:KG)(l:List (Nat×A)) (σ : St):Option (List (Nat×A)×St):=match g.guard with
 | none=>(match evO C g.op (lkB l) σ with
  | some (r,σ')=>some (zM1 g.op.dst r l,σ')
  | none=>none)
 | some (s,want)=>match lkB l s with
  | .lit (.bool b)=>bif b==want then (match evO C g.op (lkB l) σ with
   | some (r,σ')=>some (zM1 g.op.dst r l,σ')
   | none=>none) else some (zM1 g.op.dst (.lit undef) l,σ)
  | .lit (.tuple _)=>some (zM1 g.op.dst (.lit undef) l,σ)
  | _=>none
def zQE (C:Run):List KG→List (Nat×A)→St→Option (List (Nat×A)×St)
 | [],l,σ=>some (l,σ)
 | g::gs,l,σ=>match evG C g l σ with
  | some (l',σ')=>zQE C gs l' σ'
  | none=>none
def qAH (C:Run)(C0:Cl0)(f:Nat)(g:KG)(l:List (Nat×A)) (σ : St):Option (List (Nat×A)×St):=bif zXU f g.op (lkB l) then (match g.guard with
 | none=>(match zRj C C0 f g.op (lkB l) σ with
  | some (r,σ')=>some (zM1 g.op.dst r l,σ')
  | none=>none)
 | some (s,want)=>match lkB l s with
  | .lit (.bool b)=>bif b==want then (match zRj C C0 f g.op (lkB l) σ with
   | some (r,σ')=>some (zM1 g.op.dst r l,σ')
   | none=>none) else some (zM1 g.op.dst (.lit undef) l,σ)
  | .lit (.tuple _)=>some (zM1 g.op.dst (.lit undef) l,σ)
  | _=>none) else none
def zWK (C:Run)(C0:Cl0):List (Nat×Nat×KG)→List (Nat×A)→St→Option (List (Nat×A)×St)
 | [],l,σ=>some (l,σ)
 | x::gs,l,σ=>match qAH C C0 x.2.1 x.2.2 l σ with
  | some (l',σ')=>zWK C C0 gs l' σ'
  | none=>none
abbrev Res:=Option (Ex×List (Nat×A)×St)
def zQV (f:List (Nat×A)→St→Res):Nat→List (Nat×A)→St→Res
 | 0,_,_=>none
 | n+1,l,σ=>match f l σ with
  | some (.norm,l',σ')=>zQV f n l' σ'
  | r=>r
def qBT:List (Nat×Nat×KG)→Nat
 | []=>0
 | x::l=>match x.2.2.op with
  | .alr _ q _=>max (q+1) (qBT l)
  | _=>qBT l
def qIS:K→Nat
 | .dops l=>qBT l
 | _=>0
def qHu:K→Bool
 | .wk _=>true
 | _=>false
def zYK:List (Nat×A)→List Nat→List Nat
 | [],acc=>acc
 | p::l,acc=>zYK l (bif zPG p.1 acc then acc else p.1::acc)
def zMO (n0:Nat) (σ : St)(i:Nat):List AObj→List Nat
 | []=>[]
 | o::os=>bif (match o with | .row ..=>Nat.blt i n0 | _=>true) then i::zMO n0 σ (i+1) os else zMO n0 σ (i+1) os
def zEL:Nat→List Nat→Bool
 | 0,_=>true
 | _+1,[]=>false
 | n+1,l=>go 0 (n+1) l
where go:Nat→Nat→List Nat→Bool
 | _,0,_=>true
 | _,_+1,[]=>false
 | i,n+1,x::l=>Nat.beq x i&&go (i+1) n l
theorem zLi:∀{n i:Nat} {l:List Nat},zEL.go i n l=true→∀j,j<n→l[j]?=some (i+j)
 | 0,i,l,_,j,hj=>by omega
 | n+1,i,[],h,j,hj=>by simp[zEL.go]at h
 | n+1,i,x::l,h,j,hj=>by
  simp only[zEL.go,Bool.and_eq_true]at h;have hx:=Nat.eq_of_beq_eq_true h.1;cases j with
  | zero=>simp[hx]
  | succ j=>rw[List.getElem?_cons_succ,zLi h.2 j (by omega)]; simp; omega
theorem zHh {n:Nat}{l:List Nat}(h:zEL n l=true):∀j,j<n→l[j]?=some j:=by
 cases n with
 | zero=>intro j hj; omega
 | succ n =>
  cases l with
  | nil=>simp[zEL]at h
  | cons x l=>intro j hj; simpa using zLi (i:=0) h j hj
def qBr (n0:Nat)(l:List (Nat×A)) (σ : St):Option (List (Nat×A)×St) :=
 let ks:=zMO n0 σ 0 σ
 bif zE3 ks&&zEL n0 ks then (match zSV σ (seen σ (qW ks) 8) (qW ks) ks with
  | some σ'=>some ((zYK l []).map fun t=>(t,vw (seen σ (qW ks) 8) (qW ks) (lkB l t)),σ')
  | none=>none) else none
def evK (C:Run)(C0:Cl0)(n0 lf:Nat):K→List (Nat×A)→St→Res
 | .skip,l,σ=>some (.norm,l,σ)
 | .seq a b,l,σ=>match evK C C0 n0 lf a l σ with
  | some (.norm,l',σ')=>evK C C0 n0 lf b l' σ'
  | r=>r
 | .cond c a b,l,σ=>match ev (lkB l) c with
  | .lit (.bool t)=>bif t then evK C C0 n0 lf a l σ else evK C C0 n0 lf b l σ
  | _=>none
 | .block id b,l,σ=>match evK C C0 n0 lf b l σ with
  | some (.exit i,l',σ')=>bif Nat.beq i id then some (.norm,l',σ') else some (.exit i,l',σ')
  | r=>r
 | .loop b,l,σ=>zQV (evK C C0 n0 lf b) lf l σ
 | .exit id,l,σ=>some (.exit id,l,σ)
 | .ret,l,σ=>some (.ret,l,σ)
 | .ops gs,l,σ=>match zQE C gs l σ with
  | some (l',σ')=>some (.norm,l',σ')
  | none=>none
 | .dops xs,l,σ=>match zWK C C0 xs l σ with
  | some (l',σ')=>some (.norm,l',σ')
  | none=>none
 | .rng ..,_,_=>none
 | .wk b,l,σ=>bif qHu b then (match qBr n0 l σ with
  | some (l',σ')=>evK C C0 n0 lf b l' σ'
  | none=>none) else evK C C0 n0 lf b l (σ++List.replicate (qIS b - σ.length) .rsv)
theorem zTg {C:Run}(hC:zAu P C){g:KG}{l l':List (Nat×A)} {σ σ':St}(h:evG C g l σ = some (l',σ')){Qp:Value→Env→St→Prop}{K:Env→St→Prop}(hK:K (jB l') σ'):wpG P Qp K g (jB l) σ:=by
 unfold evG at h;unfold wpG;rw[zIA]at h;split at h
 ·rename_i hg;split at h<;>try (cases h; done)
  rename_i r τ h1;cases h;simp only[hg];exact zIk hC h1 (by rw[←zDA]; exact hK)
 ·rename_i s want hg;simp only[hg];split at h
  ·rename_i b hb;rw[hb];simp only;cases hw:b==want
   ·rw[hw]at h;cases h;exact⟨fun e=>(by cases e),fun _=>(by rw[zFv,←zDA]; exact hK)⟩
   ·rw[hw]at h;simp only[cond_true]at h;split at h<;>try (cases h; done)
    rename_i r τ h1;cases h;exact⟨fun _=>zIk hC h1 (by rw[←zDA]; exact hK),fun e=>(by cases e)⟩
  ·rename_i hb;cases h;rw[hb];simp only[zFv,←zDA];exact hK
  ·cases h
theorem zIP {C:Run}(hC:zAu P C){Qp:Value→Env→St→Prop}{K:Env→St→Prop}:∀{gs:List KG} {l l':List (Nat×A)} {σ σ':St},zQE C gs l σ = some (l',σ')→K (jB l') σ'→zD5 P Qp K gs (jB l) σ
 | [],l,l',σ,σ',h,hK=>by cases h; exact hK
 | g::gs,l,l',σ,σ',h,hK=>by
  simp only[zQE]at h;split at h<;>try (cases h; done)
  rename_i l1 σ1 h1;exact zTg hC h1 (zIP hC h hK)
theorem zPl {C:Run}(hC:zAu P C){C0:Cl0}(hC0:zFt P C0){f:Nat}{g:KG}{l l':List (Nat×A)} {σ σ':St}(h:qAH C C0 f g l σ = some (l',σ')){K:Env→St→Prop}(hK:K (jB l') σ') :
 zAr f g.op (jB l)∧zPP P f K g (jB l) σ:=by
 unfold qAH at h;unfold zPP;rw[zIA]at h;cases ht:zXU f g.op (jB l)
 ·rw[ht]at h; cases h
 ·refine⟨zPp ht,?_⟩;rw[ht]at h;simp only[cond_true]at h;split at h
  ·rename_i hg;split at h<;>try (cases h; done)
   rename_i r τ h1;cases h;simp only[hg];exact zJb hC hC0 h1 (by rw[←zDA]; exact hK)
  ·rename_i s want hg;simp only[hg];split at h
   ·rename_i b hb;rw[hb];simp only;cases hw:b==want
    ·rw[hw]at h;cases h;exact⟨fun e=>(by cases e),fun _=>(by rw[zFv,←zDA]; exact hK)⟩
    ·rw[hw]at h;simp only[cond_true]at h;split at h<;>try (cases h; done)
     rename_i r τ h1;cases h;exact⟨fun _=>zJb hC hC0 h1 (by rw[←zDA]; exact hK),fun e=>(by cases e)⟩
   ·rename_i hb;cases h;rw[hb];simp only[zFv,←zDA];exact hK
   ·cases h
theorem zKq {C:Run}(hC:zAu P C){C0:Cl0}(hC0:zFt P C0){K:Env→St→Prop}:∀{gs:List (Nat×Nat×KG)} {l l':List (Nat×A)} {σ σ':St},zWK C C0 gs l σ = some (l',σ')→K (jB l') σ'→wpD P K gs (jB l) σ
 | [],l,l',σ,σ',h,hK=>by cases h; exact hK
 | g::gs,l,l',σ,σ',h,hK=>by
  simp only[zWK]at h;split at h<;>try (cases h; done)
  rename_i l1 σ1 h1;exact zPl hC hC0 h1 (zKq hC hC0 h hK)
theorem zTK {env:Env} {σ : St}:zBY n0 env (σ++[AObj.rsv]) env σ:=by
 intro H0 L0 w0 H L w N tmps h0 h1 h2;have hll:=LLe.append L [(⟨none,0,0,false⟩:LI)];refine⟨H,L++[(⟨none,0,0,false⟩:LI)],h1.trans ?_,h2.mono (HLe.refl _) hll⟩;have hs:=h1.st;refine⟨⟨hs.pers,by simp[hs.len],fun i l o hL hσ=>?_,fun i j x y b hi hj hx hy=>?_,fun i x b hi hx=>?_⟩,Step.refl _ _ _,hll,fun b ⟨i,x,hi,hx⟩=>?_⟩
 ·rcases jH hL with hL' | ⟨rfl,rfl⟩
  ·have hi:i<L.length:=(List.getElem?_eq_some_iff.1 hL').1;rw[List.getElem?_append_left (by rw[←hs.len]; exact hi)]at hσ;exact(hs.obj i l o hL' hσ).carry (fun _ _=>rfl) (HLe.refl _) hll (fun _ _ _=>rfl)
  ·rw[hs.len]at hσ;rw[List.getElem?_append_right (Nat.le_refl _)]at hσ;simp only[Nat.sub_self,List.getElem?_cons_zero,Option.some.injEq]at hσ;subst hσ;exact⟨rfl,rfl⟩
 ·rcases jH hi with hi' | ⟨rfl,rfl⟩
  ·rcases jH hj with hj' | ⟨rfl,rfl⟩
   ·exact hs.inj i j x y b hi' hj' hx hy
   ·cases hy
  ·cases hx
 ·rcases jH hi with hi' | ⟨rfl,rfl⟩
  ·exact hs.lt i x b hi' hx
  ·cases hx
 ·rcases jH hi with hi' | ⟨rfl,rfl⟩
  ·exact .inl ⟨i,x,hi',hx⟩
  ·cases hx
theorem zAa {env:Env}:∀(n:Nat) {σ : St},zBY n0 env (σ++List.replicate n AObj.rsv) env σ
 | 0,σ=>by simpa using zBY.refl n0 env σ
 | n+1,σ=>by
  have:=(zTK (n0:=n0) (env:=env) (σ:=σ)).trans (zAa n);rw[List.replicate_succ]
  simpa using this
theorem zPu {l l':List (Nat×A)} {σ σ':St}(h:qBr n0 l σ = some (l',σ')):zBY n0 (jB l') σ' (jB l) σ:=by
 simp only[qBr]at h;generalize zMO n0 σ 0 σ = ks at h;cases hb:zE3 ks&&zEL n0 ks
 ·rw[hb]at h; cases h
 ·rw[hb]at h;simp only[Bool.and_eq_true]at hb;simp only[cond_true]at h;split at h<;>try (cases h; done)
  rename_i σ1 h1;cases h;refine zBY.sel ks 8 _ (zHh hb.2) (zDi hb.1) (zEw h1) fun p hp=>?_
  obtain⟨t,_,rfl⟩:=List.mem_map.1 hp;left;simp only[zIA]
theorem zAF {C:Run}(hC:zAu P C){C0:Cl0}(hC0:zFt P C0){lf:Nat}:∀(k:K) {l l':List (Nat×A)} {σ σ':St} {x:Ex} {Q:Ex→Env→St→Prop},evK C C0 n0 lf k l σ = some (x,l',σ')→Q x (jB l') σ'→wpK P n0 k Q (jB l) σ
 | .skip,l,l',σ,σ',x,Q,h,hQ=>by cases h; exact hQ
 | .seq a b,l,l',σ,σ',x,Q,h,hQ=>by
  simp only[evK]at h;simp only[wpK];split at h
  ·rename_i l1 σ1 h1;exact zAF hC hC0 a h1 (zAF hC hC0 b h hQ)
  ·rename_i r hr;refine zAF hC hC0 a h ?_;cases x<;>first | exact(hr _ _ h).elim | exact hQ
 | .cond c a b,l,l',σ,σ',x,Q,h,hQ=>by
  simp only[evK,zIA]at h;simp only[wpK];split at h<;>try (cases h; done)
  rename_i t ht;rw[ht];simp only;cases t
  ·exact⟨fun e=>(by cases e),fun _=>zAF hC hC0 b h hQ⟩
  ·exact⟨fun _=>zAF hC hC0 a h hQ,fun e=>(by cases e)⟩
 | .block id b,l,l',σ,σ',x,Q,h,hQ=>by
  simp only[evK]at h;simp only[wpK];split at h
  ·rename_i i l1 σ1 h1;refine zAF hC hC0 b h1 ?_;simp only[blk];cases hb:Nat.beq i id
   ·rw[hb]at h;cases h;have:i≠id:=fun e=>by subst e; simp at hb
    rw[if_neg this];exact hQ
   ·rw[hb]at h;cases h;rw[if_pos (Nat.eq_of_beq_eq_true hb)];exact hQ
  ·rename_i r hr;refine zAF hC hC0 b h ?_;cases x<;>first | exact(hr _ _ _ h).elim | exact hQ
 | .loop b,l,l',σ,σ',x,Q,h,hQ=>by
  simp only[evK]at h;simp only[wpK];refine⟨fun n env τ=>∃l0,env=jB l0∧zQV (evK C C0 n0 lf b) n l0 τ = some (x,l',σ'),⟨lf,Wk.here ⟨l,rfl,h⟩⟩,?_⟩;rintro n env τ ⟨l0,rfl,h0⟩;cases n with
  | zero=>cases h0
  | succ n =>
   simp only[zQV]at h0;split at h0
   ·rename_i l1 σ1 h1;refine zAF hC hC0 b h1 ?_;exact⟨n,Nat.lt_succ_self n,Wk.here ⟨l1,rfl,h0⟩⟩
   ·rename_i r hr;refine zAF hC hC0 b h0 ?_;cases x<;>first | exact(hr _ _ h0).elim | exact hQ
 | .exit id,l,l',σ,σ',x,Q,h,hQ=>by cases h; exact hQ
 | .ret,l,l',σ,σ',x,Q,h,hQ=>by cases h; exact hQ
 | .ops gs,l,l',σ,σ',x,Q,h,hQ=>by
  simp only[evK]at h;simp only[wpK];split at h<;>try (cases h; done)
  rename_i l1 σ1 h1;cases h;exact zIP hC h1 hQ
 | .dops gs,l,l',σ,σ',x,Q,h,hQ=>by
  simp only[evK]at h;simp only[wpK];split at h<;>try (cases h; done)
  rename_i l1 σ1 h1;cases h;exact zKq hC hC0 h1 hQ
 | .rng ..,l,l',σ,σ',x,Q,h,hQ=>by simp[evK]at h
 | .wk b,l,l',σ,σ',x,Q,h,hQ=>by
  simp only[evK]at h;simp only[wpK];cases hb:qHu b
  ·rw[hb]at h;exact Wk.by (zAa _) (Wk.here (zAF hC hC0 b h hQ))
  ·rw[hb]at h;simp only[cond_true]at h;split at h<;>try (cases h; done)
   rename_i l1 σ1 h1;exact Wk.by (zPu h1) (Wk.here (zAF hC hC0 b h hQ))
structure Entry where
 k:K
 rs:List RS
 frz:Bool
def zJE:Nat→List A→List (Nat×A)
 | _,[]=>[]
 | i,a::xs=>(i,a)::zJE (i+1) xs
theorem zL2:∀{xs:List A} {i t:Nat},jB (zJE i xs) t=.any∨(i≤t∧xs[t-i]?=some (jB (zJE i xs) t))
 | [],i,t=>.inl rfl
 | a::xs,i,t=>by
  simp only[zJE,jB];split
  ·rename_i h; subst h; exact .inr ⟨Nat.le_refl _,by simp⟩
  ·rcases zL2 (xs:=xs) (i:=i+1) (t:=t)with h | ⟨h1,h2⟩
   ·exact .inl h
   ·refine .inr ⟨by omega,?_⟩;have:t-i=(t-(i+1))+1:=by omega
    rw[this]
    simpa using h2
def zZ7:Ex→Bool
 | .ret | .norm=>true
 | _=>false
def zII (frz:Bool)(n0:Nat)(r:A) (σ : St):Option (A×St) :=
 let k0:=List.range n0;let k1:=zEP (fun _ _=>true) σ 1000 (lvO (.box ((σ.take n0).map fun o=>.agg ((lvO o).map fun l=>.map l)))) k0;let ks:=zEP (fun _ o=>bif frz then (match o with | .row ..=>false | _=>true) else true) σ 1000 (lvA r) k1
 bif zE3 ks&&zEL n0 ks then (match zSV σ (seen σ (qW ks) 8) (qW ks) ks with
  | some σ1=>some (vw (seen σ (qW ks) 8) (qW ks) r,σ1)
  | none=>none) else none
theorem zN7 {frz:Bool}{r r1:A} {σ σ1:St}(h:zII frz n0 r σ = some (r1,σ1)):zG0 n0 r1 σ1 (.ret r) σ:=by
 simp only[zII]at h;generalize zEP _ σ 1000 (lvA r) _=ks at h;cases hb:zE3 ks&&zEL n0 ks
 ·rw[hb]at h; cases h
 ·rw[hb]at h;simp only[Bool.and_eq_true]at hb;simp only[cond_true]at h;split at h<;>try (cases h; done)
  rename_i σ2 h1;cases h;exact⟨r,ks,8,rfl,zHh hb.2,zDi hb.1,zEw h1,.inl rfl⟩
def zDU (f:Nat):List (Nat×Entry)→Option Entry
 | []=>none
 | p::l=>bif Nat.beq f p.1 then some p.2 else zDU f l
def zTb (T:List (Nat×Entry))(orc:Run)(lf:Nat):Nat→Run
 | 0=>fun _ _ _=>none
 | n+1=>fun f xs σ=>match zDU f T with
  | none=>orc f xs σ
  | some e=>match evK (zVF (zTb T orc lf n)) (zUH (zTb T orc lf n),zV7 (zTb T orc lf n)) σ.length lf e.k (zJE 0 xs) σ with
   | some (x,l,σ')=>bif zZ7 x then (match zUr (lkB l) σ' e.rs with
    | some r=>zII e.frz σ.length r σ'
    | none=>none) else none
   | none=>none
def jO (P:Program)(f:FuncId)(e:Entry):Prop :=
 zC P f=true∧∃fn c hint,P.funcs[f]?=some fn∧fn.body=some c∧qJ P fn.ntmps hint c=some e.k.erase∧zBL P fn.results.toList=some e.rs
theorem zM0 {hint:Nat→Option (List (Nat×Nat))}{f:FuncId}{fn:Func}{c:Code}{k:K}{rs:List RS}(hf:P.funcs[f]?=some fn)(hb:fn.body=some c)(hc:qJ P fn.ntmps hint c=some k.erase)(hr:zBL P fn.results.toList=some rs)
 {args:List A} {σ : St}{Q:Out→St→Prop}(h:wpK P σ.length k (fin rs Q) (jB (zJE 0 args)) σ):zAd P f args σ Q:=by
 refine zDh (k:=.wk k) hf hb hc hr ?_;unfold wpF;simp only[wpK];refine Wk.by (env':=jB (zJE 0 args)) (σ':=σ) ?_ (Wk.here h);intro H0 L0 w0 H L w N tmps _ h1 h2;refine⟨H,L,h1,h2.1,fun t=>?_⟩;rcases zL2 (xs:=args) (i:=0) (t:=t)with e | ⟨_,e⟩
 ·rw[e]; simp[Rel]
 ·have:=h2.2 t;simp only[zCo,List.getD]at this;rw[Nat.sub_zero]at e;rw[e]at this;exact this
theorem zRz {T:List (Nat×Entry)}{orc:Run}{lf:Nat}(hT:∀f e,zDU f T=some e→jO P f e)(hO:zAu P orc):∀n,zAu P (zTb T orc lf n)
 | 0=>fun f xs σ r σ' h=>(by cases h)
 | n+1=>fun f xs σ r σ' h=>by
  have ih:=zRz (lf:=lf) hT hO n;simp only[zTb]at h;split at h
  ·exact hO _ _ _ _ _ h
  ·rename_i e he;obtain⟨hcal,fn,c,hint,h1,h2,h3,h4⟩:=hT _ _ he;refine⟨hcal,?_⟩;split at h<;>try (cases h; done)
   rename_i x l σ1 h5;cases hx:zZ7 x
   ·rw[hx]at h; cases h
   ·rw[hx]at h;simp only[cond_true]at h;split at h<;>try (cases h; done)
    rename_i r0 h6;refine zGy (zM0 h1 h2 h3 h4 (zAF (zVx ih) (zUt ih) e.k h5 ?_));have hq:=zN7 h;rw[zIA]at h6;cases x<;>first | (cases hx; done) | (simp only[fin,zJk,h6]; exact hq)
end
end Go.Abs
namespace Go.Proofs.YthglhccibdlccaaGreatDoor
open Go.Abs
theorem zFM {x y:Id}:zAv x y=true↔x.a<y.a∨(x.a=y.a∧(x.b<y.b∨(x.b=y.b∧x.c<y.c))):=by
 unfold zAv;split
 ·simp only[decide_eq_true_eq]; omega
 ·split
  ·simp only[decide_eq_true_eq]; omega
  ·simp only[decide_eq_true_eq]; omega
theorem zFP {x y:Id}:zAv x y=false↔¬(x.a<y.a∨(x.a=y.a∧(x.b<y.b∨(x.b=y.b∧x.c<y.c)))):=by rw[←zFM]; simp
theorem zEz (x:Id):zAv x x=false:=by rw[zFP]; omega
theorem zJd {x y z:Id}(h:zAv x y=true)(k:zAv y z=true):zAv x z=true:=by rw[zFM]at *; omega
theorem zEy {x y:Id}(h:zAv x y=false)(k:zAv y x=false):x=y:=by
 rw[zFP]at *
 rw[Id.eq_iff]; omega
theorem zPv {x y:Id}(h:zAv x y=true):zAv y x=false:=by rw[zFM]at h; rw[zFP]; omega
theorem zF0 {x y:Id}:zEY x y<0↔zAv x y=true:=by
 rw[zFM];simp only[zEY,orI,zBB]
 repeat' split
 all_goals omega
theorem zFg:Ord zEY where
 irrefl x:=by rw[zF0,zEz]; simp
 trans x y z h k:=by rw[zF0]at *; exact zJd h k
 ntrans x y z h k:=by
  rw[zF0,Bool.not_eq_true]at *
  rw[zFP]at *; omega
 anti x y h k:=by
  rw[zF0,Bool.not_eq_true]at *
  exact zEy h k
def SS (l:List Id):Prop:=l.Pairwise fun x y=>zAv x y=true
theorem zEn {x y:Id}:∀{l:List Id},y∈zBR l x↔y∈l∨y=x
 | []=>by simp[zBR]
 | z::l=>by
  simp only[zBR];split
  ·simp only[List.mem_cons,zEn (l:=l),or_assoc]
  ·split
   ·rename_i h; subst h;simp only[List.mem_cons];constructor
    ·exact fun h=>.inl h
    ·rintro(h | h)
     ·exact h
     ·exact .inl h
   ·simp only[List.mem_cons];constructor
    ·rintro(h | h)
     ·exact .inr h
     ·exact .inl h
    ·rintro(h | h)
     ·exact .inr h
     ·exact .inl h
theorem zMK {x:Id}:∀{l:List Id},SS l→SS (zBR l x)
 | [],_=>by simp[zBR,SS]
 | z::l,h=>by
  have h':=List.pairwise_cons.1 h;simp only[zBR];split
  ·rename_i hz;refine List.pairwise_cons.2 ⟨fun y hy=>?_,zMK h'.2⟩;rcases zEn.1 hy with hy | rfl
   ·exact h'.1 y hy
   ·exact hz
  ·rename_i hz;split
   ·exact h
   ·rename_i hne;have hxz:zAv x z=true:=by
     cases hh:zAv x z with
     | true=>rfl
     | false=>exact(hne (zEy (by simpa using hz) hh)).elim
    refine List.pairwise_cons.2 ⟨fun y hy=>?_,h⟩;rcases List.mem_cons.1 hy with rfl | hy
    ·exact hxz
    ·exact zJd hxz (h'.1 y hy)
theorem zOu:∀{l acc:List Id},SS acc→SS (l.foldl zBR acc)
 | [],_,h=>h
 | _::l,_,h=>zOu (l:=l) (zMK h)
theorem zL5 {y:Id}:∀{l acc:List Id},y∈l.foldl zBR acc↔y∈acc∨y∈l
 | [],_=>by simp
 | x::l,acc=>by simp only[List.foldl_cons,zL5 (l:=l),zEn,List.mem_cons,or_assoc]
theorem SS.unique:∀{l l':List Id},SS l→SS l'→(∀x,x∈l↔x∈l')→l=l'
 | [],[],_,_,_=>rfl
 | [],y::l',_,_,h=>by have:=(h y).2 (List.mem_cons_self ..); simp at this
 | x::l,[],_,_,h=>by have:=(h x).1 (List.mem_cons_self ..); simp at this
 | x::l,y::l',h1,h2,h=>by
  have p1:=List.pairwise_cons.1 h1;have p2:=List.pairwise_cons.1 h2;have hxy:x=y:=by
   rcases List.mem_cons.1 ((h x).1 (List.mem_cons_self ..))with e | e
   ·exact e
   ·rcases List.mem_cons.1 ((h y).2 (List.mem_cons_self ..))with e' | e'
    ·exact e'.symm
    ·have a:=p2.1 x e;have b:=p1.1 y e';rw[zPv b]at a; cases a
  subst hxy
  congr 1
  refine SS.unique p1.2 p2.2 fun z=>?_
  constructor
  ·intro hz;rcases List.mem_cons.1 ((h z).1 (List.mem_cons_of_mem _ hz))with e | e
   ·have:=p1.1 z hz; subst e; rw[zEz]at this; cases this
   ·exact e
  ·intro hz;rcases List.mem_cons.1 ((h z).2 (List.mem_cons_of_mem _ hz))with e | e
   ·have:=p2.1 z hz; subst e; rw[zEz]at this; cases this
   ·exact e
theorem zBA {α : Type}{motive:List α→Prop}(nil:motive [])(snoc:∀l y,motive l→motive (l++[y]))(l:List α):motive l:=by
 have h:∀r:List α,motive r.reverse:=fun r=>by
  induction r with
  | nil=>exact nil
  | cons a r ih=>rw[List.reverse_cons]; exact snoc _ _ ih
 have:=h l.reverse
 rwa [List.reverse_reverse]at this
def zGh (acc:List Id)(y:Id):List Id:=if acc.getLast?=some y then acc else acc++[y]
def zAp (l:List Id):List Id:=l.foldl zGh []
theorem zC9 (l:List Id)(y:Id):zAp (l++[y])=zGh (zAp l) y:=by simp[zAp,List.foldl_append]
theorem zKp:∀(l:List Id),(zAp l).getLast?=l.getLast?:=by
 intro l;induction l using zBA with
 | nil=>rfl
 | snoc l y ih =>
  rw[zC9,zGh];split
  ·rename_i h; rw[h]; simp
  ·simp
theorem zI4 {x:Id}(l:List Id):x∈zAp l↔x∈l:=by
 induction l using zBA with
 | nil=>simp[zAp]
 | snoc l y ih =>
  rw[zC9,zGh];split
  ·rename_i h;have hy:y∈zAp l:=List.mem_of_getLast? h;simp only[ih,List.mem_append,List.mem_singleton];constructor
   ·exact .inl
   ·rintro(h | rfl)
    ·exact h
    ·exact ih.1 hy |> fun h=>h
  ·simp[ih]
theorem zWq (l:List Id)(h:l.Pairwise fun x y=>zAv y x=false):SS (zAp l):=by
 induction l using zBA with
 | nil=>simp[zAp,SS]
 | snoc l y ih =>
  rw[List.pairwise_append]at h;have hi:=ih h.1;rw[zC9,zGh];split
  ·exact hi
  ·rename_i hne;unfold SS;rw[List.pairwise_append];refine⟨hi,by simp,fun z hz y' hy'=>?_⟩;simp only[List.mem_singleton]at hy';subst hy';have hzl:=(zI4 l).1 hz;have h1:=h.2.2 z hzl y' (by simp);cases hh:zAv z y' with
   | true=>rfl
   | false =>
    exfalso;have e:=zEy hh h1;subst e;rw[zKp]at hne;have hl:l≠[]:=fun e=>by rw[e]at hzl; simp at hzl
    obtain⟨w,hw⟩:∃w,l.getLast?=some w:=⟨_,List.getLast?_eq_some_getLast hl⟩;have hwl:w∈l:=List.mem_of_getLast? hw;have h2:=h.2.2 w hwl z (by simp);have hwz:w=z∨zAv w z=false:=by
     obtain⟨l',rfl⟩:∃l',l=l'++[w]:=List.getLast?_eq_some_iff.1 hw;rcases List.mem_append.1 hzl with hz' | hz'
     ·have:=h.1;rw[List.pairwise_append]at this;exact .inr (this.2.2 z hz' w (by simp))
     ·exact .inl (List.mem_singleton.1 hz').symm
    have:w=z:=by
     rcases hwz with e | e
     ·exact e
     ·exact zEy e h2
    subst this;exact hne hw
def zBj (l:List Id):List Id:=zAp (zDd zEY l)
theorem zGr (l:List Id):(zDd zEY l).Perm l:=List.mergeSort_perm l _
theorem zMp (l:List Id):(zDd zEY l).Pairwise fun x y=>zAv y x=false:=by
 have h:=List.pairwise_mergeSort (le:=fun x y=>!decide (zEY y x<0)) (fun a b c h1 h2=>by simp only[Bool.not_eq_true',decide_eq_false_iff_not]at *; exact zFg.ntrans c b a h2 h1)
  (fun a b=>by
   simp only[Bool.or_eq_true,Bool.not_eq_true',decide_eq_false_iff_not];by_cases h:zEY b a<0
   ·exact .inr fun h'=>zFg.irrefl _ (zFg.trans _ _ _ h h')
   ·exact .inl h) l
 exact h.imp fun h=>by simp only[Bool.not_eq_true',decide_eq_false_iff_not,zF0,Bool.not_eq_true]at h;exact h
theorem zEo {l:List Id}{x:Id}:x∈zBj l↔x∈l:=by rw[zBj,zI4,(zGr l).mem_iff]
theorem zEv (l:List Id):SS (zBj l):=zWq _ (zMp l)
theorem zFK (l:List Id):zBj l=l.foldl zBR [] :=
 SS.unique (zEv l) (zOu (by simp[SS])) fun x=>by rw[zEo,zL5]; simp
end Go.Proofs.YthglhccibdlccaaGreatDoor
