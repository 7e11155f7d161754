/-
  Regions that draw their order: one walk in the text's order serves every order.
-/
import Derived.Test.YtdnelmeboihpkaaGreatDoorX5
set_option linter.unusedVariables false
set_option maxHeartbeats 8000000
set_option maxRecDepth 100000
set_option linter.unusedSimpArgs false
namespace Go.Abs
def zAj (σ τ : St):Prop:=∀(l:Nat) cs,σ[l]?=some (AObj.box cs)→τ[l]?=some (AObj.box cs)
theorem zAj.refl (σ : St):zAj σ σ:=fun _ _ h=>h
theorem zAj.trans {σ τ υ : St}(h:zAj σ τ)(k:zAj τ υ):zAj σ υ:=fun l cs e=>k l cs (h l cs e)
def zBi (σ τ : St):Prop:=∀(l:Nat) o,σ[l]?=some o→o≠AObj.rsv→τ[l]?=some o
theorem zBi.refl (σ : St):zBi σ σ:=fun _ _ h _=>h
theorem zBi.trans {σ τ υ : St}(h:zBi σ τ)(k:zBi τ υ):zBi σ υ:=fun l o e hn=>k l o (h l o e hn) hn
theorem zBi.keeps {σ τ : St}(h:zBi σ τ):zAj σ τ:=fun l cs e=>h l _ e (by simp)
def KA (c:Nat) (σ τ : St):Prop:=∀(l:Nat) cs,c≤l→σ[l]?=some (AObj.box cs)→τ[l]?=some (AObj.box cs)
theorem KA.refl (c:Nat) (σ : St):KA c σ σ:=fun _ _ _ h=>h
def zNF (σ τ : St):Prop:=∀(l:Nat) fz e s n cs,σ[l]?=some (AObj.row fz e s n cs)→∃fz' cs',τ[l]?=some (AObj.row fz' e s n cs')
theorem zNF.refl (σ : St):zNF σ σ:=fun _ fz _ _ _ cs h=>⟨fz,cs,h⟩
def KE (c:Nat) (σ τ : St):Prop:=KA c σ τ∧zNF σ τ
theorem KE.refl (c:Nat) (σ : St):KE c σ σ:=⟨KA.refl _ _,zNF.refl _⟩
theorem zAj.append (σ τ : St):zAj σ (σ++τ):=fun l cs h=>by rw[jAd (jA1.1 h).1]; exact h
def zAB:St→St
 | []=>[]
 | .box cs::σ=>.box cs::zAB σ
 | _::σ=>.dead::zAB σ
def zJ0 (f:Nat)(k:KOp) (σ τ : St):Prop:=zAA f k=true∨(f=1∧zAj σ τ)∨τ = σ
def zUh (σ : St)(e:TypeId)(sz bytes m:Nat)(ys:List A)(r:A) (σ':St):A→Prop
 | .nil=>(m≤maxLen∧m*bytes≤140737488355328)∧r=.row σ.length m∧σ' = σ++[AObj.row false e sz m ys]
 | .row l n=>match σ[l]? with
  | some (.row fz e' s n' cs)=>(n=n'∧e'=e∧s=sz)∧(n+m≤maxLen∧(n+m)*bytes≤140737488355328)∧r=.row l (n+m)∧σ' = σ.set l (.row fz e sz (n+m) (cs++ys))
  | _=>False
 | .fsl n cs=>cs.length=n*sz∧((m=0∧r=.fsl n cs∧σ' = σ)∨(m≠0∧(n+m≤maxLen∧(n+m)*bytes≤140737488355328)∧r=.row σ.length (n+m)∧σ' = σ++[AObj.row false e sz (n+m) (cs++ys)]))
 | _=>False
def zIM (P:Program)(fv:A)(args:List A) (σ : St)(Q:Out→St→Prop):Prop:=match fv with
 | .clo g first cap=>zA P g=true∧yV P g (first++args++cap) σ Q
 | .lit (.func (.yield b) ⟨[]⟩ ⟨[]⟩)=>zCg P b args σ Q
 | _=>False
theorem zQI {σ : St}{m:MOp}{xs:List A}{r:A} {σ':St}(h:zV6 m xs σ = some (r,σ')){J:A→St→Prop}(hJ:J r σ'):zBf m xs J σ:=by
 unfold zV6 at h;split at h
 ·cases h; exact hJ
 ·split at h<;>try (cases h; done)
  rename_i h1 h2;split at h<;>try (cases h; done)
  rename_i hc;cases h;simp only[zBf,h1,h2];exact⟨hc,hJ⟩
 ·split at h<;>try (cases h; done)
  rename_i h1 h2;split at h<;>try (cases h; done)
  rename_i hc;cases h;simp only[zBf,h1,h2];exact⟨hc,hJ⟩
 ·split at h<;>try (cases h; done)
  rename_i h1 h2;split at h<;>try (cases h; done)
  rename_i hc;cases h;simp only[zBf,h1,h2];exact⟨hc,hJ⟩
 ·split at h<;>try (cases h; done)
  rename_i h1;split at h<;>try (cases h; done)
  rename_i hc;cases h;simp only[zBf,h1];exact⟨hc,hJ⟩
 ·split at h<;>try (cases h; done)
  rename_i hc;cases h;simp only[zBf];exact⟨hc,hJ⟩
 ·cases h;simp only[zBf];exact hJ
 ·split at h<;>try (cases h; done)
  rename_i h1;split at h<;>try (cases h; done)
  rename_i hc;cases h;simp only[zBf,h1];exact⟨hc,hJ⟩
 ·split at h<;>try (cases h; done)
  rename_i h1;split at h<;>try (cases h; done)
  rename_i hc;cases h;simp only[zBf,h1];exact⟨hc,hJ⟩
 ·cases h
noncomputable def eff (P:Program) (env:Env) (σ : St) (r:A) (σ':St):KOp→Prop
 | .call _ f args=>zIM P (ev env f) (args.map (ev env)) σ fun o τ=>o=.ret r∧τ = σ'
 | .bslice _ _ _ n zero parts=>σ' = σ∧match zB3 (zero.map qS) (parts.map fun(o,s,x)=>(o,s,ev env x))with
  | some cs=>r=.fsl n cs
  | none=>False
 | .brow _ e sz n zero parts=>(match zB3 (zero.map qS) (parts.map fun(o,s,x)=>(o,s,ev env x))with
  | some cs=>r=.row σ.length n∧σ' = σ++[AObj.row false e sz n cs]
  | none=>False)
 | .isz ..=>False
 | .shr ..=>False
 | .apq ..=>False
 | .pan ..=>False
 | .mop _ m xs=>zV6 m (xs.map (ev env)) σ = some (r,σ')
 | .alr _ q zs=>σ[q]?=some .rsv∧r=.ptr q 0∧σ' = σ.set q (AObj.box (zs.map qS))
 | .alloc _ zs=>r=.ptr σ.length 0∧σ' = σ++[AObj.box (zs.map qS)]
 | .box _ x=>match cellsOf (ev env x)with
  | some cs=>r=.ptr σ.length 0∧σ' = σ++[AObj.box cs]
  | none=>False
 | .st _ x v n=>match cellsOf (ev env v)with
  | some cs=>cs.length=n∧stA σ cs (ev env x)=some σ'∧r=.lit undef
  | none=>False
 | .app _ e sz bytes x y=>match zB0 σ sz (ev env y)with
  | some (m,ys)=>ys.length=m*sz∧zUh σ e sz bytes m ys r σ' (ev env x)
  | none=>False
 | k=>σ' = σ∧qX (zJ env σ k) fun r'=>r=r'
def zFc (P:Program) (σ : St)(d:Option Nat)(K:Env→Prop)(g:FuncId)(args:List A)(env:Env):Prop :=
 ∃r,(yV P g args σ fun o σ'=>o=.ret r∧σ' = σ)∧K (env.put d r)
def zIf (P:Program) (σ : St)(d:Option Nat)(K:Env→Prop)(g:FuncId)(args:List A)(env:Env):Prop :=
 ∃r,(∀τ,zAj σ τ→yV P g args τ fun o σ'=>o=.ret r∧σ' = τ)∧K (env.put d r)
def zIg (P:Program) (σ : St)(d:Option Nat)(K:Env→St→Prop)(g:FuncId)(args:List A)(env:Env):Prop :=
 ∃r σ',zAj σ σ'∧(yV P g args σ fun o τ=>o=.ret r∧τ = σ')∧K (env.put d r) σ'
def zPA (P:Program) (σ : St)(d:Option Nat)(K:Env→St→Prop)(g:FuncId)(args:List A)(env:Env):Prop :=
 ∃r own,(∀o∈own,o≠AObj.rsv)∧(∀τ : St,τ.length = σ.length→zBi σ τ→yV P g args τ fun o τ'=>o=.ret r∧τ' = τ++own)∧K (env.put d r) (σ++own)
def zJA (σ : St)(u:St→St):Prop:=(∀q:Nat,(u σ)[q]?=some AObj.rsv→σ[q]?=some AObj.rsv)∧∀(τ : St) (q:Nat) (o:AObj),τ.length = σ.length→zBi σ τ→σ[q]?=some AObj.rsv→u (τ.set q o)=(u τ).set q o
theorem zJA.own {σ own:St}(h:∀o∈own,o≠AObj.rsv):zJA σ (fun τ=>τ++own):=by
 refine⟨fun q hq=>?_,fun τ q o hl _ hq=>?_⟩
 ·rcases jAo q σ.length with hlt | hge
  ·rw[jAd hlt]at hq; exact hq
  ·rw[jAp hge]at hq;exact(h _ (jC2 hq) rfl).elim
 ·have hlt:q < σ.length:=by
   rcases jAo q σ.length with h | h
   ·exact h
   ·rw[jB7 h]at hq; cases hq
  exact(List.set_append_left _ _ (by omega)).symm
def zLe (P:Program) (σ : St)(d:Option Nat)(K:Env→St→Prop)(g:FuncId)(args:List A)(env:Env):Prop :=
 ∃r u,zJA σ u∧(∀τ : St,τ.length = σ.length→zBi σ τ→yV P g args τ fun o τ'=>o=.ret r∧τ'=u τ)∧K (env.put d r) (u σ)
def zPB (P:Program) (σ : St)(d:Option Nat)(K:Env→St→Prop)(g:FuncId)(args:List A)(env:Env):Prop :=
 yV P g args σ fun o τ=>∃r,o=.ret r∧zAj σ τ∧K (env.put d r) τ
def zIh (P:Program)(Qp:Value→St→Prop) (σ : St)(d:Option Nat)(K:Env→St→Prop)(g:FuncId)(args:List A)(env:Env):Prop :=
 yV P g args σ fun o τ=>(∃r,o=.ret r∧K (env.put d r) τ)∨∃v,o=.pan v∧Qp v τ
def zIi (P:Program) (σ : St)(d:Option Nat)(K:Env→St→Prop)(g:FuncId)(args:List A)(env:Env):Prop :=
 ∃r σ',(yV P g args σ fun o τ=>o=.ret r∧τ = σ')∧K (env.put d r) σ'
def zLd (P:Program)(c:Nat) (σ : St)(d:Option Nat)(K:Env→St→Prop)(g:FuncId)(args:List A)(env:Env):Prop :=
 ∃r σ',KA c σ σ'∧(yV P g args σ fun o τ=>o=.ret r∧τ = σ')∧K (env.put d r) σ'
def zP9 (P:Program)(c:Nat) (σ : St)(d:Option Nat)(K:Env→St→Prop)(g:FuncId)(args:List A)(env:Env):Prop :=
 ∃r σ',KE c σ σ'∧(yV P g args σ fun o τ=>o=.ret r∧τ = σ')∧K (env.put d r) σ'
def zZD (P:Program)(Qp:Value→St→Prop)(f:Nat) (σ : St)(d:Option Nat)(K:Env→St→Prop)(g:FuncId)(args:List A)(env:Env):Prop:=match f with
 | 0=>zFc P σ d (fun e=>K e σ) g args env
 | 1=>zIf P σ d (fun e=>K e σ) g args env
 | 2=>False
 | 3=>zIg P σ d K g args env
 | 7=>zPA P σ d K g args env
 | 8=>zPB P σ d K g args env
 | 10=>zIh P Qp σ d K g args env
 | 11=>zLe P σ d K g args env
 | f=>if 1000≤f∧f<2000 then zLd P (f-1000) σ d K g args env else if 3000≤f∧f<4000 then zP9 P (f-3000) σ d K g args env else zIi P σ d K g args env
def qOr (P:Program)(f:Nat) (σ : St)(d:Option Nat)(K:Env→St→Prop)(b:Nat)(args:List A)(env:Env):Prop:=f=4∧∃r σ',(zCg P b args σ fun o τ=>o=.ret r∧τ = σ')∧K (env.put d r) σ'
def zXX (P:Program)(Qp:Value→St→Prop)(f:Nat) (σ : St)(d:Option Nat)(K:Env→St→Prop)(fv:A)(args:List A)(env:Env):Prop:=match fv with
 | .clo g first cap=>zA P g=true∧zZD P Qp f σ d K g (first++args++cap) env
 | .lit (.func (.yield b) ⟨[]⟩ ⟨[]⟩)=>qOr P f σ d K b args env
 | _=>False
def zKE (Q:Ex→Env→St→Prop):Value→St→Prop:=fun v τ=>∀e,Q (.pan v) e τ
def zAN:Value→Env→St→Prop:=fun _ _ _=>False
def zRG (P:Program)(f:Nat)(k:KOp)(env:Env) (σ : St)(r:A) (σ':St):Prop :=
 f=7∨f=11→k.isCall=true→∃u,σ'=u σ∧zJA σ u∧∀τ : St,τ.length = σ.length→zBi σ τ→eff P env τ r (u τ) k
def KF (f:Nat)(k:KOp) (σ σ':St):Prop:=(zDS f k=true→zAj σ σ')∧(k.isCall=true→(1000≤f→f<2000→KA (f-1000) σ σ')∧(3000≤f→f<4000→KE (f-3000) σ σ'))
theorem KF.refl (f:Nat)(k:KOp) (σ : St):KF f k σ σ:=⟨fun _=>zAj.refl _,fun _=>⟨fun _ _=>KA.refl _ _,fun _ _=>KE.refl _ _⟩⟩
theorem KF.of {f:Nat}{k:KOp} {σ σ':St}(hk:k.isCall=false)(h:zDS f k=true→zAj σ σ'):KF f k σ σ':=⟨h,fun hc=>by rw[hk]at hc; cases hc⟩
def zDx (f:Nat) (σ : St):St:=if f=1 then zAB σ else if f=2 then [] else σ
noncomputable def jI (P:Program) (Qp:Value→St→Prop) (f:Nat) (K:Env→St→Prop) (k:KOp) (env:Env) (σ : St):Prop:=match k with
 | .call d fo args=>zXX P Qp f σ d K (ev env fo) (args.map (ev env)) env
 | .isz ..=>False
 | .shr ..=>False
 | .apq ..=>False
 | .pan ..=>False
 | .mop d m xs=>(match zV6 m (xs.map (ev env)) σ with
  | some (r,σ')=>K (env.put d r) σ'
  | none=>False)
 | k=>if k.keeps&&!k.lite then qX (zJ env (zDx f σ) k) fun r=>K (env.put k.dst r) σ else wpO P zAN K k env σ
noncomputable def zWr (P:Program) (Qp:Value→St→Prop) (f:Nat) (K:Env→St→Prop) (g:KG) (env:Env) (σ : St):Prop :=
 match g.guard with
 | none=>jI P Qp f K g.op env σ
 | some (s,want)=>match env s with
  | .lit (.bool b)=>zFe (b==want) (jI P Qp f K g.op) (zKU g.op.dst K) env σ
  | .lit (.tuple _)=>zKU g.op.dst K env σ
  | _=>False
def zOL:A→Prop
 | .ptr _ _=>True
 | _=>False
def zOM:A→Prop
 | .rwp _ _ _=>True
 | _=>False
def isRow:A→Prop
 | .row _ _=>True
 | _=>False
def zB7 (c:Nat):A→Prop
 | .ptr l _=>c≤l
 | .rptr _=>True
 | _=>False
def zGn (c:Nat):A→Prop
 | .ptr l _=>l<c
 | _=>False
def zBc (f:Nat)(k:KOp)(env:Env):Prop:=match f with
 | 5=>(match k with
  | .st _ x _ _=>zOL (ev env x)
  | _=>True)
 | 6=>(match k with
  | .st _ x _ _=>zOM (ev env x)
  | .idx _ x _ _=>isRow (ev env x)
  | _=>True)
 | f=>if 4000≤f then (match k with
  | .ld _ x _ _=>zB7 (f-4000) (ev env x)
  | .idx _ x _ _=>isRow (ev env x)
  | _=>True) else if 2000≤f then (match k with
  | .ld _ x _ _=>zB7 (f-2000) (ev env x)
  | _=>True) else if 1000≤f then (match k with
  | .st _ x _ _=>zGn (f-1000) (ev env x)
  | _=>True) else True
noncomputable def wpD (P:Program) (Qp:Value→St→Prop) (K:Env→St→Prop):List (Nat×Nat×KG)→Env→St→Prop
 | [],env,σ=>K env σ
 | x::rest,env,σ=>zBc x.2.1 x.2.2.op env∧zWr P Qp x.2.1 (wpD P Qp K rest) x.2.2 env σ
section
variable {P:Program}{H:Mem}{L:List LI} {σ σ' τ : St}{w:World}{N:Nat}{env:Env}{a:Act}{ops:Array Oper}{Qp:Value→St→Prop}
theorem zUA {k:KOp}{r:A}(hk:k.keeps=true)(hc:k.isCall=false)(h:eff P env σ r σ' k) : σ' = σ:=by cases k<;>simp only[KOp.keeps,KOp.isCall,jAg,reduceCtorEq]at hk hc<;>exact h.1
theorem zUB {k:KOp}{r:A}(hk:k.lite=true)(h:eff P env σ r σ' k) : σ' = σ∧∀τ,eff P env τ r τ k:=by
 have hp:∀τ,zJ env τ k=zJ env σ k→(σ' = σ∧qX (zJ env σ k) fun r'=>r=r')→(τ = τ∧qX (zJ env τ k) fun r'=>r=r'):=fun τ e h=>⟨rfl,by rw[e]; exact h.2⟩
 cases k<;>simp only[KOp.lite,jAg]at hk
 case bslice d e sz n z ps=>exact⟨h.1,fun τ=>⟨rfl,h.2⟩⟩
 case len d s x =>
  cases s
  ·simp[KOp.lite]at hk
  ·exact⟨h.1,fun τ=>hp τ rfl h⟩
 case slc d x sz lo hi mx =>
  refine⟨h.1,fun τ=>hp τ ?_ h⟩;cases mx with
  | none=>rfl
  | some mx=>cases hi<;>rfl
 all_goals exact⟨h.1,fun τ=>hp τ rfl h⟩
theorem zTf {l:Nat}{fz:Bool}{e:TypeId}{s n:Nat}{cs:List A}{o:AObj}(h : σ[l]?=some (.row fz e s n cs)):zAj σ (σ.set l o):=fun i ds hi=>by
 by_cases hil:i=l
 ·subst hil; rw[h]at hi; cases hi
 ·rw[jA8 (Ne.symm hil)]; exact hi
theorem zS6 {k:KOp}{r:A}(hk:k.grows=true)(h:eff P env σ r σ' k):zAj σ σ':=by
 cases k<;>simp only[KOp.grows,jAg]at hk
 case brow =>
  simp only[eff]at h;split at h
  ·obtain⟨_,rfl⟩:=h;exact zAj.append _ _
  ·exact h.elim
 case alloc d z=>obtain⟨_,rfl⟩:=h; exact zAj.append _ _
 case alr d q z =>
  obtain⟨hq,_,rfl⟩:=h;exact fun l cs hl=>by
   by_cases e:l=q
   ·subst e; rw[hq]at hl; cases hl
   ·rw[jA8 (Ne.symm e)]; exact hl
 case box d x =>
  simp only[eff]at h;split at h
  ·obtain⟨_,rfl⟩:=h; exact zAj.append _ _
  ·exact h.elim
 case app d e sz bytes x y =>
  simp only[eff]at h;split at h
  ·rename_i m ys _;obtain⟨_,h⟩:=h;generalize ev env x=a at h;cases a<;>simp only[zUh]at h
   case nil=>obtain⟨_,_,rfl⟩:=h; exact zAj.append _ _
   case row l n =>
    split at h
    ·rename_i hl;obtain⟨_,_,_,rfl⟩:=h;exact zTf hl
    ·exact h.elim
   case fsl n cs =>
    obtain⟨_,h | h⟩:=h
    ·obtain⟨_,_,rfl⟩:=h; exact zAj.refl _
    ·obtain⟨_,_,_,rfl⟩:=h; exact zAj.append _ _
  ·exact h.elim
theorem zC2:∀{σ : St} {l:Nat} {o:AObj},(zAB σ)[l]?=some o→o=.dead∨∃cs,o=.box cs∧σ[l]?=some (.box cs)
 | [],l,o,h=>by simp[zAB]at h
 | p::σ,0,o,h=>by
  cases p<;>simp only[zAB,jAx,jA0]at h<;>subst h
  case box cs=>exact .inr ⟨cs,rfl,rfl⟩
  all_goals exact .inl rfl
 | p::σ,l+1,o,h=>by
  have:(zAB (p::σ))[l+1]?=(zAB σ)[l]?:=by cases p<;>simp[zAB]
  rw[this]at h
  simpa using zC2 h
theorem zTg {n:Nat}{x:A}{cs:List A}(h:ldA (zAB σ) n x=some cs)(hk:zAj σ τ):ldA τ n x=some cs:=by
 cases x<;>simp only[ldA]at h⊢<;>try (cases h; done)
 case rptr=>exact h
 case ptr l off =>
  split at h
  ·rename_i ds hl;rcases zC2 hl with e | ⟨_,e,hσ⟩
   ·cases e
   ·cases e; rw[hk l _ hσ]; exact h
  ·cases h
 case rwp l m off =>
  split at h
  ·rename_i hl;rcases zC2 hl with e | ⟨_,e,_⟩<;>cases e
  ·cases h
theorem zEU {k:KOp}{p:Prop}{r:A}(h:zJ env (zAB σ) k=some (p,r))(hk:zAj σ τ):zJ env τ k=some (p,r):=by
 cases k<;>simp only[zJ]at h⊢<;>try (first | exact h | (cases h; done))
 case ld d x n agg =>
  simp only[jAe,jA4]at h⊢;obtain⟨r',⟨cs,h1,h2⟩,h3⟩:=h;exact⟨r',⟨cs,zTg h1 hk,h2⟩,h3⟩
 case addr d x off =>
  split at h<;>try (first | exact h | (cases h; done))
  split at h
  ·rename_i hl;rcases zC2 hl with e | ⟨_,e,_⟩<;>cases e
  ·cases h
 case idx d x i sz =>
  split at h<;>try (first | exact h | (cases h; done))
  all_goals
   split at h
   ·rename_i hl;rcases zC2 hl with e | ⟨_,e,_⟩<;>cases e
   ·cases h
 case len d s x =>
  cases s
  ·simp only[zJ]at h⊢;split at h<;>try (first | exact h | (cases h; done))
   all_goals
    split at h
    ·rename_i hl;rcases zC2 hl with e | ⟨_,e,_⟩<;>cases e
    ·cases h
  ·exact h
 case rslc d x sz lo hi =>
  split at h<;>try (first | exact h | (cases h; done))
  all_goals
   split at h
   ·rename_i hl;rcases zC2 hl with e | ⟨_,e,_⟩<;>cases e
   ·cases h
 case slc d x sz lo hi mx =>
  cases mx with
  | none=>exact h
  | some mx=>cases hi with
   | none=>simp[zJ]at h
   | some hi=>exact h
theorem zQD {k:KOp}(h:k.lite=true):k.keeps=true:=by cases k<;>simp_all [KOp.lite,KOp.keeps]
theorem zOR {k:KOp}(h:k.lite=true):k.isCall=false:=by cases k<;>simp_all [KOp.lite,KOp.isCall]
theorem zVJ {f:Nat}{k:KOp}{p:Prop}{r:A}(hl:k.lite=false)(hc:k.isCall=false)(h:zJ env (zDx f σ) k=some (p,r)) {τ : St}(hs:zJ0 f k σ τ):zJ env τ k=some (p,r):=by
 unfold zDx at h;rcases hs with hs | ⟨rfl,hs⟩ | rfl
 ·simp only[zAA,hl,hc,jC9,jA6,beq_iff_eq]at hs;obtain⟨⟨rfl,_⟩,_⟩:=hs;simp only[Nat.reduceEqDiff,if_false,if_true]at h;exact zEU (σ:=[]) h (fun l cs hl=>by simp at hl)
 ·simp only[if_true]at h;exact zEU h hs
 ·split at h
  ·exact zEU h (zAj.refl _)
  ·split at h
   ·exact zEU (σ:=[]) h (fun l cs hl=>by simp at hl)
   ·exact h
theorem zLf {f:Nat}{K:Env→St→Prop}{k:KOp}(hf8:f≠8∧f≠10)(h:jI P Qp f K k env σ) :
 ∃r σ',eff P env σ r σ' k∧(jY f k=true→σ' = σ)∧KF f k σ σ'∧(jY f k=true→∀τ,zJ0 f k σ τ→eff P env τ r τ k)∧zRG P f k env σ r σ'∧K (env.put k.dst r) σ':=by
 by_cases hcall:k.isCall=true
 ·cases k<;>simp only[KOp.isCall,jAg]at hcall
  case call d fo args =>
   simp only[jI]at h;simp only[eff,zRG,KOp.isCall,forall_const];generalize ev env fo=fv at h⊢;have mk:∀r σ',zIM P fv (args.map (ev env)) σ (fun o τ=>o=.ret r∧τ = σ')→(σ' = σ∨((f=3∨f=7)∧zAj σ σ')∨(4≤f∧f≠7∧f≠8∧(1000≤f→f<2000→KA (f-1000) σ σ')∧(3000≤f→f<4000→KE (f-3000) σ σ')))→(f=7∨f=11→∃u,σ'=u σ∧zJA σ u∧∀τ : St,τ.length = σ.length→zBi σ τ→zIM P fv (args.map (ev env)) τ (fun o τ'=>o=.ret r∧τ'=u τ))→(f≤2→∀τ,zJ0 f (.call d fo args) σ τ→zIM P fv (args.map (ev env)) τ (fun o τ'=>o=.ret r∧τ' = τ))→K (env.put d r) σ' →
    ∃r σ',zIM P fv (args.map (ev env)) σ (fun o τ=>o=.ret r∧τ = σ')∧(jY f (.call d fo args)=true→σ' = σ)∧KF f (.call d fo args) σ σ' ∧
     (jY f (.call d fo args)=true→∀τ,zJ0 f (.call d fo args) σ τ→zIM P fv (args.map (ev env)) τ (fun o τ'=>o=.ret r∧τ' = τ))∧(f=7∨f=11→∃u,σ'=u σ∧zJA σ u∧∀τ : St,τ.length = σ.length→zBi σ τ→zIM P fv (args.map (ev env)) τ (fun o τ'=>o=.ret r∧τ'=u τ))∧K (env.put (KOp.call d fo args).dst r) σ':=by
    intro r σ' h1 h2 h7 h3 h4;have hk:jY f (.call d fo args)=true→f≤2:=fun hk=>by
     rcases jAo 2 f with hlt | hge
     ·exfalso;have hb:Nat.ble 3 f=true:=by rw[Nat.ble_eq]; exact hlt
      simp[jY,KOp.isCall,KOp.keeps,hb]at hk
     ·exact hge
    refine⟨r,σ',h1,fun hk'=>?_,⟨fun hg=>?_,fun _=>⟨fun q1 q2=>?_,fun q1 q2=>?_⟩⟩,fun hk'=>h3 (hk hk'),h7,h4⟩
    ·rcases h2 with h2 | ⟨h2,_⟩ | h2
     ·exact h2
     ·have:=hk hk'; omega
     ·have:=hk hk'; omega
    ·simp only[zDS,KOp.grows,KOp.isCall,jC9,Bool.and_true,jB3,beq_iff_eq]at hg;rcases h2 with h2 | ⟨_,h2⟩ | h2
     ·rw[h2]; exact zAj.refl _
     ·exact h2
     ·omega
    ·rcases h2 with h2 | ⟨h2,_⟩ | h2
     ·rw[h2]; exact KA.refl _ _
     ·omega
     ·exact h2.2.2.2.1 q1 q2
    ·rcases h2 with h2 | ⟨h2,_⟩ | h2
     ·rw[h2]; exact KE.refl _ _
     ·omega
     ·exact h2.2.2.2.2 q1 q2
   unfold zXX at h;split at h
   ·rename_i g first cap
    obtain⟨hcb,h⟩:=h;unfold zZD at h;split at h
    ·obtain⟨r,h1,h2⟩:=h;refine mk r σ ⟨hcb,h1⟩ (.inl rfl) (fun h=>(by omega)) (fun _ τ hs=>?_) h2;rcases hs with hs | ⟨hs,_⟩ | rfl
     ·simp[zAA,KOp.lite,KOp.isCall]at hs
     ·cases hs
     ·exact⟨hcb,h1⟩
    ·obtain⟨r,h1,h2⟩:=h;refine mk r σ ⟨hcb,h1 σ (zAj.refl _)⟩ (.inl rfl) (fun h=>(by omega)) (fun _ τ hs=>?_) h2;rcases hs with hs | ⟨_,hs⟩ | rfl
     ·simp[zAA,KOp.lite,KOp.isCall]at hs
     ·exact⟨hcb,h1 τ hs⟩
     ·exact⟨hcb,h1 _ (zAj.refl _)⟩
    ·exact h.elim
    ·obtain⟨r,σ',h1,h2,h3⟩:=h;exact mk r σ' ⟨hcb,h2⟩ (.inr (.inl ⟨.inl rfl,h1⟩)) (fun h=>(by omega)) (fun hle=>by omega) h3
    ·obtain⟨r,own,h1,h2,h3⟩:=h;exact mk r _ ⟨hcb,h2 σ rfl (zBi.refl _)⟩ (.inr (.inl ⟨.inr rfl,zAj.append _ _⟩)) (fun _=>⟨fun τ=>τ++own,rfl,zJA.own h1,fun τ hl hk=>⟨hcb,h2 τ hl hk⟩⟩) (fun hle=>by omega) h3
    ·exact(hf8.1 rfl).elim
    ·exact(hf8.2 rfl).elim
    ·obtain⟨r,u,h1,h2,h3⟩:=h;exact mk r _ ⟨hcb,h2 σ rfl (zBi.refl _)⟩ (.inr (.inr ⟨by omega,by omega,by omega,fun q1=>by omega,fun q1=>by omega⟩)) (fun _=>⟨u,rfl,h1,fun τ hl hk=>⟨hcb,h2 τ hl hk⟩⟩) (fun hle=>by omega) h3
    ·rename_i n0 n1 n2 n3 n7 n8 n10 n11;have hf4:4≤f:=by
      rcases jAo f 4 with hlt | hge
      ·exfalso;have:f=0∨f=1∨f=2∨f=3:=by omega
       rcases this with e | e | e | e
       ·exact n0 e
       ·exact n1 e
       ·exact n2 e
       ·exact n3 e
      ·exact hge
     split at h
     ·rename_i hr;obtain⟨r,σ',h1,h2,h3⟩:=h;exact mk r σ' ⟨hcb,h2⟩ (.inr (.inr ⟨hf4,n7,n8,fun _ _=>h1,fun q1 q2=>by omega⟩)) (fun h=>h.elim (fun e=>(n7 e).elim) fun e=>(n11 e).elim) (fun hle=>by omega) h3
     ·rename_i hr;split at h
      ·rename_i hr';obtain⟨r,σ',h1,h2,h3⟩:=h;exact mk r σ' ⟨hcb,h2⟩ (.inr (.inr ⟨hf4,n7,n8,fun q1 q2=>(hr ⟨q1,q2⟩).elim,fun _ _=>h1⟩)) (fun h=>h.elim (fun e=>(n7 e).elim) fun e=>(n11 e).elim) (fun hle=>by omega) h3
      ·rename_i hr';obtain⟨r,σ',h2,h3⟩:=h;exact mk r σ' ⟨hcb,h2⟩ (.inr (.inr ⟨hf4,n7,n8,fun q1 q2=>(hr ⟨q1,q2⟩).elim,fun q1 q2=>(hr' ⟨q1,q2⟩).elim⟩)) (fun h=>h.elim (fun e=>(n7 e).elim) fun e=>(n11 e).elim) (fun hle=>by omega) h3
   ·obtain⟨rfl,r,σ',h1,h2⟩:=h;exact mk r σ' h1 (.inr (.inr ⟨jA _,by omega,by omega,fun q1=>by omega,fun q1=>by omega⟩)) (fun h=>(by omega)) (fun hle=>by omega) h2
   ·exact h.elim
 ·simp only[jCf]at hcall;have hkf:∀f,jY f k=k.keeps:=fun f=>by simp[jY,hcall]
  have hgf:∀f,zDS f k=k.grows:=fun f=>by simp[zDS,hcall]
  by_cases hbz:∃d ng x,k=.isz d ng x
  ·obtain⟨d,ng,x,rfl⟩:=hbz;exact h.elim
  by_cases hbs:∃d x sz hx,k=.shr d x sz hx
  ·obtain⟨d,x,sz,hx,rfl⟩:=hbs;exact h.elim
  by_cases hbq:∃d e sz bytes x y,k=.apq d e sz bytes x y
  ·obtain⟨d,e,sz,bytes,x,y,rfl⟩:=hbq;exact h.elim
  by_cases hbp:∃d x,k=.pan d x
  ·obtain⟨d,x,rfl⟩:=hbp;exact h.elim
  by_cases hbm:∃d m xs,k=.mop d m xs
  ·obtain⟨d,m,xs,rfl⟩:=hbm;simp only[jI]at h;split at h
   ·rename_i r σ' h1;exact⟨r,σ',h1,fun hk=>(by rw[hkf]at hk; cases hk),KF.of rfl fun hk=>(by rw[hgf]at hk; cases hk),fun hk=>(by rw[hkf]at hk; cases hk),fun _ hc=>(by cases hc),h⟩
   ·exact h.elim
  have hd:jI P Qp f K k env σ = if k.keeps&&!k.lite then qX (zJ env (zDx f σ) k) fun r=>K (env.put k.dst r) σ else wpO P zAN K k env σ:=by cases k<;>first | rfl | (simp[KOp.isCall]at hcall; done) | exact(hbm ⟨_,_,_,rfl⟩).elim | exact(hbz ⟨_,_,_,rfl⟩).elim | exact(hbs ⟨_,_,_,_,rfl⟩).elim | exact(hbq ⟨_,_,_,_,_,_,rfl⟩).elim | exact(hbp ⟨_,_,rfl⟩).elim
  rw[hd]at h;clear hd;have dfl:k.keeps=true→k.lite=false→∀τ,eff P env τ = fun r σ' k'=>eff P env τ r σ' k':=fun _ _ _=>rfl
  split at h
  ·rename_i hc;simp only[jA6,jBe]at hc;have heff:∀τ r σ',(σ' = τ∧qX (zJ env τ k) fun r'=>r=r')→eff P env τ r σ' k:=by intro τ r σ' hh;cases k<;>first | exact hh | (simp[KOp.keeps]at hc; done) | (simp[KOp.lite]at hc; done) | (simp[KOp.isCall]at hcall; done)
   cases hp:zJ env (zDx f σ) k with
   | none=>rw[hp]at h; exact h.elim
   | some x =>
    rw[hp]at h;have hsee:∀τ,zJ0 f k σ τ→eff P env τ x.2 τ k:=fun τ hs=>heff τ _ _ ⟨rfl,by rw[zVJ hc.2 hcall hp hs]; exact⟨h.1,rfl⟩⟩
    refine⟨x.2,σ,hsee σ (.inr (.inr rfl)),fun _=>rfl,KF.refl _ _ _,fun _ τ hs=>hsee τ hs,fun _ hc=>(by rw[hcall]at hc; cases hc),h.2⟩
  ·rename_i hc;simp only[jA6,jBe,not_and,Bool.not_eq_false]at hc;have go:∀r σ',eff P env σ r σ' k→K (env.put k.dst r) σ'→∃r σ',eff P env σ r σ' k∧(jY f k=true→σ' = σ)∧KF f k σ σ'∧(jY f k=true→∀τ,zJ0 f k σ τ→eff P env τ r τ k)∧zRG P f k env σ r σ'∧K (env.put k.dst r) σ':=fun r σ' h1 h2 =>
    ⟨r,σ',h1,fun hk=>zUA (by rw[←hkf f]; exact hk) hcall h1,KF.of hcall fun hg=>zS6 (by rw[←hgf f]; exact hg) h1,fun hk τ _=>(zUB (hc (by rw[←hkf f]; exact hk)) h1).2 τ,fun _ hc=>(by rw[hcall]at hc; cases hc),h2⟩
   have dflt:(qX (zJ env σ k) fun r'=>K (env.put k.dst r') σ)→∃r,(qX (zJ env σ k) fun r'=>r=r')∧K (env.put k.dst r) σ:=by
    intro h;cases hp:zJ env σ k with
    | none=>rw[hp]at h; exact h.elim
    | some x=>rw[hp]at h; exact⟨x.2,⟨h.1,rfl⟩,h.2⟩
   cases k
   case call d f args=>simp[KOp.isCall]at hcall
   case brow d e sz n z ps =>
    simp only[wpO]at h;split at h
    ·rename_i cs hf;exact go _ _ (by simp[eff,hf]) h
    ·exact h.elim
   case isz=>exact(hbz ⟨_,_,_,rfl⟩).elim
   case shr=>exact(hbs ⟨_,_,_,_,rfl⟩).elim
   case apq=>exact(hbq ⟨_,_,_,_,_,_,rfl⟩).elim
   case pan=>exact(hbp ⟨_,_,rfl⟩).elim
   case mop=>exact(hbm ⟨_,_,_,rfl⟩).elim
   case bslice d e sz n z ps =>
    simp only[wpO]at h;split at h
    ·rename_i cs hf;exact go _ σ ⟨rfl,by rw[hf]⟩ h
    ·exact h.elim
   case alloc d z=>exact go _ _ ⟨rfl,rfl⟩ h
   case alr d q z =>
    simp only[wpO]at h;split at h
    ·rename_i hq;exact go _ _ ⟨hq,rfl,rfl⟩ h
    ·exact h.elim
   case box d x =>
    simp only[wpO]at h;split at h
    ·rename_i cs hf;exact go _ _ (by simp[eff,hf]) h
    ·exact h.elim
   case st d x v n =>
    simp only[wpO]at h;split at h
    ·rename_i cs hf;split at h
     ·rename_i hn;split at h
      ·rename_i σ1 hst;exact go _ σ1 (by simp only[eff,hf]; exact⟨hn,hst,trivial⟩) h
      ·exact h.elim
     ·exact h.elim
    ·exact h.elim
   case app d e sz bytes x y =>
    simp only[wpO]at h;split at h
    ·rename_i m ys hf;obtain⟨h0,h⟩:=h;have mk:∀r σ',zUh σ e sz bytes m ys r σ' (ev env x)→eff P env σ r σ' (.app d e sz bytes x y):=fun r σ' hr=>by simp only[eff,hf]; exact⟨h0,hr⟩
     generalize ev env x=ax at h mk;cases ax<;>try (exact h.elim)
     case nil=>exact go _ _ (mk _ _ ⟨h.1,rfl,rfl⟩) h.2
     case row l n =>
      simp only at h;split at h
      ·rename_i hl;split at h
       ·rename_i hcnd;exact go _ _ (mk _ _ (by simp only[zUh,hl]; exact⟨hcnd,h.1,trivial,trivial⟩)) h.2
       ·exact h.elim
      ·exact h.elim
     case fsl n cs =>
      by_cases hm:m=0
      ·exact go _ _ (mk _ _ ⟨h.1,.inl ⟨hm,rfl,rfl⟩⟩) (h.2.1 hm)
      ·exact go _ _ (mk _ _ ⟨h.1,.inr ⟨hm,(h.2.2 hm).1,rfl,rfl⟩⟩) (h.2.2 hm).2
    ·exact h.elim
   case len d s x =>
    cases s
    ·have:=hc rfl; simp[KOp.lite]at this
    ·obtain⟨r,h1,h2⟩:=dflt h;exact go r σ ⟨rfl,h1⟩ h2
   case ld d x n agg=>have:=hc rfl; simp[KOp.lite]at this
   case addr d x off=>have:=hc rfl; simp[KOp.lite]at this
   case idx d x i sz=>have:=hc rfl; simp[KOp.lite]at this
   case rslc d x sz lo hi=>have:=hc rfl; simp[KOp.lite]at this
   all_goals
    obtain⟨r,h1,h2⟩:=dflt h;exact go r σ ⟨rfl,h1⟩ h2
theorem zH7 {env env':Env}{xs:List Operand}(h:∀t,.tmp t∈xs→env t=env' t):∀x∈xs,ev env x=ev env' x:=by
 intro x hx;cases x with
 | tmp t=>exact h t hx
 | _=>rfl
theorem zBM {env env':Env}{xs:List Operand}(h:∀x∈xs,ev env x=ev env' x):xs.map (ev env)=xs.map (ev env'):=jBp h
theorem zCF {env env':Env}{n:Nat}{x:Option Operand}(h:∀y∈x.toList,ev env y=ev env' y):qM env n x=qM env' n x:=by
 cases x with
 | none=>rfl
 | some x=>simp only[qM]; rw[h x (by simp)]
theorem zFO {env env':Env}{ps:List (Nat×Nat×Operand)}(h:∀x∈ps.map (fun p=>p.2.2),ev env x=ev env' x) :
 (ps.map fun(o,s,x)=>(o,s,ev env x))=ps.map fun(o,s,x)=>(o,s,ev env' x) :=
 jBp fun p hp=>by obtain⟨o,s,x⟩:=p;simp only[h x (jAm.2 ⟨(o,s,x),hp,rfl⟩)]
theorem zLE {env env':Env}{r:A}{k:KOp}(h:∀x∈k.reads,ev env x=ev env' x):eff P env σ r σ' k=eff P env' σ r σ' k:=by
 cases k<;>simp only[KOp.reads,jA7,jCz,or_false,forall_eq_or_imp,forall_eq,jAb]at h<;>simp only[eff,zJ]
 case build d z ps=>rw[zFO h]
 case bslice d n z ps=>rw[zFO h]
 case brow d e sz n z ps=>rw[zFO h]
 case mm d m xs=>rw[zBM h]
 case clo d f first cap=>rw[zBM (fun x hx=>h x (.inl hx)),zBM (fun x hx=>h x (.inr hx))]
 case call d f args=>rw[h.1,zBM h.2]
 case mop d m xs=>rw[zBM h]
 case len d s x=>cases s<;>simp only[zJ,h]
 case rslc d x sz lo hi =>
  have hl:∀n,qM env n lo=qM env' n lo:=fun n=>zCF fun y hy=>h.2 y (.inl (.inl hy))
  have hh:∀n,qM env n hi=qM env' n hi:=fun n=>zCF fun y hy=>h.2 y (.inl (.inr hy))
  simp only[h.1,hl,hh]
 case slc d x sz lo hi mx =>
  have hl:∀n,qM env n lo=qM env' n lo:=fun n=>zCF fun y hy=>h.2 y (.inl (.inl hy))
  have hh:∀n,qM env n hi=qM env' n hi:=fun n=>zCF fun y hy=>h.2 y (.inl (.inr hy))
  have hm:∀n,qM env n mx=qM env' n mx:=fun n=>zCF fun y hy=>h.2 y (.inr hy)
  cases mx with
  | none=>simp only[zJ,h.1,hl,hh]
  | some mx=>cases hi with
   | none=>rfl
   | some hi=>simp only[zJ,h.1,hl,hh,hm]
 all_goals first | rfl | simp only[h] | simp only[h.1,h.2] | (rw[h.1,h.2.1,h.2.2])
def zCe (P:Program)(g:KG)(env:Env) (σ : St)(r:A) (σ':St):Prop :=
 match g.guard with
 | none=>eff P env σ r σ' g.op
 | some (s,want)=>match env s with
  | .lit (.bool b)=>(b=want→eff P env σ r σ' g.op)∧(b≠want→r=.lit undef∧σ' = σ)
  | .lit (.tuple _)=>r=.lit undef∧σ' = σ
  | _=>False
theorem zGR {g:KG}{r:A}{env env':Env}(h:∀t∈g.looks,env t=env' t):zCe P g env σ r σ'=zCe P g env' σ r σ':=by
 have hq:eff P env σ r σ' g.op=eff P env' σ r σ' g.op:=zLE (zH7 fun t ht=>h t (jBd _ (jCc.2 ⟨.tmp t,ht,rfl⟩)));unfold zCe;cases hg:g.guard with
 | none=>exact hq
 | some sw =>
  obtain⟨s,want⟩:=sw;simp only;rw[h s (List.mem_append_right _ (by simp[hg])),hq]
def zCy (P:Program)(f:Nat)(g:KG)(env:Env) (σ : St)(r:A) (σ':St):Prop :=
 zCe P g env σ r σ'∧(jY f g.op=true→σ' = σ)∧KF f g.op σ σ'∧(zAA f g.op=true→∀τ,zCe P g env τ r τ)∧zBc f g.op env
def zCK (P:Program)(f:Nat)(g:KG)(env:Env) (σ : St)(r:A) (σ':St):Prop :=
 zCy P f g env σ r σ'∧(jY f g.op=true→∀τ,zJ0 f g.op σ τ→zCe P g env τ r τ)∧(g.guard=none→zRG P f g.op env σ r σ')
theorem zFL {f:Nat}{k:KOp}(h:zAA f k=true):jY f k=true:=by
 simp only[zAA,jB3,jA6,jBe]at h;rcases h with h | ⟨⟨_,h1⟩,h2⟩
 ·simp[jY,zQD h,zOR h]
 ·simp[jY,h1,h2]
theorem zTH {f:Nat}{g:KG}{K:Env→St→Prop}(hf8:f≠8∧f≠10)(ht:zBc f g.op env)(h:zWr P Qp f K g env σ):∃r σ',zCK P f g env σ r σ'∧K (env.put g.op.dst r) σ':=by
 unfold zWr at h;unfold zCK zCy zCe;cases hg:g.guard with
 | none =>
  simp only[hg]at h;obtain⟨r,σ',h1,h2,h3,h4,h6,h5⟩:=zLf hf8 h;exact⟨r,σ',⟨⟨h1,h2,h3,fun hl τ=>h4 (zFL hl) τ (.inl hl),ht⟩,h4,fun _=>h6⟩,h5⟩
 | some sw =>
  obtain⟨s,want⟩:=sw;simp only[hg]at h;simp only;generalize env s=gv at h⊢;split at h
  ·rename_i b;by_cases hw:b=want
   ·subst hw;obtain⟨r,σ',h1,h2,h3,h4,h6,h5⟩:=zLf hf8 (h.1 (by simp));exact⟨r,σ',⟨⟨⟨fun _=>h1,fun e=>(e rfl).elim⟩,h2,h3,fun hl τ=>⟨fun _=>h4 (zFL hl) τ (.inl hl),fun e=>(e rfl).elim⟩,ht⟩,fun hk τ ht=>⟨fun _=>h4 hk τ ht,fun e=>(e rfl).elim⟩,fun e=>(by cases e)⟩,h5⟩
   ·have:=h.2 (by simp[hw]);exact⟨_,σ,⟨⟨⟨fun e=>(hw e).elim,fun _=>⟨rfl,rfl⟩⟩,fun _=>rfl,KF.refl _ _ _,fun _ τ=>⟨fun e=>(hw e).elim,fun _=>⟨rfl,trivial⟩⟩,ht⟩,fun _ τ _=>⟨fun e=>(hw e).elim,fun _=>⟨rfl,trivial⟩⟩,fun e=>(by cases e)⟩,this⟩
  ·exact⟨_,σ,⟨⟨⟨rfl,rfl⟩,fun _=>rfl,KF.refl _ _ _,fun _ τ=>⟨rfl,trivial⟩,ht⟩,fun _ τ _=>⟨rfl,trivial⟩,fun e=>(by cases e)⟩,h⟩
  ·exact h.elim
theorem zKY {f:Nat}{k:KOp} {σ τ υ : St}(h:zJ0 f k σ τ)(h':zJ0 f k τ υ):zJ0 f k σ υ:=by
 rcases h with h | ⟨hf,h⟩ | rfl
 ·exact .inl h
 ·rcases h' with h' | ⟨_,h'⟩ | rfl
  ·exact .inl h'
  ·exact .inr (.inl ⟨hf,h.trans h'⟩)
  ·exact .inr (.inl ⟨hf,h⟩)
 ·exact h'
theorem zGQ {f:Nat}{g:KG}{r:A}{env env':Env}(h:∀t∈g.looks,env t=env' t):zCy P f g env σ r σ'=zCy P f g env' σ r σ':=by
 have:∀σ σ',zCe P g env σ r σ'=zCe P g env' σ r σ':=fun σ σ'=>zGR h
 have ht:zBc f g.op env=zBc f g.op env':=by
  have hr:=zH7 (xs:=g.op.reads) fun t ht=>h t (jBd _ (jCc.2 ⟨.tmp t,ht,rfl⟩))
  unfold zBc;split
  ·split
   ·rename_i x _ _ hx;rw[hr x (by simp[hx,KOp.reads])]
   ·rfl
  ·split
   ·rename_i x _ _ hx;rw[hr x (by simp[hx,KOp.reads])]
   ·rename_i x _ _ hx;rw[hr x (by simp[hx,KOp.reads])]
   ·rfl
  ·split
   ·split
    ·rename_i x _ _ hx;rw[hr x (by simp[hx,KOp.reads])]
    ·rename_i x _ _ hx;rw[hr x (by simp[hx,KOp.reads])]
    ·rfl
   ·split
    ·split
     ·rename_i x _ _ hx;rw[hr x (by simp[hx,KOp.reads])]
     ·rfl
    ·split
     ·split
      ·rename_i x _ _ hx;rw[hr x (by simp[hx,KOp.reads])]
      ·rfl
     ·rfl
 unfold zCy;simp only[this,ht]
theorem zQz {fi fj:Nat}{gi gj:KG}{ri rj:A} {σi σj:St}(hc:zES fi fj gi.op gj.op=true)(hi:zCK P fi gi env σ ri σi)(hj:zCy P fj gj env σi rj σj) :
 ∃σ1,zCy P fj gj env σ rj σ1∧zCK P fi gi env σ1 ri σj:=by
 simp only[zES,jB3,jA6,beq_iff_eq]at hc;rcases hc with hl | ⟨hk,hc⟩
 ·have:=hj.2.1 (zFL hl);subst this;exact⟨σ,⟨hj.2.2.2.1 hl σ,fun _=>rfl,KF.refl _ _ _,hj.2.2.2⟩,hi⟩
 ·have e:=hi.1.2.1 hk;subst e;have hst:zJ0 fi gi.op σi σj:=by
   rcases hc with (hl | hj') | ⟨hf,hg⟩
   ·exact .inl hl
   ·exact .inr (.inr (hj.2.1 hj'))
   ·exact .inr (.inl ⟨hf,hj.2.2.1.1 hg⟩)
  have hij:=hi.2.1 hk σj hst;exact⟨σj,hj,⟨hij,fun _=>rfl,KF.refl _ _ _,hi.1.2.2.2⟩,fun _ τ ht=>hi.2.1 hk τ (zKY hst ht),fun _ hf hcall=>(by
   have hk7:jY fi gi.op=false:=by rcases hf with rfl | rfl<;>simp[jY,hcall]
   rw[hk7]at hk;cases hk)⟩
theorem qBU {x:A}(hx:zOL x){cs:List A} {τ : St}(h:stA σ cs x=some τ):∃l ds ds',σ[l]?=some (.box ds)∧τ = σ.set l (.box ds')∧∀υ : St,υ[l]?=some (.box ds)→stA υ cs x=some (υ.set l (.box ds')):=by
 cases x<;>simp only[zOL]at hx;rename_i l o;simp only[stA]at h;split at h<;>try (cases h; done)
 rename_i ds hl;split at h<;>try (cases h; done)
 rename_i hfit;cases h;exact⟨l,ds,_,hl,rfl,fun υ hu=>by simp only[stA,hu,hfit,if_true]⟩
theorem qBV {x:A}(hx:zOM x){cs:List A} {τ : St}(h:stA σ cs x=some τ):∃l o o',(∀ds,o≠AObj.box ds)∧σ[l]?=some o∧(∀ds,o'≠AObj.box ds)∧τ = σ.set l o'∧∀υ : St,υ[l]?=some o→stA υ cs x=some (υ.set l o'):=by
 cases x<;>simp only[zOM]at hx;rename_i l m off;simp only[stA]at h;split at h<;>try (cases h; done)
 rename_i e sz k ds hl;split at h<;>try (cases h; done)
 rename_i hfit;cases h;exact⟨l,_,_,fun _=>by simp,hl,fun _=>by simp,rfl,fun υ hu=>by simp only[stA,hu,hfit,and_self,if_true]⟩
theorem zRf {d:Option Nat}{x v:Operand}{n:Nat}{r:A}(h:eff P env σ r σ' (.st d x v n)):∃cs,cellsOf (ev env v)=some cs∧cs.length=n∧stA σ cs (ev env x)=some σ'∧r=.lit undef:=by
 simp only[eff]at h;split at h
 ·rename_i cs hc; exact⟨cs,hc,h⟩
 ·exact h.elim
theorem zUC {d:Option Nat}{x v:Operand}{n:Nat}{cs:List A}(h1:cellsOf (ev env v)=some cs)(h2:cs.length=n)(h3:stA σ cs (ev env x)=some σ'):eff P env σ (.lit undef) σ' (.st d x v n):=by simp only[eff,h1];exact⟨h2,h3,trivial⟩
theorem zXl {d:Option Nat}{x i:Operand}{sz l n:Nat}(hx:ev env x=.row l n){J:A→Prop}(h:∀o,σ[l]?=some o→(∀cs,o≠AObj.box cs)→τ[l]?=some o)(hp:qX (zJ env σ (.idx d x i sz)) J):qX (zJ env τ (.idx d x i sz)) J:=by
 cases hi:ev env i with
 | lit u =>
  cases u with
  | int k j =>
   simp only[zJ,hx,hi]at hp ⊢;split at hp
   ·rename_i ho;rw[h _ ho (fun _=>by simp)];exact hp
   ·exact hp.elim
  | _=>simp[zJ,hx,hi,qX]at hp
 | _=>simp[zJ,hx,hi,qX]at hp
theorem zVk {fi fj:Nat}{gi gj:KG}{ri rj:A} {σi σj:St}(hc:zPw fi fj gi gj=true)(hi:zCK P fi gi env σ ri σi)(hj:zCy P fj gj env σi rj σj) :
 ∃σ1,zCy P fj gj env σ rj σ1∧zCK P fi gi env σ1 ri σj:=by
 obtain⟨gdi,ki⟩:=gi;obtain⟨gdj,kj⟩:=gj;simp only[zPw,jA6,beq_iff_eq,jCl]at hc;obtain⟨⟨⟨⟨rfl,rfl⟩,rfl⟩,rfl⟩,hc⟩:=hc;cases kj<;>try (cases ki<;>simp at hc; done)
 case st dj xj vj nj =>
  obtain⟨hj1,_,_,_,hjt⟩:=hj;simp only[zCe]at hj1;obtain⟨cj,c1,c2,c3,rfl⟩:=zRf hj1;obtain⟨l',ds,ds',s1,rfl,s3⟩:=qBU hjt c3;have mkj:∀υ : St,υ[l']?=some (.box ds)→zCy P 5 ⟨none,.st dj xj vj nj⟩ env υ (.lit undef) (υ.set l' (.box ds')):=fun υ hu =>
   ⟨(zUC (P:=P) (d:=dj) c1 c2 (s3 υ hu):eff P env υ (.lit undef) _ (.st dj xj vj nj)),fun h=>by simp[jY,KOp.keeps]at h,KF.of rfl fun h=>by simp[zDS,KOp.grows,KOp.isCall]at h,fun h=>by simp[zAA,KOp.lite,KOp.keeps]at h,hjt⟩
  cases ki<;>try (simp at hc; done)
  case idx di xi ii szi =>
   obtain⟨⟨hi1,hi2,_,_,hit⟩,hi3,_⟩:=hi;have e:=hi2 (by simp[jY,KOp.keeps,KOp.isCall]);subst e;simp only[zBc]at hit;have hne:∀l n,ev env xi=.row l n→∀o,σi[l]?=some o→(∀cs,o≠AObj.box cs)→l≠l':=fun l n _ o ho hb e=>by subst e;rw[s1]at ho;cases ho;exact hb _ rfl
   have mki:eff P env (σi.set l' (.box ds')) ri (σi.set l' (.box ds')) (.idx di xi ii szi):=by simp only[zCe]at hi1;refine⟨rfl,?_⟩;have hi1:=hi1.2;generalize hax:ev env xi=ax at hit hne;cases ax<;>simp only[isRow]at hit;rename_i l n;refine zXl hax (fun o ho hb=>?_) hi1;have hn:=hne l n rfl o ho hb;rw[jA8 (Ne.symm hn)];exact ho
   refine⟨_,mkj σi s1,⟨⟨mki,fun _=>rfl,KF.refl _ _ _,fun h=>by simp[zAA,KOp.lite]at h,hit⟩,fun _ τ hs=>?_,fun _ _ h=>by simp[KOp.isCall]at h⟩⟩;rcases hs with hs | ⟨hs,_⟩ | rfl
   ·simp[zAA,KOp.lite]at hs
   ·cases hs
   ·exact mki
  case st di xi vi ni =>
   obtain⟨⟨hi1,_,_,_,hit⟩,_⟩:=hi;simp only[zCe]at hi1;obtain⟨ci,d1,d2,d3,rfl⟩:=zRf hi1;obtain⟨l,o,o',t0,t1,t2,rfl,t3⟩:=qBV hit d3;have hlt:l < σ.length:=(jA1.1 t1).1;have hne:l≠l':=fun e=>by subst e;rw[jAi hlt]at s1;cases s1;exact t2 _ rfl
   have s1' : σ[l']?=some (.box ds):=by rw[jA8 hne]at s1; exact s1
   refine⟨_,mkj σ s1',⟨⟨?_,fun h=>by simp[jY,KOp.keeps]at h,KF.of rfl fun h=>by simp[zDS,KOp.grows,KOp.isCall]at h,fun h=>by simp[zAA,KOp.lite,KOp.keeps]at h,hit⟩,fun h=>by simp[jY,KOp.keeps]at h,fun _ _ h=>by simp[KOp.isCall]at h⟩⟩;have:=t3 (σ.set l' (.box ds')) (by rw[jA8 (Ne.symm hne)]; exact t1);rw[List.set_comm _ _ (Ne.symm hne)]at this;exact(zUC (P:=P) (d:=di) d1 d2 this:eff P env _ (.lit undef) _ (.st di xi vi ni))
theorem zN5 {f:Nat}(h1:1000≤f)(h2:f<2000){d:Option Nat}{x v:Operand}{n:Nat}:zBc f (.st d x v n) env↔zGn (f-1000) (ev env x):=by
 unfold zBc;split
 ·omega
 ·omega
 ·rw[if_neg (by omega),if_neg (by omega),if_pos h1]
theorem zP6 {f:Nat}(h1:4000≤f){d:Option Nat}{x:Operand}{n:Nat}{g:Bool}:zBc f (.ld d x n g) env↔zB7 (f-4000) (ev env x):=by
 unfold zBc;split
 ·omega
 ·omega
 ·rw[if_pos h1]
theorem zM7 {f:Nat}(h1:4000≤f){d:Option Nat}{x i:Operand}{n:Nat}:zBc f (.idx d x i n) env↔isRow (ev env x):=by
 unfold zBc;split
 ·omega
 ·omega
 ·rw[if_pos h1]
theorem zGx {f:Nat}(h1:2000≤f)(h2:f<4000){d:Option Nat}{x:Operand}{n:Nat}{g:Bool}:zBc f (.ld d x n g) env↔zB7 (f-2000) (ev env x):=by
 unfold zBc;split
 ·omega
 ·omega
 ·rw[if_neg (by omega),if_pos h1]
theorem qBT {l o:Nat}{cs:List A} {τ : St}(h:stA σ cs (.ptr l o)=some τ):∃ds ds',σ[l]?=some (AObj.box ds)∧τ = σ.set l (.box ds')∧∀υ : St,υ[l]?=some (.box ds)→stA υ cs (.ptr l o)=some (υ.set l (.box ds')):=by
 simp only[stA]at h;split at h<;>try (cases h; done)
 rename_i ds hl;split at h<;>try (cases h; done)
 rename_i hfit;cases h;exact⟨ds,_,hl,rfl,fun υ hu=>by simp only[stA,hu,hfit,if_true]⟩
theorem zIF {d:Option Nat}{x:Operand}{n:Nat}{g:Bool}(h:ldA τ n (ev env x)=ldA σ n (ev env x)):zJ env τ (.ld d x n g)=zJ env σ (.ld d x n g):=by simp only[zJ,h]
theorem zQ0 {fi fj:Nat}{gi gj:KG}{ri rj:A} {σi σj:St}(hc:zSa fi fj gi gj=true)(hi:zCK P fi gi env σ ri σi)(hj:zCy P fj gj env σi rj σj) :
 ∃σ1,zCy P fj gj env σ rj σ1∧zCK P fi gi env σ1 ri σj:=by
 obtain⟨gdi,ki⟩:=gi;obtain⟨gdj,kj⟩:=gj;simp only[zSa,jA6,beq_iff_eq,jCl,Nat.ble_eq,Nat.blt_eq]at hc;obtain⟨⟨⟨⟨⟨hfi,hf1⟩,hf2⟩,rfl⟩,rfl⟩,hc⟩:=hc;cases ki<;>try (simp at hc; done)
 case ld di xi ni agi =>
 cases kj<;>try (simp at hc; done)
 case st dj xj vj nj =>
  have hj0:=hj;obtain⟨hj1,q1,q2,q3,hjt⟩:=hj;obtain⟨⟨hi1,hi2,hi2',hi4,hit⟩,hi3,_⟩:=hi;have e:=hi2 (by simp[jY,KOp.keeps,KOp.isCall]);subst e;have hjt':=(zN5 hf1 hf2).1 hjt;have hit':=(zGx (by omega) (by omega)).1 hit;simp only[zCe]at hj1;obtain⟨cj,c1,c2,c3,rfl⟩:=zRf hj1;have key:∀n,ldA σj n (ev env xi)=ldA σi n (ev env xi):=by
   generalize ev env xj=aj at hjt' c3;generalize ev env xi=ai at hit';intro n;cases aj<;>simp only[zGn]at hjt';rename_i lj oj;obtain⟨ds,ds',s1,rfl,_⟩:=qBT c3;cases ai<;>simp only[zB7]at hit'
   ·rename_i li oi;have hne:lj≠li:=by omega
    simp only[ldA,jA8 hne]
   ·rfl
  have mk:eff P env σj ri σj (.ld di xi ni agi):=by simp only[zCe]at hi1;refine⟨rfl,?_⟩;have h2:=hi1.2;rw[zIF (key ni)];exact h2
  have hlF:zAA fi (.ld di xi ni agi)=false:=by simp only[zAA,KOp.lite,jC9,jCk,beq_eq_false_iff_ne];exact .inl (.inl (by omega))
  refine⟨σj,hj0,⟨⟨mk,fun _=>rfl,KF.refl _ _ _,fun h=>(by rw[hlF]at h; cases h),hit⟩,fun _ τ hs=>?_,fun _ _ h=>by simp[KOp.isCall]at h⟩⟩;rcases hs with hs | ⟨hs,_⟩ | rfl
  ·rw[hlF]at hs; cases hs
  ·omega
  ·exact mk
 case call dj fo args =>
  have hj0:=hj;obtain⟨hj1,q1,q2,q3,hjt⟩:=hj;obtain⟨⟨hi1,hi2,hi2',hi4,hit⟩,hi3,_⟩:=hi;have e:=hi2 (by simp[jY,KOp.keeps,KOp.isCall]);subst e;have hit':=(zGx (by omega) (by omega)).1 hit;obtain⟨c,hcj⟩:∃c,fj=c+1000:=⟨fj-1000,by omega⟩;have hka:KA c σi σj:=by
   have:=(q2.2 rfl).1 hf1 hf2
   rwa [hcj,Nat.add_sub_cancel]at this
  have hic:fi-2000=c:=by omega
  rw[hic]at hit';simp only[zCe]at hi1;have h2:=hi1.2;have key:ldA σj ni (ev env xi)=ldA σi ni (ev env xi):=by
   simp only[zJ]at h2;generalize ev env xi=ai at hit' h2 ⊢;cases ai<;>simp only[zB7]at hit'
   ·rename_i li oi;simp only[ldA]at h2 ⊢;cases hb : σi[li]? with
    | none=>rw[hb]at h2; simp[qX]at h2
    | some o =>
     rw[hb]at h2;cases o<;>first | (simp[qX]at h2; done) | skip
     rename_i cs;rw[hka li cs hit' hb]
   ·rfl
  have mk:eff P env σj ri σj (.ld di xi ni agi):=by refine⟨rfl,?_⟩;rw[zIF key];exact h2
  have hlF:zAA fi (.ld di xi ni agi)=false:=by simp only[zAA,KOp.lite,jC9,jCk,beq_eq_false_iff_ne];exact .inl (.inl (by omega))
  refine⟨σj,hj0,⟨⟨mk,fun _=>rfl,KF.refl _ _ _,fun h=>(by rw[hlF]at h; cases h),hit⟩,fun _ τ hs=>?_,fun _ _ h=>by simp[KOp.isCall]at h⟩⟩;rcases hs with hs | ⟨hs,_⟩ | rfl
  ·rw[hlF]at hs; cases hs
  ·omega
  ·exact mk
theorem qBc {d:Option Nat}{x i:Operand}{sz l n:Nat}(hx:ev env x=.row l n){J:A→Prop}(h:zNF σ τ)(hp:qX (zJ env σ (.idx d x i sz)) J):qX (zJ env τ (.idx d x i sz)) J:=by
 cases hi:ev env i with
 | lit u =>
  cases u with
  | int k j =>
   simp only[zJ,hx,hi]at hp ⊢;split at hp
   ·rename_i ho;obtain⟨fz',cs',h'⟩:=h _ _ _ _ _ _ ho;rw[h'];exact hp
   ·exact hp.elim
  | _=>simp[zJ,hx,hi,qX]at hp
 | _=>simp[zJ,hx,hi,qX]at hp
theorem zW0 {d:Option Nat}{x:Operand}{off:Nat}{J:A→Prop}(h:zNF σ τ)(hp:qX (zJ env σ (.addr d x off)) J):qX (zJ env τ (.addr d x off)) J:=by
 simp only[zJ]at hp ⊢;cases hx:ev env x with
 | rwp l n o =>
  simp only[hx]at hp ⊢;cases ho : σ[l]? with
  | none=>rw[ho]at hp; exact hp.elim
  | some b =>
   rw[ho]at hp;cases b<;>first | (exact hp.elim) | skip
   obtain⟨fz',cs',h'⟩:=h _ _ _ _ _ _ ho;rw[h'];exact hp
 | _=>simp only[hx]at hp ⊢; exact hp
theorem zSV {fi fj:Nat}{gi gj:KG}{ri rj:A} {σi σj:St}(hc:zXN fi fj gi gj=true)(hi:zCK P fi gi env σ ri σi)(hj:zCy P fj gj env σi rj σj) :
 ∃σ1,zCy P fj gj env σ rj σ1∧zCK P fi gi env σ1 ri σj:=by
 obtain⟨gdi,ki⟩:=gi;obtain⟨gdj,kj⟩:=gj;simp only[zXN,jA6,beq_iff_eq,jCl,Nat.ble_eq,Nat.blt_eq]at hc;obtain⟨⟨⟨⟨⟨hfi,hf1⟩,hf2⟩,rfl⟩,rfl⟩,hc⟩:=hc;have hj0:=hj;obtain⟨hj1,q1,q2,q3,hjt⟩:=hj;obtain⟨⟨hi1,hi2,hi2',hi4,hit⟩,hi3,hi5⟩:=hi;cases ki<;>try (simp at hc; done)
 case ld di xi ni agi =>
  cases kj<;>try (simp at hc; done)
  case call dj fo args =>
   have e:=hi2 (by simp[jY,KOp.keeps,KOp.isCall]);subst e;have hit':=(zP6 (by omega)).1 hit;obtain⟨c,hcj⟩:∃c,fj=c+3000:=⟨fj-3000,by omega⟩;have hka:KE c σi σj:=by
    have:=(q2.2 rfl).2 hf1 hf2
    rwa [hcj,Nat.add_sub_cancel]at this
   have hic:fi-4000=c:=by omega
   rw[hic]at hit';simp only[zCe]at hi1;have h2:=hi1.2;have key:ldA σj ni (ev env xi)=ldA σi ni (ev env xi):=by
    simp only[zJ]at h2;generalize ev env xi=ai at hit' h2 ⊢;cases ai<;>simp only[zB7]at hit'
    ·rename_i li oi;simp only[ldA]at h2 ⊢;cases hb : σi[li]? with
     | none=>rw[hb]at h2; simp[qX]at h2
     | some o =>
      rw[hb]at h2;cases o<;>first | (simp[qX]at h2; done) | skip
      rename_i cs;rw[hka.1 li cs hit' hb]
    ·rfl
   have mk:eff P env σj ri σj (.ld di xi ni agi):=by refine⟨rfl,?_⟩;rw[zIF key];exact h2
   have hlF:zAA fi (.ld di xi ni agi)=false:=by simp only[zAA,KOp.lite,jC9,jCk,beq_eq_false_iff_ne];exact .inl (.inl (by omega))
   refine⟨σj,hj0,⟨⟨mk,fun _=>rfl,KF.refl _ _ _,fun h=>(by rw[hlF]at h; cases h),hit⟩,fun _ τ hs=>?_,fun _ _ h=>by simp[KOp.isCall]at h⟩⟩;rcases hs with hs | ⟨hs,_⟩ | rfl
   ·rw[hlF]at hs; cases hs
   ·omega
   ·exact mk
 case idx di xi ii szi =>
  cases kj<;>try (simp at hc; done)
  case call dj fo args =>
   have e:=hi2 (by simp[jY,KOp.keeps,KOp.isCall]);subst e;have hit':=(zM7 (by omega)).1 hit;have hka:zNF σi σj:=((q2.2 rfl).2 hf1 hf2).2;simp only[zCe]at hi1;have h2:=hi1.2;have mk:eff P env σj ri σj (.idx di xi ii szi):=by refine⟨rfl,?_⟩;generalize hax:ev env xi=ax at hit';cases ax<;>simp only[isRow]at hit';exact qBc hax hka h2
   have hlF:zAA fi (.idx di xi ii szi)=false:=by simp only[zAA,KOp.lite,jC9,jCk,beq_eq_false_iff_ne];exact .inl (.inl (by omega))
   refine⟨σj,hj0,⟨⟨mk,fun _=>rfl,KF.refl _ _ _,fun h=>(by rw[hlF]at h; cases h),hit⟩,fun _ τ hs=>?_,fun _ _ h=>by simp[KOp.isCall]at h⟩⟩;rcases hs with hs | ⟨hs,_⟩ | rfl
   ·rw[hlF]at hs; cases hs
   ·omega
   ·exact mk
 case addr di xi oi =>
  cases kj<;>try (simp at hc; done)
  case call dj fo args =>
   have e:=hi2 (by simp[jY,KOp.keeps,KOp.isCall]);subst e;have hka:zNF σi σj:=((q2.2 rfl).2 hf1 hf2).2;simp only[zCe]at hi1;have h2:=hi1.2;have mk:eff P env σj ri σj (.addr di xi oi):=by exact⟨rfl,zW0 hka h2⟩
   have hlF:zAA fi (.addr di xi oi)=false:=by simp only[zAA,KOp.lite,jC9,jCk,beq_eq_false_iff_ne];exact .inl (.inl (by omega))
   refine⟨σj,hj0,⟨⟨mk,fun _=>rfl,KF.refl _ _ _,fun h=>(by rw[hlF]at h; cases h),hit⟩,fun _ τ hs=>?_,fun _ _ h=>by simp[KOp.isCall]at h⟩⟩;rcases hs with hs | ⟨hs,_⟩ | rfl
   ·rw[hlF]at hs; cases hs
   ·omega
   ·exact mk
theorem zSS {fi fj:Nat}{gi gj:KG}{ri rj:A} {σi σj:St}(hc:zPu fi fj gi gj=true)(hi:zCK P fi gi env σ ri σi)(hj:zCy P fj gj env σi rj σj) :
 ∃σ1,zCy P fj gj env σ rj σ1∧zCK P fi gi env σ1 ri σj:=by
 simp only[zPu,jB3]at hc;rcases hc with hc | hc
 ·exact zQ0 hc hi hj
 ·exact zSV hc hi hj
theorem zSW {fi fj:Nat}{gi gj:KG}{ri rj:A} {σi σj:St}(hc:zPx gi gj=true)(hi:zCK P fi gi env σ ri σi)(hj:zCy P fj gj env σi rj σj) :
 ∃σ1,zCy P fj gj env σ rj σ1∧zCK P fi gi env σ1 ri σj:=by
 obtain⟨gdi,ki⟩:=gi;obtain⟨gdj,kj⟩:=gj;simp only[zPx,jA6,jCl]at hc;obtain⟨⟨rfl,rfl⟩,hc⟩:=hc;cases ki<;>try (simp at hc; done)
 case alr di qi zi =>
 cases kj<;>try (simp at hc; done)
 case alr dj qj zj =>
  have hne:qi≠qj:=by simpa using hc
  obtain⟨hj1,p1,p2,p3,hjt⟩:=hj;obtain⟨⟨hi1,o1,o2,o3,hit⟩,hi3,_⟩:=hi;simp only[zCe,eff]at hi1 hj1;obtain⟨a1,rfl,rfl⟩:=hi1;obtain⟨b1,rfl,rfl⟩:=hj1;have b1' : σ[qj]?=some .rsv:=by rw[jA8 hne]at b1; exact b1
  have kp:∀(υ : St) q (o:AObj),υ[q]?=some .rsv→zAj υ (υ.set q o):=fun υ q o hq l cs hl=>by
   by_cases e:l=q
   ·subst e; rw[hq]at hl; cases hl
   ·rw[jA8 (Ne.symm e)]; exact hl
  refine⟨σ.set qj (AObj.box (zj.map qS)),⟨?_,fun h=>by simp[jY,KOp.keeps]at h,KF.of rfl fun _=>kp _ _ _ b1',fun h=>by simp[zAA,KOp.lite,KOp.keeps]at h,hjt⟩,⟨?_,fun h=>by simp[jY,KOp.keeps]at h,KF.of rfl fun _=>?_,fun h=>by simp[zAA,KOp.lite,KOp.keeps]at h,hit⟩,fun h=>by simp[jY,KOp.keeps]at h,fun _ _ h=>by simp[KOp.isCall]at h⟩
  ·simp only[zCe,eff];exact⟨b1',trivial,trivial⟩
  ·simp only[zCe,eff];exact⟨by rw[jA8 (Ne.symm hne)]; exact a1,trivial,List.set_comm _ _ hne⟩
  ·rw[List.set_comm _ _ hne];exact kp _ _ _ (by rw[jA8 (Ne.symm hne)]; exact a1)
theorem zQ1 {fi fj:Nat}{gi gj:KG}{ri rj:A} {σi σj:St}(hc:zSb fi gi gj=true)(hi:zCK P fi gi env σ ri σi)(hj:zCy P fj gj env σi rj σj) :
 ∃σ1,zCy P fj gj env σ rj σ1∧zCK P fi gi env σ1 ri σj:=by
 obtain⟨gdi,ki⟩:=gi;obtain⟨gdj,kj⟩:=gj;simp only[zSb,jA6,jB3,beq_iff_eq,jCl]at hc;obtain⟨⟨⟨hf,rfl⟩,rfl⟩,hc⟩:=hc;cases ki<;>try (simp at hc; done)
 case call di fo args =>
 cases kj<;>try (simp at hc; done)
 case alr dj qj zj =>
  obtain⟨hj1,p1,p2,p3,hjt⟩:=hj;obtain⟨⟨hi1,o1,o2,o3,hit⟩,_,hi3⟩:=hi;obtain⟨u,rfl,hu,hall⟩:=hi3 rfl hf rfl;simp only[zCe,eff]at hj1;obtain⟨b1,rfl,rfl⟩:=hj1;have b1' : σ[qj]?=some .rsv:=hu.1 _ b1;have kp:zBi σ (σ.set qj (AObj.box (zj.map qS))):=fun l o hl hn=>by
   by_cases e:l=qj
   ·subst e; rw[b1']at hl; cases hl; exact(hn rfl).elim
   ·rw[jA8 (Ne.symm e)]; exact hl
  have hset:=hu.2 σ qj (AObj.box (zj.map qS)) rfl (zBi.refl _) b1';rw[←hset];have hnew:=hall (σ.set qj (AObj.box (zj.map qS))) (by simp) kp;have back:∀q:Nat,(σ.set qj (AObj.box (zj.map qS)))[q]?=some AObj.rsv→σ[q]?=some AObj.rsv:=fun q hq=>by
   by_cases e:q=qj
   ·subst e; exact b1'
   ·rw[jA8 (Ne.symm e)]at hq; exact hq
  have hkF:jY fi (.call di fo args)=false:=by rcases hf with rfl | rfl<;>simp[jY,KOp.isCall]
  have hlF:zAA fi (.call di fo args)=false:=by simp[zAA,KOp.lite,KOp.isCall]
  refine⟨σ.set qj (AObj.box (zj.map qS)),⟨?_,fun h=>by simp[jY,KOp.keeps]at h,KF.of rfl fun _=>kp.keeps,fun h=>by simp[zAA,KOp.lite,KOp.keeps]at h,hjt⟩,
   ⟨⟨?_,fun h=>(by rw[hkF]at h; cases h),⟨fun hg=>?_,fun _=>⟨fun q1 q2=>by omega,fun q1 q2=>by omega⟩⟩,fun h=>(by rw[hlF]at h; cases h),hit⟩,fun h=>(by rw[hkF]at h; cases h),fun _ _ _=>⟨u,rfl,⟨fun q hq=>?_,fun τ q o hl hk hq=>?_⟩,fun τ hl hk=>hall τ (by simpa using hl) (kp.trans hk)⟩⟩⟩
  ·simp only[zCe,eff];exact⟨b1',trivial,trivial⟩
  ·simp only[zCe];exact hnew
  ·have h0:=o2.1 hg;rw[hset];intro l cs hl;by_cases e:l=qj
   ·subst e;have hlt:l<(u σ).length:=by
     rcases jAo l (u σ).length with h | h
     ·exact h
     ·rw[jB7 h]at b1; cases b1
    have hlt2:l < σ.length:=by
     rcases jAo l σ.length with h | h
     ·exact h
     ·rw[jB7 h]at b1'; cases b1'
    rw[jAi hlt2]at hl;rw[jAi hlt];exact hl
   ·rw[jA8 (Ne.symm e)]at hl ⊢;exact h0 l cs hl
  ·rw[hset]at hq;by_cases e:q=qj
   ·subst e;have hlt:q<(u σ).length:=by
     rcases jAo q (u σ).length with h | h
     ·exact h
     ·rw[jB7 h]at b1; cases b1
    rw[jAi hlt]at hq;cases hq
   ·rw[jA8 (Ne.symm e)]at hq;have:=hu.1 q hq;rw[jA8 (Ne.symm e)]; exact this
  ·exact hu.2 τ q o (by simpa using hl) (kp.trans hk) (back q hq)
def KOp.looksL:KOp→Bool
 | .len _ s _=>!s
 | .idx .. | .ld .. | .addr ..=>true
 | _=>false
theorem zVI {k:KOp}{p:Prop}{r:A}{q:Nat}{zs:List A}(hk:k.looksL=true)(hq : σ[q]?=some .rsv)(h:zJ env σ k=some (p,r)):zJ env (σ.set q (AObj.box zs)) k=some (p,r):=by
 have get:∀l:Nat,l≠q→(σ.set q (AObj.box zs))[l]? = σ[l]?:=fun l hl=>jA8 (Ne.symm hl)
 cases k<;>simp only[KOp.looksL]at hk<;>try (cases hk; done)
 case len d s x =>
  cases s<;>try (cases hk; done)
  simp only[zJ]at h⊢;generalize ev env x=a at h⊢;cases a<;>first
   | exact h
   | (cases h; done)
   | (rename_i l n; by_cases hl:l=q; (subst hl; simp only[hq]at h; cases h); (simp only[get l hl]; exact h))
   | (rename_i l n o k c; by_cases hl:l=q; (subst hl; simp only[hq]at h; cases h); (simp only[get l hl]; exact h))
 case idx d x i sz =>
  simp only[zJ]at h⊢;generalize ev env x=a at h⊢;generalize ev env i=b at h⊢;cases b<;>first
   | (cases a<;>first | exact h | (cases h; done))
   | (rename_i v; cases v<;>first
    | (cases a<;>first | exact h | (cases h; done))
    | (cases a<;>first
     | exact h
     | (cases h; done)
     | (rename_i l n; by_cases hl:l=q; (subst hl; simp only[hq]at h; cases h); (simp only[get l hl]; exact h))
     | (rename_i l n o k c; by_cases hl:l=q; (subst hl; simp only[hq]at h; cases h); (simp only[get l hl]; exact h))))
 case addr d x off =>
  simp only[zJ]at h⊢;generalize ev env x=a at h⊢;cases a<;>first
   | exact h
   | (cases h; done)
   | (rename_i l n o; by_cases hl:l=q; (subst hl; simp only[hq]at h; cases h); (simp only[get l hl]; exact h))
 case ld d x n agg =>
  simp only[zJ]at h⊢;have key:∀cs,ldA σ n (ev env x)=some cs→ldA (σ.set q (AObj.box zs)) n (ev env x)=some cs:=by
   intro cs hcs;unfold ldA at hcs ⊢;generalize ev env x=a at hcs ⊢;cases a<;>first
    | exact hcs
    | (cases hcs; done)
    | (rename_i l o; by_cases hl:l=q; (subst hl; simp only[hq]at hcs; cases hcs); (simp only[get l hl]; exact hcs))
    | (rename_i l m o; by_cases hl:l=q; (subst hl; simp only[hq]at hcs; cases hcs); (simp only[get l hl]; exact hcs))
  cases hld:ldA σ n (ev env x)with
  | none=>rw[hld]at h; cases h
  | some cs=>rw[key cs hld]; rw[hld]at h; exact h
theorem zSU {fi fj:Nat}{gi gj:KG}{ri rj:A} {σi σj:St}(hc:zXM gi gj=true)(hi:zCK P fi gi env σ ri σi)(hj:zCy P fj gj env σi rj σj) :
 ∃σ1,zCy P fj gj env σ rj σ1∧zCK P fi gi env σ1 ri σj:=by
 obtain⟨gdi,ki⟩:=gi;obtain⟨gdj,kj⟩:=gj;simp only[zXM,jA6,jCl]at hc;obtain⟨⟨rfl,rfl⟩,hc⟩:=hc;have hki:ki.looksL=true∧∃d q z,kj=.alr d q z:=by
  split at hc
  all_goals first | exact⟨rfl,_,_,_,rfl⟩ | (cases hc; done)
 clear hc;obtain⟨hki,dj,qj,zj,rfl⟩:=hki;have hkeep:ki.keeps=true∧ki.isCall=false∧ki.grows=false:=by cases ki<;>first | (cases hki; done) | (rename_i s x; cases s<;>first | exact⟨rfl,rfl,rfl⟩ | (cases hki; done)) | exact⟨rfl,rfl,rfl⟩
 have hkf:jY fi ki=true:=by simp[jY,hkeep.1,hkeep.2.1]
 obtain⟨hj1,p1,p2,p3,hjt⟩:=hj;obtain⟨⟨hi1,o1,o2,o3,hit⟩,hi2,hi3⟩:=hi;have hσ : σi = σ:=o1 hkf;subst hσ;simp only[zCe,eff]at hj1;obtain⟨b1,rfl,rfl⟩:=hj1;have kp:zAj σi (σi.set qj (AObj.box (zj.map qS))):=fun l cs hl=>by
  by_cases e:l=qj
  ·subst e; rw[b1]at hl; cases hl
  ·rw[jA8 (Ne.symm e)]; exact hl
 have hnew:zCe P ⟨none,ki⟩ env (σi.set qj (AObj.box (zj.map qS))) ri (σi.set qj (AObj.box (zj.map qS))):=by
  simp only[zCe]at hi1 ⊢;have hd:∀τ,eff P env τ ri τ ki↔qX (zJ env τ ki) fun r'=>ri=r':=by intro τ;cases ki<;>first | (cases hki; done) | (simp only[eff,true_and])
  rw[hd]at hi1 ⊢;cases hp:zJ env σi ki with
  | none=>rw[hp]at hi1; exact hi1.elim
  | some x =>
   obtain⟨pp,rr⟩:=x;rw[zVI hki b1 hp];rw[hp]at hi1;exact hi1
 refine⟨σi.set qj (AObj.box (zj.map qS)),⟨?_,fun h=>by simp[jY,KOp.keeps]at h,KF.of rfl fun _=>kp,fun h=>by simp[zAA,KOp.lite,KOp.keeps]at h,hjt⟩,
  ⟨⟨hnew,fun _=>rfl,KF.refl _ _ _,o3,hit⟩,fun _ τ hs=>?_,fun _ h7 hcl=>by rw[hkeep.2.1]at hcl; cases hcl⟩⟩
 ·simp only[zCe,eff];exact⟨b1,trivial,trivial⟩
 ·rcases hs with h | ⟨h,hk⟩ | rfl
  ·exact o3 h τ
  ·exact hi2 hkf τ (.inr (.inl ⟨h,fun l cs hl=>hk l cs (kp l cs hl)⟩))
  ·exact hnew
theorem zST {fi fj:Nat}{gi gj:KG}{ri rj:A} {σi σj:St}(hc:zPv fi gi gj=true)(hi:zCK P fi gi env σ ri σi)(hj:zCy P fj gj env σi rj σj) :
 ∃σ1,zCy P fj gj env σ rj σ1∧zCK P fi gi env σ1 ri σj:=by
 simp only[zPv,jB3]at hc;rcases hc with hc | hc
 ·exact zQ1 hc hi hj
 ·exact zSU hc hi hj
theorem zSR {fi fj:Nat}{gi gj:KG}{ri rj:A} {σi σj:St}(hc:(zES fi fj gi.op gj.op||(zPw fi fj gi gj||(zPu fi fj gi gj||(zPx gi gj||zPv fi gi gj))))=true)(hi:zCK P fi gi env σ ri σi)(hj:zCy P fj gj env σi rj σj) :
 ∃σ1,zCy P fj gj env σ rj σ1∧zCK P fi gi env σ1 ri σj:=by
 simp only[jB3]at hc;rcases hc with hc | hc | hc | hc | hc
 ·exact zQz hc hi hj
 ·exact zVk hc hi hj
 ·exact zSS hc hi hj
 ·exact zSW hc hi hj
 ·exact zST hc hi hj
theorem Env.put_ne {d:Option Nat}{x:A}{t:Nat}(h:∀y,d=some y→t≠y):env.put d x t=env t:=by
 cases d with
 | none=>rfl
 | some y=>simp[Env.put,h y rfl]
theorem Env.put_comm {d d':Option Nat}{x y:A}(h:∀z,d=some z→d'≠some z):(env.put d x).put d' y=(env.put d' y).put d x:=by
 cases d with
 | none=>rfl
 | some z =>
  cases d' with
  | none=>rfl
  | some z' =>
   have hne:z'≠z:=fun e=>h z rfl (by rw[e])
   funext t;simp only[Env.put];by_cases h1:t=z'
   ·subst h1; simp[hne]
   ·simp[h1]
def zJK (P:Program)(Qp:Value→St→Prop)(f:Nat)(fv:A)(args:List A) (σ : St)(R:A→St→Prop):Prop:=match fv with
 | .clo g first cap=>zA P g=true∧yV P g (first++args++cap) σ fun o τ=>(∃r,o=.ret r∧(f=8→zAj σ τ)∧R r τ)∨∃v,o=.pan v∧Qp v τ
 | _=>False
theorem zPT {f:Nat}{fv:A}{args:List A}{R R':A→St→Prop}(h:zJK P Qp f fv args σ R)(hr:∀r τ,(f=8→zAj σ τ)→R r τ→R' r τ):zJK P Qp f fv args σ R':=by
 unfold zJK at h⊢;split at h
 ·refine⟨h.1,fun H L w vs h1 h2=>(h.2 H L w vs h1 h2).mono fun e w' hh=>?_⟩;obtain⟨o,σ',H',L',g1,g2,hh⟩:=hh;refine⟨o,σ',H',L',g1,g2,?_⟩;rcases hh with ⟨r,g3,g4,g5⟩ | hh
  ·exact .inl ⟨r,g3,g4,hr r σ' g4 g5⟩
  ·exact .inr hh
 ·exact h.elim
def aOp (P:Program)(Qp:Value→St→Prop)(all:List (Nat×Nat×KG))(i:Nat)(K:Env→St→Prop)(env:Env) (σ : St):Prop :=
 (∃f g r σ',(i,f,g)∈all∧zCy P f g env σ r σ'∧K (env.put g.op.dst r) σ') ∨
 ∃f d fo args,(f=8∨f=10)∧(i,f,(⟨none,.call d fo args⟩:KG))∈all∧zJK P Qp f (ev env fo) (args.map (ev env)) σ fun r τ=>K (env.put d r) τ
def zFb (P:Program)(Qp:Value→St→Prop)(ops:Array Oper)(all:List (Nat×Nat×KG))(Q:Env→St→Prop):Nat→Array Bool→Env→St→Prop
 | 0,listed,env,σ=>Region.ready .any ops listed=[]∧Q env σ
 | fuel+1,listed,env,σ=>(Region.ready .any ops listed=[]→Q env σ)∧∀i∈Region.ready .any ops listed,aOp P Qp all i (zFb P Qp ops all Q fuel (listed.setIfInBounds i true)) env σ
structure Fits (ops:Array Oper)(all:List (Nat×Nat×KG)):Prop where
 dst:∀(i f:Nat) o g,ops[i]?=some o→(i,f,g)∈all→g.op.dst=o.dst
 looks:∀(i f:Nat) o g,ops[i]?=some o→(i,f,g)∈all→∀t∈g.looks,t∈o.looksAt ops
theorem zOA {listed:Array Bool}{n:Nat}(h:listed.getD n true=false)(h':listed.getD n false=true):False:=by
 rcases jAo n listed.size with hn | hn
 ·simp[hn]at h h';rw[h]at h';cases h'
 ·simp[Array.getElem?_eq_none hn]at h'
theorem qG7 {fi fj:Nat}{gi:KG}{d:Option Nat}{fo:Operand}{args:List Operand}(hfj:fj=8∨fj=10)(h:(zES fi fj gi.op (.call d fo args)||(zPw fi fj gi ⟨none,.call d fo args⟩||(zPu fi fj gi ⟨none,.call d fo args⟩||(zPx gi ⟨none,.call d fo args⟩||zPv fi gi ⟨none,.call d fo args⟩))))=true) :
 jY fi gi.op=true∧(zAA fi gi.op=true∨(fi=1∧fj=8)):=by
 have e1:zPw fi fj gi ⟨none,.call d fo args⟩=false:=by simp[zPw]
 have e2:zPu fi fj gi ⟨none,.call d fo args⟩=false:=by
  have a1:Nat.ble 1000 fj=false:=by rcases hfj with rfl | rfl<;>rfl
  have a2:Nat.ble 3000 fj=false:=by rcases hfj with rfl | rfl<;>rfl
  simp[zPu,zSa,zXN,a1,a2]
 have e3:zPx gi ⟨none,.call d fo args⟩=false:=by unfold zPx;cases gi.op<;>simp
 have e4:zPv fi gi ⟨none,.call d fo args⟩=false:=by unfold zPv zSb zXM;cases gi.op<;>simp
 have e5:zAA fj (.call d fo args)=false:=by rcases hfj with rfl | rfl<;>simp[zAA,KOp.lite]
 have e6:jY fj (.call d fo args)=false:=by
  have:Nat.ble 3 fj=true:=by rcases hfj with rfl | rfl<;>rfl
  simp[jY,KOp.isCall,this]
 have e7:zDS 10 (.call d fo args)=false:=by simp[zDS,KOp.grows]
 rw[e1,e2,e3,e4]at h;simp only[zES,e5,e6,Bool.or_false,jC9,jA6,jB3,beq_iff_eq]at h;refine⟨h.1,h.2.imp id fun x=>⟨x.1,?_⟩⟩;rcases hfj with e | e
 ·exact e
 ·rw[e,e7]at x;cases x.2
theorem zNA {all:List (Nat×Nat×KG)}(hf:Fits ops all){Q:Env→St→Prop}{fi i:Nat}{oi:Oper}{gi:KG}{ri:A}(hi:ops[i]?=some oi)(hgi:(i,fi,gi)∈all)(B:List Nat)
 (hB:∀j∈B,∃o,ops[j]?=some o∧∃e∈o.after,Region.binds .any e=true∧(e.on=i∨e.on∈B)) :
 ∀(fuel:Nat) (listed:Array Bool) (env:Env) (σ σi:St),(∀j∈B,listed.getD j true=false) →
  (∀j oj fj gj,ops[j]?=some oj→(j,fj,gj)∈all→j≠i→listed.getD j true=false→(∀e∈oj.after,Region.binds .any e=true→e.on≠i)→j∉B→oi.apart ops oj=true∧(zES fi fj gi.op gj.op||(zPw fi fj gi gj||(zPu fi fj gi gj||(zPx gi gj||zPv fi gi gj))))=true) →
  i∈Region.ready .any ops listed→zCK P fi gi env σ ri σi →
  zFb P Qp ops all Q fuel (listed.setIfInBounds i true) (env.put gi.op.dst ri) σi→zFb P Qp ops all Q (fuel+1) listed env σ:=by
 intro fuel;induction fuel with
 | zero =>
  intro listed env σ σi _ _ hr hy H;refine⟨fun h=>(by rw[h]at hr; cases hr),fun j hj=>?_⟩;by_cases hji:j=i
  ·subst hji; exact .inl ⟨fi,gi,ri,σi,hgi,hy.1,H⟩
  ·have:=ready_mono hj hji;rw[H.1]at this;cases this
 | succ fuel ih =>
  intro listed env σ σi hBl hfree hr hy H;refine⟨fun h=>(by rw[h]at hr; cases hr),fun j hj=>?_⟩;by_cases hji:j=i
  ·subst hji; exact .inl ⟨fi,gi,ri,σi,hgi,hy.1,H⟩
  ·obtain⟨hjun,oj,hoj,hall⟩:=mem_ready.1 hj;have hiun:=(mem_ready.1 hr).1;have hnot:∀e∈oj.after,Region.binds .any e=true→e.on≠i:=fun e he hb heq=>by have:=hall e he hb;rw[heq]at this;exact zOA hiun this
   have hjB:j∉B:=fun hm=>by
    obtain⟨o,ho,e,he,hb,hon⟩:=hB j hm;rw[hoj]at ho;cases ho;rcases hon with h1 | h1
    ·exact hnot e he hb h1
    ·exact zOA (hBl _ h1) (hall e he hb)
   rcases H.2 j (ready_mono hj hji)with ⟨fj,gj,rj,σj,hgj,ej,hK⟩ | ⟨f8,dd,foj,argsj,hf8,hgj,hcn⟩
   rotate_left
   ·obtain⟨hap,hcm⟩:=hfree j oj f8 _ hoj hgj hji hjun hnot hjB;obtain⟨h1,h2,h3⟩:=Oper.apart_spec hap;have di:=hf.dst i fi oi gi hi hgi;have dj:=hf.dst j f8 oj _ hoj hgj;simp only[KOp.dst]at dj;have hcm':=qG7 hf8 hcm;obtain⟨hk,hst⟩:=hcm';have e:=hy.1.2.1 hk;subst e;have hlki:∀x∈(KOp.call dd foj argsj).reads,ev (env.put gi.op.dst ri) x=ev env x:=zH7 fun t ht=>Env.put_ne fun y hy' e=>by subst e;exact h1 t (by rw[←di]; exact hy') (hf.looks j f8 oj _ hoj hgj t (jBd _ (jCc.2 ⟨.tmp t,ht,rfl⟩)))
    rw[hlki foj (by simp[KOp.reads]),zBM fun x hx=>hlki x (by simp[KOp.reads,hx])]at hcn;refine .inr ⟨f8,dd,foj,argsj,hf8,hgj,zPT hcn fun r τ hkp hK=>?_⟩;have hstab:zJ0 fi gi.op σi τ:=by
     rcases hst with hl | ⟨hf1,hf2⟩
     ·exact .inl hl
     ·exact .inr (.inl ⟨hf1,hkp hf2⟩)
    have hij:=hy.2.1 hk τ hstab;have hlk:∀t∈gi.looks,(env.put dd r) t=env t:=fun t ht=>Env.put_ne fun y hy' e=>by subst e;exact h3 t (by rw[←dj]; exact hy') (hf.looks i fi oi gi hi hgi t ht)
    have hy2:zCK P fi gi (env.put dd r) τ ri τ:=⟨by
     rw[zGQ hlk];exact⟨hij,fun _=>rfl,KF.refl _ _ _,hy.1.2.2.2⟩,fun hk' υ ht=>by rw[zGR hlk]; exact hy.2.1 hk' υ (zKY hstab ht),fun _ hf7 hcl=>(by
      have hk7:jY fi gi.op=false:=by rcases hf7 with rfl | rfl<;>simp[jY,hcl]
      rw[hk7]at hk;cases hk)⟩
    refine ih (listed.setIfInBounds j true) (env.put dd r) τ τ ?_ ?_ (ready_mono hr (Ne.symm hji)) hy2 ?_
    ·intro m hm;have hne:j≠m:=fun e=>hjB (e▸hm)
     rw[getD_set_ne true hne];exact hBl m hm
    ·intro k ok fk gk hk hgk hki hun hno hkB;refine hfree k ok fk gk hk hgk hki ?_ hno hkB;by_cases hjk:j=k
     ·subst hjk; exact hjun
     ·rw[getD_set_ne true hjk]at hun; exact hun
    ·rw[Array.setIfInBounds_comm _ _ hji,←Env.put_comm (fun z hz=>by rw[dj]; exact h2 z (by rw[←di]; exact hz))];exact hK
   ·obtain⟨hap,hcm⟩:=hfree j oj fj gj hoj hgj hji hjun hnot hjB;obtain⟨h1,h2,h3⟩:=Oper.apart_spec hap;have di:=hf.dst i fi oi gi hi hgi;have dj:=hf.dst j fj oj gj hoj hgj;have ej':zCy P fj gj env σi rj σj:=by
     rw[zGQ (env':=env.put gi.op.dst ri)]
     ·exact ej
     ·intro t ht;refine(Env.put_ne fun y hy' e=>?_).symm;subst e;exact h1 t (by rw[←di]; exact hy') (hf.looks j fj oj gj hoj hgj t ht)
    obtain⟨σ1,ej1,hy1⟩:=zSR hcm hy ej';have hlk:∀t∈gi.looks,(env.put gj.op.dst rj) t=env t:=fun t ht=>Env.put_ne fun y hy' e=>by subst e;exact h3 t (by rw[←dj]; exact hy') (hf.looks i fi oi gi hi hgi t ht)
    have hy2:zCK P fi gi (env.put gj.op.dst rj) σ1 ri σj:=⟨by rw[zGQ hlk]; exact hy1.1,fun hk τ ht=>by rw[zGR hlk]; exact hy1.2.1 hk τ ht,fun hg hf hcl=>by obtain⟨u,e1,e2,e3⟩:=hy1.2.2 hg hf hcl;refine⟨u,e1,e2,fun τ hl hk=>?_⟩;have hq:eff P (env.put gj.op.dst rj) τ ri (u τ) gi.op=eff P env τ ri (u τ) gi.op:=zLE (zH7 fun t ht=>hlk t (jBd _ (jCc.2 ⟨.tmp t,ht,rfl⟩)));rw[hq];exact e3 τ hl hk⟩
    refine .inl ⟨fj,gj,rj,σ1,hgj,ej1,ih (listed.setIfInBounds j true) (env.put gj.op.dst rj) σ1 σj ?_ ?_ (ready_mono hr (Ne.symm hji)) hy2 ?_⟩
    ·intro m hm;have hne:j≠m:=fun e=>hjB (e▸hm)
     rw[getD_set_ne true hne];exact hBl m hm
    ·intro k ok fk gk hk hgk hki hun hno hkB;refine hfree k ok fk gk hk hgk hki ?_ hno hkB;by_cases hjk:j=k
     ·subst hjk; exact hjun
     ·rw[getD_set_ne true hjk]at hun; exact hun
    ·rw[Array.setIfInBounds_comm _ _ hji,←Env.put_comm (fun z hz=>by rw[dj]; exact h2 z (by rw[←di]; exact hz))];exact hK
theorem zG3 {i:Nat}:∀(l acc:List Nat),(∀j∈acc,∃o,ops[j]?=some o∧∃e∈o.after,Region.binds .any e=true∧(e.on=i∨e.on∈acc)) →
 ∀j∈zFs ops i l acc,∃o,ops[j]?=some o∧∃e∈o.after,Region.binds .any e=true∧(e.on=i∨e.on∈zFs ops i l acc)
 | [],acc,h=>h
 | x::l,acc,h=>by
  simp only[zFs];refine zG3 l _ ?_;split
  ·rename_i o ho;split
   ·rename_i hany;rw[Array.any_eq_true']at hany;obtain⟨e,he,hb⟩:=hany;simp only[jA6,jB3,beq_iff_eq,List.contains_iff_mem]at hb;intro j hj;rcases jA7.1 hj with rfl | hj
    ·exact⟨o,ho,e,he,hb.1,hb.2.imp id (jAh _)⟩
    ·obtain⟨o',h1,e',h2,h3,h4⟩:=h j hj;exact⟨o',h1,e',h2,h3,h4.imp id (jAh _)⟩
   ·exact h
  ·exact h
theorem zD1 {all:List (Nat×Nat×KG)}(hf:Fits ops all){Q:Env→St→Prop}:∀(l:List (Nat×Nat×KG)) (listed:Array Bool) (env:Env) (σ : St),(∀x∈l,x∈all) →
 zJX ops all l listed=true→wpD P Qp Q l env σ→zFb P Qp ops all Q l.length listed env σ
 | [],_,_,_,_,hB,h=>⟨by simpa [zJX] using hB,h⟩
 | (k,f,g)::l,listed,env,σ,hl,hB,h=>by
  have h0:=hl (k,f,g) (jAk ..);simp only[zJX,jA6]at hB;obtain⟨⟨hr,hst⟩,hB'⟩:=hB;simp only[wpD]at h;by_cases hf8:f=8∨f=10
  ·have hff:(f==8||f==10)=true:=by rcases hf8 with rfl | rfl<;>rfl
   simp only[hff,if_true,jA6,beq_iff_eq]at hst;obtain⟨⟨hg1,hg2⟩,hg3⟩:=hst;obtain⟨gd,k0⟩:=g;simp only[jCl]at hg1;subst hg1;cases k0<;>simp only[KOp.isCall,jAg]at hg2;rename_i d fo args;refine⟨fun h0=>(by rw[hg3]at h0; cases h0),fun j hj=>?_⟩;rw[hg3,jAn]at hj;subst hj;refine .inr ⟨f,d,fo,args,hf8,h0,?_⟩;have h2:=h.2;simp only[zWr,jI,zXX]at h2;unfold zJK;split at h2
   ·rename_i g first cap hfo
    simp only[hfo];obtain⟨hcb,h2⟩:=h2;rcases hf8 with rfl | rfl
    ·refine⟨hcb,fun H L w vs h3 h4=>(h2 H L w vs h3 h4).mono fun e w' hh=>?_⟩;obtain⟨o,σ',H',L',g1,g2,r,g3,g4,g5⟩:=hh;exact⟨o,σ',H',L',g1,g2,.inl ⟨r,g3,fun _=>g4,zD1 hf l _ _ _ (fun x hx=>hl x (jAh _ hx)) hB' g5⟩⟩
    ·refine⟨hcb,fun H L w vs h3 h4=>(h2 H L w vs h3 h4).mono fun e w' hh=>?_⟩;obtain⟨o,σ',H',L',g1,g2,hh⟩:=hh;refine⟨o,σ',H',L',g1,g2,?_⟩;rcases hh with ⟨r,g3,g5⟩ | hh
     ·exact .inl ⟨r,g3,fun e=>(by cases e),zD1 hf l _ _ _ (fun x hx=>hl x (jAh _ hx)) hB' g5⟩
     ·exact .inr hh
   ·have:=h2.1;omega
   ·exact h2.elim
  have hff:(f==8||f==10)=false:=by simp only[Bool.or_eq_false_iff,beq_eq_false_iff_ne];exact not_or.1 hf8
  rw[hff]at hst;simp only[jAg,if_false]at hst;replace hf8:=not_or.1 hf8;obtain⟨r,σ',hy,hK⟩:=zTH hf8 h.1 h.2;have rest:=zD1 hf l _ _ _ (fun x hx=>hl x (jAh _ hx)) hB' hK;have hrk:k∈Region.ready .any ops listed:=by simpa using hr
  obtain⟨_,ok,ho,_⟩:=mem_ready.1 hrk;have use:∀B:List Nat,(∀j∈B,∃o,ops[j]?=some o∧∃e∈o.after,Region.binds .any e=true∧(e.on=k∨e.on∈B))→zIc ops all listed B k f g=true→zFb P Qp ops all Q (l.length+1) listed env σ:=by
   intro B hBp hs;simp only[zIc,ho,jA6,jAz,jBe]at hs;refine zNA hf ho h0 B hBp l.length listed env σ σ' hs.1 (fun j oj fj gj hoj hgj hne hun hno hnB=>?_) hrk hy rest;have hj:=hs.2 (j,fj,gj) hgj;have hd:zDB ops k j=false:=by rw[zDB,hoj];simp only;rw[Bool.eq_false_iff,ne_eq,Array.any_eq_true'];rintro⟨e,he,hb⟩;simp only[jA6,beq_iff_eq]at hb;exact hno e he hb.1 hb.2
   simp only[zVF,hoj,hd,hun,jB3,beq_iff_eq,hne,false_or,jAg,jA6,List.contains_iff_mem,hnB,or_false]at hj;simp only[jB3];exact hj
  simp only[zWf,jB3]at hst;rcases hst with hst | hst
  ·exact use [] (by simp) hst
  ·exact use (zGJ ops k) (zG3 _ [] (by simp)) hst
theorem zLg {Qp:Value→Env→St→Prop}{r:A}{k:KOp}(h:eff P env σ r σ' k):wpO P Qp (fun env' τ=>env'=env.put k.dst r∧τ = σ') k env σ:=by
 have dflt:(σ' = σ∧qX (zJ env σ k) fun r'=>r=r')→(qX (zJ env σ k) fun r'=>env.put k.dst r'=env.put k.dst r∧σ = σ'):=by
  rintro⟨rfl,h⟩;unfold qX at h⊢;split at h
  ·exact⟨h.1,by rw[h.2],rfl⟩
  ·exact h.elim
 cases k
 case call d f args =>
  simp only[eff,zIM]at h;simp only[wpO];split at h
  ·rename_i g first cap hf
   rw[hf];refine⟨h.1,fun H L w vs h1 h2=>(h.2 H L w vs h1 h2).mono fun e w' hh=>?_⟩;obtain⟨o,τ,H',L',g1,g2,rfl,rfl⟩:=hh;exact⟨_,_,H',L',g1,g2,rfl,rfl⟩
  ·rename_i b hf;rw[hf];intro H L w vs h1 h2;obtain⟨fn,tmps,x,y,k1,k2⟩:=h H L w vs h1 h2;refine⟨fn,tmps,x,y,k1,k2.mono fun e w' hh=>?_⟩;obtain⟨o,τ,H',L',g1,g2,rfl,rfl⟩:=hh;exact⟨_,_,H',L',g1,g2,rfl,rfl⟩
  ·exact h.elim
 case brow d e sz n z ps =>
  simp only[eff]at h;simp only[wpO];split at h
  ·rename_i hf;obtain⟨rfl,rfl⟩:=h;rw[hf];exact⟨rfl,rfl⟩
  ·exact h.elim
 case isz d ng x=>exact h.elim
 case shr d x sz hx=>exact h.elim
 case apq d e sz bytes x y=>exact h.elim
 case pan d x=>exact h.elim
 case bslice d e sz n z ps =>
  obtain⟨rfl,h⟩:=h;simp only[wpO];split at h
  ·rename_i hf;rw[hf];subst h;exact⟨rfl,trivial⟩
  ·exact h.elim
 case alloc d z =>
  obtain⟨rfl,rfl⟩:=h;exact⟨rfl,rfl⟩
 case box d x =>
  simp only[eff]at h;simp only[wpO];split at h
  ·rename_i hf;obtain⟨rfl,rfl⟩:=h;rw[hf];exact⟨rfl,rfl⟩
  ·exact h.elim
 case st d x v n =>
  simp only[eff]at h;simp only[wpO];split at h
  ·rename_i cs hf;obtain⟨h1,h2,rfl⟩:=h;rw[hf];simp only[h1,if_true,h2];exact⟨rfl,trivial⟩
  ·exact h.elim
 case app d e sz bytes x y =>
  simp only[eff]at h;simp only[wpO];split at h
  ·rename_i m ys hf;rw[hf];obtain⟨h0,h⟩:=h;refine⟨h0,?_⟩;generalize ev env x=ax at h⊢;cases ax<;>simp only[zUh]at h
   case nil =>
    obtain⟨h1,rfl,rfl⟩:=h;exact⟨h1,rfl,rfl⟩
   case row l n =>
    simp only;split at h
    ·rename_i hl;obtain⟨h1,h2,rfl,rfl⟩:=h;rw[hl];simp only[h1,and_self,if_true];exact⟨by rw[←h1.1]; exact h2,rfl,trivial⟩
    ·exact h.elim
   case fsl n cs =>
    obtain⟨h1,h | h⟩:=h
    ·obtain⟨h2,rfl,rfl⟩:=h;exact⟨h1,fun _=>⟨rfl,rfl⟩,fun hne=>(hne h2).elim⟩
    ·obtain⟨h2,h3,rfl,rfl⟩:=h;exact⟨h1,fun h0=>(h2 h0).elim,fun _=>⟨h3,rfl,rfl⟩⟩
  ·exact h.elim
 case len d s x =>
  cases s
  ·obtain⟨rfl,h⟩:=h;simp only[wpO];split
   ·rename_i n cs hx;intro _;simp only[qX,zJ,hx,true_and]at h;subst h;exact⟨rfl,trivial⟩
   ·rename_i n cs hx;intro _;simp only[qX,zJ,hx,true_and]at h;subst h;exact⟨rfl,trivial⟩
   ·cases hp:zJ env σ' (.len d false x)with
    | none=>rw[hp]at h; exact h.elim
    | some y=>rw[hp]at h; exact⟨h.1,by rw[h.2]; rfl,trivial⟩
  ·exact dflt h
 case mop d m xs =>
  simp only[wpO];exact zQI h ⟨rfl,rfl⟩
 case alr d q z =>
  obtain⟨hq,rfl,rfl⟩:=h;simp only[wpO,hq];exact⟨rfl,trivial⟩
 all_goals exact dflt h
structure Comp (P:Program)(N:Nat)(ops:Array Oper)(all:List (Nat×Nat×KG)):Prop where
 get:∀(i f:Nat) o g,ops[i]?=some o→(i,f,g)∈all→zDm P N ops o=some g.erase
theorem zGi (k:KOp):k.erase.dst=k.dst:=by cases k<;>rfl
theorem zIZ (g:KG):g.erase.looks=g.looks:=by obtain⟨gd,k⟩:=g;cases k<;>rfl
theorem zCi {o:Oper}{g:KG}(h:zDm P N ops o=some g):g.erase=g:=by
 have hk:=(yS h).1;have hke:g.op.erase=g.op:=by
  generalize g.op=k at hk;cases k<;>try rfl
  case shr =>
   generalize hkk:KOp.shr _ _ _ _=kk at hk;cases yP hk<;>first | (cases hkk; done) | (subst hkk; rename_i hpk _; simp[zBH]at hpk)
  case apq =>
   generalize hkk:KOp.apq _ _ _ _ _ _=kk at hk;cases yP hk<;>first | (cases hkk; done) | (subst hkk; rename_i hpk _; simp[zBH]at hpk)
  case isz =>
   generalize hkk:KOp.isz _ _ _=kk at hk;cases yP hk<;>first | (cases hkk; done) | (subst hkk; rename_i hpk _; simp[zBH]at hpk)
  case rslc =>
   generalize hkk:KOp.rslc _ _ _ _ _=kk at hk;cases yP hk<;>first | (cases hkk; done) | (subst hkk; rename_i hpk _; simp[zBH]at hpk)
  ·generalize hkk:KOp.brow _ _ _ _ _ _=kk at hk;cases yP hk<;>first | (cases hkk; done) | (subst hkk; rename_i hpk _; simp[zBH]at hpk)
  ·generalize hkk:KOp.alr _ _ _=kk at hk;cases yP hk<;>first | (cases hkk; done) | (subst hkk; rename_i hpk _; simp[zBH]at hpk)
 simp only[KG.erase,hke]
theorem zNN {f:Nat}{g:KG}:(zUk f g).erase=g.erase:=by
 unfold zUk;split
 ·rename_i hz;split
  ·simp only[KG.erase,hz,KOp.erase]
  ·rfl
 ·rename_i hz;split
  ·simp only[KG.erase,hz,KOp.erase]
  ·rfl
 ·rfl
theorem zDb {ro:Option Nat}{all:List (Nat×Nat×KG)}(hc:Comp P N ops all)(hall:∀o∈ops.toList,∀x,o.dst=some x→x<N){Q:Ex→Env→St→Prop}{dfs:List Deferred}{Qc:Exit→Act→World→Prop} :
 ∀(fuel:Nat) (listed:Array Bool) {H:Mem} {L:List LI} {σ : St} {w:World} {env:Env} {a:Act},zX H L N env a.tmps→RelSt H L σ w→a.defers=dfs →
  zFb P (zKE Q) ops all (Q .norm) fuel listed env σ→(∀e b v,zGH H L w N Q dfs e b v→Qc e b v)→wpAnyIn (Wr ro) 0 P .any ops Qc fuel listed a w
 | 0,listed,H,L,σ,w,env,a,he,hs,hd,h,hQ=>⟨h.1,hQ _ _ _ ⟨.norm,env,σ,H,L,rfl,hd▸Mk.refl _ _ _,he,Nxt.refl hs,h.2⟩⟩
 | fuel+1,listed,H,L,σ,w,env,a,he,hs,hd,h,hQ=>by
  refine⟨fun h0=>hQ _ _ _ ⟨.norm,env,σ,H,L,rfl,hd▸Mk.refl _ _ _,he,Nxt.refl hs,h.1 h0⟩,fun i hi=>?_⟩;obtain⟨_,o,ho,_⟩:=mem_ready.1 hi;rcases h.2 i hi with ⟨f,g,r,σ1,hg,hy,hK⟩ | ⟨f8,d,fo,args,hf8,hg,hcn⟩
  rotate_left
  ·have hcg:=hc.get i f8 o _ ho hg;obtain⟨hk,hdst,hgd⟩:=yS hcg;unfold wpOpIn;simp only[ho];rcases hgd with ⟨hog,hgn⟩ | ⟨j,want,s,hog,hsl,hgn⟩
   ·have hw:Region.wanted o (yielded ops a.tmps)=true:=by simp[Region.wanted,hog]
    rw[if_pos hw];refine zDl (k:=.call d fo args) (Qp:=fun v _ τ=>zKE Q v τ) (K:=fun env' τ=>zFb P (zKE Q) ops all (Q .norm) fuel (listed.setIfInBounds i true) env' τ) hk hdst he hs ?_ (fun env' σ' H' L' a' w' h1 h2 h3 h4=>?_) (fun v σ' H' L' w' h1 h2=>hQ _ _ _ ⟨.pan v,env,σ',H',L',rfl,hd▸Mk.refl _ _ _,he.mono h1.step.hle h1.lle,h1,h2 env⟩)
    ·simp only[wpO];unfold zJK at hcn;split at hcn
     ·rename_i g first cap hfo
      simp only[hfo];refine⟨hcn.1,fun H L w vs h3 h4=>(hcn.2 H L w vs h3 h4).mono fun e w' hh=>?_⟩;obtain⟨o,σ',H',L',g1,g2,hh⟩:=hh;refine⟨o,σ',H',L',g1,g2,?_⟩;rcases hh with ⟨r,rfl,g4,g5⟩ | ⟨v,rfl,g4⟩
      ·exact g5
      ·exact g4
     ·exact hcn.elim
    ·exact zDb hc hall fuel _ h2 h3.st (h1.trans hd) h4 fun e b v hp=>hQ e b v (hp.next h3 (Mk.refl _ _ _))
   ·cases hgn
  have hcg:=hc.get i f o g ho hg;obtain⟨hk,hdst,hgd⟩:=yS hcg;have hkd:=zA3 hk;rw[show g.erase.op.dst=g.op.dst from zGi _]at hkd;unfold wpOpIn;simp only[ho];have exec:eff P env σ r σ1 g.op→o.wpIn (Wr ro) 0 P a w (wpAnyIn (Wr ro) 0 P .any ops Qc fuel (listed.setIfInBounds i true)) Qc:=by intro hq;refine zDl (k:=g.op) (Qp:=fun _ _ _=>False) hk hdst he hs (zLg hq) (fun env' σ' H' L' a' w' h1 h2 h3 h4=>?_) (fun v σ' H' L' w' h1 h2=>h2.elim);obtain⟨h4,h5⟩:=h4;subst h4;subst h5;exact zDb hc hall fuel _ h2 h3.st (h1.trans hd) hK fun e b v hp=>hQ e b v (hp.next h3 (Mk.refl _ _ _))
  have skip:r=.lit undef→σ1 = σ→wpAnyIn (Wr ro) 0 P .any ops Qc fuel (listed.setIfInBounds i true) (a.put o.dst undef) w:=by rintro rfl rfl;refine zDb hc hall fuel _ ?_ hs ((qJ _ _).trans hd) hK hQ;rw[hkd];exact he.put hdst (by simp[Rel])
  replace hy:=hy.1;unfold zCe at hy;rcases hgd with ⟨hog,hgn⟩ | ⟨j,want,s,hog,hsl,hgn⟩
  ·replace hgn:g.guard=none:=hgn;simp only[hgn]at hy;have hw:Region.wanted o (yielded ops a.tmps)=true:=by simp[Region.wanted,hog]
   rw[if_pos hw];exact exec hy
  ·replace hgn:g.guard=some (s,want):=hgn;simp only[hgn]at hy;have hsN:=zEN hsl hall;obtain⟨w1,w2⟩:=zCV (a:=a) hog hsl (jBt hsN he.1);have hrel:=he.2 s;split at hy
   ·rename_i b hb;rw[hb]at hrel;simp only[Rel]at hrel;rw[w1 b hrel];by_cases hbw:b=want
    ·simp only[hbw,decide_true,if_true];exact exec (hy.1 hbw)
    ·simp only[hbw,decide_false,jAg,if_false];exact⟨fun _ _=>trivial,skip (hy.2 hbw).1 (hy.2 hbw).2⟩
   ·rename_i t ht;rw[ht]at hrel;simp only[Rel]at hrel;rw[w2 t hrel];simp only[jAg,if_false];exact⟨fun _ _=>trivial,skip hy.1 hy.2⟩
   ·exact hy.elim
theorem zCj {ops:Array Oper}:∀{l:List Oper} {gs:List KG},zBS P N ops l=some gs→gs.length=l.length∧∀(i:Nat) o g,l[i]?=some o→gs[i]?=some g→zDm P N ops o=some g
 | [],gs,h=>by simp only[zBS,jA0]at h;subst h;exact⟨rfl,fun i o g h=>by simp at h⟩
 | o::l,gs,h=>by
  simp only[zBS]at h;split at h<;>try (cases h; done)
  rename_i g gs' hg hgs;cases h;obtain⟨h1,h2⟩:=zCj hgs;refine⟨by simp[h1],fun i o' g' ho hg'=>?_⟩;cases i with
  | zero=>simp only[jAx,jA0]at ho hg'; subst ho; subst hg'; exact hg
  | succ i=>simp only[jBf]at ho hg'; exact h2 i o' g' ho hg'
theorem zFM {ops:Array Oper}:∀{l:List Oper} {gs:List KG},zDF ops l gs=true→∀(i:Nat) o g,l[i]?=some o→gs[i]?=some g→∀t∈g.looks,t∈o.looksAt ops
 | [],[],_,i,o,g,h,_=>by simp at h
 | o::l,g::gs,h,i,o',g',ho,hg=>by
  simp only[zDF,jA6]at h;cases i with
  | zero =>
   simp only[jAx,jA0]at ho hg;subst ho; subst hg;intro t ht;have:=jAz.1 h.1 t ht
   simpa using this
  | succ i=>simp only[jBf]at ho hg; exact zFM h.2 i o' g' ho hg
 | [],_::_,h,_,_,_,_,_=>by simp[zDF]at h
 | _::_,[],h,_,_,_,_,_=>by simp[zDF]at h
theorem zJb {gs0:List KG}:∀{l:List KG} {k:Nat} {x:Nat×Nat×KG},x∈zHD ops gs0 k l→k≤x.1∧l[x.1-k]?=some x.2.2
 | [],k,x,h=>by simp[zHD]at h
 | g::l,k,x,h=>by
  simp only[zHD,jA7]at h;rcases h with rfl | h
  ·simp
  ·obtain⟨h1,h2⟩:=zJb h;refine⟨by omega,?_⟩;have:x.1-k=x.1-(k+1)+1:=by omega
   rw[this]
   simpa using h2
theorem zKA:∀{l:List KG} {k:Nat} {x:Nat×Nat×KG},x∈zK9 k l→k≤x.1∧l[x.1-k]?=some x.2.2
 | [],k,x,h=>by simp[zK9]at h
 | g::l,k,x,h=>by
  simp only[zK9,jA7]at h;rcases h with rfl | h
  ·simp
  ·obtain⟨h1,h2⟩:=zKA h;refine⟨by omega,?_⟩;have:x.1-k=x.1-(k+1)+1:=by omega
   rw[this]
   simpa using h2
theorem zJc {gs:List KG}{x:Nat×Nat×KG}(h:x∈zMT ops gs):gs[x.1]?=some x.2.2:=by
 unfold zMT at h;split at h
 ·simpa using (zJb h).2
 ·simpa using (zKA h).2
theorem zIC {gs:List KG}:∀{l:List (Nat×Nat)} {r:List (Nat×Nat×KG)} {x:Nat×Nat×KG},zPf gs l=some r→x∈r→∃g,gs[x.1]?=some g∧x.2.2.erase=g.erase
 | [],r,x,h,hx=>by simp only[zPf,jA0]at h; subst h; simp at hx
 | (k,f)::l,r,x,h,hx=>by
  simp only[zPf]at h;split at h<;>try (cases h; done)
  rename_i g r' hg hr;cases h;rcases jA7.1 hx with rfl | hx
  ·exact⟨g,hg,zNN⟩
  ·exact zIC hr hx
theorem zTI {ro:Option Nat}{id:Nat}{gs:List KG}{l:List (Nat×Nat×KG)}(hm:P.follows .mixedOrders=true)(hB:zJY ops l=true)(hlo:zDF ops ops.toList gs=true)(hc:zBS P N ops ops.toList=some gs)(hl:∀x∈l,∃g,gs[x.1]?=some g∧x.2.2.erase=g.erase)
 {Q:Ex→Env→St→Prop}{dfs:List Deferred}{Qc:Exit→Act→World→Prop}(he:zX H L N env a.tmps)(hs:RelSt H L σ w)(hd:a.defers=dfs)
 (h:wpD P (zKE Q) (Q .norm) l env σ)(hQ:∀e b v,zGH H L w N Q dfs e b v→Qc e b v):(Code.region id ops true).wpIn (Wr ro) 0 P Qc a w:=by
 obtain⟨hlen,hget⟩:=zCj hc;have hcm:Comp P N ops l:=⟨fun i f o g ho hg=>by obtain⟨g0,h1,h2⟩:=hl (i,f,g) hg;have h3:=hget i o g0 (by simpa using ho) h1;rw[show g.erase=g0 from h2.trans (zCi h3)];exact h3⟩
 have hf:Fits ops l:=⟨fun i f o g ho hg=>(zGi g.op).symm.trans (zA3 (yS (hcm.get i f o g ho hg)).1),fun i f o g ho hg=>by obtain⟨g0,h1,h2⟩:=hl (i,f,g) hg;have h3:=hget i o g0 (by simpa using ho) h1;have h4:=zFM hlo i o g0 (by simpa using ho) h1;rw[←zIZ,show g.erase=g0 from h2.trans (zCi h3)];exact h4⟩
 have hall:∀o∈ops.toList,∀x,o.dst=some x→x<N:=by
  intro o ho;obtain⟨i,hi⟩:=jCj ho;have hlt:i<gs.length:=by rw[hlen]; exact(jA1.1 hi).1
  exact(yS (hget i o _ hi (jA2 hlt))).2.1
 simp only[zJY,jA6,beq_iff_eq]at hB;obtain⟨⟨hB,hsz⟩,_⟩:=hB;refine wpIn_region_any hm ?_;have hs':RelSt H L σ {w with drawn:=w.drawn+1}:=hs.heap_eq rfl;have hlex:=zD1 hf l (Array.replicate ops.size false) env σ (fun _ hx=>hx) hB h;rw[hsz]at hlex;have hn:Nxt H L w H L σ {w with drawn:=w.drawn+1}:=⟨hs',⟨rfl,rfl,rfl,jA _,fun _ _ _=>rfl,HLe.refl _,fun _ _ _ h=>.inl h,jC6 _,fun _ _ h=>h⟩,LLe.refl _,fun _ h=>.inl h⟩;refine zDb hcm hall _ _ he hs' hd hlex fun e b v hp=>hQ e b v ?_
 exact hp.next hn (Mk.refl _ _ _)
end
end Go.Abs
