/-
  Regions that draw their order: one walk in the text's order serves every order.
-/
import Derived.Test.YtdnelmeboihpkaaGreatDoorX4
set_option linter.unusedVariables false
set_option maxHeartbeats 8000000
set_option maxRecDepth 100000
set_option linter.unusedSimpArgs false
namespace Go.Abs
def zAp (σ τ : St):Prop:=∀(l:Nat) cs,σ[l]?=some (AObj.box cs)→τ[l]?=some (AObj.box cs)
theorem zAp.refl (σ : St):zAp σ σ:=fun _ _ h=>h
theorem zAp.trans {σ τ υ : St}(h:zAp σ τ)(k:zAp τ υ):zAp σ υ:=fun l cs e=>k l cs (h l cs e)
def zBt (σ τ : St):Prop:=∀(l:Nat) o,σ[l]?=some o→o≠AObj.rsv→τ[l]?=some o
theorem zBt.refl (σ : St):zBt σ σ:=fun _ _ h _=>h
theorem zBt.trans {σ τ υ : St}(h:zBt σ τ)(k:zBt τ υ):zBt σ υ:=fun l o e hn=>k l o (h l o e hn) hn
theorem zBt.keeps {σ τ : St}(h:zBt σ τ):zAp σ τ:=fun l cs e=>h l _ e (by simp)
def KA (c:Nat) (σ τ : St):Prop:=∀(l:Nat) cs,c≤l→σ[l]?=some (AObj.box cs)→τ[l]?=some (AObj.box cs)
theorem KA.refl (c:Nat) (σ : St):KA c σ σ:=fun _ _ _ h=>h
def zPd (σ τ : St):Prop:=∀(l:Nat) fz e s n cs,σ[l]?=some (AObj.row fz e s n cs)→∃fz' cs',τ[l]?=some (AObj.row fz' e s n cs')
theorem zPd.refl (σ : St):zPd σ σ:=fun _ fz _ _ _ cs h=>⟨fz,cs,h⟩
def KE (c:Nat) (σ τ : St):Prop:=KA c σ τ∧zPd σ τ
theorem KE.refl (c:Nat) (σ : St):KE c σ σ:=⟨KA.refl _ _,zPd.refl _⟩
theorem zAp.append (σ τ : St):zAp σ (σ++τ):=fun l cs h=>by rw[jAc (jA1.1 h).1]; exact h
def zAI:St→St
 | []=>[]
 | .box cs::σ=>.box cs::zAI σ
 | _::σ=>.dead::zAI σ
def zKz (f:Nat)(k:KOp) (σ τ : St):Prop:=zAG f k=true∨(f=1∧zAp σ τ)∨τ = σ
def zVU (σ : St)(e:TypeId)(sz bytes m:Nat)(ys:List A)(r:A) (σ':St):A→Prop
 | .nil=>(m≤maxLen∧m*bytes≤140737488355328)∧r=.row σ.length m∧σ' = σ++[AObj.row false e sz m ys]
 | .row l n=>match σ[l]? with
  | some (.row fz e' s n' cs)=>(n=n'∧e'=e∧s=sz)∧(n+m≤maxLen∧(n+m)*bytes≤140737488355328)∧r=.row l (n+m)∧σ' = σ.set l (.row fz e sz (n+m) (cs++ys))
  | _=>False
 | .fsl n cs=>cs.length=n*sz∧((m=0∧r=.fsl n cs∧σ' = σ)∨(m≠0∧(n+m≤maxLen∧(n+m)*bytes≤140737488355328)∧r=.row σ.length (n+m)∧σ' = σ++[AObj.row false e sz (n+m) (cs++ys)]))
 | _=>False
def zJD (P:Program)(fv:A)(args:List A) (σ : St)(Q:Out→St→Prop):Prop:=match fv with
 | .clo g first cap=>zB P g=true∧zAi P g (first++args++cap) σ Q
 | .lit (.func (.yield b) ⟨[]⟩ ⟨[]⟩)=>zC0 P b args σ Q
 | _=>False
theorem zLC {σ : St}{m:MOp}{xs:List A}{r:A} {σ':St}(h:zSo m xs σ = some (r,σ')){J:A→St→Prop}(hJ:J r σ'):zBq m xs J σ:=by
 unfold zSo at h;split at h
 ·cases h; exact hJ
 ·split at h<;>try (cases h; done)
  rename_i h1 h2;split at h<;>try (cases h; done)
  rename_i hc;cases h;simp only[zBq,h1,h2];exact⟨hc,hJ⟩
 ·split at h<;>try (cases h; done)
  rename_i h1 h2;split at h<;>try (cases h; done)
  rename_i hc;cases h;simp only[zBq,h1,h2];exact⟨hc,hJ⟩
 ·split at h<;>try (cases h; done)
  rename_i h1 h2;split at h<;>try (cases h; done)
  rename_i hc;cases h;simp only[zBq,h1,h2];exact⟨hc,hJ⟩
 ·split at h<;>try (cases h; done)
  rename_i h1;split at h<;>try (cases h; done)
  rename_i hc;cases h;simp only[zBq,h1];exact⟨hc,hJ⟩
 ·split at h<;>try (cases h; done)
  rename_i hc;cases h;simp only[zBq];exact⟨hc,hJ⟩
 ·cases h;simp only[zBq];exact hJ
 ·split at h<;>try (cases h; done)
  rename_i h1;split at h<;>try (cases h; done)
  rename_i hc;cases h;simp only[zBq,h1];exact⟨hc,hJ⟩
 ·split at h<;>try (cases h; done)
  rename_i h1;split at h<;>try (cases h; done)
  rename_i hc;cases h;simp only[zBq,h1];exact⟨hc,hJ⟩
 ·cases h
noncomputable def eff (P:Program) (env:Env) (σ : St) (r:A) (σ':St):KOp→Prop
 | .call _ f args=>zJD P (ev env f) (args.map (ev env)) σ fun o τ=>o=.ret r∧τ = σ'
 | .bslice _ _ _ n zero parts=>σ' = σ∧match zBo (zero.map qS) (parts.map fun(o,s,x)=>(o,s,ev env x))with
  | some cs=>r=.fsl n cs
  | none=>False
 | .brow _ e sz n zero parts=>(match zBo (zero.map qS) (parts.map fun(o,s,x)=>(o,s,ev env x))with
  | some cs=>r=.row σ.length n∧σ' = σ++[AObj.row false e sz n cs]
  | none=>False)
 | .isz ..=>False
 | .shr ..=>False
 | .apq ..=>False
 | .pan ..=>False
 | .mop _ m xs=>zSo m (xs.map (ev env)) σ = some (r,σ')
 | .alr _ q zs=>σ[q]?=some .rsv∧r=.ptr q 0∧σ' = σ.set q (AObj.box (zs.map qS))
 | .alloc _ zs=>r=.ptr σ.length 0∧σ' = σ++[AObj.box (zs.map qS)]
 | .box _ x=>match cellsOf (ev env x)with
  | some cs=>r=.ptr σ.length 0∧σ' = σ++[AObj.box cs]
  | none=>False
 | .st _ x v n=>match cellsOf (ev env v)with
  | some cs=>cs.length=n∧stA σ cs (ev env x)=some σ'∧r=.lit undef
  | none=>False
 | .app _ e sz bytes x y=>match zB0 σ sz (ev env y)with
  | some (m,ys)=>ys.length=m*sz∧zVU σ e sz bytes m ys r σ' (ev env x)
  | none=>False
 | k=>σ' = σ∧qW (zJ env σ k) fun r'=>r=r'
def zOX (P:Program) (σ : St)(d:Option Nat)(K:Env→Prop)(g:FuncId)(args:List A)(env:Env):Prop :=
 ∃r,(zAi P g args σ fun o σ'=>o=.ret r∧σ' = σ)∧K (env.put d r)
def zIJ (P:Program) (σ : St)(d:Option Nat)(K:Env→Prop)(g:FuncId)(args:List A)(env:Env):Prop :=
 ∃r,(∀τ,zAp σ τ→zAi P g args τ fun o σ'=>o=.ret r∧σ' = τ)∧K (env.put d r)
def zIK (P:Program) (σ : St)(d:Option Nat)(K:Env→St→Prop)(g:FuncId)(args:List A)(env:Env):Prop :=
 ∃r σ',zAp σ σ'∧(zAi P g args σ fun o τ=>o=.ret r∧τ = σ')∧K (env.put d r) σ'
def zRe (P:Program) (σ : St)(d:Option Nat)(K:Env→St→Prop)(g:FuncId)(args:List A)(env:Env):Prop :=
 ∃r own,(∀o∈own,o≠AObj.rsv)∧(∀τ : St,τ.length = σ.length→zBt σ τ→zAi P g args τ fun o τ'=>o=.ret r∧τ' = τ++own)∧K (env.put d r) (σ++own)
def zKB (σ : St)(u:St→St):Prop:=(∀q:Nat,(u σ)[q]?=some AObj.rsv→σ[q]?=some AObj.rsv)∧∀(τ : St) (q:Nat) (o:AObj),τ.length = σ.length→zBt σ τ→σ[q]?=some AObj.rsv→u (τ.set q o)=(u τ).set q o
theorem zKB.own {σ own:St}(h:∀o∈own,o≠AObj.rsv):zKB σ (fun τ=>τ++own):=by
 refine⟨fun q hq=>?_,fun τ q o hl _ hq=>?_⟩
 ·rcases jAn q σ.length with hlt | hge
  ·rw[jAc hlt]at hq; exact hq
  ·rw[jAo hge]at hq;exact(h _ (jC1 hq) rfl).elim
 ·have hlt:q < σ.length:=by
   rcases jAn q σ.length with h | h
   ·exact h
   ·rw[jB9 h]at hq; cases hq
  exact(List.set_append_left _ _ (by omega)).symm
def zMp (P:Program) (σ : St)(d:Option Nat)(K:Env→St→Prop)(g:FuncId)(args:List A)(env:Env):Prop :=
 ∃r u,zKB σ u∧(∀τ : St,τ.length = σ.length→zBt σ τ→zAi P g args τ fun o τ'=>o=.ret r∧τ'=u τ)∧K (env.put d r) (u σ)
def zRf (P:Program) (σ : St)(d:Option Nat)(K:Env→St→Prop)(g:FuncId)(args:List A)(env:Env):Prop :=
 zAi P g args σ fun o τ=>∃r,o=.ret r∧zAp σ τ∧K (env.put d r) τ
def zIL (P:Program)(Qp:Value→St→Prop) (σ : St)(d:Option Nat)(K:Env→St→Prop)(g:FuncId)(args:List A)(env:Env):Prop :=
 zAi P g args σ fun o τ=>(∃r,o=.ret r∧K (env.put d r) τ)∨∃v,o=.pan v∧Qp v τ
def zIM (P:Program) (σ : St)(d:Option Nat)(K:Env→St→Prop)(g:FuncId)(args:List A)(env:Env):Prop :=
 ∃r σ',(zAi P g args σ fun o τ=>o=.ret r∧τ = σ')∧K (env.put d r) σ'
def zMo (P:Program)(c:Nat) (σ : St)(d:Option Nat)(K:Env→St→Prop)(g:FuncId)(args:List A)(env:Env):Prop :=
 ∃r σ',KA c σ σ'∧(zAi P g args σ fun o τ=>o=.ret r∧τ = σ')∧K (env.put d r) σ'
def zRd (P:Program)(c:Nat) (σ : St)(d:Option Nat)(K:Env→St→Prop)(g:FuncId)(args:List A)(env:Env):Prop :=
 ∃r σ',KE c σ σ'∧(zAi P g args σ fun o τ=>o=.ret r∧τ = σ')∧K (env.put d r) σ'
def zYu (P:Program)(Qp:Value→St→Prop)(f:Nat) (σ : St)(d:Option Nat)(K:Env→St→Prop)(g:FuncId)(args:List A)(env:Env):Prop:=match f with
 | 0=>zOX P σ d (fun e=>K e σ) g args env
 | 1=>zIJ P σ d (fun e=>K e σ) g args env
 | 2=>False
 | 3=>zIK P σ d K g args env
 | 7=>zRe P σ d K g args env
 | 8=>zRf P σ d K g args env
 | 10=>zIL P Qp σ d K g args env
 | 11=>zMp P σ d K g args env
 | f=>if 1000≤f∧f<2000 then zMo P (f-1000) σ d K g args env else if 3000≤f∧f<4000 then zRd P (f-3000) σ d K g args env else zIM P σ d K g args env
def qQR (P:Program)(f:Nat) (σ : St)(d:Option Nat)(K:Env→St→Prop)(b:Nat)(args:List A)(env:Env):Prop:=f=4∧∃r σ',(zC0 P b args σ fun o τ=>o=.ret r∧τ = σ')∧K (env.put d r) σ'
def zYt (P:Program)(Qp:Value→St→Prop)(f:Nat) (σ : St)(d:Option Nat)(K:Env→St→Prop)(fv:A)(args:List A)(env:Env):Prop:=match fv with
 | .clo g first cap=>zB P g=true∧zYu P Qp f σ d K g (first++args++cap) env
 | .lit (.func (.yield b) ⟨[]⟩ ⟨[]⟩)=>qQR P f σ d K b args env
 | _=>False
def zLM (Q:Ex→Env→St→Prop):Value→St→Prop:=fun v τ=>∀e,Q (.pan v) e τ
def zAQ:Value→Env→St→Prop:=fun _ _ _=>False
def zTw (P:Program)(f:Nat)(k:KOp)(env:Env) (σ : St)(r:A) (σ':St):Prop :=
 f=7∨f=11→k.isCall=true→∃u,σ'=u σ∧zKB σ u∧∀τ : St,τ.length = σ.length→zBt σ τ→eff P env τ r (u τ) k
def KF (f:Nat)(k:KOp) (σ σ':St):Prop:=(zEz f k=true→zAp σ σ')∧(k.isCall=true→(1000≤f→f<2000→KA (f-1000) σ σ')∧(3000≤f→f<4000→KE (f-3000) σ σ'))
theorem KF.refl (f:Nat)(k:KOp) (σ : St):KF f k σ σ:=⟨fun _=>zAp.refl _,fun _=>⟨fun _ _=>KA.refl _ _,fun _ _=>KE.refl _ _⟩⟩
theorem KF.of {f:Nat}{k:KOp} {σ σ':St}(hk:k.isCall=false)(h:zEz f k=true→zAp σ σ'):KF f k σ σ':=⟨h,fun hc=>by rw[hk]at hc; cases hc⟩
def zDe (f:Nat) (σ : St):St:=if f=1 then zAI σ else if f=2 then [] else σ
noncomputable def jJ (P:Program) (Qp:Value→St→Prop) (f:Nat) (K:Env→St→Prop) (k:KOp) (env:Env) (σ : St):Prop:=match k with
 | .call d fo args=>zYt P Qp f σ d K (ev env fo) (args.map (ev env)) env
 | .isz ..=>False
 | .shr ..=>False
 | .apq ..=>False
 | .pan ..=>False
 | .mop d m xs=>(match zSo m (xs.map (ev env)) σ with
  | some (r,σ')=>K (env.put d r) σ'
  | none=>False)
 | k=>if k.keeps&&!k.lite then qW (zJ env (zDe f σ) k) fun r=>K (env.put k.dst r) σ else wpO P zAQ K k env σ
noncomputable def zSN (P:Program) (Qp:Value→St→Prop) (f:Nat) (K:Env→St→Prop) (g:KG) (env:Env) (σ : St):Prop :=
 match g.guard with
 | none=>jJ P Qp f K g.op env σ
 | some (s,want)=>match env s with
  | .lit (.bool b)=>zFB (b==want) (jJ P Qp f K g.op) (zG1 g.op.dst K) env σ
  | .lit (.tuple _)=>zG1 g.op.dst K env σ
  | _=>False
def zNy:A→Prop
 | .ptr _ _=>True
 | _=>False
def zNz:A→Prop
 | .rwp _ _ _=>True
 | _=>False
def isRow:A→Prop
 | .row _ _=>True
 | _=>False
def zB3 (c:Nat):A→Prop
 | .ptr l _=>c≤l
 | .rptr _=>True
 | _=>False
def zFt (c:Nat):A→Prop
 | .ptr l _=>l<c
 | _=>False
def zBe (f:Nat)(k:KOp)(env:Env):Prop:=match f with
 | 5=>(match k with
  | .st _ x _ _=>zNy (ev env x)
  | _=>True)
 | 6=>(match k with
  | .st _ x _ _=>zNz (ev env x)
  | .idx _ x _ _=>isRow (ev env x)
  | _=>True)
 | f=>if 4000≤f then (match k with
  | .ld _ x _ _=>zB3 (f-4000) (ev env x)
  | .idx _ x _ _=>isRow (ev env x)
  | _=>True) else if 2000≤f then (match k with
  | .ld _ x _ _=>zB3 (f-2000) (ev env x)
  | _=>True) else if 1000≤f then (match k with
  | .st _ x _ _=>zFt (f-1000) (ev env x)
  | _=>True) else True
noncomputable def wpD (P:Program) (Qp:Value→St→Prop) (K:Env→St→Prop):List (Nat×Nat×KG)→Env→St→Prop
 | [],env,σ=>K env σ
 | x::rest,env,σ=>zBe x.2.1 x.2.2.op env∧zSN P Qp x.2.1 (wpD P Qp K rest) x.2.2 env σ
section
variable {P:Program}{H:Mem}{L:List LI} {σ σ' τ : St}{w:World}{N:Nat}{env:Env}{a:Act}{ops:Array Oper}{Qp:Value→St→Prop}
theorem zW7 {k:KOp}{r:A}(hk:k.keeps=true)(hc:k.isCall=false)(h:eff P env σ r σ' k) : σ' = σ:=by cases k<;>simp only[KOp.keeps,KOp.isCall,jAg,reduceCtorEq]at hk hc<;>exact h.1
theorem zW8 {k:KOp}{r:A}(hk:k.lite=true)(h:eff P env σ r σ' k) : σ' = σ∧∀τ,eff P env τ r τ k:=by
 have hp:∀τ,zJ env τ k=zJ env σ k→(σ' = σ∧qW (zJ env σ k) fun r'=>r=r')→(τ = τ∧qW (zJ env τ k) fun r'=>r=r'):=fun τ e h=>⟨rfl,by rw[e]; exact h.2⟩
 cases k<;>simp only[KOp.lite,jAg]at hk
 case bslice d e sz n z ps=>exact⟨h.1,fun τ=>⟨rfl,h.2⟩⟩
 case len d s x =>
  cases s
  ·simp[KOp.lite]at hk
  ·exact⟨h.1,fun τ=>hp τ rfl h⟩
 case slc d x sz lo hi mx =>
  refine⟨h.1,fun τ=>hp τ ?_ h⟩;cases mx with
  | none=>rfl
  | some mx=>cases hi<;>rfl
 all_goals exact⟨h.1,fun τ=>hp τ rfl h⟩
theorem zUS {l:Nat}{fz:Bool}{e:TypeId}{s n:Nat}{cs:List A}{o:AObj}(h : σ[l]?=some (.row fz e s n cs)):zAp σ (σ.set l o):=fun i ds hi=>by
 by_cases hil:i=l
 ·subst hil; rw[h]at hi; cases hi
 ·rw[jA8 (Ne.symm hil)]; exact hi
theorem zUu {k:KOp}{r:A}(hk:k.grows=true)(h:eff P env σ r σ' k):zAp σ σ':=by
 cases k<;>simp only[KOp.grows,jAg]at hk
 case brow =>
  simp only[eff]at h;split at h
  ·obtain⟨_,rfl⟩:=h;exact zAp.append _ _
  ·exact h.elim
 case alloc d z=>obtain⟨_,rfl⟩:=h; exact zAp.append _ _
 case alr d q z =>
  obtain⟨hq,_,rfl⟩:=h;exact fun l cs hl=>by
   by_cases e:l=q
   ·subst e; rw[hq]at hl; cases hl
   ·rw[jA8 (Ne.symm e)]; exact hl
 case box d x =>
  simp only[eff]at h;split at h
  ·obtain⟨_,rfl⟩:=h; exact zAp.append _ _
  ·exact h.elim
 case app d e sz bytes x y =>
  simp only[eff]at h;split at h
  ·rename_i m ys _;obtain⟨_,h⟩:=h;generalize ev env x=a at h;cases a<;>simp only[zVU]at h
   case nil=>obtain⟨_,_,rfl⟩:=h; exact zAp.append _ _
   case row l n =>
    split at h
    ·rename_i hl;obtain⟨_,_,_,rfl⟩:=h;exact zUS hl
    ·exact h.elim
   case fsl n cs =>
    obtain⟨_,h | h⟩:=h
    ·obtain⟨_,_,rfl⟩:=h; exact zAp.refl _
    ·obtain⟨_,_,_,rfl⟩:=h; exact zAp.append _ _
  ·exact h.elim
theorem zCK:∀{σ : St} {l:Nat} {o:AObj},(zAI σ)[l]?=some o→o=.dead∨∃cs,o=.box cs∧σ[l]?=some (.box cs)
 | [],l,o,h=>by simp[zAI]at h
 | p::σ,0,o,h=>by
  cases p<;>simp only[zAI,jAx,jA0]at h<;>subst h
  case box cs=>exact .inr ⟨cs,rfl,rfl⟩
  all_goals exact .inl rfl
 | p::σ,l+1,o,h=>by
  have:(zAI (p::σ))[l+1]?=(zAI σ)[l]?:=by cases p<;>simp[zAI]
  rw[this]at h
  simpa using zCK h
theorem zUT {n:Nat}{x:A}{cs:List A}(h:ldA (zAI σ) n x=some cs)(hk:zAp σ τ):ldA τ n x=some cs:=by
 cases x<;>simp only[ldA]at h⊢<;>try (cases h; done)
 case rptr=>exact h
 case ptr l off =>
  split at h
  ·rename_i ds hl;rcases zCK hl with e | ⟨_,e,hσ⟩
   ·cases e
   ·cases e; rw[hk l _ hσ]; exact h
  ·cases h
 case rwp l m off =>
  split at h
  ·rename_i hl;rcases zCK hl with e | ⟨_,e,_⟩<;>cases e
  ·cases h
theorem zFz {k:KOp}{p:Prop}{r:A}(h:zJ env (zAI σ) k=some (p,r))(hk:zAp σ τ):zJ env τ k=some (p,r):=by
 cases k<;>simp only[zJ]at h⊢<;>try (first | exact h | (cases h; done))
 case ld d x n agg =>
  simp only[jAb,jA5]at h⊢;obtain⟨r',⟨cs,h1,h2⟩,h3⟩:=h;exact⟨r',⟨cs,zUT h1 hk,h2⟩,h3⟩
 case addr d x off =>
  split at h<;>try (first | exact h | (cases h; done))
  split at h
  ·rename_i hl;rcases zCK hl with e | ⟨_,e,_⟩<;>cases e
  ·cases h
 case idx d x i sz =>
  split at h<;>try (first | exact h | (cases h; done))
  all_goals
   split at h
   ·rename_i hl;rcases zCK hl with e | ⟨_,e,_⟩<;>cases e
   ·cases h
 case len d s x =>
  cases s
  ·simp only[zJ]at h⊢;split at h<;>try (first | exact h | (cases h; done))
   all_goals
    split at h
    ·rename_i hl;rcases zCK hl with e | ⟨_,e,_⟩<;>cases e
    ·cases h
  ·exact h
 case rslc d x sz lo hi =>
  split at h<;>try (first | exact h | (cases h; done))
  all_goals
   split at h
   ·rename_i hl;rcases zCK hl with e | ⟨_,e,_⟩<;>cases e
   ·cases h
 case slc d x sz lo hi mx =>
  cases mx with
  | none=>exact h
  | some mx=>cases hi with
   | none=>simp[zJ]at h
   | some hi=>exact h
theorem zSi {k:KOp}(h:k.lite=true):k.keeps=true:=by cases k<;>simp_all [KOp.lite,KOp.keeps]
theorem zQq {k:KOp}(h:k.lite=true):k.isCall=false:=by cases k<;>simp_all [KOp.lite,KOp.isCall]
theorem zXJ {f:Nat}{k:KOp}{p:Prop}{r:A}(hl:k.lite=false)(hc:k.isCall=false)(h:zJ env (zDe f σ) k=some (p,r)) {τ : St}(hs:zKz f k σ τ):zJ env τ k=some (p,r):=by
 unfold zDe at h;rcases hs with hs | ⟨rfl,hs⟩ | rfl
 ·simp only[zAG,hl,hc,jC4,jA4,beq_iff_eq]at hs;obtain⟨⟨rfl,_⟩,_⟩:=hs;simp only[Nat.reduceEqDiff,if_false,if_true]at h;exact zFz (σ:=[]) h (fun l cs hl=>by simp at hl)
 ·simp only[if_true]at h;exact zFz h hs
 ·split at h
  ·exact zFz h (zAp.refl _)
  ·split at h
   ·exact zFz (σ:=[]) h (fun l cs hl=>by simp at hl)
   ·exact h
theorem zMq {f:Nat}{K:Env→St→Prop}{k:KOp}(hf8:f≠8∧f≠10)(h:jJ P Qp f K k env σ) :
 ∃r σ',eff P env σ r σ' k∧(yC f k=true→σ' = σ)∧KF f k σ σ'∧(yC f k=true→∀τ,zKz f k σ τ→eff P env τ r τ k)∧zTw P f k env σ r σ'∧K (env.put k.dst r) σ':=by
 by_cases hcall:k.isCall=true
 ·cases k<;>simp only[KOp.isCall,jAg]at hcall
  case call d fo args =>
   simp only[jJ]at h;simp only[eff,zTw,KOp.isCall,forall_const];generalize ev env fo=fv at h⊢;have mk:∀r σ',zJD P fv (args.map (ev env)) σ (fun o τ=>o=.ret r∧τ = σ')→(σ' = σ∨((f=3∨f=7)∧zAp σ σ')∨(4≤f∧f≠7∧f≠8∧(1000≤f→f<2000→KA (f-1000) σ σ')∧(3000≤f→f<4000→KE (f-3000) σ σ')))→(f=7∨f=11→∃u,σ'=u σ∧zKB σ u∧∀τ : St,τ.length = σ.length→zBt σ τ→zJD P fv (args.map (ev env)) τ (fun o τ'=>o=.ret r∧τ'=u τ))→(f≤2→∀τ,zKz f (.call d fo args) σ τ→zJD P fv (args.map (ev env)) τ (fun o τ'=>o=.ret r∧τ' = τ))→K (env.put d r) σ' →
    ∃r σ',zJD P fv (args.map (ev env)) σ (fun o τ=>o=.ret r∧τ = σ')∧(yC f (.call d fo args)=true→σ' = σ)∧KF f (.call d fo args) σ σ' ∧
     (yC f (.call d fo args)=true→∀τ,zKz f (.call d fo args) σ τ→zJD P fv (args.map (ev env)) τ (fun o τ'=>o=.ret r∧τ' = τ))∧(f=7∨f=11→∃u,σ'=u σ∧zKB σ u∧∀τ : St,τ.length = σ.length→zBt σ τ→zJD P fv (args.map (ev env)) τ (fun o τ'=>o=.ret r∧τ'=u τ))∧K (env.put (KOp.call d fo args).dst r) σ':=by
    intro r σ' h1 h2 h7 h3 h4;have hk:yC f (.call d fo args)=true→f≤2:=fun hk=>by
     rcases jAn 2 f with hlt | hge
     ·exfalso;have hb:Nat.ble 3 f=true:=by rw[jCe]; exact hlt
      simp[yC,KOp.isCall,KOp.keeps,hb]at hk
     ·exact hge
    refine⟨r,σ',h1,fun hk'=>?_,⟨fun hg=>?_,fun _=>⟨fun q1 q2=>?_,fun q1 q2=>?_⟩⟩,fun hk'=>h3 (hk hk'),h7,h4⟩
    ·rcases h2 with h2 | ⟨h2,_⟩ | h2
     ·exact h2
     ·have:=hk hk'; omega
     ·have:=hk hk'; omega
    ·simp only[zEz,KOp.grows,KOp.isCall,jC4,Bool.and_true,jB6,beq_iff_eq]at hg;rcases h2 with h2 | ⟨_,h2⟩ | h2
     ·rw[h2]; exact zAp.refl _
     ·exact h2
     ·omega
    ·rcases h2 with h2 | ⟨h2,_⟩ | h2
     ·rw[h2]; exact KA.refl _ _
     ·omega
     ·exact h2.2.2.2.1 q1 q2
    ·rcases h2 with h2 | ⟨h2,_⟩ | h2
     ·rw[h2]; exact KE.refl _ _
     ·omega
     ·exact h2.2.2.2.2 q1 q2
   unfold zYt at h;split at h
   ·rename_i g first cap
    obtain⟨hcb,h⟩:=h;unfold zYu at h;split at h
    ·obtain⟨r,h1,h2⟩:=h;refine mk r σ ⟨hcb,h1⟩ (.inl rfl) (fun h=>(by omega)) (fun _ τ hs=>?_) h2;rcases hs with hs | ⟨hs,_⟩ | rfl
     ·simp[zAG,KOp.lite,KOp.isCall]at hs
     ·cases hs
     ·exact⟨hcb,h1⟩
    ·obtain⟨r,h1,h2⟩:=h;refine mk r σ ⟨hcb,h1 σ (zAp.refl _)⟩ (.inl rfl) (fun h=>(by omega)) (fun _ τ hs=>?_) h2;rcases hs with hs | ⟨_,hs⟩ | rfl
     ·simp[zAG,KOp.lite,KOp.isCall]at hs
     ·exact⟨hcb,h1 τ hs⟩
     ·exact⟨hcb,h1 _ (zAp.refl _)⟩
    ·exact h.elim
    ·obtain⟨r,σ',h1,h2,h3⟩:=h;exact mk r σ' ⟨hcb,h2⟩ (.inr (.inl ⟨.inl rfl,h1⟩)) (fun h=>(by omega)) (fun hle=>by omega) h3
    ·obtain⟨r,own,h1,h2,h3⟩:=h;exact mk r _ ⟨hcb,h2 σ rfl (zBt.refl _)⟩ (.inr (.inl ⟨.inr rfl,zAp.append _ _⟩)) (fun _=>⟨fun τ=>τ++own,rfl,zKB.own h1,fun τ hl hk=>⟨hcb,h2 τ hl hk⟩⟩) (fun hle=>by omega) h3
    ·exact(hf8.1 rfl).elim
    ·exact(hf8.2 rfl).elim
    ·obtain⟨r,u,h1,h2,h3⟩:=h;exact mk r _ ⟨hcb,h2 σ rfl (zBt.refl _)⟩ (.inr (.inr ⟨by omega,by omega,by omega,fun q1=>by omega,fun q1=>by omega⟩)) (fun _=>⟨u,rfl,h1,fun τ hl hk=>⟨hcb,h2 τ hl hk⟩⟩) (fun hle=>by omega) h3
    ·rename_i n0 n1 n2 n3 n7 n8 n10 n11;have hf4:4≤f:=by
      rcases jAn f 4 with hlt | hge
      ·exfalso;have:f=0∨f=1∨f=2∨f=3:=by omega
       rcases this with e | e | e | e
       ·exact n0 e
       ·exact n1 e
       ·exact n2 e
       ·exact n3 e
      ·exact hge
     split at h
     ·rename_i hr;obtain⟨r,σ',h1,h2,h3⟩:=h;exact mk r σ' ⟨hcb,h2⟩ (.inr (.inr ⟨hf4,n7,n8,fun _ _=>h1,fun q1 q2=>by omega⟩)) (fun h=>h.elim (fun e=>(n7 e).elim) fun e=>(n11 e).elim) (fun hle=>by omega) h3
     ·rename_i hr;split at h
      ·rename_i hr';obtain⟨r,σ',h1,h2,h3⟩:=h;exact mk r σ' ⟨hcb,h2⟩ (.inr (.inr ⟨hf4,n7,n8,fun q1 q2=>(hr ⟨q1,q2⟩).elim,fun _ _=>h1⟩)) (fun h=>h.elim (fun e=>(n7 e).elim) fun e=>(n11 e).elim) (fun hle=>by omega) h3
      ·rename_i hr';obtain⟨r,σ',h2,h3⟩:=h;exact mk r σ' ⟨hcb,h2⟩ (.inr (.inr ⟨hf4,n7,n8,fun q1 q2=>(hr ⟨q1,q2⟩).elim,fun q1 q2=>(hr' ⟨q1,q2⟩).elim⟩)) (fun h=>h.elim (fun e=>(n7 e).elim) fun e=>(n11 e).elim) (fun hle=>by omega) h3
   ·obtain⟨rfl,r,σ',h1,h2⟩:=h;exact mk r σ' h1 (.inr (.inr ⟨jA _,by omega,by omega,fun q1=>by omega,fun q1=>by omega⟩)) (fun h=>(by omega)) (fun hle=>by omega) h2
   ·exact h.elim
 ·simp only[jB0]at hcall;have hkf:∀f,yC f k=k.keeps:=fun f=>by simp[yC,hcall]
  have hgf:∀f,zEz f k=k.grows:=fun f=>by simp[zEz,hcall]
  by_cases hbz:∃d ng x,k=.isz d ng x
  ·obtain⟨d,ng,x,rfl⟩:=hbz;exact h.elim
  by_cases hbs:∃d x sz hx,k=.shr d x sz hx
  ·obtain⟨d,x,sz,hx,rfl⟩:=hbs;exact h.elim
  by_cases hbq:∃d e sz bytes x y,k=.apq d e sz bytes x y
  ·obtain⟨d,e,sz,bytes,x,y,rfl⟩:=hbq;exact h.elim
  by_cases hbp:∃d x,k=.pan d x
  ·obtain⟨d,x,rfl⟩:=hbp;exact h.elim
  by_cases hbm:∃d m xs,k=.mop d m xs
  ·obtain⟨d,m,xs,rfl⟩:=hbm;simp only[jJ]at h;split at h
   ·rename_i r σ' h1;exact⟨r,σ',h1,fun hk=>(by rw[hkf]at hk; cases hk),KF.of rfl fun hk=>(by rw[hgf]at hk; cases hk),fun hk=>(by rw[hkf]at hk; cases hk),fun _ hc=>(by cases hc),h⟩
   ·exact h.elim
  have hd:jJ P Qp f K k env σ = if k.keeps&&!k.lite then qW (zJ env (zDe f σ) k) fun r=>K (env.put k.dst r) σ else wpO P zAQ K k env σ:=by cases k<;>first | rfl | (simp[KOp.isCall]at hcall; done) | exact(hbm ⟨_,_,_,rfl⟩).elim | exact(hbz ⟨_,_,_,rfl⟩).elim | exact(hbs ⟨_,_,_,_,rfl⟩).elim | exact(hbq ⟨_,_,_,_,_,_,rfl⟩).elim | exact(hbp ⟨_,_,rfl⟩).elim
  rw[hd]at h;clear hd;have dfl:k.keeps=true→k.lite=false→∀τ,eff P env τ = fun r σ' k'=>eff P env τ r σ' k':=fun _ _ _=>rfl
  split at h
  ·rename_i hc;simp only[jA4,jBd]at hc;have heff:∀τ r σ',(σ' = τ∧qW (zJ env τ k) fun r'=>r=r')→eff P env τ r σ' k:=by intro τ r σ' hh;cases k<;>first | exact hh | (simp[KOp.keeps]at hc; done) | (simp[KOp.lite]at hc; done) | (simp[KOp.isCall]at hcall; done)
   cases hp:zJ env (zDe f σ) k with
   | none=>rw[hp]at h; exact h.elim
   | some x =>
    rw[hp]at h;have hsee:∀τ,zKz f k σ τ→eff P env τ x.2 τ k:=fun τ hs=>heff τ _ _ ⟨rfl,by rw[zXJ hc.2 hcall hp hs]; exact⟨h.1,rfl⟩⟩
    refine⟨x.2,σ,hsee σ (.inr (.inr rfl)),fun _=>rfl,KF.refl _ _ _,fun _ τ hs=>hsee τ hs,fun _ hc=>(by rw[hcall]at hc; cases hc),h.2⟩
  ·rename_i hc;simp only[jA4,jBd,not_and,Bool.not_eq_false]at hc;have go:∀r σ',eff P env σ r σ' k→K (env.put k.dst r) σ'→∃r σ',eff P env σ r σ' k∧(yC f k=true→σ' = σ)∧KF f k σ σ'∧(yC f k=true→∀τ,zKz f k σ τ→eff P env τ r τ k)∧zTw P f k env σ r σ'∧K (env.put k.dst r) σ':=fun r σ' h1 h2 =>
    ⟨r,σ',h1,fun hk=>zW7 (by rw[←hkf f]; exact hk) hcall h1,KF.of hcall fun hg=>zUu (by rw[←hgf f]; exact hg) h1,fun hk τ _=>(zW8 (hc (by rw[←hkf f]; exact hk)) h1).2 τ,fun _ hc=>(by rw[hcall]at hc; cases hc),h2⟩
   have dflt:(qW (zJ env σ k) fun r'=>K (env.put k.dst r') σ)→∃r,(qW (zJ env σ k) fun r'=>r=r')∧K (env.put k.dst r) σ:=by
    intro h;cases hp:zJ env σ k with
    | none=>rw[hp]at h; exact h.elim
    | some x=>rw[hp]at h; exact⟨x.2,⟨h.1,rfl⟩,h.2⟩
   cases k
   case call d f args=>simp[KOp.isCall]at hcall
   case brow d e sz n z ps =>
    simp only[wpO]at h;split at h
    ·rename_i cs hf;exact go _ _ (by simp[eff,hf]) h
    ·exact h.elim
   case isz=>exact(hbz ⟨_,_,_,rfl⟩).elim
   case shr=>exact(hbs ⟨_,_,_,_,rfl⟩).elim
   case apq=>exact(hbq ⟨_,_,_,_,_,_,rfl⟩).elim
   case pan=>exact(hbp ⟨_,_,rfl⟩).elim
   case mop=>exact(hbm ⟨_,_,_,rfl⟩).elim
   case bslice d e sz n z ps =>
    simp only[wpO]at h;split at h
    ·rename_i cs hf;exact go _ σ ⟨rfl,by rw[hf]⟩ h
    ·exact h.elim
   case alloc d z=>exact go _ _ ⟨rfl,rfl⟩ h
   case alr d q z =>
    simp only[wpO]at h;split at h
    ·rename_i hq;exact go _ _ ⟨hq,rfl,rfl⟩ h
    ·exact h.elim
   case box d x =>
    simp only[wpO]at h;split at h
    ·rename_i cs hf;exact go _ _ (by simp[eff,hf]) h
    ·exact h.elim
   case st d x v n =>
    simp only[wpO]at h;split at h
    ·rename_i cs hf;split at h
     ·rename_i hn;split at h
      ·rename_i σ1 hst;exact go _ σ1 (by simp only[eff,hf]; exact⟨hn,hst,trivial⟩) h
      ·exact h.elim
     ·exact h.elim
    ·exact h.elim
   case app d e sz bytes x y =>
    simp only[wpO]at h;split at h
    ·rename_i m ys hf;obtain⟨h0,h⟩:=h;have mk:∀r σ',zVU σ e sz bytes m ys r σ' (ev env x)→eff P env σ r σ' (.app d e sz bytes x y):=fun r σ' hr=>by simp only[eff,hf]; exact⟨h0,hr⟩
     generalize ev env x=ax at h mk;cases ax<;>try (exact h.elim)
     case nil=>exact go _ _ (mk _ _ ⟨h.1,rfl,rfl⟩) h.2
     case row l n =>
      simp only at h;split at h
      ·rename_i hl;split at h
       ·rename_i hcnd;exact go _ _ (mk _ _ (by simp only[zVU,hl]; exact⟨hcnd,h.1,trivial,trivial⟩)) h.2
       ·exact h.elim
      ·exact h.elim
     case fsl n cs =>
      by_cases hm:m=0
      ·exact go _ _ (mk _ _ ⟨h.1,.inl ⟨hm,rfl,rfl⟩⟩) (h.2.1 hm)
      ·exact go _ _ (mk _ _ ⟨h.1,.inr ⟨hm,(h.2.2 hm).1,rfl,rfl⟩⟩) (h.2.2 hm).2
    ·exact h.elim
   case len d s x =>
    cases s
    ·have:=hc rfl; simp[KOp.lite]at this
    ·obtain⟨r,h1,h2⟩:=dflt h;exact go r σ ⟨rfl,h1⟩ h2
   case ld d x n agg=>have:=hc rfl; simp[KOp.lite]at this
   case addr d x off=>have:=hc rfl; simp[KOp.lite]at this
   case idx d x i sz=>have:=hc rfl; simp[KOp.lite]at this
   case rslc d x sz lo hi=>have:=hc rfl; simp[KOp.lite]at this
   all_goals
    obtain⟨r,h1,h2⟩:=dflt h;exact go r σ ⟨rfl,h1⟩ h2
theorem zIg {env env':Env}{xs:List Operand}(h:∀t,.tmp t∈xs→env t=env' t):∀x∈xs,ev env x=ev env' x:=by
 intro x hx;cases x with
 | tmp t=>exact h t hx
 | _=>rfl
theorem zCe {env env':Env}{xs:List Operand}(h:∀x∈xs,ev env x=ev env' x):xs.map (ev env)=xs.map (ev env'):=jBs h
theorem zCY {env env':Env}{n:Nat}{x:Option Operand}(h:∀y∈x.toList,ev env y=ev env' y):qH env n x=qH env' n x:=by
 cases x with
 | none=>rfl
 | some x=>simp only[qH]; rw[h x (by simp)]
theorem zGr {env env':Env}{ps:List (Nat×Nat×Operand)}(h:∀x∈ps.map (fun p=>p.2.2),ev env x=ev env' x) :
 (ps.map fun(o,s,x)=>(o,s,ev env x))=ps.map fun(o,s,x)=>(o,s,ev env' x) :=
 jBs fun p hp=>by obtain⟨o,s,x⟩:=p;simp only[h x (jAm.2 ⟨(o,s,x),hp,rfl⟩)]
theorem zMR {env env':Env}{r:A}{k:KOp}(h:∀x∈k.reads,ev env x=ev env' x):eff P env σ r σ' k=eff P env' σ r σ' k:=by
 cases k<;>simp only[KOp.reads,jA6,jCm,or_false,forall_eq_or_imp,forall_eq,jAh]at h<;>simp only[eff,zJ]
 case build d z ps=>rw[zGr h]
 case bslice d n z ps=>rw[zGr h]
 case brow d e sz n z ps=>rw[zGr h]
 case mm d m xs=>rw[zCe h]
 case clo d f first cap=>rw[zCe (fun x hx=>h x (.inl hx)),zCe (fun x hx=>h x (.inr hx))]
 case call d f args=>rw[h.1,zCe h.2]
 case mop d m xs=>rw[zCe h]
 case len d s x=>cases s<;>simp only[zJ,h]
 case rslc d x sz lo hi =>
  have hl:∀n,qH env n lo=qH env' n lo:=fun n=>zCY fun y hy=>h.2 y (.inl (.inl hy))
  have hh:∀n,qH env n hi=qH env' n hi:=fun n=>zCY fun y hy=>h.2 y (.inl (.inr hy))
  simp only[h.1,hl,hh]
 case slc d x sz lo hi mx =>
  have hl:∀n,qH env n lo=qH env' n lo:=fun n=>zCY fun y hy=>h.2 y (.inl (.inl hy))
  have hh:∀n,qH env n hi=qH env' n hi:=fun n=>zCY fun y hy=>h.2 y (.inl (.inr hy))
  have hm:∀n,qH env n mx=qH env' n mx:=fun n=>zCY fun y hy=>h.2 y (.inr hy)
  cases mx with
  | none=>simp only[zJ,h.1,hl,hh]
  | some mx=>cases hi with
   | none=>rfl
   | some hi=>simp only[zJ,h.1,hl,hh,hm]
 all_goals first | rfl | simp only[h] | simp only[h.1,h.2] | (rw[h.1,h.2.1,h.2.2])
def zCx (P:Program)(g:KG)(env:Env) (σ : St)(r:A) (σ':St):Prop :=
 match g.guard with
 | none=>eff P env σ r σ' g.op
 | some (s,want)=>match env s with
  | .lit (.bool b)=>(b=want→eff P env σ r σ' g.op)∧(b≠want→r=.lit undef∧σ' = σ)
  | .lit (.tuple _)=>r=.lit undef∧σ' = σ
  | _=>False
theorem zHv {g:KG}{r:A}{env env':Env}(h:∀t∈g.looks,env t=env' t):zCx P g env σ r σ'=zCx P g env' σ r σ':=by
 have hq:eff P env σ r σ' g.op=eff P env' σ r σ' g.op:=zMR (zIg fun t ht=>h t (jBi _ (jCn.2 ⟨.tmp t,ht,rfl⟩)));unfold zCx;cases hg:g.guard with
 | none=>exact hq
 | some sw =>
  obtain⟨s,want⟩:=sw;simp only;rw[h s (List.mem_append_right _ (by simp[hg])),hq]
def zCE (P:Program)(f:Nat)(g:KG)(env:Env) (σ : St)(r:A) (σ':St):Prop :=
 zCx P g env σ r σ'∧(yC f g.op=true→σ' = σ)∧KF f g.op σ σ'∧(zAG f g.op=true→∀τ,zCx P g env τ r τ)∧zBe f g.op env
def zDg (P:Program)(f:Nat)(g:KG)(env:Env) (σ : St)(r:A) (σ':St):Prop :=
 zCE P f g env σ r σ'∧(yC f g.op=true→∀τ,zKz f g.op σ τ→zCx P g env τ r τ)∧(g.guard=none→zTw P f g.op env σ r σ')
theorem zGn {f:Nat}{k:KOp}(h:zAG f k=true):yC f k=true:=by
 simp only[zAG,jB6,jA4,jBd]at h;rcases h with h | ⟨⟨_,h1⟩,h2⟩
 ·simp[yC,zSi h,zQq h]
 ·simp[yC,h1,h2]
theorem zV4 {f:Nat}{g:KG}{K:Env→St→Prop}(hf8:f≠8∧f≠10)(ht:zBe f g.op env)(h:zSN P Qp f K g env σ):∃r σ',zDg P f g env σ r σ'∧K (env.put g.op.dst r) σ':=by
 unfold zSN at h;unfold zDg zCE zCx;cases hg:g.guard with
 | none =>
  simp only[hg]at h;obtain⟨r,σ',h1,h2,h3,h4,h6,h5⟩:=zMq hf8 h;exact⟨r,σ',⟨⟨h1,h2,h3,fun hl τ=>h4 (zGn hl) τ (.inl hl),ht⟩,h4,fun _=>h6⟩,h5⟩
 | some sw =>
  obtain⟨s,want⟩:=sw;simp only[hg]at h;simp only;generalize env s=gv at h⊢;split at h
  ·rename_i b;by_cases hw:b=want
   ·subst hw;obtain⟨r,σ',h1,h2,h3,h4,h6,h5⟩:=zMq hf8 (h.1 (by simp));exact⟨r,σ',⟨⟨⟨fun _=>h1,fun e=>(e rfl).elim⟩,h2,h3,fun hl τ=>⟨fun _=>h4 (zGn hl) τ (.inl hl),fun e=>(e rfl).elim⟩,ht⟩,fun hk τ ht=>⟨fun _=>h4 hk τ ht,fun e=>(e rfl).elim⟩,fun e=>(by cases e)⟩,h5⟩
   ·have:=h.2 (by simp[hw]);exact⟨_,σ,⟨⟨⟨fun e=>(hw e).elim,fun _=>⟨rfl,rfl⟩⟩,fun _=>rfl,KF.refl _ _ _,fun _ τ=>⟨fun e=>(hw e).elim,fun _=>⟨rfl,trivial⟩⟩,ht⟩,fun _ τ _=>⟨fun e=>(hw e).elim,fun _=>⟨rfl,trivial⟩⟩,fun e=>(by cases e)⟩,this⟩
  ·exact⟨_,σ,⟨⟨⟨rfl,rfl⟩,fun _=>rfl,KF.refl _ _ _,fun _ τ=>⟨rfl,trivial⟩,ht⟩,fun _ τ _=>⟨rfl,trivial⟩,fun e=>(by cases e)⟩,h⟩
  ·exact h.elim
theorem zMi {f:Nat}{k:KOp} {σ τ υ : St}(h:zKz f k σ τ)(h':zKz f k τ υ):zKz f k σ υ:=by
 rcases h with h | ⟨hf,h⟩ | rfl
 ·exact .inl h
 ·rcases h' with h' | ⟨_,h'⟩ | rfl
  ·exact .inl h'
  ·exact .inr (.inl ⟨hf,h.trans h'⟩)
  ·exact .inr (.inl ⟨hf,h⟩)
 ·exact h'
theorem zHu {f:Nat}{g:KG}{r:A}{env env':Env}(h:∀t∈g.looks,env t=env' t):zCE P f g env σ r σ'=zCE P f g env' σ r σ':=by
 have:∀σ σ',zCx P g env σ r σ'=zCx P g env' σ r σ':=fun σ σ'=>zHv h
 have ht:zBe f g.op env=zBe f g.op env':=by
  have hr:=zIg (xs:=g.op.reads) fun t ht=>h t (jBi _ (jCn.2 ⟨.tmp t,ht,rfl⟩))
  unfold zBe;split
  ·split
   ·rename_i x _ _ hx;rw[hr x (by simp[hx,KOp.reads])]
   ·rfl
  ·split
   ·rename_i x _ _ hx;rw[hr x (by simp[hx,KOp.reads])]
   ·rename_i x _ _ hx;rw[hr x (by simp[hx,KOp.reads])]
   ·rfl
  ·split
   ·split
    ·rename_i x _ _ hx;rw[hr x (by simp[hx,KOp.reads])]
    ·rename_i x _ _ hx;rw[hr x (by simp[hx,KOp.reads])]
    ·rfl
   ·split
    ·split
     ·rename_i x _ _ hx;rw[hr x (by simp[hx,KOp.reads])]
     ·rfl
    ·split
     ·split
      ·rename_i x _ _ hx;rw[hr x (by simp[hx,KOp.reads])]
      ·rfl
     ·rfl
 unfold zCE;simp only[this,ht]
theorem zRV {fi fj:Nat}{gi gj:KG}{ri rj:A} {σi σj:St}(hc:zFv fi fj gi.op gj.op=true)(hi:zDg P fi gi env σ ri σi)(hj:zCE P fj gj env σi rj σj) :
 ∃σ1,zCE P fj gj env σ rj σ1∧zDg P fi gi env σ1 ri σj:=by
 simp only[zFv,jB6,jA4,beq_iff_eq]at hc;rcases hc with hl | ⟨hk,hc⟩
 ·have:=hj.2.1 (zGn hl);subst this;exact⟨σ,⟨hj.2.2.2.1 hl σ,fun _=>rfl,KF.refl _ _ _,hj.2.2.2⟩,hi⟩
 ·have e:=hi.1.2.1 hk;subst e;have hst:zKz fi gi.op σi σj:=by
   rcases hc with (hl | hj') | ⟨hf,hg⟩
   ·exact .inl hl
   ·exact .inr (.inr (hj.2.1 hj'))
   ·exact .inr (.inl ⟨hf,hj.2.2.1.1 hg⟩)
  have hij:=hi.2.1 hk σj hst;exact⟨σj,hj,⟨hij,fun _=>rfl,KF.refl _ _ _,hi.1.2.2.2⟩,fun _ τ ht=>hi.2.1 hk τ (zMi hst ht),fun _ hf hcall=>(by
   have hk7:yC fi gi.op=false:=by rcases hf with rfl | rfl<;>simp[yC,hcall]
   rw[hk7]at hk;cases hk)⟩
theorem qE2 {x:A}(hx:zNy x){cs:List A} {τ : St}(h:stA σ cs x=some τ):∃l ds ds',σ[l]?=some (.box ds)∧τ = σ.set l (.box ds')∧∀υ : St,υ[l]?=some (.box ds)→stA υ cs x=some (υ.set l (.box ds')):=by
 cases x<;>simp only[zNy]at hx;rename_i l o;simp only[stA]at h;split at h<;>try (cases h; done)
 rename_i ds hl;split at h<;>try (cases h; done)
 rename_i hfit;cases h;exact⟨l,ds,_,hl,rfl,fun υ hu=>by simp only[stA,hu,hfit,if_true]⟩
theorem qE3 {x:A}(hx:zNz x){cs:List A} {τ : St}(h:stA σ cs x=some τ):∃l o o',(∀ds,o≠AObj.box ds)∧σ[l]?=some o∧(∀ds,o'≠AObj.box ds)∧τ = σ.set l o'∧∀υ : St,υ[l]?=some o→stA υ cs x=some (υ.set l o'):=by
 cases x<;>simp only[zNz]at hx;rename_i l m off;simp only[stA]at h;split at h<;>try (cases h; done)
 rename_i e sz k ds hl;split at h<;>try (cases h; done)
 rename_i hfit;cases h;exact⟨l,_,_,fun _=>by simp,hl,fun _=>by simp,rfl,fun υ hu=>by simp only[stA,hu,hfit,and_self,if_true]⟩
theorem zSB {d:Option Nat}{x v:Operand}{n:Nat}{r:A}(h:eff P env σ r σ' (.st d x v n)):∃cs,cellsOf (ev env v)=some cs∧cs.length=n∧stA σ cs (ev env x)=some σ'∧r=.lit undef:=by
 simp only[eff]at h;split at h
 ·rename_i cs hc; exact⟨cs,hc,h⟩
 ·exact h.elim
theorem zW9 {d:Option Nat}{x v:Operand}{n:Nat}{cs:List A}(h1:cellsOf (ev env v)=some cs)(h2:cs.length=n)(h3:stA σ cs (ev env x)=some σ'):eff P env σ (.lit undef) σ' (.st d x v n):=by simp only[eff,h1];exact⟨h2,h3,trivial⟩
theorem zZy {d:Option Nat}{x i:Operand}{sz l n:Nat}(hx:ev env x=.row l n){J:A→Prop}(h:∀o,σ[l]?=some o→(∀cs,o≠AObj.box cs)→τ[l]?=some o)(hp:qW (zJ env σ (.idx d x i sz)) J):qW (zJ env τ (.idx d x i sz)) J:=by
 cases hi:ev env i with
 | lit u =>
  cases u with
  | int k j =>
   simp only[zJ,hx,hi]at hp ⊢;split at hp
   ·rename_i ho;rw[h _ ho (fun _=>by simp)];exact hp
   ·exact hp.elim
  | _=>simp[zJ,hx,hi,qW]at hp
 | _=>simp[zJ,hx,hi,qW]at hp
theorem zXk {fi fj:Nat}{gi gj:KG}{ri rj:A} {σi σj:St}(hc:zQR fi fj gi gj=true)(hi:zDg P fi gi env σ ri σi)(hj:zCE P fj gj env σi rj σj) :
 ∃σ1,zCE P fj gj env σ rj σ1∧zDg P fi gi env σ1 ri σj:=by
 obtain⟨gdi,ki⟩:=gi;obtain⟨gdj,kj⟩:=gj;simp only[zQR,jA4,beq_iff_eq,jCp]at hc;obtain⟨⟨⟨⟨rfl,rfl⟩,rfl⟩,rfl⟩,hc⟩:=hc;cases kj<;>try (cases ki<;>simp at hc; done)
 case st dj xj vj nj =>
  obtain⟨hj1,_,_,_,hjt⟩:=hj;simp only[zCx]at hj1;obtain⟨cj,c1,c2,c3,rfl⟩:=zSB hj1;obtain⟨l',ds,ds',s1,rfl,s3⟩:=qE2 hjt c3;have mkj:∀υ : St,υ[l']?=some (.box ds)→zCE P 5 ⟨none,.st dj xj vj nj⟩ env υ (.lit undef) (υ.set l' (.box ds')):=fun υ hu =>
   ⟨(zW9 (P:=P) (d:=dj) c1 c2 (s3 υ hu):eff P env υ (.lit undef) _ (.st dj xj vj nj)),fun h=>by simp[yC,KOp.keeps]at h,KF.of rfl fun h=>by simp[zEz,KOp.grows,KOp.isCall]at h,fun h=>by simp[zAG,KOp.lite,KOp.keeps]at h,hjt⟩
  cases ki<;>try (simp at hc; done)
  case idx di xi ii szi =>
   obtain⟨⟨hi1,hi2,_,_,hit⟩,hi3,_⟩:=hi;have e:=hi2 (by simp[yC,KOp.keeps,KOp.isCall]);subst e;simp only[zBe]at hit;have hne:∀l n,ev env xi=.row l n→∀o,σi[l]?=some o→(∀cs,o≠AObj.box cs)→l≠l':=fun l n _ o ho hb e=>by subst e;rw[s1]at ho;cases ho;exact hb _ rfl
   have mki:eff P env (σi.set l' (.box ds')) ri (σi.set l' (.box ds')) (.idx di xi ii szi):=by simp only[zCx]at hi1;refine⟨rfl,?_⟩;have hi1:=hi1.2;generalize hax:ev env xi=ax at hit hne;cases ax<;>simp only[isRow]at hit;rename_i l n;refine zZy hax (fun o ho hb=>?_) hi1;have hn:=hne l n rfl o ho hb;rw[jA8 (Ne.symm hn)];exact ho
   refine⟨_,mkj σi s1,⟨⟨mki,fun _=>rfl,KF.refl _ _ _,fun h=>by simp[zAG,KOp.lite]at h,hit⟩,fun _ τ hs=>?_,fun _ _ h=>by simp[KOp.isCall]at h⟩⟩;rcases hs with hs | ⟨hs,_⟩ | rfl
   ·simp[zAG,KOp.lite]at hs
   ·cases hs
   ·exact mki
  case st di xi vi ni =>
   obtain⟨⟨hi1,_,_,_,hit⟩,_⟩:=hi;simp only[zCx]at hi1;obtain⟨ci,d1,d2,d3,rfl⟩:=zSB hi1;obtain⟨l,o,o',t0,t1,t2,rfl,t3⟩:=qE3 hit d3;have hlt:l < σ.length:=(jA1.1 t1).1;have hne:l≠l':=fun e=>by subst e;rw[jAi hlt]at s1;cases s1;exact t2 _ rfl
   have s1' : σ[l']?=some (.box ds):=by rw[jA8 hne]at s1; exact s1
   refine⟨_,mkj σ s1',⟨⟨?_,fun h=>by simp[yC,KOp.keeps]at h,KF.of rfl fun h=>by simp[zEz,KOp.grows,KOp.isCall]at h,fun h=>by simp[zAG,KOp.lite,KOp.keeps]at h,hit⟩,fun h=>by simp[yC,KOp.keeps]at h,fun _ _ h=>by simp[KOp.isCall]at h⟩⟩;have:=t3 (σ.set l' (.box ds')) (by rw[jA8 (Ne.symm hne)]; exact t1);rw[List.set_comm _ _ (Ne.symm hne)]at this;exact(zW9 (P:=P) (d:=di) d1 d2 this:eff P env _ (.lit undef) _ (.st di xi vi ni))
theorem zOR {f:Nat}(h1:1000≤f)(h2:f<2000){d:Option Nat}{x v:Operand}{n:Nat}:zBe f (.st d x v n) env↔zFt (f-1000) (ev env x):=by
 unfold zBe;split
 ·omega
 ·omega
 ·rw[if_neg (by omega),if_neg (by omega),if_pos h1]
theorem zRa {f:Nat}(h1:4000≤f){d:Option Nat}{x:Operand}{n:Nat}{g:Bool}:zBe f (.ld d x n g) env↔zB3 (f-4000) (ev env x):=by
 unfold zBe;split
 ·omega
 ·omega
 ·rw[if_pos h1]
theorem zNR {f:Nat}(h1:4000≤f){d:Option Nat}{x i:Operand}{n:Nat}:zBe f (.idx d x i n) env↔isRow (ev env x):=by
 unfold zBe;split
 ·omega
 ·omega
 ·rw[if_pos h1]
theorem zGR {f:Nat}(h1:2000≤f)(h2:f<4000){d:Option Nat}{x:Operand}{n:Nat}{g:Bool}:zBe f (.ld d x n g) env↔zB3 (f-2000) (ev env x):=by
 unfold zBe;split
 ·omega
 ·omega
 ·rw[if_neg (by omega),if_pos h1]
theorem qE1 {l o:Nat}{cs:List A} {τ : St}(h:stA σ cs (.ptr l o)=some τ):∃ds ds',σ[l]?=some (AObj.box ds)∧τ = σ.set l (.box ds')∧∀υ : St,υ[l]?=some (.box ds)→stA υ cs (.ptr l o)=some (υ.set l (.box ds')):=by
 simp only[stA]at h;split at h<;>try (cases h; done)
 rename_i ds hl;split at h<;>try (cases h; done)
 rename_i hfit;cases h;exact⟨ds,_,hl,rfl,fun υ hu=>by simp only[stA,hu,hfit,if_true]⟩
theorem zJ0 {d:Option Nat}{x:Operand}{n:Nat}{g:Bool}(h:ldA τ n (ev env x)=ldA σ n (ev env x)):zJ env τ (.ld d x n g)=zJ env σ (.ld d x n g):=by simp only[zJ,h]
theorem zRW {fi fj:Nat}{gi gj:KG}{ri rj:A} {σi σj:St}(hc:zTL fi fj gi gj=true)(hi:zDg P fi gi env σ ri σi)(hj:zCE P fj gj env σi rj σj) :
 ∃σ1,zCE P fj gj env σ rj σ1∧zDg P fi gi env σ1 ri σj:=by
 obtain⟨gdi,ki⟩:=gi;obtain⟨gdj,kj⟩:=gj;simp only[zTL,jA4,beq_iff_eq,jCp,jCe,Nat.blt_eq]at hc;obtain⟨⟨⟨⟨⟨hfi,hf1⟩,hf2⟩,rfl⟩,rfl⟩,hc⟩:=hc;cases ki<;>try (simp at hc; done)
 case ld di xi ni agi =>
 cases kj<;>try (simp at hc; done)
 case st dj xj vj nj =>
  have hj0:=hj;obtain⟨hj1,q1,q2,q3,hjt⟩:=hj;obtain⟨⟨hi1,hi2,hi2',hi4,hit⟩,hi3,_⟩:=hi;have e:=hi2 (by simp[yC,KOp.keeps,KOp.isCall]);subst e;have hjt':=(zOR hf1 hf2).1 hjt;have hit':=(zGR (by omega) (by omega)).1 hit;simp only[zCx]at hj1;obtain⟨cj,c1,c2,c3,rfl⟩:=zSB hj1;have key:∀n,ldA σj n (ev env xi)=ldA σi n (ev env xi):=by
   generalize ev env xj=aj at hjt' c3;generalize ev env xi=ai at hit';intro n;cases aj<;>simp only[zFt]at hjt';rename_i lj oj;obtain⟨ds,ds',s1,rfl,_⟩:=qE1 c3;cases ai<;>simp only[zB3]at hit'
   ·rename_i li oi;have hne:lj≠li:=by omega
    simp only[ldA,jA8 hne]
   ·rfl
  have mk:eff P env σj ri σj (.ld di xi ni agi):=by simp only[zCx]at hi1;refine⟨rfl,?_⟩;have h2:=hi1.2;rw[zJ0 (key ni)];exact h2
  have hlF:zAG fi (.ld di xi ni agi)=false:=by simp only[zAG,KOp.lite,jC4,jCo,beq_eq_false_iff_ne];exact .inl (.inl (by omega))
  refine⟨σj,hj0,⟨⟨mk,fun _=>rfl,KF.refl _ _ _,fun h=>(by rw[hlF]at h; cases h),hit⟩,fun _ τ hs=>?_,fun _ _ h=>by simp[KOp.isCall]at h⟩⟩;rcases hs with hs | ⟨hs,_⟩ | rfl
  ·rw[hlF]at hs; cases hs
  ·omega
  ·exact mk
 case call dj fo args =>
  have hj0:=hj;obtain⟨hj1,q1,q2,q3,hjt⟩:=hj;obtain⟨⟨hi1,hi2,hi2',hi4,hit⟩,hi3,_⟩:=hi;have e:=hi2 (by simp[yC,KOp.keeps,KOp.isCall]);subst e;have hit':=(zGR (by omega) (by omega)).1 hit;obtain⟨c,hcj⟩:∃c,fj=c+1000:=⟨fj-1000,by omega⟩;have hka:KA c σi σj:=by
   have:=(q2.2 rfl).1 hf1 hf2
   rwa [hcj,Nat.add_sub_cancel]at this
  have hic:fi-2000=c:=by omega
  rw[hic]at hit';simp only[zCx]at hi1;have h2:=hi1.2;have key:ldA σj ni (ev env xi)=ldA σi ni (ev env xi):=by
   simp only[zJ]at h2;generalize ev env xi=ai at hit' h2 ⊢;cases ai<;>simp only[zB3]at hit'
   ·rename_i li oi;simp only[ldA]at h2 ⊢;cases hb : σi[li]? with
    | none=>rw[hb]at h2; simp[qW]at h2
    | some o =>
     rw[hb]at h2;cases o<;>first | (simp[qW]at h2; done) | skip
     rename_i cs;rw[hka li cs hit' hb]
   ·rfl
  have mk:eff P env σj ri σj (.ld di xi ni agi):=by refine⟨rfl,?_⟩;rw[zJ0 key];exact h2
  have hlF:zAG fi (.ld di xi ni agi)=false:=by simp only[zAG,KOp.lite,jC4,jCo,beq_eq_false_iff_ne];exact .inl (.inl (by omega))
  refine⟨σj,hj0,⟨⟨mk,fun _=>rfl,KF.refl _ _ _,fun h=>(by rw[hlF]at h; cases h),hit⟩,fun _ τ hs=>?_,fun _ _ h=>by simp[KOp.isCall]at h⟩⟩;rcases hs with hs | ⟨hs,_⟩ | rfl
  ·rw[hlF]at hs; cases hs
  ·omega
  ·exact mk
theorem qD7 {d:Option Nat}{x i:Operand}{sz l n:Nat}(hx:ev env x=.row l n){J:A→Prop}(h:zPd σ τ)(hp:qW (zJ env σ (.idx d x i sz)) J):qW (zJ env τ (.idx d x i sz)) J:=by
 cases hi:ev env i with
 | lit u =>
  cases u with
  | int k j =>
   simp only[zJ,hx,hi]at hp ⊢;split at hp
   ·rename_i ho;obtain⟨fz',cs',h'⟩:=h _ _ _ _ _ _ ho;rw[h'];exact hp
   ·exact hp.elim
  | _=>simp[zJ,hx,hi,qW]at hp
 | _=>simp[zJ,hx,hi,qW]at hp
theorem zY4 {d:Option Nat}{x:Operand}{off:Nat}{J:A→Prop}(h:zPd σ τ)(hp:qW (zJ env σ (.addr d x off)) J):qW (zJ env τ (.addr d x off)) J:=by
 simp only[zJ]at hp ⊢;cases hx:ev env x with
 | rwp l n o =>
  simp only[hx]at hp ⊢;cases ho : σ[l]? with
  | none=>rw[ho]at hp; exact hp.elim
  | some b =>
   rw[ho]at hp;cases b<;>first | (exact hp.elim) | skip
   obtain⟨fz',cs',h'⟩:=h _ _ _ _ _ _ ho;rw[h'];exact hp
 | _=>simp only[hx]at hp ⊢; exact hp
theorem zUK {fi fj:Nat}{gi gj:KG}{ri rj:A} {σi σj:St}(hc:qAb fi fj gi gj=true)(hi:zDg P fi gi env σ ri σi)(hj:zCE P fj gj env σi rj σj) :
 ∃σ1,zCE P fj gj env σ rj σ1∧zDg P fi gi env σ1 ri σj:=by
 obtain⟨gdi,ki⟩:=gi;obtain⟨gdj,kj⟩:=gj;simp only[qAb,jA4,beq_iff_eq,jCp,jCe,Nat.blt_eq]at hc;obtain⟨⟨⟨⟨⟨hfi,hf1⟩,hf2⟩,rfl⟩,rfl⟩,hc⟩:=hc;have hj0:=hj;obtain⟨hj1,q1,q2,q3,hjt⟩:=hj;obtain⟨⟨hi1,hi2,hi2',hi4,hit⟩,hi3,hi5⟩:=hi;cases ki<;>try (simp at hc; done)
 case ld di xi ni agi =>
  cases kj<;>try (simp at hc; done)
  case call dj fo args =>
   have e:=hi2 (by simp[yC,KOp.keeps,KOp.isCall]);subst e;have hit':=(zRa (by omega)).1 hit;obtain⟨c,hcj⟩:∃c,fj=c+3000:=⟨fj-3000,by omega⟩;have hka:KE c σi σj:=by
    have:=(q2.2 rfl).2 hf1 hf2
    rwa [hcj,Nat.add_sub_cancel]at this
   have hic:fi-4000=c:=by omega
   rw[hic]at hit';simp only[zCx]at hi1;have h2:=hi1.2;have key:ldA σj ni (ev env xi)=ldA σi ni (ev env xi):=by
    simp only[zJ]at h2;generalize ev env xi=ai at hit' h2 ⊢;cases ai<;>simp only[zB3]at hit'
    ·rename_i li oi;simp only[ldA]at h2 ⊢;cases hb : σi[li]? with
     | none=>rw[hb]at h2; simp[qW]at h2
     | some o =>
      rw[hb]at h2;cases o<;>first | (simp[qW]at h2; done) | skip
      rename_i cs;rw[hka.1 li cs hit' hb]
    ·rfl
   have mk:eff P env σj ri σj (.ld di xi ni agi):=by refine⟨rfl,?_⟩;rw[zJ0 key];exact h2
   have hlF:zAG fi (.ld di xi ni agi)=false:=by simp only[zAG,KOp.lite,jC4,jCo,beq_eq_false_iff_ne];exact .inl (.inl (by omega))
   refine⟨σj,hj0,⟨⟨mk,fun _=>rfl,KF.refl _ _ _,fun h=>(by rw[hlF]at h; cases h),hit⟩,fun _ τ hs=>?_,fun _ _ h=>by simp[KOp.isCall]at h⟩⟩;rcases hs with hs | ⟨hs,_⟩ | rfl
   ·rw[hlF]at hs; cases hs
   ·omega
   ·exact mk
 case idx di xi ii szi =>
  cases kj<;>try (simp at hc; done)
  case call dj fo args =>
   have e:=hi2 (by simp[yC,KOp.keeps,KOp.isCall]);subst e;have hit':=(zNR (by omega)).1 hit;have hka:zPd σi σj:=((q2.2 rfl).2 hf1 hf2).2;simp only[zCx]at hi1;have h2:=hi1.2;have mk:eff P env σj ri σj (.idx di xi ii szi):=by refine⟨rfl,?_⟩;generalize hax:ev env xi=ax at hit';cases ax<;>simp only[isRow]at hit';exact qD7 hax hka h2
   have hlF:zAG fi (.idx di xi ii szi)=false:=by simp only[zAG,KOp.lite,jC4,jCo,beq_eq_false_iff_ne];exact .inl (.inl (by omega))
   refine⟨σj,hj0,⟨⟨mk,fun _=>rfl,KF.refl _ _ _,fun h=>(by rw[hlF]at h; cases h),hit⟩,fun _ τ hs=>?_,fun _ _ h=>by simp[KOp.isCall]at h⟩⟩;rcases hs with hs | ⟨hs,_⟩ | rfl
   ·rw[hlF]at hs; cases hs
   ·omega
   ·exact mk
 case addr di xi oi =>
  cases kj<;>try (simp at hc; done)
  case call dj fo args =>
   have e:=hi2 (by simp[yC,KOp.keeps,KOp.isCall]);subst e;have hka:zPd σi σj:=((q2.2 rfl).2 hf1 hf2).2;simp only[zCx]at hi1;have h2:=hi1.2;have mk:eff P env σj ri σj (.addr di xi oi):=by exact⟨rfl,zY4 hka h2⟩
   have hlF:zAG fi (.addr di xi oi)=false:=by simp only[zAG,KOp.lite,jC4,jCo,beq_eq_false_iff_ne];exact .inl (.inl (by omega))
   refine⟨σj,hj0,⟨⟨mk,fun _=>rfl,KF.refl _ _ _,fun h=>(by rw[hlF]at h; cases h),hit⟩,fun _ τ hs=>?_,fun _ _ h=>by simp[KOp.isCall]at h⟩⟩;rcases hs with hs | ⟨hs,_⟩ | rfl
   ·rw[hlF]at hs; cases hs
   ·omega
   ·exact mk
theorem zUH {fi fj:Nat}{gi gj:KG}{ri rj:A} {σi σj:St}(hc:zQP fi fj gi gj=true)(hi:zDg P fi gi env σ ri σi)(hj:zCE P fj gj env σi rj σj) :
 ∃σ1,zCE P fj gj env σ rj σ1∧zDg P fi gi env σ1 ri σj:=by
 simp only[zQP,jB6]at hc;rcases hc with hc | hc
 ·exact zRW hc hi hj
 ·exact zUK hc hi hj
theorem zUL {fi fj:Nat}{gi gj:KG}{ri rj:A} {σi σj:St}(hc:zQS gi gj=true)(hi:zDg P fi gi env σ ri σi)(hj:zCE P fj gj env σi rj σj) :
 ∃σ1,zCE P fj gj env σ rj σ1∧zDg P fi gi env σ1 ri σj:=by
 obtain⟨gdi,ki⟩:=gi;obtain⟨gdj,kj⟩:=gj;simp only[zQS,jA4,jCp]at hc;obtain⟨⟨rfl,rfl⟩,hc⟩:=hc;cases ki<;>try (simp at hc; done)
 case alr di qi zi =>
 cases kj<;>try (simp at hc; done)
 case alr dj qj zj =>
  have hne:qi≠qj:=by simpa using hc
  obtain⟨hj1,p1,p2,p3,hjt⟩:=hj;obtain⟨⟨hi1,o1,o2,o3,hit⟩,hi3,_⟩:=hi;simp only[zCx,eff]at hi1 hj1;obtain⟨a1,rfl,rfl⟩:=hi1;obtain⟨b1,rfl,rfl⟩:=hj1;have b1' : σ[qj]?=some .rsv:=by rw[jA8 hne]at b1; exact b1
  have kp:∀(υ : St) q (o:AObj),υ[q]?=some .rsv→zAp υ (υ.set q o):=fun υ q o hq l cs hl=>by
   by_cases e:l=q
   ·subst e; rw[hq]at hl; cases hl
   ·rw[jA8 (Ne.symm e)]; exact hl
  refine⟨σ.set qj (AObj.box (zj.map qS)),⟨?_,fun h=>by simp[yC,KOp.keeps]at h,KF.of rfl fun _=>kp _ _ _ b1',fun h=>by simp[zAG,KOp.lite,KOp.keeps]at h,hjt⟩,⟨?_,fun h=>by simp[yC,KOp.keeps]at h,KF.of rfl fun _=>?_,fun h=>by simp[zAG,KOp.lite,KOp.keeps]at h,hit⟩,fun h=>by simp[yC,KOp.keeps]at h,fun _ _ h=>by simp[KOp.isCall]at h⟩
  ·simp only[zCx,eff];exact⟨b1',trivial,trivial⟩
  ·simp only[zCx,eff];exact⟨by rw[jA8 (Ne.symm hne)]; exact a1,trivial,List.set_comm _ _ hne⟩
  ·rw[List.set_comm _ _ hne];exact kp _ _ _ (by rw[jA8 (Ne.symm hne)]; exact a1)
theorem zRX {fi fj:Nat}{gi gj:KG}{ri rj:A} {σi σj:St}(hc:zTM fi gi gj=true)(hi:zDg P fi gi env σ ri σi)(hj:zCE P fj gj env σi rj σj) :
 ∃σ1,zCE P fj gj env σ rj σ1∧zDg P fi gi env σ1 ri σj:=by
 obtain⟨gdi,ki⟩:=gi;obtain⟨gdj,kj⟩:=gj;simp only[zTM,jA4,jB6,beq_iff_eq,jCp]at hc;obtain⟨⟨⟨hf,rfl⟩,rfl⟩,hc⟩:=hc;cases ki<;>try (simp at hc; done)
 case call di fo args =>
 cases kj<;>try (simp at hc; done)
 case alr dj qj zj =>
  obtain⟨hj1,p1,p2,p3,hjt⟩:=hj;obtain⟨⟨hi1,o1,o2,o3,hit⟩,_,hi3⟩:=hi;obtain⟨u,rfl,hu,hall⟩:=hi3 rfl hf rfl;simp only[zCx,eff]at hj1;obtain⟨b1,rfl,rfl⟩:=hj1;have b1' : σ[qj]?=some .rsv:=hu.1 _ b1;have kp:zBt σ (σ.set qj (AObj.box (zj.map qS))):=fun l o hl hn=>by
   by_cases e:l=qj
   ·subst e; rw[b1']at hl; cases hl; exact(hn rfl).elim
   ·rw[jA8 (Ne.symm e)]; exact hl
  have hset:=hu.2 σ qj (AObj.box (zj.map qS)) rfl (zBt.refl _) b1';rw[←hset];have hnew:=hall (σ.set qj (AObj.box (zj.map qS))) (by simp) kp;have back:∀q:Nat,(σ.set qj (AObj.box (zj.map qS)))[q]?=some AObj.rsv→σ[q]?=some AObj.rsv:=fun q hq=>by
   by_cases e:q=qj
   ·subst e; exact b1'
   ·rw[jA8 (Ne.symm e)]at hq; exact hq
  have hkF:yC fi (.call di fo args)=false:=by rcases hf with rfl | rfl<;>simp[yC,KOp.isCall]
  have hlF:zAG fi (.call di fo args)=false:=by simp[zAG,KOp.lite,KOp.isCall]
  refine⟨σ.set qj (AObj.box (zj.map qS)),⟨?_,fun h=>by simp[yC,KOp.keeps]at h,KF.of rfl fun _=>kp.keeps,fun h=>by simp[zAG,KOp.lite,KOp.keeps]at h,hjt⟩,
   ⟨⟨?_,fun h=>(by rw[hkF]at h; cases h),⟨fun hg=>?_,fun _=>⟨fun q1 q2=>by omega,fun q1 q2=>by omega⟩⟩,fun h=>(by rw[hlF]at h; cases h),hit⟩,fun h=>(by rw[hkF]at h; cases h),fun _ _ _=>⟨u,rfl,⟨fun q hq=>?_,fun τ q o hl hk hq=>?_⟩,fun τ hl hk=>hall τ (by simpa using hl) (kp.trans hk)⟩⟩⟩
  ·simp only[zCx,eff];exact⟨b1',trivial,trivial⟩
  ·simp only[zCx];exact hnew
  ·have h0:=o2.1 hg;rw[hset];intro l cs hl;by_cases e:l=qj
   ·subst e;have hlt:l<(u σ).length:=by
     rcases jAn l (u σ).length with h | h
     ·exact h
     ·rw[jB9 h]at b1; cases b1
    have hlt2:l < σ.length:=by
     rcases jAn l σ.length with h | h
     ·exact h
     ·rw[jB9 h]at b1'; cases b1'
    rw[jAi hlt2]at hl;rw[jAi hlt];exact hl
   ·rw[jA8 (Ne.symm e)]at hl ⊢;exact h0 l cs hl
  ·rw[hset]at hq;by_cases e:q=qj
   ·subst e;have hlt:q<(u σ).length:=by
     rcases jAn q (u σ).length with h | h
     ·exact h
     ·rw[jB9 h]at b1; cases b1
    rw[jAi hlt]at hq;cases hq
   ·rw[jA8 (Ne.symm e)]at hq;have:=hu.1 q hq;rw[jA8 (Ne.symm e)]; exact this
  ·exact hu.2 τ q o (by simpa using hl) (kp.trans hk) (back q hq)
def KOp.looksL:KOp→Bool
 | .len _ s _=>!s
 | .idx .. | .ld .. | .addr ..=>true
 | _=>false
theorem zXI {k:KOp}{p:Prop}{r:A}{q:Nat}{zs:List A}(hk:k.looksL=true)(hq : σ[q]?=some .rsv)(h:zJ env σ k=some (p,r)):zJ env (σ.set q (AObj.box zs)) k=some (p,r):=by
 have get:∀l:Nat,l≠q→(σ.set q (AObj.box zs))[l]? = σ[l]?:=fun l hl=>jA8 (Ne.symm hl)
 cases k<;>simp only[KOp.looksL]at hk<;>try (cases hk; done)
 case len d s x =>
  cases s<;>try (cases hk; done)
  simp only[zJ]at h⊢;generalize ev env x=a at h⊢;cases a<;>first
   | exact h
   | (cases h; done)
   | (rename_i l n; by_cases hl:l=q; (subst hl; simp only[hq]at h; cases h); (simp only[get l hl]; exact h))
   | (rename_i l n o k c; by_cases hl:l=q; (subst hl; simp only[hq]at h; cases h); (simp only[get l hl]; exact h))
 case idx d x i sz =>
  simp only[zJ]at h⊢;generalize ev env x=a at h⊢;generalize ev env i=b at h⊢;cases b<;>first
   | (cases a<;>first | exact h | (cases h; done))
   | (rename_i v; cases v<;>first
    | (cases a<;>first | exact h | (cases h; done))
    | (cases a<;>first
     | exact h
     | (cases h; done)
     | (rename_i l n; by_cases hl:l=q; (subst hl; simp only[hq]at h; cases h); (simp only[get l hl]; exact h))
     | (rename_i l n o k c; by_cases hl:l=q; (subst hl; simp only[hq]at h; cases h); (simp only[get l hl]; exact h))))
 case addr d x off =>
  simp only[zJ]at h⊢;generalize ev env x=a at h⊢;cases a<;>first
   | exact h
   | (cases h; done)
   | (rename_i l n o; by_cases hl:l=q; (subst hl; simp only[hq]at h; cases h); (simp only[get l hl]; exact h))
 case ld d x n agg =>
  simp only[zJ]at h⊢;have key:∀cs,ldA σ n (ev env x)=some cs→ldA (σ.set q (AObj.box zs)) n (ev env x)=some cs:=by
   intro cs hcs;unfold ldA at hcs ⊢;generalize ev env x=a at hcs ⊢;cases a<;>first
    | exact hcs
    | (cases hcs; done)
    | (rename_i l o; by_cases hl:l=q; (subst hl; simp only[hq]at hcs; cases hcs); (simp only[get l hl]; exact hcs))
    | (rename_i l m o; by_cases hl:l=q; (subst hl; simp only[hq]at hcs; cases hcs); (simp only[get l hl]; exact hcs))
  cases hld:ldA σ n (ev env x)with
  | none=>rw[hld]at h; cases h
  | some cs=>rw[key cs hld]; rw[hld]at h; exact h
theorem zUJ {fi fj:Nat}{gi gj:KG}{ri rj:A} {σi σj:St}(hc:qAa gi gj=true)(hi:zDg P fi gi env σ ri σi)(hj:zCE P fj gj env σi rj σj) :
 ∃σ1,zCE P fj gj env σ rj σ1∧zDg P fi gi env σ1 ri σj:=by
 obtain⟨gdi,ki⟩:=gi;obtain⟨gdj,kj⟩:=gj;simp only[qAa,jA4,jCp]at hc;obtain⟨⟨rfl,rfl⟩,hc⟩:=hc;have hki:ki.looksL=true∧∃d q z,kj=.alr d q z:=by
  split at hc
  all_goals first | exact⟨rfl,_,_,_,rfl⟩ | (cases hc; done)
 clear hc;obtain⟨hki,dj,qj,zj,rfl⟩:=hki;have hkeep:ki.keeps=true∧ki.isCall=false∧ki.grows=false:=by cases ki<;>first | (cases hki; done) | (rename_i s x; cases s<;>first | exact⟨rfl,rfl,rfl⟩ | (cases hki; done)) | exact⟨rfl,rfl,rfl⟩
 have hkf:yC fi ki=true:=by simp[yC,hkeep.1,hkeep.2.1]
 obtain⟨hj1,p1,p2,p3,hjt⟩:=hj;obtain⟨⟨hi1,o1,o2,o3,hit⟩,hi2,hi3⟩:=hi;have hσ : σi = σ:=o1 hkf;subst hσ;simp only[zCx,eff]at hj1;obtain⟨b1,rfl,rfl⟩:=hj1;have kp:zAp σi (σi.set qj (AObj.box (zj.map qS))):=fun l cs hl=>by
  by_cases e:l=qj
  ·subst e; rw[b1]at hl; cases hl
  ·rw[jA8 (Ne.symm e)]; exact hl
 have hnew:zCx P ⟨none,ki⟩ env (σi.set qj (AObj.box (zj.map qS))) ri (σi.set qj (AObj.box (zj.map qS))):=by
  simp only[zCx]at hi1 ⊢;have hd:∀τ,eff P env τ ri τ ki↔qW (zJ env τ ki) fun r'=>ri=r':=by intro τ;cases ki<;>first | (cases hki; done) | (simp only[eff,true_and])
  rw[hd]at hi1 ⊢;cases hp:zJ env σi ki with
  | none=>rw[hp]at hi1; exact hi1.elim
  | some x =>
   obtain⟨pp,rr⟩:=x;rw[zXI hki b1 hp];rw[hp]at hi1;exact hi1
 refine⟨σi.set qj (AObj.box (zj.map qS)),⟨?_,fun h=>by simp[yC,KOp.keeps]at h,KF.of rfl fun _=>kp,fun h=>by simp[zAG,KOp.lite,KOp.keeps]at h,hjt⟩,
  ⟨⟨hnew,fun _=>rfl,KF.refl _ _ _,o3,hit⟩,fun _ τ hs=>?_,fun _ h7 hcl=>by rw[hkeep.2.1]at hcl; cases hcl⟩⟩
 ·simp only[zCx,eff];exact⟨b1,trivial,trivial⟩
 ·rcases hs with h | ⟨h,hk⟩ | rfl
  ·exact o3 h τ
  ·exact hi2 hkf τ (.inr (.inl ⟨h,fun l cs hl=>hk l cs (kp l cs hl)⟩))
  ·exact hnew
theorem zUI {fi fj:Nat}{gi gj:KG}{ri rj:A} {σi σj:St}(hc:zQQ fi gi gj=true)(hi:zDg P fi gi env σ ri σi)(hj:zCE P fj gj env σi rj σj) :
 ∃σ1,zCE P fj gj env σ rj σ1∧zDg P fi gi env σ1 ri σj:=by
 simp only[zQQ,jB6]at hc;rcases hc with hc | hc
 ·exact zRX hc hi hj
 ·exact zUJ hc hi hj
theorem zUG {fi fj:Nat}{gi gj:KG}{ri rj:A} {σi σj:St}(hc:(zFv fi fj gi.op gj.op||(zQR fi fj gi gj||(zQP fi fj gi gj||(zQS gi gj||zQQ fi gi gj))))=true)(hi:zDg P fi gi env σ ri σi)(hj:zCE P fj gj env σi rj σj) :
 ∃σ1,zCE P fj gj env σ rj σ1∧zDg P fi gi env σ1 ri σj:=by
 simp only[jB6]at hc;rcases hc with hc | hc | hc | hc | hc
 ·exact zRV hc hi hj
 ·exact zXk hc hi hj
 ·exact zUH hc hi hj
 ·exact zUL hc hi hj
 ·exact zUI hc hi hj
theorem Env.put_ne {d:Option Nat}{x:A}{t:Nat}(h:∀y,d=some y→t≠y):env.put d x t=env t:=by
 cases d with
 | none=>rfl
 | some y=>simp[Env.put,h y rfl]
theorem Env.put_comm {d d':Option Nat}{x y:A}(h:∀z,d=some z→d'≠some z):(env.put d x).put d' y=(env.put d' y).put d x:=by
 cases d with
 | none=>rfl
 | some z =>
  cases d' with
  | none=>rfl
  | some z' =>
   have hne:z'≠z:=fun e=>h z rfl (by rw[e])
   funext t;simp only[Env.put];by_cases h1:t=z'
   ·subst h1; simp[hne]
   ·simp[h1]
def zKN (P:Program)(Qp:Value→St→Prop)(f:Nat)(fv:A)(args:List A) (σ : St)(R:A→St→Prop):Prop:=match fv with
 | .clo g first cap=>zB P g=true∧zAi P g (first++args++cap) σ fun o τ=>(∃r,o=.ret r∧(f=8→zAp σ τ)∧R r τ)∨∃v,o=.pan v∧Qp v τ
 | _=>False
theorem zRx {f:Nat}{fv:A}{args:List A}{R R':A→St→Prop}(h:zKN P Qp f fv args σ R)(hr:∀r τ,(f=8→zAp σ τ)→R r τ→R' r τ):zKN P Qp f fv args σ R':=by
 unfold zKN at h⊢;split at h
 ·refine⟨h.1,fun H L w vs h1 h2=>(h.2 H L w vs h1 h2).mono fun e w' hh=>?_⟩;obtain⟨o,σ',H',L',g1,g2,hh⟩:=hh;refine⟨o,σ',H',L',g1,g2,?_⟩;rcases hh with ⟨r,g3,g4,g5⟩ | hh
  ·exact .inl ⟨r,g3,g4,hr r σ' g4 g5⟩
  ·exact .inr hh
 ·exact h.elim
def aOp (P:Program)(Qp:Value→St→Prop)(all:List (Nat×Nat×KG))(i:Nat)(K:Env→St→Prop)(env:Env) (σ : St):Prop :=
 (∃f g r σ',(i,f,g)∈all∧zCE P f g env σ r σ'∧K (env.put g.op.dst r) σ') ∨
 ∃f d fo args,(f=8∨f=10)∧(i,f,(⟨none,.call d fo args⟩:KG))∈all∧zKN P Qp f (ev env fo) (args.map (ev env)) σ fun r τ=>K (env.put d r) τ
def zF9 (P:Program)(Qp:Value→St→Prop)(ops:Array Oper)(all:List (Nat×Nat×KG))(Q:Env→St→Prop):Nat→Array Bool→Env→St→Prop
 | 0,listed,env,σ=>Region.ready .any ops listed=[]∧Q env σ
 | fuel+1,listed,env,σ=>(Region.ready .any ops listed=[]→Q env σ)∧∀i∈Region.ready .any ops listed,aOp P Qp all i (zF9 P Qp ops all Q fuel (listed.setIfInBounds i true)) env σ
structure Fits (ops:Array Oper)(all:List (Nat×Nat×KG)):Prop where
 dst:∀(i f:Nat) o g,ops[i]?=some o→(i,f,g)∈all→g.op.dst=o.dst
 looks:∀(i f:Nat) o g,ops[i]?=some o→(i,f,g)∈all→∀t∈g.looks,t∈o.looksAt ops
theorem zPW {listed:Array Bool}{n:Nat}(h:listed.getD n true=false)(h':listed.getD n false=true):False:=by
 rcases jAn n listed.size with hn | hn
 ·simp[hn]at h h';rw[h]at h';cases h'
 ·simp[Array.getElem?_eq_none hn]at h'
theorem qIZ {fi fj:Nat}{gi:KG}{d:Option Nat}{fo:Operand}{args:List Operand}(hfj:fj=8∨fj=10)(h:(zFv fi fj gi.op (.call d fo args)||(zQR fi fj gi ⟨none,.call d fo args⟩||(zQP fi fj gi ⟨none,.call d fo args⟩||(zQS gi ⟨none,.call d fo args⟩||zQQ fi gi ⟨none,.call d fo args⟩))))=true) :
 yC fi gi.op=true∧(zAG fi gi.op=true∨(fi=1∧fj=8)):=by
 have e1:zQR fi fj gi ⟨none,.call d fo args⟩=false:=by simp[zQR]
 have e2:zQP fi fj gi ⟨none,.call d fo args⟩=false:=by
  have a1:Nat.ble 1000 fj=false:=by rcases hfj with rfl | rfl<;>rfl
  have a2:Nat.ble 3000 fj=false:=by rcases hfj with rfl | rfl<;>rfl
  simp[zQP,zTL,qAb,a1,a2]
 have e3:zQS gi ⟨none,.call d fo args⟩=false:=by unfold zQS;cases gi.op<;>simp
 have e4:zQQ fi gi ⟨none,.call d fo args⟩=false:=by unfold zQQ zTM qAa;cases gi.op<;>simp
 have e5:zAG fj (.call d fo args)=false:=by rcases hfj with rfl | rfl<;>simp[zAG,KOp.lite]
 have e6:yC fj (.call d fo args)=false:=by
  have:Nat.ble 3 fj=true:=by rcases hfj with rfl | rfl<;>rfl
  simp[yC,KOp.isCall,this]
 have e7:zEz 10 (.call d fo args)=false:=by simp[zEz,KOp.grows]
 rw[e1,e2,e3,e4]at h;simp only[zFv,e5,e6,Bool.or_false,jC4,jA4,jB6,beq_iff_eq]at h;refine⟨h.1,h.2.imp id fun x=>⟨x.1,?_⟩⟩;rcases hfj with e | e
 ·exact e
 ·rw[e,e7]at x;cases x.2
theorem zOW {all:List (Nat×Nat×KG)}(hf:Fits ops all){Q:Env→St→Prop}{fi i:Nat}{oi:Oper}{gi:KG}{ri:A}(hi:ops[i]?=some oi)(hgi:(i,fi,gi)∈all)(B:List Nat)
 (hB:∀j∈B,∃o,ops[j]?=some o∧∃e∈o.after,Region.binds .any e=true∧(e.on=i∨e.on∈B)) :
 ∀(fuel:Nat) (listed:Array Bool) (env:Env) (σ σi:St),(∀j∈B,listed.getD j true=false) →
  (∀j oj fj gj,ops[j]?=some oj→(j,fj,gj)∈all→j≠i→listed.getD j true=false→(∀e∈oj.after,Region.binds .any e=true→e.on≠i)→j∉B→oi.apart ops oj=true∧(zFv fi fj gi.op gj.op||(zQR fi fj gi gj||(zQP fi fj gi gj||(zQS gi gj||zQQ fi gi gj))))=true) →
  i∈Region.ready .any ops listed→zDg P fi gi env σ ri σi →
  zF9 P Qp ops all Q fuel (listed.setIfInBounds i true) (env.put gi.op.dst ri) σi→zF9 P Qp ops all Q (fuel+1) listed env σ:=by
 intro fuel;induction fuel with
 | zero =>
  intro listed env σ σi _ _ hr hy H;refine⟨fun h=>(by rw[h]at hr; cases hr),fun j hj=>?_⟩;by_cases hji:j=i
  ·subst hji; exact .inl ⟨fi,gi,ri,σi,hgi,hy.1,H⟩
  ·have:=ready_mono hj hji;rw[H.1]at this;cases this
 | succ fuel ih =>
  intro listed env σ σi hBl hfree hr hy H;refine⟨fun h=>(by rw[h]at hr; cases hr),fun j hj=>?_⟩;by_cases hji:j=i
  ·subst hji; exact .inl ⟨fi,gi,ri,σi,hgi,hy.1,H⟩
  ·obtain⟨hjun,oj,hoj,hall⟩:=mem_ready.1 hj;have hiun:=(mem_ready.1 hr).1;have hnot:∀e∈oj.after,Region.binds .any e=true→e.on≠i:=fun e he hb heq=>by have:=hall e he hb;rw[heq]at this;exact zPW hiun this
   have hjB:j∉B:=fun hm=>by
    obtain⟨o,ho,e,he,hb,hon⟩:=hB j hm;rw[hoj]at ho;cases ho;rcases hon with h1 | h1
    ·exact hnot e he hb h1
    ·exact zPW (hBl _ h1) (hall e he hb)
   rcases H.2 j (ready_mono hj hji)with ⟨fj,gj,rj,σj,hgj,ej,hK⟩ | ⟨f8,dd,foj,argsj,hf8,hgj,hcn⟩
   rotate_left
   ·obtain⟨hap,hcm⟩:=hfree j oj f8 _ hoj hgj hji hjun hnot hjB;obtain⟨h1,h2,h3⟩:=Oper.apart_spec hap;have di:=hf.dst i fi oi gi hi hgi;have dj:=hf.dst j f8 oj _ hoj hgj;simp only[KOp.dst]at dj;have hcm':=qIZ hf8 hcm;obtain⟨hk,hst⟩:=hcm';have e:=hy.1.2.1 hk;subst e;have hlki:∀x∈(KOp.call dd foj argsj).reads,ev (env.put gi.op.dst ri) x=ev env x:=zIg fun t ht=>Env.put_ne fun y hy' e=>by subst e;exact h1 t (by rw[←di]; exact hy') (hf.looks j f8 oj _ hoj hgj t (jBi _ (jCn.2 ⟨.tmp t,ht,rfl⟩)))
    rw[hlki foj (by simp[KOp.reads]),zCe fun x hx=>hlki x (by simp[KOp.reads,hx])]at hcn;refine .inr ⟨f8,dd,foj,argsj,hf8,hgj,zRx hcn fun r τ hkp hK=>?_⟩;have hstab:zKz fi gi.op σi τ:=by
     rcases hst with hl | ⟨hf1,hf2⟩
     ·exact .inl hl
     ·exact .inr (.inl ⟨hf1,hkp hf2⟩)
    have hij:=hy.2.1 hk τ hstab;have hlk:∀t∈gi.looks,(env.put dd r) t=env t:=fun t ht=>Env.put_ne fun y hy' e=>by subst e;exact h3 t (by rw[←dj]; exact hy') (hf.looks i fi oi gi hi hgi t ht)
    have hy2:zDg P fi gi (env.put dd r) τ ri τ:=⟨by
     rw[zHu hlk];exact⟨hij,fun _=>rfl,KF.refl _ _ _,hy.1.2.2.2⟩,fun hk' υ ht=>by rw[zHv hlk]; exact hy.2.1 hk' υ (zMi hstab ht),fun _ hf7 hcl=>(by
      have hk7:yC fi gi.op=false:=by rcases hf7 with rfl | rfl<;>simp[yC,hcl]
      rw[hk7]at hk;cases hk)⟩
    refine ih (listed.setIfInBounds j true) (env.put dd r) τ τ ?_ ?_ (ready_mono hr (Ne.symm hji)) hy2 ?_
    ·intro m hm;have hne:j≠m:=fun e=>hjB (e▸hm)
     rw[getD_set_ne true hne];exact hBl m hm
    ·intro k ok fk gk hk hgk hki hun hno hkB;refine hfree k ok fk gk hk hgk hki ?_ hno hkB;by_cases hjk:j=k
     ·subst hjk; exact hjun
     ·rw[getD_set_ne true hjk]at hun; exact hun
    ·rw[Array.setIfInBounds_comm _ _ hji,←Env.put_comm (fun z hz=>by rw[dj]; exact h2 z (by rw[←di]; exact hz))];exact hK
   ·obtain⟨hap,hcm⟩:=hfree j oj fj gj hoj hgj hji hjun hnot hjB;obtain⟨h1,h2,h3⟩:=Oper.apart_spec hap;have di:=hf.dst i fi oi gi hi hgi;have dj:=hf.dst j fj oj gj hoj hgj;have ej':zCE P fj gj env σi rj σj:=by
     rw[zHu (env':=env.put gi.op.dst ri)]
     ·exact ej
     ·intro t ht;refine(Env.put_ne fun y hy' e=>?_).symm;subst e;exact h1 t (by rw[←di]; exact hy') (hf.looks j fj oj gj hoj hgj t ht)
    obtain⟨σ1,ej1,hy1⟩:=zUG hcm hy ej';have hlk:∀t∈gi.looks,(env.put gj.op.dst rj) t=env t:=fun t ht=>Env.put_ne fun y hy' e=>by subst e;exact h3 t (by rw[←dj]; exact hy') (hf.looks i fi oi gi hi hgi t ht)
    have hy2:zDg P fi gi (env.put gj.op.dst rj) σ1 ri σj:=⟨by rw[zHu hlk]; exact hy1.1,fun hk τ ht=>by rw[zHv hlk]; exact hy1.2.1 hk τ ht,fun hg hf hcl=>by obtain⟨u,e1,e2,e3⟩:=hy1.2.2 hg hf hcl;refine⟨u,e1,e2,fun τ hl hk=>?_⟩;have hq:eff P (env.put gj.op.dst rj) τ ri (u τ) gi.op=eff P env τ ri (u τ) gi.op:=zMR (zIg fun t ht=>hlk t (jBi _ (jCn.2 ⟨.tmp t,ht,rfl⟩)));rw[hq];exact e3 τ hl hk⟩
    refine .inl ⟨fj,gj,rj,σ1,hgj,ej1,ih (listed.setIfInBounds j true) (env.put gj.op.dst rj) σ1 σj ?_ ?_ (ready_mono hr (Ne.symm hji)) hy2 ?_⟩
    ·intro m hm;have hne:j≠m:=fun e=>hjB (e▸hm)
     rw[getD_set_ne true hne];exact hBl m hm
    ·intro k ok fk gk hk hgk hki hun hno hkB;refine hfree k ok fk gk hk hgk hki ?_ hno hkB;by_cases hjk:j=k
     ·subst hjk; exact hjun
     ·rw[getD_set_ne true hjk]at hun; exact hun
    ·rw[Array.setIfInBounds_comm _ _ hji,←Env.put_comm (fun z hz=>by rw[dj]; exact h2 z (by rw[←di]; exact hz))];exact hK
theorem zGY {i:Nat}:∀(l acc:List Nat),(∀j∈acc,∃o,ops[j]?=some o∧∃e∈o.after,Region.binds .any e=true∧(e.on=i∨e.on∈acc)) →
 ∀j∈zFN ops i l acc,∃o,ops[j]?=some o∧∃e∈o.after,Region.binds .any e=true∧(e.on=i∨e.on∈zFN ops i l acc)
 | [],acc,h=>h
 | x::l,acc,h=>by
  simp only[zFN];refine zGY l _ ?_;split
  ·rename_i o ho;split
   ·rename_i hany;rw[Array.any_eq_true']at hany;obtain⟨e,he,hb⟩:=hany;simp only[jA4,jB6,beq_iff_eq,List.contains_iff_mem]at hb;intro j hj;rcases jA6.1 hj with rfl | hj
    ·exact⟨o,ho,e,he,hb.1,hb.2.imp id (jAf _)⟩
    ·obtain⟨o',h1,e',h2,h3,h4⟩:=h j hj;exact⟨o',h1,e',h2,h3,h4.imp id (jAf _)⟩
   ·exact h
  ·exact h
theorem zDX {all:List (Nat×Nat×KG)}(hf:Fits ops all){Q:Env→St→Prop}:∀(l:List (Nat×Nat×KG)) (listed:Array Bool) (env:Env) (σ : St),(∀x∈l,x∈all) →
 zKZ ops all l listed=true→wpD P Qp Q l env σ→zF9 P Qp ops all Q l.length listed env σ
 | [],_,_,_,_,hB,h=>⟨by simpa [zKZ] using hB,h⟩
 | (k,f,g)::l,listed,env,σ,hl,hB,h=>by
  have h0:=hl (k,f,g) (jAl ..);simp only[zKZ,jA4]at hB;obtain⟨⟨hr,hst⟩,hB'⟩:=hB;simp only[wpD]at h;by_cases hf8:f=8∨f=10
  ·have hff:(f==8||f==10)=true:=by rcases hf8 with rfl | rfl<;>rfl
   simp only[hff,if_true,jA4,beq_iff_eq]at hst;obtain⟨⟨hg1,hg2⟩,hg3⟩:=hst;obtain⟨gd,k0⟩:=g;simp only[jCp]at hg1;subst hg1;cases k0<;>simp only[KOp.isCall,jAg]at hg2;rename_i d fo args;refine⟨fun h0=>(by rw[hg3]at h0; cases h0),fun j hj=>?_⟩;rw[hg3,jAp]at hj;subst hj;refine .inr ⟨f,d,fo,args,hf8,h0,?_⟩;have h2:=h.2;simp only[zSN,jJ,zYt]at h2;unfold zKN;split at h2
   ·rename_i g first cap hfo
    simp only[hfo];obtain⟨hcb,h2⟩:=h2;rcases hf8 with rfl | rfl
    ·refine⟨hcb,fun H L w vs h3 h4=>(h2 H L w vs h3 h4).mono fun e w' hh=>?_⟩;obtain⟨o,σ',H',L',g1,g2,r,g3,g4,g5⟩:=hh;exact⟨o,σ',H',L',g1,g2,.inl ⟨r,g3,fun _=>g4,zDX hf l _ _ _ (fun x hx=>hl x (jAf _ hx)) hB' g5⟩⟩
    ·refine⟨hcb,fun H L w vs h3 h4=>(h2 H L w vs h3 h4).mono fun e w' hh=>?_⟩;obtain⟨o,σ',H',L',g1,g2,hh⟩:=hh;refine⟨o,σ',H',L',g1,g2,?_⟩;rcases hh with ⟨r,g3,g5⟩ | hh
     ·exact .inl ⟨r,g3,fun e=>(by cases e),zDX hf l _ _ _ (fun x hx=>hl x (jAf _ hx)) hB' g5⟩
     ·exact .inr hh
   ·have:=h2.1;omega
   ·exact h2.elim
  have hff:(f==8||f==10)=false:=by simp only[Bool.or_eq_false_iff,beq_eq_false_iff_ne];exact not_or.1 hf8
  rw[hff]at hst;simp only[jAg,if_false]at hst;replace hf8:=not_or.1 hf8;obtain⟨r,σ',hy,hK⟩:=zV4 hf8 h.1 h.2;have rest:=zDX hf l _ _ _ (fun x hx=>hl x (jAf _ hx)) hB' hK;have hrk:k∈Region.ready .any ops listed:=by simpa using hr
  obtain⟨_,ok,ho,_⟩:=mem_ready.1 hrk;have use:∀B:List Nat,(∀j∈B,∃o,ops[j]?=some o∧∃e∈o.after,Region.binds .any e=true∧(e.on=k∨e.on∈B))→zIG ops all listed B k f g=true→zF9 P Qp ops all Q (l.length+1) listed env σ:=by
   intro B hBp hs;simp only[zIG,ho,jA4,jB,jBd]at hs;refine zOW hf ho h0 B hBp l.length listed env σ σ' hs.1 (fun j oj fj gj hoj hgj hne hun hno hnB=>?_) hrk hy rest;have hj:=hs.2 (j,fj,gj) hgj;have hd:zEh ops k j=false:=by rw[zEh,hoj];simp only;rw[Bool.eq_false_iff,ne_eq,Array.any_eq_true'];rintro⟨e,he,hb⟩;simp only[jA4,beq_iff_eq]at hb;exact hno e he hb.1 hb.2
   simp only[zXF,hoj,hd,hun,jB6,beq_iff_eq,hne,false_or,jAg,jA4,List.contains_iff_mem,hnB,or_false]at hj;simp only[jB6];exact hj
  simp only[zYh,jB6]at hst;rcases hst with hst | hst
  ·exact use [] (by simp) hst
  ·exact use (zIS ops k) (zGY _ [] (by simp)) hst
theorem zMr {Qp:Value→Env→St→Prop}{r:A}{k:KOp}(h:eff P env σ r σ' k):wpO P Qp (fun env' τ=>env'=env.put k.dst r∧τ = σ') k env σ:=by
 have dflt:(σ' = σ∧qW (zJ env σ k) fun r'=>r=r')→(qW (zJ env σ k) fun r'=>env.put k.dst r'=env.put k.dst r∧σ = σ'):=by
  rintro⟨rfl,h⟩;unfold qW at h⊢;split at h
  ·exact⟨h.1,by rw[h.2],rfl⟩
  ·exact h.elim
 cases k
 case call d f args =>
  simp only[eff,zJD]at h;simp only[wpO];split at h
  ·rename_i g first cap hf
   rw[hf];refine⟨h.1,fun H L w vs h1 h2=>(h.2 H L w vs h1 h2).mono fun e w' hh=>?_⟩;obtain⟨o,τ,H',L',g1,g2,rfl,rfl⟩:=hh;exact⟨_,_,H',L',g1,g2,rfl,rfl⟩
  ·rename_i b hf;rw[hf];intro H L w vs h1 h2;obtain⟨fn,tmps,x,y,k1,k2⟩:=h H L w vs h1 h2;refine⟨fn,tmps,x,y,k1,k2.mono fun e w' hh=>?_⟩;obtain⟨o,τ,H',L',g1,g2,rfl,rfl⟩:=hh;exact⟨_,_,H',L',g1,g2,rfl,rfl⟩
  ·exact h.elim
 case brow d e sz n z ps =>
  simp only[eff]at h;simp only[wpO];split at h
  ·rename_i hf;obtain⟨rfl,rfl⟩:=h;rw[hf];exact⟨rfl,rfl⟩
  ·exact h.elim
 case isz d ng x=>exact h.elim
 case shr d x sz hx=>exact h.elim
 case apq d e sz bytes x y=>exact h.elim
 case pan d x=>exact h.elim
 case bslice d e sz n z ps =>
  obtain⟨rfl,h⟩:=h;simp only[wpO];split at h
  ·rename_i hf;rw[hf];subst h;exact⟨rfl,trivial⟩
  ·exact h.elim
 case alloc d z =>
  obtain⟨rfl,rfl⟩:=h;exact⟨rfl,rfl⟩
 case box d x =>
  simp only[eff]at h;simp only[wpO];split at h
  ·rename_i hf;obtain⟨rfl,rfl⟩:=h;rw[hf];exact⟨rfl,rfl⟩
  ·exact h.elim
 case st d x v n =>
  simp only[eff]at h;simp only[wpO];split at h
  ·rename_i cs hf;obtain⟨h1,h2,rfl⟩:=h;rw[hf];simp only[h1,if_true,h2];exact⟨rfl,trivial⟩
  ·exact h.elim
 case app d e sz bytes x y =>
  simp only[eff]at h;simp only[wpO];split at h
  ·rename_i m ys hf;rw[hf];obtain⟨h0,h⟩:=h;refine⟨h0,?_⟩;generalize ev env x=ax at h⊢;cases ax<;>simp only[zVU]at h
   case nil =>
    obtain⟨h1,rfl,rfl⟩:=h;exact⟨h1,rfl,rfl⟩
   case row l n =>
    simp only;split at h
    ·rename_i hl;obtain⟨h1,h2,rfl,rfl⟩:=h;rw[hl];simp only[h1,and_self,if_true];exact⟨by rw[←h1.1]; exact h2,rfl,trivial⟩
    ·exact h.elim
   case fsl n cs =>
    obtain⟨h1,h | h⟩:=h
    ·obtain⟨h2,rfl,rfl⟩:=h;exact⟨h1,fun _=>⟨rfl,rfl⟩,fun hne=>(hne h2).elim⟩
    ·obtain⟨h2,h3,rfl,rfl⟩:=h;exact⟨h1,fun h0=>(h2 h0).elim,fun _=>⟨h3,rfl,rfl⟩⟩
  ·exact h.elim
 case len d s x =>
  cases s
  ·obtain⟨rfl,h⟩:=h;simp only[wpO];split
   ·rename_i n cs hx;intro _;simp only[qW,zJ,hx,true_and]at h;subst h;exact⟨rfl,trivial⟩
   ·rename_i n cs hx;intro _;simp only[qW,zJ,hx,true_and]at h;subst h;exact⟨rfl,trivial⟩
   ·cases hp:zJ env σ' (.len d false x)with
    | none=>rw[hp]at h; exact h.elim
    | some y=>rw[hp]at h; exact⟨h.1,by rw[h.2]; rfl,trivial⟩
  ·exact dflt h
 case mop d m xs =>
  simp only[wpO];exact zLC h ⟨rfl,rfl⟩
 case alr d q z =>
  obtain⟨hq,rfl,rfl⟩:=h;simp only[wpO,hq];exact⟨rfl,trivial⟩
 all_goals exact dflt h
structure Comp (P:Program)(N:Nat)(ops:Array Oper)(all:List (Nat×Nat×KG)):Prop where
 get:∀(i f:Nat) o g,ops[i]?=some o→(i,f,g)∈all→zDK P N ops o=some g.erase
theorem zG9 (k:KOp):k.erase.dst=k.dst:=by cases k<;>rfl
theorem zJQ (g:KG):g.erase.looks=g.looks:=by obtain⟨gd,k⟩:=g;cases k<;>rfl
theorem zC3 {o:Oper}{g:KG}(h:zDK P N ops o=some g):g.erase=g:=by
 have hk:=(zAa h).1;have hke:g.op.erase=g.op:=by
  generalize g.op=k at hk;cases k<;>try rfl
  case shr =>
   generalize hkk:KOp.shr _ _ _ _=kk at hk;cases yZ hk<;>first | (cases hkk; done) | (subst hkk; rename_i hpk _; simp[zBY]at hpk)
  case apq =>
   generalize hkk:KOp.apq _ _ _ _ _ _=kk at hk;cases yZ hk<;>first | (cases hkk; done) | (subst hkk; rename_i hpk _; simp[zBY]at hpk)
  case isz =>
   generalize hkk:KOp.isz _ _ _=kk at hk;cases yZ hk<;>first | (cases hkk; done) | (subst hkk; rename_i hpk _; simp[zBY]at hpk)
  case rslc =>
   generalize hkk:KOp.rslc _ _ _ _ _=kk at hk;cases yZ hk<;>first | (cases hkk; done) | (subst hkk; rename_i hpk _; simp[zBY]at hpk)
  ·generalize hkk:KOp.brow _ _ _ _ _ _=kk at hk;cases yZ hk<;>first | (cases hkk; done) | (subst hkk; rename_i hpk _; simp[zBY]at hpk)
  ·generalize hkk:KOp.alr _ _ _=kk at hk;cases yZ hk<;>first | (cases hkk; done) | (subst hkk; rename_i hpk _; simp[zBY]at hpk)
 simp only[KG.erase,hke]
theorem zPl {f:Nat}{g:KG}:(zVW f g).erase=g.erase:=by
 unfold zVW;split
 ·rename_i hz;split
  ·simp only[KG.erase,hz,KOp.erase]
  ·rfl
 ·rename_i hz;split
  ·simp only[KG.erase,hz,KOp.erase]
  ·rfl
 ·rfl
theorem zD4 {ro:Option Nat}{all:List (Nat×Nat×KG)}(hc:Comp P N ops all)(hall:∀o∈ops.toList,∀x,o.dst=some x→x<N){Q:Ex→Env→St→Prop}{dfs:List Deferred}{Qc:Exit→Act→World→Prop} :
 ∀(fuel:Nat) (listed:Array Bool) {H:Mem} {L:List LI} {σ : St} {w:World} {env:Env} {a:Act},qB H L N env a.tmps→RelSt H L σ w→a.defers=dfs →
  zF9 P (zLM Q) ops all (Q .norm) fuel listed env σ→(∀e b v,zHm H L w N Q dfs e b v→Qc e b v)→wpAnyIn (Wr ro) 0 P .any ops Qc fuel listed a w
 | 0,listed,H,L,σ,w,env,a,he,hs,hd,h,hQ=>⟨h.1,hQ _ _ _ ⟨.norm,env,σ,H,L,rfl,hd▸Mk.refl _ _ _,he,Nxt.refl hs,h.2⟩⟩
 | fuel+1,listed,H,L,σ,w,env,a,he,hs,hd,h,hQ=>by
  refine⟨fun h0=>hQ _ _ _ ⟨.norm,env,σ,H,L,rfl,hd▸Mk.refl _ _ _,he,Nxt.refl hs,h.1 h0⟩,fun i hi=>?_⟩;obtain⟨_,o,ho,_⟩:=mem_ready.1 hi;rcases h.2 i hi with ⟨f,g,r,σ1,hg,hy,hK⟩ | ⟨f8,d,fo,args,hf8,hg,hcn⟩
  rotate_left
  ·have hcg:=hc.get i f8 o _ ho hg;obtain⟨hk,hdst,hgd⟩:=zAa hcg;unfold wpOpIn;simp only[ho];rcases hgd with ⟨hog,hgn⟩ | ⟨j,want,s,hog,hsl,hgn⟩
   ·have hw:Region.wanted o (yielded ops a.tmps)=true:=by simp[Region.wanted,hog]
    rw[if_pos hw];refine zDJ (k:=.call d fo args) (Qp:=fun v _ τ=>zLM Q v τ) (K:=fun env' τ=>zF9 P (zLM Q) ops all (Q .norm) fuel (listed.setIfInBounds i true) env' τ) hk hdst he hs ?_ (fun env' σ' H' L' a' w' h1 h2 h3 h4=>?_) (fun v σ' H' L' w' h1 h2=>hQ _ _ _ ⟨.pan v,env,σ',H',L',rfl,hd▸Mk.refl _ _ _,he.mono h1.step.hle h1.lle,h1,h2 env⟩)
    ·simp only[wpO];unfold zKN at hcn;split at hcn
     ·rename_i g first cap hfo
      simp only[hfo];refine⟨hcn.1,fun H L w vs h3 h4=>(hcn.2 H L w vs h3 h4).mono fun e w' hh=>?_⟩;obtain⟨o,σ',H',L',g1,g2,hh⟩:=hh;refine⟨o,σ',H',L',g1,g2,?_⟩;rcases hh with ⟨r,rfl,g4,g5⟩ | ⟨v,rfl,g4⟩
      ·exact g5
      ·exact g4
     ·exact hcn.elim
    ·exact zD4 hc hall fuel _ h2 h3.st (h1.trans hd) h4 fun e b v hp=>hQ e b v (hp.next h3 (Mk.refl _ _ _))
   ·cases hgn
  have hcg:=hc.get i f o g ho hg;obtain⟨hk,hdst,hgd⟩:=zAa hcg;have hkd:=zA6 hk;rw[show g.erase.op.dst=g.op.dst from zG9 _]at hkd;unfold wpOpIn;simp only[ho];have exec:eff P env σ r σ1 g.op→o.wpIn (Wr ro) 0 P a w (wpAnyIn (Wr ro) 0 P .any ops Qc fuel (listed.setIfInBounds i true)) Qc:=by intro hq;refine zDJ (k:=g.op) (Qp:=fun _ _ _=>False) hk hdst he hs (zMr hq) (fun env' σ' H' L' a' w' h1 h2 h3 h4=>?_) (fun v σ' H' L' w' h1 h2=>h2.elim);obtain⟨h4,h5⟩:=h4;subst h4;subst h5;exact zD4 hc hall fuel _ h2 h3.st (h1.trans hd) hK fun e b v hp=>hQ e b v (hp.next h3 (Mk.refl _ _ _))
  have skip:r=.lit undef→σ1 = σ→wpAnyIn (Wr ro) 0 P .any ops Qc fuel (listed.setIfInBounds i true) (a.put o.dst undef) w:=by rintro rfl rfl;refine zD4 hc hall fuel _ ?_ hs ((qO _ _).trans hd) hK hQ;rw[hkd];exact he.put hdst (by simp[Rel])
  replace hy:=hy.1;unfold zCx at hy;rcases hgd with ⟨hog,hgn⟩ | ⟨j,want,s,hog,hsl,hgn⟩
  ·replace hgn:g.guard=none:=hgn;simp only[hgn]at hy;have hw:Region.wanted o (yielded ops a.tmps)=true:=by simp[Region.wanted,hog]
   rw[if_pos hw];exact exec hy
  ·replace hgn:g.guard=some (s,want):=hgn;simp only[hgn]at hy;have hsN:=zFp hsl hall;obtain⟨w1,w2⟩:=zDz (a:=a) hog hsl (jBw hsN he.1);have hrel:=he.2 s;split at hy
   ·rename_i b hb;rw[hb]at hrel;simp only[Rel]at hrel;rw[w1 b hrel];by_cases hbw:b=want
    ·simp only[hbw,decide_true,if_true];exact exec (hy.1 hbw)
    ·simp only[hbw,decide_false,jAg,if_false];exact⟨fun _ _=>trivial,skip (hy.2 hbw).1 (hy.2 hbw).2⟩
   ·rename_i t ht;rw[ht]at hrel;simp only[Rel]at hrel;rw[w2 t hrel];simp only[jAg,if_false];exact⟨fun _ _=>trivial,skip hy.1 hy.2⟩
   ·exact hy.elim
theorem zC4 {ops:Array Oper}:∀{l:List Oper} {gs:List KG},zCm P N ops l=some gs→gs.length=l.length∧∀(i:Nat) o g,l[i]?=some o→gs[i]?=some g→zDK P N ops o=some g
 | [],gs,h=>by simp only[zCm,jA0]at h;subst h;exact⟨rfl,fun i o g h=>by simp at h⟩
 | o::l,gs,h=>by
  simp only[zCm]at h;split at h<;>try (cases h; done)
  rename_i g gs' hg hgs;cases h;obtain⟨h1,h2⟩:=zC4 hgs;refine⟨by simp[h1],fun i o' g' ho hg'=>?_⟩;cases i with
  | zero=>simp only[jAx,jA0]at ho hg'; subst ho; subst hg'; exact hg
  | succ i=>simp only[jBc]at ho hg'; exact h2 i o' g' ho hg'
theorem zGo {ops:Array Oper}:∀{l:List Oper} {gs:List KG},zEn ops l gs=true→∀(i:Nat) o g,l[i]?=some o→gs[i]?=some g→∀t∈g.looks,t∈o.looksAt ops
 | [],[],_,i,o,g,h,_=>by simp at h
 | o::l,g::gs,h,i,o',g',ho,hg=>by
  simp only[zEn,jA4]at h;cases i with
  | zero =>
   simp only[jAx,jA0]at ho hg;subst ho; subst hg;intro t ht;have:=jB.1 h.1 t ht
   simpa using this
  | succ i=>simp only[jBc]at ho hg; exact zGo h.2 i o' g' ho hg
 | [],_::_,h,_,_,_,_,_=>by simp[zEn]at h
 | _::_,[],h,_,_,_,_,_=>by simp[zEn]at h
theorem zJU {gs0:List KG}:∀{l:List KG} {k:Nat} {x:Nat×Nat×KG},x∈zIn ops gs0 k l→k≤x.1∧l[x.1-k]?=some x.2.2
 | [],k,x,h=>by simp[zIn]at h
 | g::l,k,x,h=>by
  simp only[zIn,jA6]at h;rcases h with rfl | h
  ·simp
  ·obtain⟨h1,h2⟩:=zJU h;refine⟨by omega,?_⟩;have:x.1-k=x.1-(k+1)+1:=by omega
   rw[this]
   simpa using h2
theorem zLI:∀{l:List KG} {k:Nat} {x:Nat×Nat×KG},x∈zLH k l→k≤x.1∧l[x.1-k]?=some x.2.2
 | [],k,x,h=>by simp[zLH]at h
 | g::l,k,x,h=>by
  simp only[zLH,jA6]at h;rcases h with rfl | h
  ·simp
  ·obtain⟨h1,h2⟩:=zLI h;refine⟨by omega,?_⟩;have:x.1-k=x.1-(k+1)+1:=by omega
   rw[this]
   simpa using h2
theorem zJV {gs:List KG}{x:Nat×Nat×KG}(h:x∈zOo ops gs):gs[x.1]?=some x.2.2:=by
 unfold zOo at h;split at h
 ·simpa using (zJU h).2
 ·simpa using (zLI h).2
theorem zJx {gs:List KG}:∀{l:List (Nat×Nat)} {r:List (Nat×Nat×KG)} {x:Nat×Nat×KG},zQ5 gs l=some r→x∈r→∃g,gs[x.1]?=some g∧x.2.2.erase=g.erase
 | [],r,x,h,hx=>by simp only[zQ5,jA0]at h; subst h; simp at hx
 | (k,f)::l,r,x,h,hx=>by
  simp only[zQ5]at h;split at h<;>try (cases h; done)
  rename_i g r' hg hr;cases h;rcases jA6.1 hx with rfl | hx
  ·exact⟨g,hg,zPl⟩
  ·exact zJx hr hx
theorem zV5 {ro:Option Nat}{id:Nat}{gs:List KG}{l:List (Nat×Nat×KG)}(hm:P.follows .mixedOrders=true)(hB:zLa ops l=true)(hlo:zEn ops ops.toList gs=true)(hc:zCm P N ops ops.toList=some gs)(hl:∀x∈l,∃g,gs[x.1]?=some g∧x.2.2.erase=g.erase)
 {Q:Ex→Env→St→Prop}{dfs:List Deferred}{Qc:Exit→Act→World→Prop}(he:qB H L N env a.tmps)(hs:RelSt H L σ w)(hd:a.defers=dfs)
 (h:wpD P (zLM Q) (Q .norm) l env σ)(hQ:∀e b v,zHm H L w N Q dfs e b v→Qc e b v):(Code.region id ops true).wpIn (Wr ro) 0 P Qc a w:=by
 obtain⟨hlen,hget⟩:=zC4 hc;have hcm:Comp P N ops l:=⟨fun i f o g ho hg=>by obtain⟨g0,h1,h2⟩:=hl (i,f,g) hg;have h3:=hget i o g0 (by simpa using ho) h1;rw[show g.erase=g0 from h2.trans (zC3 h3)];exact h3⟩
 have hf:Fits ops l:=⟨fun i f o g ho hg=>(zG9 g.op).symm.trans (zA6 (zAa (hcm.get i f o g ho hg)).1),fun i f o g ho hg=>by obtain⟨g0,h1,h2⟩:=hl (i,f,g) hg;have h3:=hget i o g0 (by simpa using ho) h1;have h4:=zGo hlo i o g0 (by simpa using ho) h1;rw[←zJQ,show g.erase=g0 from h2.trans (zC3 h3)];exact h4⟩
 have hall:∀o∈ops.toList,∀x,o.dst=some x→x<N:=by
  intro o ho;obtain⟨i,hi⟩:=jCj ho;have hlt:i<gs.length:=by rw[hlen]; exact(jA1.1 hi).1
  exact(zAa (hget i o _ hi (jA2 hlt))).2.1
 simp only[zLa,jA4,beq_iff_eq]at hB;obtain⟨⟨hB,hsz⟩,_⟩:=hB;refine wpIn_region_any hm ?_;have hs':RelSt H L σ {w with drawn:=w.drawn+1}:=hs.heap_eq rfl;have hlex:=zDX hf l (Array.replicate ops.size false) env σ (fun _ hx=>hx) hB h;rw[hsz]at hlex;have hn:Nxt H L w H L σ {w with drawn:=w.drawn+1}:=⟨hs',⟨rfl,rfl,rfl,jA _,fun _ _ _=>rfl,HLe.refl _,fun _ _ _ h=>.inl h,jCb _,fun _ _ h=>h⟩,LLe.refl _,fun _ h=>.inl h⟩;refine zD4 hcm hall _ _ he hs' hd hlex fun e b v hp=>hQ e b v ?_
 exact hp.next hn (Mk.refl _ _ _)
end
end Go.Abs
