/- Regions that draw their order: one walk in the text's order serves every order. -/
import Derived.Test.YtolkhapmieigcaaGreatDoorX4
set_option linter.unusedVariables false
set_option maxHeartbeats 8000000
set_option maxRecDepth 100000
set_option linter.unusedSimpArgs false
namespace Go.Abs
def aR(U τ:St):Prop:=∀(l:Nat) cs,U[l]?=some (AObj.box cs)->τ[l]?=some (AObj.box cs)
theorem aR.refl(U:St):aR U U:=fun _ _ h=>h
variable{U τ:St}
theorem aR.trans{υ:St}(h:aR U τ)(k:aR τ υ):aR U υ:=fun l cs e=>k l cs (h l cs e)
def dF(U τ:St):Prop:=∀(l:Nat) o,U[l]?=some o->o≠AObj.rsv->τ[l]?=some o
theorem dF.refl(U:St):dF U U:=fun _ _ h _=>h
theorem dF.trans{υ:St}(h:dF U τ)(k:dF τ υ):dF U υ:=fun l o e hn=>k l o (h l o e hn) hn
theorem dF.keeps(h:dF U τ):aR U τ:=fun l cs e=>h l _ e (by simp)
def KA(c:Nat) (U τ:St):Prop:=∀(l:Nat) cs,c<=l->U[l]?=some (AObj.box cs)->τ[l]?=some (AObj.box cs)
theorem KA.refl(c:Nat) (U:St):KA c U U:=fun _ _ _ h=>h
def zGN(U τ:St):Prop:=∀(l:Nat) fz e s n cs,U[l]?=some (AObj.row fz e s n cs)->∃fz' cs',τ[l]?=some (AObj.row fz' e s n cs')
theorem zGN.refl(U:St):zGN U U:=fun _ fz _ _ _ cs h=>⟨fz,cs,h⟩
def KE(c:Nat) (U τ:St):Prop:=KA c U τ/\zGN U τ
theorem KE.refl(c:Nat) (U:St):KE c U U:=⟨KA.refl _ _,zGN.refl _⟩
theorem aR.append(U τ:St):aR U (U++τ):=fun l cs h=>by rw[jAp (jA5.1 h).1];exact h
def cC:St->St
 |[]=>[]
 | .box cs::U=>.box cs::cC U
 |_::U=>.dead::cC U
def zEy(f:Nat)(k:KOp) (U τ:St):Prop:=b8 f k=true\/(f=1/\aR U τ)\/τ = U
def zR0(U:St)(e:TypeId)(sz bytes m:Nat)(ys:wF)(r:A) (U':St):A->Prop
 | .nil=>(m<=maxLen/\m*bytes<=140737488355328)/\r=.row U.length m/\U' = U++[AObj.row false e sz m ys]
 | .row l n=>match U[l]? with
  |some (.row fz e' s n' cs)=>(n=n'/\e'=e/\s=sz)/\(n+m<=maxLen/\(n+m)*bytes<=140737488355328)/\r=.row l (n+m)/\U' = U.set l (.row fz e sz (n+m) (cs++ys))
  |_=>False
 | .fsl n cs=>cs.length=n*sz/\((m=0/\r=.fsl n cs/\U' = U)\/(m≠0/\(n+m<=maxLen/\(n+m)*bytes<=140737488355328)/\r=.row U.length (n+m)/\U' = U++[AObj.row false e sz (n+m) (cs++ys)]))
 |_=>False
def zD5(P:Program)(fv:A)(args:wF) (U:St)(Q:Out->St->Prop):Prop:=match fv with
 | .clo g first cap=>zA P g=true/\aK P g (first++args++cap) U Q
 | .lit (.func (.yield b) ⟨[]⟩ ⟨[]⟩)=>lG P b args U Q
 |_=>False
theorem zMY{m:MOp}{xs:wF}{r:A} {U':St}(h:zQe m xs U = some (r,U')){J:A->St->Prop}(hJ:J r U'):eL m xs J U:=by
 unfold zQe at h;split at h
 .cases h;exact hJ
 .split at h<;>try(cases h;done)
  rename_i h1 h2;split at h<;>try(cases h;done)
  rename_i hc;cases h;simp only[eL,h1,h2];exact⟨hc,hJ⟩
 .split at h<;>try(cases h;done)
  rename_i h1 h2;split at h<;>try(cases h;done)
  rename_i hc;cases h;simp only[eL,h1,h2];exact⟨hc,hJ⟩
 .split at h<;>try(cases h;done)
  rename_i h1 h2;split at h<;>try(cases h;done)
  rename_i hc;cases h;simp only[eL,h1,h2];exact⟨hc,hJ⟩
 .split at h<;>try(cases h;done)
  rename_i h1;split at h<;>try(cases h;done)
  rename_i hc;cases h;simp only[eL,h1];exact⟨hc,hJ⟩
 .split at h<;>try(cases h;done)
  rename_i hc;cases h;simp only[eL];exact⟨hc,hJ⟩
 .cases h;simp only[eL];exact hJ
 .split at h<;>try(cases h;done)
  rename_i h1;split at h<;>try(cases h;done)
  rename_i hc;cases h;simp only[eL,h1];exact⟨hc,hJ⟩
 .split at h<;>try(cases h;done)
  rename_i h1;split at h<;>try(cases h;done)
  rename_i hc;cases h;simp only[eL,h1];exact⟨hc,hJ⟩
 .cases h
noncomputable def eff(P:Program) (env:Env) (U:St) (r:A) (U':St):KOp->Prop
 | .call _ f args=>zD5 P (ev env f) (args.map (ev env)) U fun o τ=>o=.ret r/\τ = U'
 | .bslice _ _ _ n zero parts=>U' = U/\match fO (zero.map jP) (parts.map fun(o,s,x)=>(o,s,ev env x))with
  |some cs=>r=.fsl n cs
  |none=>False
 | .brow _ e sz n zero parts=>(match fO (zero.map jP) (parts.map fun(o,s,x)=>(o,s,ev env x))with
  |some cs=>r=.row U.length n/\U' = U++[AObj.row false e sz n cs]
  |none=>False)
 | .isz ..=>False
 | .shr ..=>False
 | .apq ..=>False
 | .pan ..=>False
 | .mop _ m xs=>zQe m (xs.map (ev env)) U = some (r,U')
 | .alr _ q zs=>U[q]?=some .rsv/\r=.ptr q 0/\U' = U.set q (AObj.box (zs.map jP))
 | .alloc _ zs=>r=.ptr U.length 0/\U' = U++[AObj.box (zs.map jP)]
 | .box _ x=>match cellsOf (ev env x)with
  |some cs=>r=.ptr U.length 0/\U' = U++[AObj.box cs]
  |none=>False
 | .st _ x v n=>match cellsOf (ev env v)with
  |some cs=>cs.length=n/\stA U cs (ev env x)=some U'/\r=.lit undef
  |none=>False
 | .app _ e sz bytes x y=>match fJ U sz (ev env y)with
  |some (m,ys)=>ys.length=m*sz/\zR0 U e sz bytes m ys r U' (ev env x)
  |none=>False
 |k=>U' = U/\jQ (zW env U k) fun r'=>r=r'
def zC3(P:Program) (U:St)(d:wD)(K:Env->Prop)(g:FuncId)(args:wF)(env:Env):Prop :=
 ∃r,(aK P g args U fun o U'=>o=.ret r/\U' = U)/\K (env.put d r)
def xP(P:Program) (U:St)(d:wD)(K:Env->Prop)(g:FuncId)(args:wF)(env:Env):Prop :=
 ∃r,(∀τ,aR U τ->aK P g args τ fun o U'=>o=.ret r/\U' = τ)/\K (env.put d r)
def zGH(P:Program) (U:St)(d:wD)(K:wK)(g:FuncId)(args:wF)(env:Env):Prop :=
 ∃r U',aR U U'/\(aK P g args U fun o τ=>o=.ret r/\τ = U')/\K (env.put d r) U'
def zC4(P:Program) (U:St)(d:wD)(K:wK)(g:FuncId)(args:wF)(env:Env):Prop :=
 ∃r own,(∀o∈own,o≠AObj.rsv)/\(∀τ:St,τ.length = U.length->dF U τ->aK P g args τ fun o τ'=>o=.ret r/\τ' = τ++own)/\K (env.put d r) (U++own)
def zEN(U:St)(u:St->St):Prop:=(∀q:Nat,(u U)[q]?=some AObj.rsv->U[q]?=some AObj.rsv)/\∀(τ:St) (q:Nat) (o:AObj),τ.length = U.length->dF U τ->U[q]?=some AObj.rsv->u (τ.set q o)=(u τ).set q o
theorem zEN.own{U own:St}(h:∀o∈own,o≠AObj.rsv):zEN U (fun τ=>τ++own):=by
 refine⟨fun q hq=>?_,fun τ q o hl _ hq=>?_⟩
 .rcases jB2 q U.length with hlt|hge
  .rw[jAp hlt]at hq;exact hq
  .rw[jB9 hge]at hq;exact(h _ (jBs hq) rfl).elim
 .have hlt:q < U.length:=by
   rcases jB2 q U.length with h|h
   .exact h
   .rw[jBf h]at hq;cases hq
  exact(List.set_append_left _ _ (by omega)).symm
def zLN(P:Program) (U:St)(d:wD)(K:wK)(g:FuncId)(args:wF)(env:Env):Prop :=
 ∃r u,zEN U u/\(∀τ:St,τ.length = U.length->dF U τ->aK P g args τ fun o τ'=>o=.ret r/\τ'=u τ)/\K (env.put d r) (u U)
def zGJ(P:Program) (U:St)(d:wD)(K:wK)(g:FuncId)(args:wF)(env:Env):Prop :=
 aK P g args U fun o τ=>∃r,o=.ret r/\aR U τ/\K (env.put d r) τ
def zC5(P:Program)(Qp:Value->St->Prop) (U:St)(d:wD)(K:wK)(g:FuncId)(args:wF)(env:Env):Prop :=
 aK P g args U fun o τ=>(∃r,o=.ret r/\K (env.put d r) τ)\/∃v,o=.pan v/\Qp v τ
def xQ(P:Program) (U:St)(d:wD)(K:wK)(g:FuncId)(args:wF)(env:Env):Prop :=
 ∃r U',(aK P g args U fun o τ=>o=.ret r/\τ = U')/\K (env.put d r) U'
def zGI(P:Program)(c:Nat) (U:St)(d:wD)(K:wK)(g:FuncId)(args:wF)(env:Env):Prop :=
 ∃r U',KA c U U'/\(aK P g args U fun o τ=>o=.ret r/\τ = U')/\K (env.put d r) U'
def zGG(P:Program)(c:Nat) (U:St)(d:wD)(K:wK)(g:FuncId)(args:wF)(env:Env):Prop :=
 ∃r U',KE c U U'/\(aK P g args U fun o τ=>o=.ret r/\τ = U')/\K (env.put d r) U'
def zXH(P:Program)(Qp:Value->St->Prop)(f:Nat) (U:St)(d:wD)(K:wK)(g:FuncId)(args:wF)(env:Env):Prop:=match f with
 | 0=>zC3 P U d (fun e=>K e U) g args env
 | 1=>xP P U d (fun e=>K e U) g args env
 | 2=>False
 | 3=>zGH P U d K g args env
 | 7=>zC4 P U d K g args env
 | 8=>zGJ P U d K g args env
 | 10=>zC5 P Qp U d K g args env
 | 11=>zLN P U d K g args env
 |f=>if 1000<=f/\f<2000 then zGI P (f-1000) U d K g args env else if 3000<=f/\f<4000 then zGG P (f-3000) U d K g args env else xQ P U d K g args env
def qOt(P:Program)(f:Nat) (U:St)(d:wD)(K:wK)(b:Nat)(args:wF)(env:Env):Prop:=f=4/\∃r U',(lG P b args U fun o τ=>o=.ret r/\τ = U')/\K (env.put d r) U'
def zVV(P:Program)(Qp:Value->St->Prop)(f:Nat) (U:St)(d:wD)(K:wK)(fv:A)(args:wF)(env:Env):Prop:=match fv with
 | .clo g first cap=>zA P g=true/\zXH P Qp f U d K g (first++args++cap) env
 | .lit (.func (.yield b) ⟨[]⟩ ⟨[]⟩)=>qOt P f U d K b args env
 |_=>False
def zGb(Q:Ex->wK):Value->St->Prop:=fun v τ=>∀e,Q (.pan v) e τ
def c8:Value->wK:=fun _ _ _=>False
def zOl(P:Program)(f:Nat)(k:KOp)(env:Env) (U:St)(r:A) (U':St):Prop :=
 f=7\/f=11->k.isCall=true->∃u,U'=u U/\zEN U u/\∀τ:St,τ.length = U.length->dF U τ->eff P env τ r (u τ) k
def KF(f:Nat)(k:KOp) (U U':St):Prop:=(rC f k=true->aR U U')/\(k.isCall=true->(1000<=f->f<2000->KA (f-1000) U U')/\(3000<=f->f<4000->KE (f-3000) U U'))
theorem KF.refl(f:Nat)(k:KOp) (U:St):KF f k U U:=⟨fun _=>aR.refl _,fun _=>⟨fun _ _=>KA.refl _ _,fun _ _=>KE.refl _ _⟩⟩
theorem KF.of{f:Nat}{k:KOp} {U':St}(hk:k.isCall=false)(h:rC f k=true->aR U U'):KF f k U U':=⟨h,fun hc=>by rw[hk]at hc;cases hc⟩
def oW(f:Nat) (U:St):St:=if f=1 then cC U else if f=2 then []else U
noncomputable def jZ(P:Program) (Qp:Value->St->Prop) (f:Nat) (K:wK) (k:KOp) (env:Env) (U:St):Prop:=match k with
 | .call d fo args=>zVV P Qp f U d K (ev env fo) (args.map (ev env)) env
 | .isz ..=>False
 | .shr ..=>False
 | .apq ..=>False
 | .pan ..=>False
 | .mop d m xs=>(match zQe m (xs.map (ev env)) U with
  |some (r,U')=>K (env.put d r) U'
  |none=>False)
 |k=>if k.keeps&&!k.lite then jQ (zW env (oW f U) k) fun r=>K (env.put k.dst r) U else wpO P c8 K k env U
noncomputable def zTP(P:Program) (Qp:Value->St->Prop) (f:Nat) (K:wK) (g:KG) (env:Env) (U:St):Prop :=
 match g.guard with
 |none=>jZ P Qp f K g.op env U
 |some (s,want)=>match env s with
  | .lit (.bool b)=>uJ (b==want) (jZ P Qp f K g.op) (zGx g.op.dst K) env U
  | .lit (.tuple _)=>zGx g.op.dst K env U
  |_=>False
def zKB:A->Prop
 | .ptr _ _=>True
 |_=>False
def zKC:A->Prop
 | .rwp _ _ _=>True
 |_=>False
def isRow:A->Prop
 | .row _ _=>True
 |_=>False
def eX(c:Nat):A->Prop
 | .ptr l _=>c<=l
 | .rptr _=>True
 | .lit _=>True
 |_=>False
def pP(c:Nat):A->Prop
 | .ptr l _=>l<c
 |_=>False
def dD(f:Nat)(k:KOp)(env:Env):Prop:=match f with
 | 5=>(match k with
  | .st _ x _ _=>zKB (ev env x)
  |_=>True)
 | 6=>(match k with
  | .st _ x _ _=>zKC (ev env x)
  | .idx _ x _ _=>isRow (ev env x)
  |_=>True)
 |f=>if 4000<=f then (match k with
  | .ld _ x _ _=>eX (f-4000) (ev env x)
  | .idx _ x _ _=>isRow (ev env x)
  |_=>True)else if 2000<=f then (match k with
  | .ld _ x _ _=>eX (f-2000) (ev env x)
  |_=>True)else if 1000<=f then (match k with
  | .st _ x _ _=>pP (f-1000) (ev env x)
  |_=>True)else True
noncomputable def wpD(P:Program) (Qp:Value->St->Prop) (K:wK):List (Nat×Nat×KG)->wK
 |[],env,U=>K env U
 |x::rest,env,U=>dD x.2.1 x.2.2.op env/\zTP P Qp x.2.1 (wpD P Qp K rest) x.2.2 env U
section
variable{P:Program}{H:Mem}{L:wO} {U U' τ:St}{w:World}{N:Nat}{env:Env}{a:Act}{ops:Array Oper}{Qp:Value->St->Prop}
variable{r:A}
theorem zRW{k:KOp}(hk:k.keeps=true)(hc:k.isCall=false)(h:eff P env U r U' k) : U' = U:=by cases k<;>simp only[KOp.keeps,KOp.isCall,jAg,reduceCtorEq]at hk hc<;>exact h.1
theorem zRX{k:KOp}(hk:k.lite=true)(h:eff P env U r U' k) : U' = U/\∀τ,eff P env τ r τ k:=by
 have hp:∀τ,zW env τ k=zW env U k->(U' = U/\jQ (zW env U k) fun r'=>r=r')->(τ = τ/\jQ (zW env τ k) fun r'=>r=r'):=fun τ e h=>⟨rfl,by rw[e];exact h.2⟩
 cases k<;>simp only[KOp.lite,jAg]at hk
 case bslice d e sz n z ps=>exact⟨h.1,fun τ=>⟨rfl,h.2⟩⟩
 case len d s x =>
  cases s
  .simp[KOp.lite]at hk
  .exact⟨h.1,fun τ=>hp τ rfl h⟩
 case slc d x sz lo hi mx =>
  refine⟨h.1,fun τ=>hp τ ?_ h⟩;cases mx with
  |none=>rfl
  |some mx=>cases hi<;>rfl
 all_goals exact⟨h.1,fun τ=>hp τ rfl h⟩
variable{cs:wF}
theorem zPT{l:Nat}{fz:Bool}{e:TypeId}{s n:Nat}{o:AObj}(h : U[l]?=some (.row fz e s n cs)):aR U (U.set l o):=fun i ds hi=>by
 by_cases hil:i=l
 .subst hil;rw[h]at hi;cases hi
 .rw[jAh (Ne.symm hil)];exact hi
theorem zPv{k:KOp}(hk:k.grows=true)(h:eff P env U r U' k):aR U U':=by
 cases k<;>simp only[KOp.grows,jAg]at hk
 case brow =>
  simp only[eff]at h;split at h
  .obtain⟨_,rfl⟩:=h;exact aR.append _ _
  .exact h.elim
 case alloc d z=>obtain⟨_,rfl⟩:=h;exact aR.append _ _
 case alr d q z =>
  obtain⟨hq,_,rfl⟩:=h;exact fun l cs hl=>by
   by_cases e:l=q
   .subst e;rw[hq]at hl;cases hl
   .rw[jAh (Ne.symm e)];exact hl
 case box d x =>
  simp only[eff]at h;split at h
  .obtain⟨_,rfl⟩:=h;exact aR.append _ _
  .exact h.elim
 case app d e sz bytes x y =>
  simp only[eff]at h;split at h
  .rename_i m ys _;obtain⟨_,h⟩:=h;generalize ev env x=a at h;cases a<;>simp only[zR0]at h
   case nil=>obtain⟨_,_,rfl⟩:=h;exact aR.append _ _
   case row l n =>
    split at h
    .rename_i hl;obtain⟨_,_,_,rfl⟩:=h;exact zPT hl
    .exact h.elim
   case fsl n cs =>
    obtain⟨_,h|h⟩:=h
    .obtain⟨_,_,rfl⟩:=h;exact aR.refl _
    .obtain⟨_,_,_,rfl⟩:=h;exact aR.append _ _
  .exact h.elim
theorem lL:∀{U:St} {l:Nat} {o:AObj},(cC U)[l]?=some o->o=.dead\/∃cs,o=.box cs/\U[l]?=some (.box cs)
 |[],l,o,h=>by simp[cC]at h
 |p::U,0,o,h=>by
  cases p<;>simp only[cC,jB8,jA3]at h<;>subst h
  case box cs=>exact .inr ⟨cs,rfl,rfl⟩
  all_goals exact .inl rfl
 |p::U,l+1,o,h=>by
  have:(cC (p::U))[l+1]?=(cC U)[l]?:=by cases p<;>simp[cC]
  rw[this]at h
  simpa using lL h
theorem zPU{n:Nat}{x:A}(h:ldA (cC U) n x=some cs)(hk:aR U τ):ldA τ n x=some cs:=by
 cases x<;>simp only[ldA]at h⊢<;>try(cases h;done)
 case rptr=>exact h
 case ptr l off =>
  split at h
  .rename_i ds hl;rcases lL hl with e|⟨_,e,hU⟩
   .cases e
   .cases e;rw[hk l _ hU];exact h
  .cases h
 case rwp l m off =>
  split at h
  .rename_i hl;rcases lL hl with e|⟨_,e,_⟩<;>cases e
  .cases h
theorem tT{k:KOp}{p:Prop}(h:zW env (cC U) k=some (p,r))(hk:aR U τ):zW env τ k=some (p,r):=by
 cases k<;>simp only[zW]at h⊢<;>try(first|exact h|(cases h;done))
 case ld d x n agg =>
  simp only[jAf,jAa]at h⊢;obtain⟨r',⟨cs,h1,h2⟩,h3⟩:=h;exact⟨r',⟨cs,zPU h1 hk,h2⟩,h3⟩
 case addr d x off =>
  split at h<;>try(first|exact h|(cases h;done))
  split at h
  .rename_i hl;rcases lL hl with e|⟨_,e,_⟩<;>cases e
  .cases h
 case idx d x i sz =>
  split at h<;>try(first|exact h|(cases h;done))
  all_goals
   split at h
   .rename_i hl;rcases lL hl with e|⟨_,e,_⟩<;>cases e
   .cases h
 case len d s x =>
  cases s
  .simp only[zW]at h⊢;split at h<;>try(first|exact h|(cases h;done))
   all_goals
    split at h
    .rename_i hl;rcases lL hl with e|⟨_,e,_⟩<;>cases e
    .cases h
  .exact h
 case rslc d x sz lo hi =>
  split at h<;>try(first|exact h|(cases h;done))
  all_goals
   split at h
   .rename_i hl;rcases lL hl with e|⟨_,e,_⟩<;>cases e
   .cases h
 case slc d x sz lo hi mx =>
  cases mx with
  |none=>exact h
  |some mx=>cases hi with
   |none=>simp[zW]at h
   |some hi=>exact h
theorem zMT{k:KOp}(h:k.lite=true):k.keeps=true:=by cases k<;>simp_all [KOp.lite,KOp.keeps]
theorem zKG{k:KOp}(h:k.lite=true):k.isCall=false:=by cases k<;>simp_all [KOp.lite,KOp.isCall]
variable{f:Nat}
theorem zTi{k:KOp}{p:Prop}(hl:k.lite=false)(hc:k.isCall=false)(h:zW env (oW f U) k=some (p,r)) {τ:St}(hs:zEy f k U τ):zW env τ k=some (p,r):=by
 unfold oW at h;rcases hs with hs|⟨rfl,hs⟩|rfl
 .simp only[b8,hl,hc,jCs,jA8,beq_iff_eq]at hs;obtain⟨⟨rfl,_⟩,_⟩:=hs;simp only[Nat.reduceEqDiff,if_false,if_true]at h;exact tT (U:=[]) h (fun l cs hl=>by simp at hl)
 .simp only[if_true]at h;exact tT h hs
 .split at h
  .exact tT h (aR.refl _)
  .split at h
   .exact tT (U:=[]) h (fun l cs hl=>by simp at hl)
   .exact h
theorem zGK{K:wK}{k:KOp}(hf8:f≠8/\f≠10)(h:jZ P Qp f K k env U) :
 ∃r U',eff P env U r U' k/\(yH f k=true->U' = U)/\KF f k U U'/\(yH f k=true->∀τ,zEy f k U τ->eff P env τ r τ k)/\zOl P f k env U r U'/\K (env.put k.dst r) U':=by
 by_cases hcall:k.isCall=true
 .cases k<;>simp only[KOp.isCall,jAg]at hcall
  case call d fo args =>
   simp only[jZ]at h;simp only[eff,zOl,KOp.isCall,forall_const];generalize ev env fo=fv at h⊢;have mk:∀r U',zD5 P fv (args.map (ev env)) U (fun o τ=>o=.ret r/\τ = U')->(U' = U\/((f=3\/f=7)/\aR U U')\/(4<=f/\f≠7/\f≠8/\(1000<=f->f<2000->KA (f-1000) U U')/\(3000<=f->f<4000->KE (f-3000) U U')))->(f=7\/f=11->∃u,U'=u U/\zEN U u/\∀τ:St,τ.length = U.length->dF U τ->zD5 P fv (args.map (ev env)) τ (fun o τ'=>o=.ret r/\τ'=u τ))->(f<=2->∀τ,zEy f (.call d fo args) U τ->zD5 P fv (args.map (ev env)) τ (fun o τ'=>o=.ret r/\τ' = τ))->K (env.put d r) U' ->
    ∃r U',zD5 P fv (args.map (ev env)) U (fun o τ=>o=.ret r/\τ = U')/\(yH f (.call d fo args)=true->U' = U)/\KF f (.call d fo args) U U' /\
     (yH f (.call d fo args)=true->∀τ,zEy f (.call d fo args) U τ->zD5 P fv (args.map (ev env)) τ (fun o τ'=>o=.ret r/\τ' = τ))/\(f=7\/f=11->∃u,U'=u U/\zEN U u/\∀τ:St,τ.length = U.length->dF U τ->zD5 P fv (args.map (ev env)) τ (fun o τ'=>o=.ret r/\τ'=u τ))/\K (env.put (KOp.call d fo args).dst r) U':=by
    intro r U' h1 h2 h7 h3 h4;have hk:yH f (.call d fo args)=true->f<=2:=fun hk=>by
     rcases jB2 2 f with hlt|hge
     .exfalso;have hb:Nat.ble 3 f=true:=by rw[Nat.ble_eq];exact hlt
      simp[yH,KOp.isCall,KOp.keeps,hb]at hk
     .exact hge
    refine⟨r,U',h1,fun hk'=>?_,⟨fun hg=>?_,fun _=>⟨fun q1 q2=>?_,fun q1 q2=>?_⟩⟩,fun hk'=>h3 (hk hk'),h7,h4⟩
    .rcases h2 with h2|⟨h2,_⟩|h2
     .exact h2
     .have:=hk hk';omega
     .have:=hk hk';omega
    .simp only[rC,KOp.grows,KOp.isCall,jCs,Bool.and_true,jBc,beq_iff_eq]at hg;rcases h2 with h2|⟨_,h2⟩|h2
     .rw[h2];exact aR.refl _
     .exact h2
     .omega
    .rcases h2 with h2|⟨h2,_⟩|h2
     .rw[h2];exact KA.refl _ _
     .omega
     .exact h2.2.2.2.1 q1 q2
    .rcases h2 with h2|⟨h2,_⟩|h2
     .rw[h2];exact KE.refl _ _
     .omega
     .exact h2.2.2.2.2 q1 q2
   unfold zVV at h;split at h
   .rename_i g first cap
    obtain⟨hcb,h⟩:=h;unfold zXH at h;split at h
    .obtain⟨r,h1,h2⟩:=h;refine mk r U ⟨hcb,h1⟩ (.inl rfl) (fun h=>(by omega)) (fun _ τ hs=>?_) h2;rcases hs with hs|⟨hs,_⟩|rfl
     .simp[b8,KOp.lite,KOp.isCall]at hs
     .cases hs
     .exact⟨hcb,h1⟩
    .obtain⟨r,h1,h2⟩:=h;refine mk r U ⟨hcb,h1 U (aR.refl _)⟩ (.inl rfl) (fun h=>(by omega)) (fun _ τ hs=>?_) h2;rcases hs with hs|⟨_,hs⟩|rfl
     .simp[b8,KOp.lite,KOp.isCall]at hs
     .exact⟨hcb,h1 τ hs⟩
     .exact⟨hcb,h1 _ (aR.refl _)⟩
    .exact h.elim
    .obtain⟨r,U',h1,h2,h3⟩:=h;exact mk r U' ⟨hcb,h2⟩ (.inr (.inl ⟨.inl rfl,h1⟩)) (fun h=>(by omega)) (fun hle=>by omega) h3
    .obtain⟨r,own,h1,h2,h3⟩:=h;exact mk r _ ⟨hcb,h2 U rfl (dF.refl _)⟩ (.inr (.inl ⟨.inr rfl,aR.append _ _⟩)) (fun _=>⟨fun τ=>τ++own,rfl,zEN.own h1,fun τ hl hk=>⟨hcb,h2 τ hl hk⟩⟩) (fun hle=>by omega) h3
    .exact(hf8.1 rfl).elim
    .exact(hf8.2 rfl).elim
    .obtain⟨r,u,h1,h2,h3⟩:=h;exact mk r _ ⟨hcb,h2 U rfl (dF.refl _)⟩ (.inr (.inr ⟨by omega,by omega,by omega,fun q1=>by omega,fun q1=>by omega⟩)) (fun _=>⟨u,rfl,h1,fun τ hl hk=>⟨hcb,h2 τ hl hk⟩⟩) (fun hle=>by omega) h3
    .rename_i n0 n1 n2 n3 n7 n8 n10 n11;have hf4:4<=f:=by
      rcases jB2 f 4 with hlt|hge
      .exfalso;have:f=0\/f=1\/f=2\/f=3:=by omega
       rcases this with e|e|e|e
       .exact n0 e
       .exact n1 e
       .exact n2 e
       .exact n3 e
      .exact hge
     split at h
     .rename_i hr;obtain⟨r,U',h1,h2,h3⟩:=h;exact mk r U' ⟨hcb,h2⟩ (.inr (.inr ⟨hf4,n7,n8,fun _ _=>h1,fun q1 q2=>by omega⟩)) (fun h=>h.elim (fun e=>(n7 e).elim) fun e=>(n11 e).elim) (fun hle=>by omega) h3
     .rename_i hr;split at h
      .rename_i hr';obtain⟨r,U',h1,h2,h3⟩:=h;exact mk r U' ⟨hcb,h2⟩ (.inr (.inr ⟨hf4,n7,n8,fun q1 q2=>(hr ⟨q1,q2⟩).elim,fun _ _=>h1⟩)) (fun h=>h.elim (fun e=>(n7 e).elim) fun e=>(n11 e).elim) (fun hle=>by omega) h3
      .rename_i hr';obtain⟨r,U',h2,h3⟩:=h;exact mk r U' ⟨hcb,h2⟩ (.inr (.inr ⟨hf4,n7,n8,fun q1 q2=>(hr ⟨q1,q2⟩).elim,fun q1 q2=>(hr' ⟨q1,q2⟩).elim⟩)) (fun h=>h.elim (fun e=>(n7 e).elim) fun e=>(n11 e).elim) (fun hle=>by omega) h3
   .obtain⟨rfl,r,U',h1,h2⟩:=h;exact mk r U' h1 (.inr (.inr ⟨jA _,by omega,by omega,fun q1=>by omega,fun q1=>by omega⟩)) (fun h=>(by omega)) (fun hle=>by omega) h2
   .exact h.elim
 .simp only[jCc]at hcall;have hkf:∀f,yH f k=k.keeps:=fun f=>by simp[yH,hcall]
  have hgf:∀f,rC f k=k.grows:=fun f=>by simp[rC,hcall]
  by_cases hbz:∃d ng x,k=.isz d ng x
  .obtain⟨d,ng,x,rfl⟩:=hbz;exact h.elim
  by_cases hbs:∃d x sz hx,k=.shr d x sz hx
  .obtain⟨d,x,sz,hx,rfl⟩:=hbs;exact h.elim
  by_cases hbq:∃d e sz bytes x y,k=.apq d e sz bytes x y
  .obtain⟨d,e,sz,bytes,x,y,rfl⟩:=hbq;exact h.elim
  by_cases hbp:∃d x,k=.pan d x
  .obtain⟨d,x,rfl⟩:=hbp;exact h.elim
  by_cases hbm:∃d m xs,k=.mop d m xs
  .obtain⟨d,m,xs,rfl⟩:=hbm;simp only[jZ]at h;split at h
   .rename_i r U' h1;exact⟨r,U',h1,fun hk=>(by rw[hkf]at hk;cases hk),KF.of rfl fun hk=>(by rw[hgf]at hk;cases hk),fun hk=>(by rw[hkf]at hk;cases hk),fun _ hc=>(by cases hc),h⟩
   .exact h.elim
  have hd:jZ P Qp f K k env U = if k.keeps&&!k.lite then jQ (zW env (oW f U) k) fun r=>K (env.put k.dst r) U else wpO P c8 K k env U:=by cases k<;>first|rfl|(simp[KOp.isCall]at hcall;done)|exact(hbm ⟨_,_,_,rfl⟩).elim|exact(hbz ⟨_,_,_,rfl⟩).elim|exact(hbs ⟨_,_,_,_,rfl⟩).elim|exact(hbq ⟨_,_,_,_,_,_,rfl⟩).elim|exact(hbp ⟨_,_,rfl⟩).elim
  rw[hd]at h;clear hd;have dfl:k.keeps=true->k.lite=false->∀τ,eff P env τ = fun r U' k'=>eff P env τ r U' k':=fun _ _ _=>rfl
  split at h
  .rename_i hc;simp only[jA8,jC3]at hc;have heff:∀τ r U',(U' = τ/\jQ (zW env τ k) fun r'=>r=r')->eff P env τ r U' k:=by intro τ r U' hh;cases k<;>first|exact hh|(simp[KOp.keeps]at hc;done)|(simp[KOp.lite]at hc;done)|(simp[KOp.isCall]at hcall;done)
   cases hp:zW env (oW f U) k with
   |none=>rw[hp]at h;exact h.elim
   |some x =>
    rw[hp]at h;have hsee:∀τ,zEy f k U τ->eff P env τ x.2 τ k:=fun τ hs=>heff τ _ _ ⟨rfl,by rw[zTi hc.2 hcall hp hs];exact⟨h.1,rfl⟩⟩
    refine⟨x.2,U,hsee U (.inr (.inr rfl)),fun _=>rfl,KF.refl _ _ _,fun _ τ hs=>hsee τ hs,fun _ hc=>(by rw[hcall]at hc;cases hc),h.2⟩
  .rename_i hc;simp only[jA8,jC3,not_and,Bool.not_eq_false]at hc;have go:∀r U',eff P env U r U' k->K (env.put k.dst r) U'->∃r U',eff P env U r U' k/\(yH f k=true->U' = U)/\KF f k U U'/\(yH f k=true->∀τ,zEy f k U τ->eff P env τ r τ k)/\zOl P f k env U r U'/\K (env.put k.dst r) U':=fun r U' h1 h2 =>
    ⟨r,U',h1,fun hk=>zRW (by rw[<-hkf f];exact hk) hcall h1,KF.of hcall fun hg=>zPv (by rw[<-hgf f];exact hg) h1,fun hk τ _=>(zRX (hc (by rw[<-hkf f];exact hk)) h1).2 τ,fun _ hc=>(by rw[hcall]at hc;cases hc),h2⟩
   have dflt:(jQ (zW env U k) fun r'=>K (env.put k.dst r') U)->∃r,(jQ (zW env U k) fun r'=>r=r')/\K (env.put k.dst r) U:=by
    intro h;cases hp:zW env U k with
    |none=>rw[hp]at h;exact h.elim
    |some x=>rw[hp]at h;exact⟨x.2,⟨h.1,rfl⟩,h.2⟩
   cases k
   case call d f args=>simp[KOp.isCall]at hcall
   case brow d e sz n z ps =>
    simp only[wpO]at h;split at h
    .rename_i cs hf;exact go _ _ (by simp[eff,hf]) h
    .exact h.elim
   case isz=>exact(hbz ⟨_,_,_,rfl⟩).elim
   case shr=>exact(hbs ⟨_,_,_,_,rfl⟩).elim
   case apq=>exact(hbq ⟨_,_,_,_,_,_,rfl⟩).elim
   case pan=>exact(hbp ⟨_,_,rfl⟩).elim
   case mop=>exact(hbm ⟨_,_,_,rfl⟩).elim
   case bslice d e sz n z ps =>
    simp only[wpO]at h;split at h
    .rename_i cs hf;exact go _ U ⟨rfl,by rw[hf]⟩ h
    .exact h.elim
   case alloc d z=>exact go _ _ ⟨rfl,rfl⟩ h
   case alr d q z =>
    simp only[wpO]at h;split at h
    .rename_i hq;exact go _ _ ⟨hq,rfl,rfl⟩ h
    .exact h.elim
   case box d x =>
    simp only[wpO]at h;split at h
    .rename_i cs hf;exact go _ _ (by simp[eff,hf]) h
    .exact h.elim
   case st d x v n =>
    simp only[wpO]at h;split at h
    .rename_i cs hf;split at h
     .rename_i hn;split at h
      .rename_i U1 hst;exact go _ U1 (by simp only[eff,hf];exact⟨hn,hst,trivial⟩) h
      .exact h.elim
     .exact h.elim
    .exact h.elim
   case app d e sz bytes x y =>
    simp only[wpO]at h;split at h
    .rename_i m ys hf;obtain⟨h0,h⟩:=h;have mk:∀r U',zR0 U e sz bytes m ys r U' (ev env x)->eff P env U r U' (.app d e sz bytes x y):=fun r U' hr=>by simp only[eff,hf];exact⟨h0,hr⟩
     generalize ev env x=ax at h mk;cases ax<;>try(exact h.elim)
     case nil=>exact go _ _ (mk _ _ ⟨h.1,rfl,rfl⟩) h.2
     case row l n =>
      simp only at h;split at h
      .rename_i hl;split at h
       .rename_i hcnd;exact go _ _ (mk _ _ (by simp only[zR0,hl];exact⟨hcnd,h.1,trivial,trivial⟩)) h.2
       .exact h.elim
      .exact h.elim
     case fsl n cs =>
      by_cases hm:m=0
      .exact go _ _ (mk _ _ ⟨h.1,.inl ⟨hm,rfl,rfl⟩⟩) (h.2.1 hm)
      .exact go _ _ (mk _ _ ⟨h.1,.inr ⟨hm,(h.2.2 hm).1,rfl,rfl⟩⟩) (h.2.2 hm).2
    .exact h.elim
   case len d s x =>
    cases s
    .have:=hc rfl;simp[KOp.lite]at this
    .obtain⟨r,h1,h2⟩:=dflt h;exact go r U ⟨rfl,h1⟩ h2
   case ld d x n agg=>have:=hc rfl;simp[KOp.lite]at this
   case addr d x off=>have:=hc rfl;simp[KOp.lite]at this
   case idx d x i sz=>have:=hc rfl;simp[KOp.lite]at this
   case rslc d x sz lo hi=>have:=hc rfl;simp[KOp.lite]at this
   all_goals
    obtain⟨r,h1,h2⟩:=dflt h;exact go r U ⟨rfl,h1⟩ h2
variable{env':Env}{xs:List Operand}
theorem zBJ{env:Env}(h:∀t,.tmp t∈xs->env t=env' t):∀x∈xs,ev env x=ev env' x:=by
 intro x hx;cases x with
 |tmp t=>exact h t hx
 |_=>rfl
theorem gI{env:Env}(h:∀x∈xs,ev env x=ev env' x):xs.map (ev env)=xs.map (ev env'):=jCa h
theorem mK{env:Env}{n:Nat}{x:Option Operand}(h:∀y∈x.toList,ev env y=ev env' y):jF env n x=jF env' n x:=by
 cases x with
 |none=>rfl
 |some x=>simp only[jF];rw[h x (by simp)]
theorem v7{env:Env}{ps:List (Nat×Nat×Operand)}(h:∀x∈ps.map (fun p=>p.2.2),ev env x=ev env' x) :
 (ps.map fun(o,s,x)=>(o,s,ev env x))=ps.map fun(o,s,x)=>(o,s,ev env' x) :=
 jCa fun p hp=>by obtain⟨o,s,x⟩:=p;simp only[h x (jA9.2 ⟨(o,s,x),hp,rfl⟩)]
theorem zHz{env:Env}{k:KOp}(h:∀x∈k.reads,ev env x=ev env' x):eff P env U r U' k=eff P env' U r U' k:=by
 cases k<;>simp only[KOp.reads,jA1,jAr,or_false,forall_eq_or_imp,forall_eq,jA6]at h<;>simp only[eff,zW]
 case build d z ps=>rw[v7 h]
 case bslice d n z ps=>rw[v7 h]
 case brow d e sz n z ps=>rw[v7 h]
 case mm d m xs=>rw[gI h]
 case clo d f first cap=>rw[gI (fun x hx=>h x (.inl hx)),gI (fun x hx=>h x (.inr hx))]
 case call d f args=>rw[h.1,gI h.2]
 case mop d m xs=>rw[gI h]
 case len d s x=>cases s<;>simp only[zW,h]
 case rslc d x sz lo hi =>
  have hl:∀n,jF env n lo=jF env' n lo:=fun n=>mK fun y hy=>h.2 y (.inl (.inl hy))
  have hh:∀n,jF env n hi=jF env' n hi:=fun n=>mK fun y hy=>h.2 y (.inl (.inr hy))
  simp only[h.1,hl,hh]
 case slc d x sz lo hi mx =>
  have hl:∀n,jF env n lo=jF env' n lo:=fun n=>mK fun y hy=>h.2 y (.inl (.inl hy))
  have hh:∀n,jF env n hi=jF env' n hi:=fun n=>mK fun y hy=>h.2 y (.inl (.inr hy))
  have hm:∀n,jF env n mx=jF env' n mx:=fun n=>mK fun y hy=>h.2 y (.inr hy)
  cases mx with
  |none=>simp only[zW,h.1,hl,hh]
  |some mx=>cases hi with
   |none=>rfl
   |some hi=>simp only[zW,h.1,hl,hh,hm]
 all_goals first|rfl|simp only[h]|simp only[h.1,h.2]|(rw[h.1,h.2.1,h.2.2])
def gP(P:Program)(g:KG)(env:Env) (U:St)(r:A) (U':St):Prop :=
 match g.guard with
 |none=>eff P env U r U' g.op
 |some (s,want)=>match env s with
  | .lit (.bool b)=>(b=want->eff P env U r U' g.op)/\(b≠want->r=.lit undef/\U' = U)
  | .lit (.tuple _)=>r=.lit undef/\U' = U
  |_=>False
variable{g:KG}
theorem zAP{env:Env}(h:∀t∈g.looks,env t=env' t):gP P g env U r U'=gP P g env' U r U':=by
 have hq:eff P env U r U' g.op=eff P env' U r U' g.op:=zHz (zBJ fun t ht=>h t (jBr _ (jDg.2 ⟨.tmp t,ht,rfl⟩)));unfold gP;cases hg:g.guard with
 |none=>exact hq
 |some sw =>
  obtain⟨s,want⟩:=sw;simp only;rw[h s (List.mem_append_right _ (by simp[hg])),hq]
theorem zRV{τ τ':St}(h:gP P g env U r U')(h1:eff P env U r U' g.op->eff P env τ r τ' g.op)(h2 : U' = U->τ' = τ):gP P g env τ r τ':=by
 unfold gP at h⊢;cases hg:g.guard with
 |none =>
  simp only[hg]at h⊢;exact h1 h
 |some sw =>
  obtain⟨s,want⟩:=sw;simp only[hg]at h⊢;generalize env s=gv at h⊢;split at h
  .exact⟨fun e=>h1 (h.1 e),fun e=>⟨(h.2 e).1,h2 (h.2 e).2⟩⟩
  .exact⟨h.1,h2 h.2⟩
  .exact h.elim
def lF(P:Program)(f:Nat)(g:KG)(env:Env) (U:St)(r:A) (U':St):Prop :=
 gP P g env U r U'/\(yH f g.op=true->U' = U)/\KF f g.op U U'/\(b8 f g.op=true->∀τ,gP P g env τ r τ)/\dD f g.op env
def mV(P:Program)(f:Nat)(g:KG)(env:Env) (U:St)(r:A) (U':St):Prop :=
 lF P f g env U r U'/\(yH f g.op=true->∀τ,zEy f g.op U τ->gP P g env τ r τ)/\(g.guard=none->zOl P f g.op env U r U')
theorem vV{k:KOp}(h:b8 f k=true):yH f k=true:=by
 simp only[b8,jBc,jA8,jC3]at h;rcases h with h|⟨⟨_,h1⟩,h2⟩
 .simp[yH,zMT h,zKG h]
 .simp[yH,h1,h2]
theorem zQH{K:wK}(hf8:f≠8/\f≠10)(ht:dD f g.op env)(h:zTP P Qp f K g env U):∃r U',mV P f g env U r U'/\K (env.put g.op.dst r) U':=by
 unfold zTP at h;unfold mV lF gP;cases hg:g.guard with
 |none =>
  simp only[hg]at h;obtain⟨r,U',h1,h2,h3,h4,h6,h5⟩:=zGK hf8 h;exact⟨r,U',⟨⟨h1,h2,h3,fun hl τ=>h4 (vV hl) τ (.inl hl),ht⟩,h4,fun _=>h6⟩,h5⟩
 |some sw =>
  obtain⟨s,want⟩:=sw;simp only[hg]at h;simp only;generalize env s=gv at h⊢;split at h
  .rename_i b;by_cases hw:b=want
   .subst hw;obtain⟨r,U',h1,h2,h3,h4,h6,h5⟩:=zGK hf8 (h.1 (by simp));exact⟨r,U',⟨⟨⟨fun _=>h1,fun e=>(e rfl).elim⟩,h2,h3,fun hl τ=>⟨fun _=>h4 (vV hl) τ (.inl hl),fun e=>(e rfl).elim⟩,ht⟩,fun hk τ ht=>⟨fun _=>h4 hk τ ht,fun e=>(e rfl).elim⟩,fun e=>(by cases e)⟩,h5⟩
   .have:=h.2 (by simp[hw]);exact⟨_,U,⟨⟨⟨fun e=>(hw e).elim,fun _=>⟨rfl,rfl⟩⟩,fun _=>rfl,KF.refl _ _ _,fun _ τ=>⟨fun e=>(hw e).elim,fun _=>⟨rfl,trivial⟩⟩,ht⟩,fun _ τ _=>⟨fun e=>(hw e).elim,fun _=>⟨rfl,trivial⟩⟩,fun e=>(by cases e)⟩,this⟩
  .exact⟨_,U,⟨⟨⟨rfl,rfl⟩,fun _=>rfl,KF.refl _ _ _,fun _ τ=>⟨rfl,trivial⟩,ht⟩,fun _ τ _=>⟨rfl,trivial⟩,fun e=>(by cases e)⟩,h⟩
  .exact h.elim
theorem zG2{k:KOp} {U τ υ:St}(h:zEy f k U τ)(h':zEy f k τ υ):zEy f k U υ:=by
 rcases h with h|⟨hf,h⟩|rfl
 .exact .inl h
 .rcases h' with h'|⟨_,h'⟩|rfl
  .exact .inl h'
  .exact .inr (.inl ⟨hf,h.trans h'⟩)
  .exact .inr (.inl ⟨hf,h⟩)
 .exact h'
theorem zAO{env:Env}(h:∀t∈g.looks,env t=env' t):lF P f g env U r U'=lF P f g env' U r U':=by
 have:∀U U',gP P g env U r U'=gP P g env' U r U':=fun U U'=>zAP h
 have ht:dD f g.op env=dD f g.op env':=by
  have hr:=zBJ (xs:=g.op.reads) fun t ht=>h t (jBr _ (jDg.2 ⟨.tmp t,ht,rfl⟩))
  unfold dD;split
  .split
   .rename_i x _ _ hx;rw[hr x (by simp[hx,KOp.reads])]
   .rfl
  .split
   .rename_i x _ _ hx;rw[hr x (by simp[hx,KOp.reads])]
   .rename_i x _ _ hx;rw[hr x (by simp[hx,KOp.reads])]
   .rfl
  .split
   .split
    .rename_i x _ _ hx;rw[hr x (by simp[hx,KOp.reads])]
    .rename_i x _ _ hx;rw[hr x (by simp[hx,KOp.reads])]
    .rfl
   .split
    .split
     .rename_i x _ _ hx;rw[hr x (by simp[hx,KOp.reads])]
     .rfl
    .split
     .split
      .rename_i x _ _ hx;rw[hr x (by simp[hx,KOp.reads])]
      .rfl
     .rfl
 unfold lF;simp only[this,ht]
variable{fi fj:Nat}{gi gj:KG}{ri rj:A}{Ui Uj:St}
theorem zMF(hc:tO fi fj gi.op gj.op=true)(hi:mV P fi gi env U ri Ui)(hj:lF P fj gj env Ui rj Uj) :
 ∃U1,lF P fj gj env U rj U1/\mV P fi gi env U1 ri Uj:=by
 simp only[tO,jBc,jA8,beq_iff_eq]at hc;rcases hc with hl|⟨hk,hc⟩
 .have:=hj.2.1 (vV hl);subst this;exact⟨U,⟨hj.2.2.2.1 hl U,fun _=>rfl,KF.refl _ _ _,hj.2.2.2⟩,hi⟩
 .have e:=hi.1.2.1 hk;subst e;have hst:zEy fi gi.op Ui Uj:=by
   rcases hc with (hl|hj')|⟨hf,hg⟩
   .exact .inl hl
   .exact .inr (.inr (hj.2.1 hj'))
   .exact .inr (.inl ⟨hf,hj.2.2.1.1 hg⟩)
  have hij:=hi.2.1 hk Uj hst;exact⟨Uj,hj,⟨hij,fun _=>rfl,KF.refl _ _ _,hi.1.2.2.2⟩,fun _ τ ht=>hi.2.1 hk τ (zG2 hst ht),fun _ hf hcall=>(by
   have hk7:yH fi gi.op=false:=by rcases hf with rfl|rfl<;>simp[yH,hcall]
   rw[hk7]at hk;cases hk)⟩
theorem qAg{x:A}(hx:zKB x) {τ:St}(h:stA U cs x=some τ):∃l ds ds',U[l]?=some (.box ds)/\τ = U.set l (.box ds')/\∀υ:St,υ[l]?=some (.box ds)->stA υ cs x=some (υ.set l (.box ds')):=by
 cases x<;>simp only[zKB]at hx;rename_i l o;simp only[stA]at h;split at h<;>try(cases h;done)
 rename_i ds hl;split at h<;>try(cases h;done)
 rename_i hfit;cases h;exact⟨l,ds,_,hl,rfl,fun υ hu=>by simp only[stA,hu,hfit,if_true]⟩
theorem qAh{x:A}(hx:zKC x) {τ:St}(h:stA U cs x=some τ):∃l o o',(∀ds,o≠AObj.box ds)/\U[l]?=some o/\(∀ds,o'≠AObj.box ds)/\τ = U.set l o'/\∀υ:St,υ[l]?=some o->stA υ cs x=some (υ.set l o'):=by
 cases x<;>simp only[zKC]at hx;rename_i l m off;simp only[stA]at h;split at h<;>try(cases h;done)
 rename_i e sz k ds hl;split at h<;>try(cases h;done)
 rename_i hfit;cases h;exact⟨l,_,_,fun _=>by simp,hl,fun _=>by simp,rfl,fun υ hu=>by simp only[stA,hu,hfit,and_self,if_true]⟩
variable{x v:Operand}{d:wD}
theorem zN0{n:Nat}(h:eff P env U r U' (.st d x v n)):∃cs,cellsOf (ev env v)=some cs/\cs.length=n/\stA U cs (ev env x)=some U'/\r=.lit undef:=by
 simp only[eff]at h;split at h
 .rename_i cs hc;exact⟨cs,hc,h⟩
 .exact h.elim
theorem zRY{n:Nat}(h1:cellsOf (ev env v)=some cs)(h2:cs.length=n)(h3:stA U cs (ev env x)=some U'):eff P env U (.lit undef) U' (.st d x v n):=by simp only[eff,h1];exact⟨h2,h3,trivial⟩
variable{i:Operand}{J:A->Prop}
theorem zUV{sz l n:Nat}(hx:ev env x=.row l n)(h:∀o,U[l]?=some o->(∀cs,o≠AObj.box cs)->τ[l]?=some o)(hp:jQ (zW env U (.idx d x i sz)) J):jQ (zW env τ (.idx d x i sz)) J:=by
 cases hi:ev env i with
 |lit u =>
  cases u with
  |int k j =>
   simp only[zW,hx,hi]at hp ⊢;split at hp
   .rename_i ho;rw[h _ ho (fun _=>by simp)];exact hp
   .exact hp.elim
  |_=>simp[zW,hx,hi,jQ]at hp
 |_=>simp[zW,hx,hi,jQ]at hp
theorem zSy(hc:zL0 fi fj gi gj=true)(hi:mV P fi gi env U ri Ui)(hj:lF P fj gj env Ui rj Uj) :
 ∃U1,lF P fj gj env U rj U1/\mV P fi gi env U1 ri Uj:=by
 obtain⟨gdi,ki⟩:=gi;obtain⟨gdj,kj⟩:=gj;simp only[zL0,jA8,beq_iff_eq,jCh]at hc;obtain⟨⟨⟨⟨rfl,rfl⟩,rfl⟩,rfl⟩,hc⟩:=hc;cases kj<;>try(cases ki<;>simp at hc;done)
 case st dj xj vj nj =>
  obtain⟨hj1,_,_,_,hjt⟩:=hj;simp only[gP]at hj1;obtain⟨cj,c1,c2,c3,rfl⟩:=zN0 hj1;obtain⟨l',ds,ds',s1,rfl,s3⟩:=qAg hjt c3;have mkj:∀υ:St,υ[l']?=some (.box ds)->lF P 5 ⟨none,.st dj xj vj nj⟩ env υ (.lit undef) (υ.set l' (.box ds')):=fun υ hu =>
   ⟨(zRY (P:=P) (d:=dj) c1 c2 (s3 υ hu):eff P env υ (.lit undef) _ (.st dj xj vj nj)),fun h=>by simp[yH,KOp.keeps]at h,KF.of rfl fun h=>by simp[rC,KOp.grows,KOp.isCall]at h,fun h=>by simp[b8,KOp.lite,KOp.keeps]at h,hjt⟩
  cases ki<;>try(simp at hc;done)
  case idx di xi ii szi =>
   obtain⟨⟨hi1,hi2,_,_,hit⟩,hi3,_⟩:=hi;have e:=hi2 (by simp[yH,KOp.keeps,KOp.isCall]);subst e;simp only[dD]at hit;have hne:∀l n,ev env xi=.row l n->∀o,Ui[l]?=some o->(∀cs,o≠AObj.box cs)->l≠l':=fun l n _ o ho hb e=>by subst e;rw[s1]at ho;cases ho;exact hb _ rfl
   have mki:eff P env (Ui.set l' (.box ds')) ri (Ui.set l' (.box ds')) (.idx di xi ii szi):=by simp only[gP]at hi1;refine⟨rfl,?_⟩;have hi1:=hi1.2;generalize hax:ev env xi=ax at hit hne;cases ax<;>simp only[isRow]at hit;rename_i l n;refine zUV hax (fun o ho hb=>?_) hi1;have hn:=hne l n rfl o ho hb;rw[jAh (Ne.symm hn)];exact ho
   refine⟨_,mkj Ui s1,⟨⟨mki,fun _=>rfl,KF.refl _ _ _,fun h=>by simp[b8,KOp.lite]at h,hit⟩,fun _ τ hs=>?_,fun _ _ h=>by simp[KOp.isCall]at h⟩⟩;rcases hs with hs|⟨hs,_⟩|rfl
   .simp[b8,KOp.lite]at hs
   .cases hs
   .exact mki
  case st di xi vi ni =>
   obtain⟨⟨hi1,_,_,_,hit⟩,_⟩:=hi;simp only[gP]at hi1;obtain⟨ci,d1,d2,d3,rfl⟩:=zN0 hi1;obtain⟨l,o,o',t0,t1,t2,rfl,t3⟩:=qAh hit d3;have hlt:l < U.length:=(jA5.1 t1).1;have hne:l≠l':=fun e=>by subst e;rw[jAo hlt]at s1;cases s1;exact t2 _ rfl
   have s1' : U[l']?=some (.box ds):=by rw[jAh hne]at s1;exact s1
   refine⟨_,mkj U s1',⟨⟨?_,fun h=>by simp[yH,KOp.keeps]at h,KF.of rfl fun h=>by simp[rC,KOp.grows,KOp.isCall]at h,fun h=>by simp[b8,KOp.lite,KOp.keeps]at h,hit⟩,fun h=>by simp[yH,KOp.keeps]at h,fun _ _ h=>by simp[KOp.isCall]at h⟩⟩;have:=t3 (U.set l' (.box ds')) (by rw[jAh (Ne.symm hne)];exact t1);rw[List.set_comm _ _ (Ne.symm hne)]at this;exact(zRY (P:=P) (d:=di) d1 d2 this:eff P env _ (.lit undef) _ (.st di xi vi ni))
theorem zJ4(h1:1000<=f)(h2:f<2000){n:Nat}:dD f (.st d x v n) env↔pP (f-1000) (ev env x):=by
 unfold dD;split
 .omega
 .omega
 .rw[if_neg (by omega),if_neg (by omega),if_pos h1]
theorem zL9(h1:4000<=f){n:Nat}{g:Bool}:dD f (.ld d x n g) env↔eX (f-4000) (ev env x):=by
 unfold dD;split
 .omega
 .omega
 .rw[if_pos h1]
theorem zIq(h1:4000<=f){n:Nat}:dD f (.idx d x i n) env↔isRow (ev env x):=by
 unfold dD;split
 .omega
 .omega
 .rw[if_pos h1]
theorem zAo(h1:2000<=f)(h2:f<4000){n:Nat}{g:Bool}:dD f (.ld d x n g) env↔eX (f-2000) (ev env x):=by
 unfold dD;split
 .omega
 .omega
 .rw[if_neg (by omega),if_pos h1]
theorem qAf{l o:Nat} {τ:St}(h:stA U cs (.ptr l o)=some τ):∃ds ds',U[l]?=some (AObj.box ds)/\τ = U.set l (.box ds')/\∀υ:St,υ[l]?=some (.box ds)->stA υ cs (.ptr l o)=some (υ.set l (.box ds')):=by
 simp only[stA]at h;split at h<;>try(cases h;done)
 rename_i ds hl;split at h<;>try(cases h;done)
 rename_i hfit;cases h;exact⟨ds,_,hl,rfl,fun υ hu=>by simp only[stA,hu,hfit,if_true]⟩
theorem zDt{n:Nat}{g:Bool}(h:ldA τ n (ev env x)=ldA U n (ev env x)):zW env τ (.ld d x n g)=zW env U (.ld d x n g):=by simp only[zW,h]
theorem zMG(hc:zOH fi fj gi gj=true)(hi:mV P fi gi env U ri Ui)(hj:lF P fj gj env Ui rj Uj) :
 ∃U1,lF P fj gj env U rj U1/\mV P fi gi env U1 ri Uj:=by
 obtain⟨gdi,ki⟩:=gi;obtain⟨gdj,kj⟩:=gj;simp only[zOH,jA8,beq_iff_eq,jCh,Nat.ble_eq,Nat.blt_eq]at hc;obtain⟨⟨⟨⟨hfi,hf1⟩,hf2⟩,rfl⟩,hc⟩:=hc;cases ki<;>try(simp at hc;done)
 case ld di xi ni agi =>
 cases kj<;>try(simp at hc;done)
 case st dj xj vj nj =>
  have hj0:=hj;obtain⟨hj1,q1,q2,q3,hjt⟩:=hj;obtain⟨⟨hi1,hi2,hi2',hi4,hit⟩,hi3,_⟩:=hi;have e:=hi2 (by simp[yH,KOp.keeps,KOp.isCall]);subst e;have hjt':=(zJ4 hf1 hf2).1 hjt;have hit':=(zAo (by omega) (by omega)).1 hit;simp only[gP]at hj1;obtain⟨cj,c1,c2,c3,rfl⟩:=zN0 hj1;have key:∀n,ldA Uj n (ev env xi)=ldA Ui n (ev env xi):=by
   generalize ev env xj=aj at hjt' c3;generalize ev env xi=ai at hit';intro n;cases aj<;>simp only[pP]at hjt';rename_i lj oj;obtain⟨ds,ds',s1,rfl,_⟩:=qAf c3;cases ai<;>simp only[eX]at hit'
   .rfl
   .rename_i li oi;have hne:lj≠li:=by omega
    simp only[ldA,jAh hne]
   .rfl
  have mk:gP P ⟨gdi,.ld di xi ni agi⟩ env Uj ri Uj:=zRV hi1 (fun e=>⟨rfl,by rw[zDt (key ni)];exact e.2⟩) fun _=>rfl
  have hlF:b8 fi (.ld di xi ni agi)=false:=by simp only[b8,KOp.lite,jCs,jCx,beq_eq_false_iff_ne];exact .inl (.inl (by omega))
  refine⟨Uj,hj0,⟨⟨mk,fun _=>rfl,KF.refl _ _ _,fun h=>(by rw[hlF]at h;cases h),hit⟩,fun _ τ hs=>?_,fun _ _ h=>by simp[KOp.isCall]at h⟩⟩;rcases hs with hs|⟨hs,_⟩|rfl
  .rw[hlF]at hs;cases hs
  .omega
  .exact mk
 case call dj fo args =>
  simp only[jCh]at hc;subst hc;have hj0:=hj;obtain⟨hj1,q1,q2,q3,hjt⟩:=hj;obtain⟨⟨hi1,hi2,hi2',hi4,hit⟩,hi3,_⟩:=hi;have e:=hi2 (by simp[yH,KOp.keeps,KOp.isCall]);subst e;have hit':=(zAo (by omega) (by omega)).1 hit;obtain⟨c,hcj⟩:∃c,fj=c+1000:=⟨fj-1000,by omega⟩;have hka:KA c Ui Uj:=by
   have:=(q2.2 rfl).1 hf1 hf2
   rwa[hcj,Nat.add_sub_cancel]at this
  have hic:fi-2000=c:=by omega
  rw[hic]at hit';simp only[gP]at hi1;have h2:=hi1.2;have key:ldA Uj ni (ev env xi)=ldA Ui ni (ev env xi):=by
   simp only[zW]at h2;generalize ev env xi=ai at hit' h2 ⊢;cases ai<;>simp only[eX]at hit'
   .rfl
   .rename_i li oi;simp only[ldA]at h2 ⊢;cases hb : Ui[li]? with
    |none=>rw[hb]at h2;simp[jQ]at h2
    |some o =>
     rw[hb]at h2;cases o<;>first|(simp[jQ]at h2;done)|skip
     rename_i cs;rw[hka li cs hit' hb]
   .rfl
  have mk:eff P env Uj ri Uj (.ld di xi ni agi):=by refine⟨rfl,?_⟩;rw[zDt key];exact h2
  have hlF:b8 fi (.ld di xi ni agi)=false:=by simp only[b8,KOp.lite,jCs,jCx,beq_eq_false_iff_ne];exact .inl (.inl (by omega))
  refine⟨Uj,hj0,⟨⟨mk,fun _=>rfl,KF.refl _ _ _,fun h=>(by rw[hlF]at h;cases h),hit⟩,fun _ τ hs=>?_,fun _ _ h=>by simp[KOp.isCall]at h⟩⟩;rcases hs with hs|⟨hs,_⟩|rfl
  .rw[hlF]at hs;cases hs
  .omega
  .exact mk
theorem zZo{sz l n:Nat}(hx:ev env x=.row l n)(h:zGN U τ)(hp:jQ (zW env U (.idx d x i sz)) J):jQ (zW env τ (.idx d x i sz)) J:=by
 cases hi:ev env i with
 |lit u =>
  cases u with
  |int k j =>
   simp only[zW,hx,hi]at hp ⊢;split at hp
   .rename_i ho;obtain⟨fz',cs',h'⟩:=h _ _ _ _ _ _ ho;rw[h'];exact hp
   .exact hp.elim
  |_=>simp[zW,hx,hi,jQ]at hp
 |_=>simp[zW,hx,hi,jQ]at hp
theorem zUa{off:Nat}(h:zGN U τ)(hp:jQ (zW env U (.addr d x off)) J):jQ (zW env τ (.addr d x off)) J:=by
 simp only[zW]at hp ⊢;cases hx:ev env x with
 |rwp l n o =>
  simp only[hx]at hp ⊢;cases ho : U[l]? with
  |none=>rw[ho]at hp;exact hp.elim
  |some b =>
   rw[ho]at hp;cases b<;>first|(exact hp.elim)|skip
   obtain⟨fz',cs',h'⟩:=h _ _ _ _ _ _ ho;rw[h'];exact hp
 |_=>simp only[hx]at hp ⊢;exact hp
theorem zPK(hc:zVL fi fj gi gj=true)(hi:mV P fi gi env U ri Ui)(hj:lF P fj gj env Ui rj Uj) :
 ∃U1,lF P fj gj env U rj U1/\mV P fi gi env U1 ri Uj:=by
 obtain⟨gdi,ki⟩:=gi;obtain⟨gdj,kj⟩:=gj;simp only[zVL,jA8,beq_iff_eq,jCh,Nat.ble_eq,Nat.blt_eq]at hc;obtain⟨⟨⟨⟨⟨hfi,hf1⟩,hf2⟩,rfl⟩,rfl⟩,hc⟩:=hc;have hj0:=hj;obtain⟨hj1,q1,q2,q3,hjt⟩:=hj;obtain⟨⟨hi1,hi2,hi2',hi4,hit⟩,hi3,hi5⟩:=hi;cases ki<;>try(simp at hc;done)
 case ld di xi ni agi =>
  cases kj<;>try(simp at hc;done)
  case call dj fo args =>
   have e:=hi2 (by simp[yH,KOp.keeps,KOp.isCall]);subst e;have hit':=(zL9 (by omega)).1 hit;obtain⟨c,hcj⟩:∃c,fj=c+3000:=⟨fj-3000,by omega⟩;have hka:KE c Ui Uj:=by
    have:=(q2.2 rfl).2 hf1 hf2
    rwa[hcj,Nat.add_sub_cancel]at this
   have hic:fi-4000=c:=by omega
   rw[hic]at hit';simp only[gP]at hi1;have h2:=hi1.2;have key:ldA Uj ni (ev env xi)=ldA Ui ni (ev env xi):=by
    simp only[zW]at h2;generalize ev env xi=ai at hit' h2 ⊢;cases ai<;>simp only[eX]at hit'
    .rfl
    .rename_i li oi;simp only[ldA]at h2 ⊢;cases hb : Ui[li]? with
     |none=>rw[hb]at h2;simp[jQ]at h2
     |some o =>
      rw[hb]at h2;cases o<;>first|(simp[jQ]at h2;done)|skip
      rename_i cs;rw[hka.1 li cs hit' hb]
    .rfl
   have mk:eff P env Uj ri Uj (.ld di xi ni agi):=by refine⟨rfl,?_⟩;rw[zDt key];exact h2
   have hlF:b8 fi (.ld di xi ni agi)=false:=by simp only[b8,KOp.lite,jCs,jCx,beq_eq_false_iff_ne];exact .inl (.inl (by omega))
   refine⟨Uj,hj0,⟨⟨mk,fun _=>rfl,KF.refl _ _ _,fun h=>(by rw[hlF]at h;cases h),hit⟩,fun _ τ hs=>?_,fun _ _ h=>by simp[KOp.isCall]at h⟩⟩;rcases hs with hs|⟨hs,_⟩|rfl
   .rw[hlF]at hs;cases hs
   .omega
   .exact mk
 case idx di xi ii szi =>
  cases kj<;>try(simp at hc;done)
  case call dj fo args =>
   have e:=hi2 (by simp[yH,KOp.keeps,KOp.isCall]);subst e;have hit':=(zIq (by omega)).1 hit;have hka:zGN Ui Uj:=((q2.2 rfl).2 hf1 hf2).2;simp only[gP]at hi1;have h2:=hi1.2;have mk:eff P env Uj ri Uj (.idx di xi ii szi):=by refine⟨rfl,?_⟩;generalize hax:ev env xi=ax at hit';cases ax<;>simp only[isRow]at hit';exact zZo hax hka h2
   have hlF:b8 fi (.idx di xi ii szi)=false:=by simp only[b8,KOp.lite,jCs,jCx,beq_eq_false_iff_ne];exact .inl (.inl (by omega))
   refine⟨Uj,hj0,⟨⟨mk,fun _=>rfl,KF.refl _ _ _,fun h=>(by rw[hlF]at h;cases h),hit⟩,fun _ τ hs=>?_,fun _ _ h=>by simp[KOp.isCall]at h⟩⟩;rcases hs with hs|⟨hs,_⟩|rfl
   .rw[hlF]at hs;cases hs
   .omega
   .exact mk
 case addr di xi oi =>
  cases kj<;>try(simp at hc;done)
  case call dj fo args =>
   have e:=hi2 (by simp[yH,KOp.keeps,KOp.isCall]);subst e;have hka:zGN Ui Uj:=((q2.2 rfl).2 hf1 hf2).2;simp only[gP]at hi1;have h2:=hi1.2;have mk:eff P env Uj ri Uj (.addr di xi oi):=by exact⟨rfl,zUa hka h2⟩
   have hlF:b8 fi (.addr di xi oi)=false:=by simp only[b8,KOp.lite,jCs,jCx,beq_eq_false_iff_ne];exact .inl (.inl (by omega))
   refine⟨Uj,hj0,⟨⟨mk,fun _=>rfl,KF.refl _ _ _,fun h=>(by rw[hlF]at h;cases h),hit⟩,fun _ τ hs=>?_,fun _ _ h=>by simp[KOp.isCall]at h⟩⟩;rcases hs with hs|⟨hs,_⟩|rfl
   .rw[hlF]at hs;cases hs
   .omega
   .exact mk
theorem zPH(hc:zLy fi fj gi gj=true)(hi:mV P fi gi env U ri Ui)(hj:lF P fj gj env Ui rj Uj) :
 ∃U1,lF P fj gj env U rj U1/\mV P fi gi env U1 ri Uj:=by
 simp only[zLy,jBc]at hc;rcases hc with hc|hc
 .exact zMG hc hi hj
 .exact zPK hc hi hj
theorem zPL(hc:zL1 gi gj=true)(hi:mV P fi gi env U ri Ui)(hj:lF P fj gj env Ui rj Uj) :
 ∃U1,lF P fj gj env U rj U1/\mV P fi gi env U1 ri Uj:=by
 obtain⟨gdi,ki⟩:=gi;obtain⟨gdj,kj⟩:=gj;simp only[zL1,jA8,jCh]at hc;obtain⟨⟨rfl,rfl⟩,hc⟩:=hc;cases ki<;>try(simp at hc;done)
 case alr di qi zi =>
 cases kj<;>try(simp at hc;done)
 case alr dj qj zj =>
  have hne:qi≠qj:=by simpa using hc
  obtain⟨hj1,p1,p2,p3,hjt⟩:=hj;obtain⟨⟨hi1,o1,o2,o3,hit⟩,hi3,_⟩:=hi;simp only[gP,eff]at hi1 hj1;obtain⟨a1,rfl,rfl⟩:=hi1;obtain⟨b1,rfl,rfl⟩:=hj1;have b1' : U[qj]?=some .rsv:=by rw[jAh hne]at b1;exact b1
  have kp:∀(υ:St) q (o:AObj),υ[q]?=some .rsv->aR υ (υ.set q o):=fun υ q o hq l cs hl=>by
   by_cases e:l=q
   .subst e;rw[hq]at hl;cases hl
   .rw[jAh (Ne.symm e)];exact hl
  refine⟨U.set qj (AObj.box (zj.map jP)),⟨?_,fun h=>by simp[yH,KOp.keeps]at h,KF.of rfl fun _=>kp _ _ _ b1',fun h=>by simp[b8,KOp.lite,KOp.keeps]at h,hjt⟩,⟨?_,fun h=>by simp[yH,KOp.keeps]at h,KF.of rfl fun _=>?_,fun h=>by simp[b8,KOp.lite,KOp.keeps]at h,hit⟩,fun h=>by simp[yH,KOp.keeps]at h,fun _ _ h=>by simp[KOp.isCall]at h⟩
  .simp only[gP,eff];exact⟨b1',trivial,trivial⟩
  .simp only[gP,eff];exact⟨by rw[jAh (Ne.symm hne)];exact a1,trivial,List.set_comm _ _ hne⟩
  .rw[List.set_comm _ _ hne];exact kp _ _ _ (by rw[jAh (Ne.symm hne)];exact a1)
theorem zMH(hc:zOI fi gi gj=true)(hi:mV P fi gi env U ri Ui)(hj:lF P fj gj env Ui rj Uj) :
 ∃U1,lF P fj gj env U rj U1/\mV P fi gi env U1 ri Uj:=by
 obtain⟨gdi,ki⟩:=gi;obtain⟨gdj,kj⟩:=gj;simp only[zOI,jA8,jBc,beq_iff_eq,jCh]at hc;obtain⟨⟨⟨hf,rfl⟩,rfl⟩,hc⟩:=hc;cases ki<;>try(simp at hc;done)
 case call di fo args =>
 cases kj<;>try(simp at hc;done)
 case alr dj qj zj =>
  obtain⟨hj1,p1,p2,p3,hjt⟩:=hj;obtain⟨⟨hi1,o1,o2,o3,hit⟩,_,hi3⟩:=hi;obtain⟨u,rfl,hu,hall⟩:=hi3 rfl hf rfl;simp only[gP,eff]at hj1;obtain⟨b1,rfl,rfl⟩:=hj1;have b1' : U[qj]?=some .rsv:=hu.1 _ b1;have kp:dF U (U.set qj (AObj.box (zj.map jP))):=fun l o hl hn=>by
   by_cases e:l=qj
   .subst e;rw[b1']at hl;cases hl;exact(hn rfl).elim
   .rw[jAh (Ne.symm e)];exact hl
  have hset:=hu.2 U qj (AObj.box (zj.map jP)) rfl (dF.refl _) b1';rw[<-hset];have hnew:=hall (U.set qj (AObj.box (zj.map jP))) (by simp) kp;have gB:∀q:Nat,(U.set qj (AObj.box (zj.map jP)))[q]?=some AObj.rsv->U[q]?=some AObj.rsv:=fun q hq=>by
   by_cases e:q=qj
   .subst e;exact b1'
   .rw[jAh (Ne.symm e)]at hq;exact hq
  have hkF:yH fi (.call di fo args)=false:=by rcases hf with rfl|rfl<;>simp[yH,KOp.isCall]
  have hlF:b8 fi (.call di fo args)=false:=by simp[b8,KOp.lite,KOp.isCall]
  refine⟨U.set qj (AObj.box (zj.map jP)),⟨?_,fun h=>by simp[yH,KOp.keeps]at h,KF.of rfl fun _=>kp.keeps,fun h=>by simp[b8,KOp.lite,KOp.keeps]at h,hjt⟩,
   ⟨⟨?_,fun h=>(by rw[hkF]at h;cases h),⟨fun hg=>?_,fun _=>⟨fun q1 q2=>by omega,fun q1 q2=>by omega⟩⟩,fun h=>(by rw[hlF]at h;cases h),hit⟩,fun h=>(by rw[hkF]at h;cases h),fun _ _ _=>⟨u,rfl,⟨fun q hq=>?_,fun τ q o hl hk hq=>?_⟩,fun τ hl hk=>hall τ (by simpa using hl) (kp.trans hk)⟩⟩⟩
  .simp only[gP,eff];exact⟨b1',trivial,trivial⟩
  .simp only[gP];exact hnew
  .have h0:=o2.1 hg;rw[hset];intro l cs hl;by_cases e:l=qj
   .subst e;have hlt:l<(u U).length:=by
     rcases jB2 l (u U).length with h|h
     .exact h
     .rw[jBf h]at b1;cases b1
    have hlt2:l < U.length:=by
     rcases jB2 l U.length with h|h
     .exact h
     .rw[jBf h]at b1';cases b1'
    rw[jAo hlt2]at hl;rw[jAo hlt];exact hl
   .rw[jAh (Ne.symm e)]at hl ⊢;exact h0 l cs hl
  .rw[hset]at hq;by_cases e:q=qj
   .subst e;have hlt:q<(u U).length:=by
     rcases jB2 q (u U).length with h|h
     .exact h
     .rw[jBf h]at b1;cases b1
    rw[jAo hlt]at hq;cases hq
   .rw[jAh (Ne.symm e)]at hq;have:=hu.1 q hq;rw[jAh (Ne.symm e)];exact this
  .exact hu.2 τ q o (by simpa using hl) (kp.trans hk) (gB q hq)
def KOp.looksL:KOp->Bool
 | .len _ s _=>!s
 | .idx .. | .ld .. | .addr ..=>true
 |_=>false
theorem zTh{k:KOp}{p:Prop}{q:Nat}{zs:wF}(hk:k.looksL=true)(hq : U[q]?=some .rsv)(h:zW env U k=some (p,r)):zW env (U.set q (AObj.box zs)) k=some (p,r):=by
 have get:∀l:Nat,l≠q->(U.set q (AObj.box zs))[l]? = U[l]?:=fun l hl=>jAh (Ne.symm hl)
 cases k<;>simp only[KOp.looksL]at hk<;>try(cases hk;done)
 case len d s x =>
  cases s<;>try(cases hk;done)
  simp only[zW]at h⊢;generalize ev env x=a at h⊢;cases a<;>first
   |exact h
   |(cases h;done)
   |(rename_i l n;by_cases hl:l=q;(subst hl;simp only[hq]at h;cases h);(simp only[get l hl];exact h))
   |(rename_i l n o k c;by_cases hl:l=q;(subst hl;simp only[hq]at h;cases h);(simp only[get l hl];exact h))
 case idx d x i sz =>
  simp only[zW]at h⊢;generalize ev env x=a at h⊢;generalize ev env i=b at h⊢;cases b<;>first
   |(cases a<;>first|exact h|(cases h;done))
   |(rename_i v;cases v<;>first
    |(cases a<;>first|exact h|(cases h;done))
    |(cases a<;>first
     |exact h
     |(cases h;done)
     |(rename_i l n;by_cases hl:l=q;(subst hl;simp only[hq]at h;cases h);(simp only[get l hl];exact h))
     |(rename_i l n o k c;by_cases hl:l=q;(subst hl;simp only[hq]at h;cases h);(simp only[get l hl];exact h))))
 case addr d x off =>
  simp only[zW]at h⊢;generalize ev env x=a at h⊢;cases a<;>first
   |exact h
   |(cases h;done)
   |(rename_i l n o;by_cases hl:l=q;(subst hl;simp only[hq]at h;cases h);(simp only[get l hl];exact h))
 case ld d x n agg =>
  simp only[zW]at h⊢;have key:∀cs,ldA U n (ev env x)=some cs->ldA (U.set q (AObj.box zs)) n (ev env x)=some cs:=by
   intro cs hcs;unfold ldA at hcs ⊢;generalize ev env x=a at hcs ⊢;cases a<;>first
    |exact hcs
    |(cases hcs;done)
    |(rename_i l o;by_cases hl:l=q;(subst hl;simp only[hq]at hcs;cases hcs);(simp only[get l hl];exact hcs))
    |(rename_i l m o;by_cases hl:l=q;(subst hl;simp only[hq]at hcs;cases hcs);(simp only[get l hl];exact hcs))
  cases hld:ldA U n (ev env x)with
  |none=>rw[hld]at h;cases h
  |some cs=>rw[key cs hld];rw[hld]at h;exact h
theorem zPJ(hc:zVK gi gj=true)(hi:mV P fi gi env U ri Ui)(hj:lF P fj gj env Ui rj Uj) :
 ∃U1,lF P fj gj env U rj U1/\mV P fi gi env U1 ri Uj:=by
 obtain⟨gdi,ki⟩:=gi;obtain⟨gdj,kj⟩:=gj;simp only[zVK,jA8,jCh]at hc;obtain⟨⟨rfl,rfl⟩,hc⟩:=hc;have hki:ki.looksL=true/\∃d q z,kj=.alr d q z:=by
  split at hc
  all_goals first|exact⟨rfl,_,_,_,rfl⟩|(cases hc;done)
 clear hc;obtain⟨hki,dj,qj,zj,rfl⟩:=hki;have hkeep:ki.keeps=true/\ki.isCall=false/\ki.grows=false:=by cases ki<;>first|(cases hki;done)|(rename_i s x;cases s<;>first|exact⟨rfl,rfl,rfl⟩|(cases hki;done))|exact⟨rfl,rfl,rfl⟩
 have hkf:yH fi ki=true:=by simp[yH,hkeep.1,hkeep.2.1]
 obtain⟨hj1,p1,p2,p3,hjt⟩:=hj;obtain⟨⟨hi1,o1,o2,o3,hit⟩,hi2,hi3⟩:=hi;have hU:Ui = U:=o1 hkf;subst hU;simp only[gP,eff]at hj1;obtain⟨b1,rfl,rfl⟩:=hj1;have kp:aR Ui (Ui.set qj (AObj.box (zj.map jP))):=fun l cs hl=>by
  by_cases e:l=qj
  .subst e;rw[b1]at hl;cases hl
  .rw[jAh (Ne.symm e)];exact hl
 have hnew:gP P ⟨none,ki⟩ env (Ui.set qj (AObj.box (zj.map jP))) ri (Ui.set qj (AObj.box (zj.map jP))):=by
  simp only[gP]at hi1 ⊢;have hd:∀τ,eff P env τ ri τ ki↔jQ (zW env τ ki) fun r'=>ri=r':=by intro τ;cases ki<;>first|(cases hki;done)|(simp only[eff,true_and])
  rw[hd]at hi1 ⊢;cases hp:zW env Ui ki with
  |none=>rw[hp]at hi1;exact hi1.elim
  |some x =>
   obtain⟨pp,rr⟩:=x;rw[zTh hki b1 hp];rw[hp]at hi1;exact hi1
 refine⟨Ui.set qj (AObj.box (zj.map jP)),⟨?_,fun h=>by simp[yH,KOp.keeps]at h,KF.of rfl fun _=>kp,fun h=>by simp[b8,KOp.lite,KOp.keeps]at h,hjt⟩,
  ⟨⟨hnew,fun _=>rfl,KF.refl _ _ _,o3,hit⟩,fun _ τ hs=>?_,fun _ h7 hcl=>by rw[hkeep.2.1]at hcl;cases hcl⟩⟩
 .simp only[gP,eff];exact⟨b1,trivial,trivial⟩
 .rcases hs with h|⟨h,hk⟩|rfl
  .exact o3 h τ
  .exact hi2 hkf τ (.inr (.inl ⟨h,fun l cs hl=>hk l cs (kp l cs hl)⟩))
  .exact hnew
theorem zPI(hc:zLz fi gi gj=true)(hi:mV P fi gi env U ri Ui)(hj:lF P fj gj env Ui rj Uj) :
 ∃U1,lF P fj gj env U rj U1/\mV P fi gi env U1 ri Uj:=by
 simp only[zLz,jBc]at hc;rcases hc with hc|hc
 .exact zMH hc hi hj
 .exact zPJ hc hi hj
theorem zPG(hc:(tO fi fj gi.op gj.op||(zL0 fi fj gi gj||(zLy fi fj gi gj||(zL1 gi gj||zLz fi gi gj))))=true)(hi:mV P fi gi env U ri Ui)(hj:lF P fj gj env Ui rj Uj) :
 ∃U1,lF P fj gj env U rj U1/\mV P fi gi env U1 ri Uj:=by
 simp only[jBc]at hc;rcases hc with hc|hc|hc|hc|hc
 .exact zMF hc hi hj
 .exact zSy hc hi hj
 .exact zPH hc hi hj
 .exact zPL hc hi hj
 .exact zPI hc hi hj
theorem Env.put_ne{x:A}{t:Nat}(h:∀y,d=some y->t≠y):env.put d x t=env t:=by
 cases d with
 |none=>rfl
 |some y=>simp[Env.put,h y rfl]
theorem Env.put_comm{d':wD}{x y:A}(h:∀z,d=some z->d'≠some z):(env.put d x).put d' y=(env.put d' y).put d x:=by
 cases d with
 |none=>rfl
 |some z =>
  cases d' with
  |none=>rfl
  |some z' =>
   have hne:z'≠z:=fun e=>h z rfl (by rw[e])
   funext t;simp only[Env.put];by_cases h1:t=z'
   .subst h1;simp[hne]
   .simp[h1]
def zFc(P:Program)(Qp:Value->St->Prop)(f:Nat)(fv:A)(args:wF) (U:St)(R:A->St->Prop):Prop:=match fv with
 | .clo g first cap=>zA P g=true/\aK P g (first++args++cap) U fun o τ=>(∃r,o=.ret r/\(f=8->aR U τ)/\R r τ)\/∃v,o=.pan v/\Qp v τ
 |_=>False
theorem zMg{fv:A}{args:wF}{R R':A->St->Prop}(h:zFc P Qp f fv args U R)(hr:∀r τ,(f=8->aR U τ)->R r τ->R' r τ):zFc P Qp f fv args U R':=by
 unfold zFc at h⊢;split at h
 .refine⟨h.1,fun H L w vs h1 h2=>(h.2 H L w vs h1 h2).mono fun e w' hh=>?_⟩;obtain⟨o,U',H',L',g1,g2,hh⟩:=hh;refine⟨o,U',H',L',g1,g2,?_⟩;rcases hh with ⟨r,g3,g4,g5⟩|hh
  .exact .inl ⟨r,g3,g4,hr r U' g4 g5⟩
  .exact .inr hh
 .exact h.elim
def aOp(P:Program)(Qp:Value->St->Prop)(all:List (Nat×Nat×KG))(i:Nat)(K:wK)(env:Env) (U:St):Prop :=
 (∃f g r U',(i,f,g)∈all/\lF P f g env U r U'/\K (env.put g.op.dst r) U') \/
 ∃f d fo args,(f=8\/f=10)/\(i,f,(⟨none,.call d fo args⟩:KG))∈all/\zFc P Qp f (ev env fo) (args.map (ev env)) U fun r τ=>K (env.put d r) τ
def uH(P:Program)(Qp:Value->St->Prop)(ops:Array Oper)(all:List (Nat×Nat×KG))(Q:wK):Nat->Array Bool->wK
 | 0,listed,env,U=>Region.ready .any ops listed=[]/\Q env U
 |fuel+1,listed,env,U=>(Region.ready .any ops listed=[]->Q env U)/\∀i∈Region.ready .any ops listed,aOp P Qp all i (uH P Qp ops all Q fuel (listed.setIfInBounds i true)) env U
structure Fits(ops:Array Oper)(all:List (Nat×Nat×KG)):Prop where
 dst:∀(i f:Nat) o g,ops[i]?=some o->(i,f,g)∈all->g.op.dst=o.dst
 looks:∀(i f:Nat) o g,ops[i]?=some o->(i,f,g)∈all->∀t∈g.looks,t∈o.looksAt ops
theorem zKv{listed:Array Bool}{n:Nat}(h:listed.getD n true=false)(h':listed.getD n false=true):False:=by
 rcases jB2 n listed.size with hn|hn
 .simp[hn]at h h';rw[h]at h';cases h'
 .simp[Array.getElem?_eq_none hn]at h'
theorem qFm{fo:Operand}{args:List Operand}(hfj:fj=8\/fj=10)(h:(tO fi fj gi.op (.call d fo args)||(zL0 fi fj gi ⟨none,.call d fo args⟩||(zLy fi fj gi ⟨none,.call d fo args⟩||(zL1 gi ⟨none,.call d fo args⟩||zLz fi gi ⟨none,.call d fo args⟩))))=true) :
 yH fi gi.op=true/\(b8 fi gi.op=true\/(fi=1/\fj=8)):=by
 have e1:zL0 fi fj gi ⟨none,.call d fo args⟩=false:=by simp[zL0]
 have e2:zLy fi fj gi ⟨none,.call d fo args⟩=false:=by
  have a1:Nat.ble 1000 fj=false:=by rcases hfj with rfl|rfl<;>rfl
  have a2:Nat.ble 3000 fj=false:=by rcases hfj with rfl|rfl<;>rfl
  simp[zLy,zOH,zVL,a1,a2]
 have e3:zL1 gi ⟨none,.call d fo args⟩=false:=by unfold zL1;cases gi.op<;>simp
 have e4:zLz fi gi ⟨none,.call d fo args⟩=false:=by unfold zLz zOI zVK;cases gi.op<;>simp
 have e5:b8 fj (.call d fo args)=false:=by rcases hfj with rfl|rfl<;>simp[b8,KOp.lite]
 have e6:yH fj (.call d fo args)=false:=by
  have:Nat.ble 3 fj=true:=by rcases hfj with rfl|rfl<;>rfl
  simp[yH,KOp.isCall,this]
 have e7:rC 10 (.call d fo args)=false:=by simp[rC,KOp.grows]
 rw[e1,e2,e3,e4]at h;simp only[tO,e5,e6,Bool.or_false,jCs,jA8,jBc,beq_iff_eq]at h;refine⟨h.1,h.2.imp id fun x=>⟨x.1,?_⟩⟩;rcases hfj with e|e
 .exact e
 .rw[e,e7]at x;cases x.2
theorem zJ9{all:List (Nat×Nat×KG)}(hf:Fits ops all){Q:wK}{i:Nat}{oi:Oper}(hi:ops[i]?=some oi)(hgi:(i,fi,gi)∈all)(B:wA)
 (hB:∀j∈B,∃o,ops[j]?=some o/\∃e∈o.after,Region.binds .any e=true/\(e.on=i\/e.on∈B)) :
 ∀(fuel:Nat) (listed:Array Bool) (env:Env) (U Ui:St),(∀j∈B,listed.getD j true=false) ->
  (∀j oj fj gj,ops[j]?=some oj->(j,fj,gj)∈all->j≠i->listed.getD j true=false->(∀e∈oj.after,Region.binds .any e=true->e.on≠i)->j∉B->oi.apart ops oj=true/\(tO fi fj gi.op gj.op||(zL0 fi fj gi gj||(zLy fi fj gi gj||(zL1 gi gj||zLz fi gi gj))))=true) ->
  i∈Region.ready .any ops listed->mV P fi gi env U ri Ui ->
  uH P Qp ops all Q fuel (listed.setIfInBounds i true) (env.put gi.op.dst ri) Ui->uH P Qp ops all Q (fuel+1) listed env U:=by
 intro fuel;induction fuel with
 |zero =>
  intro listed env U Ui _ _ hr hy H;refine⟨fun h=>(by rw[h]at hr;cases hr),fun j hj=>?_⟩;by_cases hji:j=i
  .subst hji;exact .inl ⟨fi,gi,ri,Ui,hgi,hy.1,H⟩
  .have:=ready_mono hj hji;rw[H.1]at this;cases this
 |succ fuel ih =>
  intro listed env U Ui hBl hfree hr hy H;refine⟨fun h=>(by rw[h]at hr;cases hr),fun j hj=>?_⟩;by_cases hji:j=i
  .subst hji;exact .inl ⟨fi,gi,ri,Ui,hgi,hy.1,H⟩
  .obtain⟨hjun,oj,hoj,hall⟩:=mem_ready.1 hj;have hiun:=(mem_ready.1 hr).1;have hnot:∀e∈oj.after,Region.binds .any e=true->e.on≠i:=fun e he hb heq=>by have:=hall e he hb;rw[heq]at this;exact zKv hiun this
   have hjB:j∉B:=fun hm=>by
    obtain⟨o,ho,e,he,hb,hon⟩:=hB j hm;rw[hoj]at ho;cases ho;rcases hon with h1|h1
    .exact hnot e he hb h1
    .exact zKv (hBl _ h1) (hall e he hb)
   rcases H.2 j (ready_mono hj hji)with ⟨fj,gj,rj,Uj,hgj,ej,hK⟩|⟨f8,dd,foj,argsj,hf8,hgj,hcn⟩
   rotate_left
   .obtain⟨hap,hcm⟩:=hfree j oj f8 _ hoj hgj hji hjun hnot hjB;obtain⟨h1,h2,h3⟩:=Oper.apart_spec hap;have di:=hf.dst i fi oi gi hi hgi;have dj:=hf.dst j f8 oj _ hoj hgj;simp only[KOp.dst]at dj;have hcm':=qFm hf8 hcm;obtain⟨hk,hst⟩:=hcm';have e:=hy.1.2.1 hk;subst e;have hlki:∀x∈(KOp.call dd foj argsj).reads,ev (env.put gi.op.dst ri) x=ev env x:=zBJ fun t ht=>Env.put_ne fun y hy' e=>by subst e;exact h1 t (by rw[<-di];exact hy') (hf.looks j f8 oj _ hoj hgj t (jBr _ (jDg.2 ⟨.tmp t,ht,rfl⟩)))
    rw[hlki foj (by simp[KOp.reads]),gI fun x hx=>hlki x (by simp[KOp.reads,hx])]at hcn;refine .inr ⟨f8,dd,foj,argsj,hf8,hgj,zMg hcn fun r τ hkp hK=>?_⟩;have hstab:zEy fi gi.op Ui τ:=by
     rcases hst with hl|⟨hf1,hf2⟩
     .exact .inl hl
     .exact .inr (.inl ⟨hf1,hkp hf2⟩)
    have hij:=hy.2.1 hk τ hstab;have hlk:∀t∈gi.looks,(env.put dd r) t=env t:=fun t ht=>Env.put_ne fun y hy' e=>by subst e;exact h3 t (by rw[<-dj];exact hy') (hf.looks i fi oi gi hi hgi t ht)
    have hy2:mV P fi gi (env.put dd r) τ ri τ:=⟨by
     rw[zAO hlk];exact⟨hij,fun _=>rfl,KF.refl _ _ _,hy.1.2.2.2⟩,fun hk' υ ht=>by rw[zAP hlk];exact hy.2.1 hk' υ (zG2 hstab ht),fun _ hf7 hcl=>(by
      have hk7:yH fi gi.op=false:=by rcases hf7 with rfl|rfl<;>simp[yH,hcl]
      rw[hk7]at hk;cases hk)⟩
    refine ih (listed.setIfInBounds j true) (env.put dd r) τ τ ?_ ?_ (ready_mono hr (Ne.symm hji)) hy2 ?_
    .intro m hm;have hne:j≠m:=fun e=>hjB (e▸hm)
     rw[getD_set_ne true hne];exact hBl m hm
    .intro k ok fk gk hk hgk hki hun hno hkB;refine hfree k ok fk gk hk hgk hki ?_ hno hkB;by_cases hjk:j=k
     .subst hjk;exact hjun
     .rw[getD_set_ne true hjk]at hun;exact hun
    .rw[Array.setIfInBounds_comm _ _ hji,<-Env.put_comm (fun z hz=>by rw[dj];exact h2 z (by rw[<-di];exact hz))];exact hK
   .obtain⟨hap,hcm⟩:=hfree j oj fj gj hoj hgj hji hjun hnot hjB;obtain⟨h1,h2,h3⟩:=Oper.apart_spec hap;have di:=hf.dst i fi oi gi hi hgi;have dj:=hf.dst j fj oj gj hoj hgj;have ej':lF P fj gj env Ui rj Uj:=by
     rw[zAO (env':=env.put gi.op.dst ri)]
     .exact ej
     .intro t ht;refine(Env.put_ne fun y hy' e=>?_).symm;subst e;exact h1 t (by rw[<-di];exact hy') (hf.looks j fj oj gj hoj hgj t ht)
    obtain⟨U1,ej1,hy1⟩:=zPG hcm hy ej';have hlk:∀t∈gi.looks,(env.put gj.op.dst rj) t=env t:=fun t ht=>Env.put_ne fun y hy' e=>by subst e;exact h3 t (by rw[<-dj];exact hy') (hf.looks i fi oi gi hi hgi t ht)
    have hy2:mV P fi gi (env.put gj.op.dst rj) U1 ri Uj:=⟨by rw[zAO hlk];exact hy1.1,fun hk τ ht=>by rw[zAP hlk];exact hy1.2.1 hk τ ht,fun hg hf hcl=>by obtain⟨u,e1,e2,e3⟩:=hy1.2.2 hg hf hcl;refine⟨u,e1,e2,fun τ hl hk=>?_⟩;have hq:eff P (env.put gj.op.dst rj) τ ri (u τ) gi.op=eff P env τ ri (u τ) gi.op:=zHz (zBJ fun t ht=>hlk t (jBr _ (jDg.2 ⟨.tmp t,ht,rfl⟩)));rw[hq];exact e3 τ hl hk⟩
    refine .inl ⟨fj,gj,rj,U1,hgj,ej1,ih (listed.setIfInBounds j true) (env.put gj.op.dst rj) U1 Uj ?_ ?_ (ready_mono hr (Ne.symm hji)) hy2 ?_⟩
    .intro m hm;have hne:j≠m:=fun e=>hjB (e▸hm)
     rw[getD_set_ne true hne];exact hBl m hm
    .intro k ok fk gk hk hgk hki hun hno hkB;refine hfree k ok fk gk hk hgk hki ?_ hno hkB;by_cases hjk:j=k
     .subst hjk;exact hjun
     .rw[getD_set_ne true hjk]at hun;exact hun
    .rw[Array.setIfInBounds_comm _ _ hji,<-Env.put_comm (fun z hz=>by rw[dj];exact h2 z (by rw[<-di];exact hz))];exact hK
theorem zAy{i:Nat}:∀(l acc:wA),(∀j∈acc,∃o,ops[j]?=some o/\∃e∈o.after,Region.binds .any e=true/\(e.on=i\/e.on∈acc)) ->
 ∀j∈uZ ops i l acc,∃o,ops[j]?=some o/\∃e∈o.after,Region.binds .any e=true/\(e.on=i\/e.on∈uZ ops i l acc)
 |[],acc,h=>h
 |x::l,acc,h=>by
  simp only[uZ];refine zAy l _ ?_;split
  .rename_i o ho;split
   .rename_i hany;rw[Array.any_eq_true']at hany;obtain⟨e,he,hb⟩:=hany;simp only[jA8,jBc,beq_iff_eq,List.contains_iff_mem]at hb;intro j hj;rcases jA1.1 hj with rfl|hj
    .exact⟨o,ho,e,he,hb.1,hb.2.imp id (jAk _)⟩
    .obtain⟨o',h1,e',h2,h3,h4⟩:=h j hj;exact⟨o',h1,e',h2,h3,h4.imp id (jAk _)⟩
   .exact h
  .exact h
theorem o6{all:List (Nat×Nat×KG)}(hf:Fits ops all){Q:wK}:∀(l:List (Nat×Nat×KG)) (listed:Array Bool) (env:Env) (U:St),(∀x∈l,x∈all) ->
 zFp ops all l listed=true->wpD P Qp Q l env U->uH P Qp ops all Q l.length listed env U
 |[],_,_,_,_,hB,h=>⟨by simpa[zFp]using hB,h⟩
 |(k,f,g)::l,listed,env,U,hl,hB,h=>by
  have h0:=hl (k,f,g) (jAm ..);simp only[zFp,jA8]at hB;obtain⟨⟨hr,hst⟩,hB'⟩:=hB;simp only[wpD]at h;by_cases hf8:f=8\/f=10
  .have hff:(f==8||f==10)=true:=by rcases hf8 with rfl|rfl<;>rfl
   simp only[hff,if_true,jA8,beq_iff_eq]at hst;obtain⟨⟨hg1,hg2⟩,hg3⟩:=hst;obtain⟨gd,k0⟩:=g;simp only[jCh]at hg1;subst hg1;cases k0<;>simp only[KOp.isCall,jAg]at hg2;rename_i d fo args;refine⟨fun h0=>(by rw[hg3]at h0;cases h0),fun j hj=>?_⟩;rw[hg3,jAi]at hj;subst hj;refine .inr ⟨f,d,fo,args,hf8,h0,?_⟩;have h2:=h.2;simp only[zTP,jZ,zVV]at h2;unfold zFc;split at h2
   .rename_i g first cap hfo
    simp only[hfo];obtain⟨hcb,h2⟩:=h2;rcases hf8 with rfl|rfl
    .refine⟨hcb,fun H L w vs h3 h4=>(h2 H L w vs h3 h4).mono fun e w' hh=>?_⟩;obtain⟨o,U',H',L',g1,g2,r,g3,g4,g5⟩:=hh;exact⟨o,U',H',L',g1,g2,.inl ⟨r,g3,fun _=>g4,o6 hf l _ _ _ (fun x hx=>hl x (jAk _ hx)) hB' g5⟩⟩
    .refine⟨hcb,fun H L w vs h3 h4=>(h2 H L w vs h3 h4).mono fun e w' hh=>?_⟩;obtain⟨o,U',H',L',g1,g2,hh⟩:=hh;refine⟨o,U',H',L',g1,g2,?_⟩;rcases hh with ⟨r,g3,g5⟩|hh
     .exact .inl ⟨r,g3,fun e=>(by cases e),o6 hf l _ _ _ (fun x hx=>hl x (jAk _ hx)) hB' g5⟩
     .exact .inr hh
   .have:=h2.1;omega
   .exact h2.elim
  have hff:(f==8||f==10)=false:=by simp only[Bool.or_eq_false_iff,beq_eq_false_iff_ne];exact not_or.1 hf8
  rw[hff]at hst;simp only[jAg,if_false]at hst;replace hf8:=not_or.1 hf8;obtain⟨r,U',hy,hK⟩:=zQH hf8 h.1 h.2;have rest:=o6 hf l _ _ _ (fun x hx=>hl x (jAk _ hx)) hB' hK;have hrk:k∈Region.ready .any ops listed:=by simpa using hr
  obtain⟨_,ok,ho,_⟩:=mem_ready.1 hrk;have use:∀B:wA,(∀j∈B,∃o,ops[j]?=some o/\∃e∈o.after,Region.binds .any e=true/\(e.on=k\/e.on∈B))->zCx ops all listed B k f g=true->uH P Qp ops all Q (l.length+1) listed env U:=by
   intro B hBp hs;simp only[zCx,ho,jA8,jB3,jC3]at hs;refine zJ9 hf ho h0 B hBp l.length listed env U U' hs.1 (fun j oj fj gj hoj hgj hne hun hno hnB=>?_) hrk hy rest;have hj:=hs.2 (j,fj,gj) hgj;have hd:pJ ops k j=false:=by rw[pJ,hoj];simp only;rw[Bool.eq_false_iff,ne_eq,Array.any_eq_true'];rintro⟨e,he,hb⟩;simp only[jA8,beq_iff_eq]at hb;exact hno e he hb.1 hb.2
   simp only[zTf,hoj,hd,hun,jBc,beq_iff_eq,hne,false_or,jAg,jA8,List.contains_iff_mem,hnB,or_false]at hj;simp only[jBc];exact hj
  simp only[zT6,jBc]at hst;rcases hst with hst|hst
  .exact use [] (by simp) hst
  .exact use (zAF ops k) (zAy _ [] (by simp)) hst
theorem zGL{Qp:Value->wK}{k:KOp}(h:eff P env U r U' k):wpO P Qp (fun env' τ=>env'=env.put k.dst r/\τ = U') k env U:=by
 have dflt:(U' = U/\jQ (zW env U k) fun r'=>r=r')->(jQ (zW env U k) fun r'=>env.put k.dst r'=env.put k.dst r/\U = U'):=by
  rintro⟨rfl,h⟩;unfold jQ at h⊢;split at h
  .exact⟨h.1,by rw[h.2],rfl⟩
  .exact h.elim
 cases k
 case call d f args =>
  simp only[eff,zD5]at h;simp only[wpO];split at h
  .rename_i g first cap hf
   rw[hf];refine⟨h.1,fun H L w vs h1 h2=>(h.2 H L w vs h1 h2).mono fun e w' hh=>?_⟩;obtain⟨o,τ,H',L',g1,g2,rfl,rfl⟩:=hh;exact⟨_,_,H',L',g1,g2,rfl,rfl⟩
  .rename_i b hf;rw[hf];intro H L w vs h1 h2;obtain⟨fn,tmps,x,y,k1,k2⟩:=h H L w vs h1 h2;refine⟨fn,tmps,x,y,k1,k2.mono fun e w' hh=>?_⟩;obtain⟨o,τ,H',L',g1,g2,rfl,rfl⟩:=hh;exact⟨_,_,H',L',g1,g2,rfl,rfl⟩
  .exact h.elim
 case brow d e sz n z ps =>
  simp only[eff]at h;simp only[wpO];split at h
  .rename_i hf;obtain⟨rfl,rfl⟩:=h;rw[hf];exact⟨rfl,rfl⟩
  .exact h.elim
 case isz d ng x=>exact h.elim
 case shr d x sz hx=>exact h.elim
 case apq d e sz bytes x y=>exact h.elim
 case pan d x=>exact h.elim
 case bslice d e sz n z ps =>
  obtain⟨rfl,h⟩:=h;simp only[wpO];split at h
  .rename_i hf;rw[hf];subst h;exact⟨rfl,trivial⟩
  .exact h.elim
 case alloc d z =>
  obtain⟨rfl,rfl⟩:=h;exact⟨rfl,rfl⟩
 case box d x =>
  simp only[eff]at h;simp only[wpO];split at h
  .rename_i hf;obtain⟨rfl,rfl⟩:=h;rw[hf];exact⟨rfl,rfl⟩
  .exact h.elim
 case st d x v n =>
  simp only[eff]at h;simp only[wpO];split at h
  .rename_i cs hf;obtain⟨h1,h2,rfl⟩:=h;rw[hf];simp only[h1,if_true,h2];exact⟨rfl,trivial⟩
  .exact h.elim
 case app d e sz bytes x y =>
  simp only[eff]at h;simp only[wpO];split at h
  .rename_i m ys hf;rw[hf];obtain⟨h0,h⟩:=h;refine⟨h0,?_⟩;generalize ev env x=ax at h⊢;cases ax<;>simp only[zR0]at h
   case nil =>
    obtain⟨h1,rfl,rfl⟩:=h;exact⟨h1,rfl,rfl⟩
   case row l n =>
    simp only;split at h
    .rename_i hl;obtain⟨h1,h2,rfl,rfl⟩:=h;rw[hl];simp only[h1,and_self,if_true];exact⟨by rw[<-h1.1];exact h2,rfl,trivial⟩
    .exact h.elim
   case fsl n cs =>
    obtain⟨h1,h|h⟩:=h
    .obtain⟨h2,rfl,rfl⟩:=h;exact⟨h1,fun _=>⟨rfl,rfl⟩,fun hne=>(hne h2).elim⟩
    .obtain⟨h2,h3,rfl,rfl⟩:=h;exact⟨h1,fun h0=>(h2 h0).elim,fun _=>⟨h3,rfl,rfl⟩⟩
  .exact h.elim
 case len d s x =>
  cases s
  .obtain⟨rfl,h⟩:=h;simp only[wpO];split
   .rename_i n cs hx;intro _;simp only[jQ,zW,hx,true_and]at h;subst h;exact⟨rfl,trivial⟩
   .rename_i n cs hx;intro _;simp only[jQ,zW,hx,true_and]at h;subst h;exact⟨rfl,trivial⟩
   .cases hp:zW env U' (.len d false x)with
    |none=>rw[hp]at h;exact h.elim
    |some y=>rw[hp]at h;exact⟨h.1,by rw[h.2];rfl,trivial⟩
  .exact dflt h
 case mop d m xs =>
  simp only[wpO];exact zMY h ⟨rfl,rfl⟩
 case alr d q z =>
  obtain⟨hq,rfl,rfl⟩:=h;simp only[wpO,hq];exact⟨rfl,trivial⟩
 all_goals exact dflt h
structure Comp(P:Program)(N:Nat)(ops:Array Oper)(all:List (Nat×Nat×KG)):Prop where
 get:∀(i f:Nat) o g,ops[i]?=some o->(i,f,g)∈all->oK P N ops o=some g.erase
theorem x6(k:KOp):k.erase.dst=k.dst:=by cases k<;>rfl
theorem zDS(g:KG):g.erase.looks=g.looks:=by obtain⟨gd,k⟩:=g;cases k<;>rfl
theorem iP{o:Oper}(h:oK P N ops o=some g):g.erase=g:=by
 have hk:=(y9 h).1;have hke:g.op.erase=g.op:=by
  generalize g.op=k at hk;cases k<;>try rfl
  case shr =>
   generalize hkk:KOp.shr _ _ _ _=kk at hk;cases y3 hk<;>first|(cases hkk;done)|(subst hkk;rename_i hpk _;simp[fY]at hpk)
  case apq =>
   generalize hkk:KOp.apq _ _ _ _ _ _=kk at hk;cases y3 hk<;>first|(cases hkk;done)|(subst hkk;rename_i hpk _;simp[fY]at hpk)
  case isz =>
   generalize hkk:KOp.isz _ _ _=kk at hk;cases y3 hk<;>first|(cases hkk;done)|(subst hkk;rename_i hpk _;simp[fY]at hpk)
  case rslc =>
   generalize hkk:KOp.rslc _ _ _ _ _=kk at hk;cases y3 hk<;>first|(cases hkk;done)|(subst hkk;rename_i hpk _;simp[fY]at hpk)
  .generalize hkk:KOp.brow _ _ _ _ _ _=kk at hk;cases y3 hk<;>first|(cases hkk;done)|(subst hkk;rename_i hpk _;simp[fY]at hpk)
  .generalize hkk:KOp.alr _ _ _=kk at hk;cases y3 hk<;>first|(cases hkk;done)|(subst hkk;rename_i hpk _;simp[fY]at hpk)
 simp only[KG.erase,hke]
theorem zJG:(zNN f g).erase=g.erase:=by
 unfold zNN;split
 .rename_i hz;split
  .simp only[KG.erase,hz,KOp.erase]
  .rfl
 .rename_i hz;split
  .simp only[KG.erase,hz,KOp.erase]
  .rfl
 .rfl
theorem nV{ro:wD}{all:List (Nat×Nat×KG)}(hc:Comp P N ops all)(hall:∀o∈ops.toList,∀x,o.dst=some x->x<N){Q:Ex->wK}{dfs:List Deferred}{Qc:Exit->Act->World->Prop} :
 ∀(fuel:Nat) (listed:Array Bool) {H:Mem} {L:wO} {U:St} {w:World} {env:Env} {a:Act},qL H L N env a.tmps->RelSt H L U w->a.defers=dfs ->
  uH P (zGb Q) ops all (Q .norm) fuel listed env U->(∀e b v,zB1 H L w N Q dfs e b v->Qc e b v)->wpAnyIn (Wr ro) 0 P .any ops Qc fuel listed a w
 | 0,listed,H,L,U,w,env,a,he,hs,hd,h,hQ=>⟨h.1,hQ _ _ _ ⟨.norm,env,U,H,L,rfl,hd▸Mk.refl _ _ _,he,Nxt.refl hs,h.2⟩⟩
 |fuel+1,listed,H,L,U,w,env,a,he,hs,hd,h,hQ=>by
  refine⟨fun h0=>hQ _ _ _ ⟨.norm,env,U,H,L,rfl,hd▸Mk.refl _ _ _,he,Nxt.refl hs,h.1 h0⟩,fun i hi=>?_⟩;obtain⟨_,o,ho,_⟩:=mem_ready.1 hi;rcases h.2 i hi with ⟨f,g,r,U1,hg,hy,hK⟩|⟨f8,d,fo,args,hf8,hg,hcn⟩
  rotate_left
  .have hcg:=hc.get i f8 o _ ho hg;obtain⟨hk,hdst,hgd⟩:=y9 hcg;unfold wpOpIn;simp only[ho];rcases hgd with ⟨hog,hgn⟩|⟨j,want,s,hog,hsl,hgn⟩
   .have hw:Region.wanted o (yielded ops a.tmps)=true:=by simp[Region.wanted,hog]
    rw[if_pos hw];refine oI (k:=.call d fo args) (Qp:=fun v _ τ=>zGb Q v τ) (K:=fun env' τ=>uH P (zGb Q) ops all (Q .norm) fuel (listed.setIfInBounds i true) env' τ) hk hdst he hs ?_ (fun env' U' H' L' a' w' h1 h2 h3 h4=>?_) (fun v U' H' L' w' h1 h2=>hQ _ _ _ ⟨.pan v,env,U',H',L',rfl,hd▸Mk.refl _ _ _,he.mono h1.step.hle h1.lle,h1,h2 env⟩)
    .simp only[wpO];unfold zFc at hcn;split at hcn
     .rename_i g first cap hfo
      simp only[hfo];refine⟨hcn.1,fun H L w vs h3 h4=>(hcn.2 H L w vs h3 h4).mono fun e w' hh=>?_⟩;obtain⟨o,U',H',L',g1,g2,hh⟩:=hh;refine⟨o,U',H',L',g1,g2,?_⟩;rcases hh with ⟨r,rfl,g4,g5⟩|⟨v,rfl,g4⟩
      .exact g5
      .exact g4
     .exact hcn.elim
    .exact nV hc hall fuel _ h2 h3.st (h1.trans hd) h4 fun e b v hp=>hQ e b v (hp.next h3 (Mk.refl _ _ _))
   .cases hgn
  have hcg:=hc.get i f o g ho hg;obtain⟨hk,hdst,hgd⟩:=y9 hcg;have hkd:=bI hk;rw[show g.erase.op.dst=g.op.dst from x6 _]at hkd;unfold wpOpIn;simp only[ho];have exec:eff P env U r U1 g.op->o.wpIn (Wr ro) 0 P a w (wpAnyIn (Wr ro) 0 P .any ops Qc fuel (listed.setIfInBounds i true)) Qc:=by intro hq;refine oI (k:=g.op) (Qp:=fun _ _ _=>False) hk hdst he hs (zGL hq) (fun env' U' H' L' a' w' h1 h2 h3 h4=>?_) (fun v U' H' L' w' h1 h2=>h2.elim);obtain⟨h4,h5⟩:=h4;subst h4;subst h5;exact nV hc hall fuel _ h2 h3.st (h1.trans hd) hK fun e b v hp=>hQ e b v (hp.next h3 (Mk.refl _ _ _))
  have skip:r=.lit undef->U1 = U->wpAnyIn (Wr ro) 0 P .any ops Qc fuel (listed.setIfInBounds i true) (a.put o.dst undef) w:=by rintro rfl rfl;refine nV hc hall fuel _ ?_ hs ((qV _ _).trans hd) hK hQ;rw[hkd];exact he.put hdst (by simp[Rel])
  replace hy:=hy.1;unfold gP at hy;rcases hgd with ⟨hog,hgn⟩|⟨j,want,s,hog,hsl,hgn⟩
  .replace hgn:g.guard=none:=hgn;simp only[hgn]at hy;have hw:Region.wanted o (yielded ops a.tmps)=true:=by simp[Region.wanted,hog]
   rw[if_pos hw];exact exec hy
  .replace hgn:g.guard=some (s,want):=hgn;simp only[hgn]at hy;have hsN:=tD hsl hall;obtain⟨w1,w2⟩:=nN (a:=a) hog hsl (jCb hsN he.1);have hrel:=he.2 s;split at hy
   .rename_i b hb;rw[hb]at hrel;simp only[Rel]at hrel;rw[w1 b hrel];by_cases hbw:b=want
    .simp only[hbw,decide_true,if_true];exact exec (hy.1 hbw)
    .simp only[hbw,decide_false,jAg,if_false];exact⟨fun _ _=>trivial,skip (hy.2 hbw).1 (hy.2 hbw).2⟩
   .rename_i t ht;rw[ht]at hrel;simp only[Rel]at hrel;rw[w2 t hrel];simp only[jAg,if_false];exact⟨fun _ _=>trivial,skip hy.1 hy.2⟩
   .exact hy.elim
theorem iQ{ops:Array Oper}:∀{l:List Oper} {gs:List KG},gS P N ops l=some gs->gs.length=l.length/\∀(i:Nat) o g,l[i]?=some o->gs[i]?=some g->oK P N ops o=some g
 |[],gs,h=>by simp only[gS,jA3]at h;subst h;exact⟨rfl,fun i o g h=>by simp at h⟩
 |o::l,gs,h=>by
  simp only[gS]at h;split at h<;>try(cases h;done)
  rename_i g gs' hg hgs;cases h;obtain⟨h1,h2⟩:=iQ hgs;refine⟨by simp[h1],fun i o' g' ho hg'=>?_⟩;cases i with
  |zero=>simp only[jB8,jA3]at ho hg';subst ho;subst hg';exact hg
  |succ i=>simp only[jBj]at ho hg';exact h2 i o' g' ho hg'
theorem vX{ops:Array Oper}:∀{l:List Oper} {gs:List KG},pQ ops l gs=true->∀(i:Nat) o g,l[i]?=some o->gs[i]?=some g->∀t∈g.looks,t∈o.looksAt ops
 |[],[],_,i,o,g,h,_=>by simp at h
 |o::l,g::gs,h,i,o',g',ho,hg=>by
  simp only[pQ,jA8]at h;cases i with
  |zero =>
   simp only[jB8,jA3]at ho hg;subst ho;subst hg;intro t ht;have:=jB3.1 h.1 t ht
   simpa using this
  |succ i=>simp only[jBj]at ho hg;exact vX h.2 i o' g' ho hg
 |[],_::_,h,_,_,_,_,_=>by simp[pQ]at h
 |_::_,[],h,_,_,_,_,_=>by simp[pQ]at h
theorem zDW{gs0:List KG}:∀{l:List KG} {k:Nat} {x:Nat×Nat×KG},x∈zBS ops gs0 k l->k<=x.1/\l[x.1-k]?=some x.2.2
 |[],k,x,h=>by simp[zBS]at h
 |g::l,k,x,h=>by
  simp only[zBS,jA1]at h;rcases h with rfl|h
  .simp
  .obtain⟨h1,h2⟩:=zDW h;refine⟨by omega,?_⟩;have:x.1-k=x.1-(k+1)+1:=by omega
   rw[this]
   simpa using h2
theorem zFV:∀{l:List KG} {k:Nat} {x:Nat×Nat×KG},x∈zFU k l->k<=x.1/\l[x.1-k]?=some x.2.2
 |[],k,x,h=>by simp[zFU]at h
 |g::l,k,x,h=>by
  simp only[zFU,jA1]at h;rcases h with rfl|h
  .simp
  .obtain⟨h1,h2⟩:=zFV h;refine⟨by omega,?_⟩;have:x.1-k=x.1-(k+1)+1:=by omega
   rw[this]
   simpa using h2
variable{gs:List KG}
theorem zDX{x:Nat×Nat×KG}(h:x∈zIM ops gs):gs[x.1]?=some x.2.2:=by
 unfold zIM at h;split at h
 .simpa using (zDW h).2
 .simpa using (zFV h).2
theorem zDn{gs:List KG}:∀{l:wE} {r:List (Nat×Nat×KG)} {x:Nat×Nat×KG},zLb gs l=some r->x∈r->∃g,gs[x.1]?=some g/\x.2.2.erase=g.erase
 |[],r,x,h,hx=>by simp only[zLb,jA3]at h;subst h;simp at hx
 |(k,f)::l,r,x,h,hx=>by
  simp only[zLb]at h;split at h<;>try(cases h;done)
  rename_i g r' hg hr;cases h;rcases jA1.1 hx with rfl|hx
  .exact⟨g,hg,zJG⟩
  .exact zDn hr hx
theorem zQI{ro:wD}{id:Nat}{l:List (Nat×Nat×KG)}(hm:P.follows .mixedOrders=true)(hB:zFq ops l=true)(hlo:pQ ops ops.toList gs=true)(hc:gS P N ops ops.toList=some gs)(hl:∀x∈l,∃g,gs[x.1]?=some g/\x.2.2.erase=g.erase)
 {Q:Ex->wK}{dfs:List Deferred}{Qc:Exit->Act->World->Prop}(he:qL H L N env a.tmps)(hs:RelSt H L U w)(hd:a.defers=dfs)
 (h:wpD P (zGb Q) (Q .norm) l env U)(hQ:∀e b v,zB1 H L w N Q dfs e b v->Qc e b v):(Code.region id ops true).wpIn (Wr ro) 0 P Qc a w:=by
 obtain⟨hlen,hget⟩:=iQ hc;have hcm:Comp P N ops l:=⟨fun i f o g ho hg=>by obtain⟨g0,h1,h2⟩:=hl (i,f,g) hg;have h3:=hget i o g0 (by simpa using ho) h1;rw[show g.erase=g0 from h2.trans (iP h3)];exact h3⟩
 have hf:Fits ops l:=⟨fun i f o g ho hg=>(x6 g.op).symm.trans (bI (y9 (hcm.get i f o g ho hg)).1),fun i f o g ho hg=>by obtain⟨g0,h1,h2⟩:=hl (i,f,g) hg;have h3:=hget i o g0 (by simpa using ho) h1;have h4:=vX hlo i o g0 (by simpa using ho) h1;rw[<-zDS,show g.erase=g0 from h2.trans (iP h3)];exact h4⟩
 have hall:∀o∈ops.toList,∀x,o.dst=some x->x<N:=by
  intro o ho;obtain⟨i,hi⟩:=jCv ho;have hlt:i<gs.length:=by rw[hlen];exact(jA5.1 hi).1
  exact(y9 (hget i o _ hi (jA2 hlt))).2.1
 simp only[zFq,jA8,beq_iff_eq]at hB;obtain⟨⟨hB,hsz⟩,_⟩:=hB;refine wpIn_region_any hm ?_;have hs':RelSt H L U {w with drawn:=w.drawn+1}:=hs.heap_eq rfl;have hlex:=o6 hf l (Array.replicate ops.size false) env U (fun _ hx=>hx) hB h;rw[hsz]at hlex;have hn:Nxt H L w H L U {w with drawn:=w.drawn+1}:=⟨hs',⟨rfl,rfl,rfl,jA _,fun _ _ _=>rfl,HLe.refl _,fun _ _ _ h=>.inl h,jCf _,fun _ _ h=>h⟩,LLe.refl _,fun _ h=>.inl h⟩;refine nV hcm hall _ _ he hs' hd hlex fun e b v hp=>hQ e b v ?_
 exact hp.next hn (Mk.refl _ _ _)
end
end Go.Abs
