/- Regions that draw their order: one walk in the text's order serves every order. -/
import Derived.Test.YtdnelmeboihpkaaGreatDoorX4
set_option linter.unusedVariables false
set_option maxHeartbeats 8000000
set_option maxRecDepth 100000
set_option linter.unusedSimpArgs false
namespace Go.Abs
def bF(U τ:St):Prop:=∀(l:Nat) cs,U[l]?=some (AObj.box cs)->τ[l]?=some (AObj.box cs)
theorem bF.refl(U:St):bF U U:=fun _ _ h=>h
variable{U τ:St}
theorem bF.trans{υ:St}(h:bF U τ)(k:bF τ υ):bF U υ:=fun l cs e=>k l cs (h l cs e)
def dK(U τ:St):Prop:=∀(l:Nat) o,U[l]?=some o->o≠AObj.rsv->τ[l]?=some o
theorem dK.refl(U:St):dK U U:=fun _ _ h _=>h
theorem dK.trans{υ:St}(h:dK U τ)(k:dK τ υ):dK U υ:=fun l o e hn=>k l o (h l o e hn) hn
theorem dK.keeps(h:dK U τ):bF U τ:=fun l cs e=>h l _ e (by simp)
def KA(c:Nat) (U τ:St):Prop:=∀(l:Nat) cs,c<=l->U[l]?=some (AObj.box cs)->τ[l]?=some (AObj.box cs)
theorem KA.refl(c:Nat) (U:St):KA c U U:=fun _ _ _ h=>h
def zGh(U τ:St):Prop:=∀(l:Nat) fz e s n cs,U[l]?=some (AObj.row fz e s n cs)->∃fz' cs',τ[l]?=some (AObj.row fz' e s n cs')
theorem zGh.refl(U:St):zGh U U:=fun _ fz _ _ _ cs h=>⟨fz,cs,h⟩
def KE(c:Nat) (U τ:St):Prop:=KA c U τ/\zGh U τ
theorem KE.refl(c:Nat) (U:St):KE c U U:=⟨KA.refl _ _,zGh.refl _⟩
theorem bF.append(U τ:St):bF U (U++τ):=fun l cs h=>by rw[jAl (jA4.1 h).1];exact h
def cR:St->St
 |[]=>[]
 | .box cs::U=>.box cs::cR U
 |_::U=>.dead::cR U
def zDS(f:Nat)(k:KOp) (U τ:St):Prop:=cK f k=true\/(f=1/\bF U τ)\/τ = U
def zQV(U:St)(e:TypeId)(sz bytes m:Nat)(ys:wE)(r:A) (U':St):A->Prop
 | .nil=>(m<=maxLen/\m*bytes<=140737488355328)/\r=.row U.length m/\U' = U++[AObj.row false e sz m ys]
 | .row l n=>match U[l]? with
  |some (.row fz e' s n' cs)=>(n=n'/\e'=e/\s=sz)/\(n+m<=maxLen/\(n+m)*bytes<=140737488355328)/\r=.row l (n+m)/\U' = U.set l (.row fz e sz (n+m) (cs++ys))
  |_=>False
 | .fsl n cs=>cs.length=n*sz/\((m=0/\r=.fsl n cs/\U' = U)\/(m≠0/\(n+m<=maxLen/\(n+m)*bytes<=140737488355328)/\r=.row U.length (n+m)/\U' = U++[AObj.row false e sz (n+m) (cs++ys)]))
 |_=>False
def zDf(P:Program)(fv:A)(args:wE) (U:St)(Q:Out->St->Prop):Prop:=match fv with
 | .clo g first cap=>zC P g=true/\aG P g (first++args++cap) U Q
 | .lit (.func (.yield b) ⟨[]⟩ ⟨[]⟩)=>lD P b args U Q
 |_=>False
theorem zMB{m:MOp}{xs:wE}{r:A} {U':St}(h:zSD m xs U = some (r,U')){J:A->St->Prop}(hJ:J r U'):eK m xs J U:=by
 unfold zSD at h;split at h
 .cases h;exact hJ
 .split at h<;>try(cases h;done)
  rename_i h1 h2;split at h<;>try(cases h;done)
  rename_i hc;cases h;simp only[eK,h1,h2];exact⟨hc,hJ⟩
 .split at h<;>try(cases h;done)
  rename_i h1 h2;split at h<;>try(cases h;done)
  rename_i hc;cases h;simp only[eK,h1,h2];exact⟨hc,hJ⟩
 .split at h<;>try(cases h;done)
  rename_i h1 h2;split at h<;>try(cases h;done)
  rename_i hc;cases h;simp only[eK,h1,h2];exact⟨hc,hJ⟩
 .split at h<;>try(cases h;done)
  rename_i h1;split at h<;>try(cases h;done)
  rename_i hc;cases h;simp only[eK,h1];exact⟨hc,hJ⟩
 .split at h<;>try(cases h;done)
  rename_i hc;cases h;simp only[eK];exact⟨hc,hJ⟩
 .cases h;simp only[eK];exact hJ
 .split at h<;>try(cases h;done)
  rename_i h1;split at h<;>try(cases h;done)
  rename_i hc;cases h;simp only[eK,h1];exact⟨hc,hJ⟩
 .split at h<;>try(cases h;done)
  rename_i h1;split at h<;>try(cases h;done)
  rename_i hc;cases h;simp only[eK,h1];exact⟨hc,hJ⟩
 .cases h
noncomputable def eff(P:Program) (env:Env) (U:St) (r:A) (U':St):KOp->Prop
 | .call _ f args=>zDf P (ev env f) (args.map (ev env)) U fun o τ=>o=.ret r/\τ = U'
 | .bslice _ _ _ n zero parts=>U' = U/\match fT (zero.map jN) (parts.map fun(o,s,x)=>(o,s,ev env x))with
  |some cs=>r=.fsl n cs
  |none=>False
 | .brow _ e sz n zero parts=>(match fT (zero.map jN) (parts.map fun(o,s,x)=>(o,s,ev env x))with
  |some cs=>r=.row U.length n/\U' = U++[AObj.row false e sz n cs]
  |none=>False)
 | .isz ..=>False
 | .shr ..=>False
 | .apq ..=>False
 | .pan ..=>False
 | .mop _ m xs=>zSD m (xs.map (ev env)) U = some (r,U')
 | .alr _ q zs=>U[q]?=some .rsv/\r=.ptr q 0/\U' = U.set q (AObj.box (zs.map jN))
 | .alloc _ zs=>r=.ptr U.length 0/\U' = U++[AObj.box (zs.map jN)]
 | .box _ x=>match cellsOf (ev env x)with
  |some cs=>r=.ptr U.length 0/\U' = U++[AObj.box cs]
  |none=>False
 | .st _ x v n=>match cellsOf (ev env v)with
  |some cs=>cs.length=n/\stA U cs (ev env x)=some U'/\r=.lit undef
  |none=>False
 | .app _ e sz bytes x y=>match fQ U sz (ev env y)with
  |some (m,ys)=>ys.length=m*sz/\zQV U e sz bytes m ys r U' (ev env x)
  |none=>False
 |k=>U' = U/\jU (zZ env U k) fun r'=>r=r'
def uD(P:Program) (U:St)(d:wC)(K:Env->Prop)(g:FuncId)(args:wE)(env:Env):Prop :=
 ∃r,(aG P g args U fun o U'=>o=.ret r/\U' = U)/\K (env.put d r)
def zCg(P:Program) (U:St)(d:wC)(K:Env->Prop)(g:FuncId)(args:wE)(env:Env):Prop :=
 ∃r,(∀τ,bF U τ->aG P g args τ fun o U'=>o=.ret r/\U' = τ)/\K (env.put d r)
def zCh(P:Program) (U:St)(d:wC)(K:wK)(g:FuncId)(args:wE)(env:Env):Prop :=
 ∃r U',bF U U'/\(aG P g args U fun o τ=>o=.ret r/\τ = U')/\K (env.put d r) U'
def zGb(P:Program) (U:St)(d:wC)(K:wK)(g:FuncId)(args:wE)(env:Env):Prop :=
 ∃r own,(∀o∈own,o≠AObj.rsv)/\(∀τ:St,τ.length = U.length->dK U τ->aG P g args τ fun o τ'=>o=.ret r/\τ' = τ++own)/\K (env.put d r) (U++own)
def zEn(U:St)(u:St->St):Prop:=(∀q:Nat,(u U)[q]?=some AObj.rsv->U[q]?=some AObj.rsv)/\∀(τ:St) (q:Nat) (o:AObj),τ.length = U.length->dK U τ->U[q]?=some AObj.rsv->u (τ.set q o)=(u τ).set q o
theorem zEn.own{U own:St}(h:∀o∈own,o≠AObj.rsv):zEn U (fun τ=>τ++own):=by
 refine⟨fun q hq=>?_,fun τ q o hl _ hq=>?_⟩
 .rcases jAx q U.length with hlt|hge
  .rw[jAl hlt]at hq;exact hq
  .rw[jAy hge]at hq;exact(h _ (jC3 hq) rfl).elim
 .have hlt:q < U.length:=by
   rcases jAx q U.length with h|h
   .exact h
   .rw[jBd h]at hq;cases hq
  exact(List.set_append_left _ _ (by omega)).symm
def zGd(P:Program) (U:St)(d:wC)(K:wK)(g:FuncId)(args:wE)(env:Env):Prop :=
 ∃r u,zEn U u/\(∀τ:St,τ.length = U.length->dK U τ->aG P g args τ fun o τ'=>o=.ret r/\τ'=u τ)/\K (env.put d r) (u U)
def zLo(P:Program) (U:St)(d:wC)(K:wK)(g:FuncId)(args:wE)(env:Env):Prop :=
 aG P g args U fun o τ=>∃r,o=.ret r/\bF U τ/\K (env.put d r) τ
def zCi(P:Program)(Qp:Value->St->Prop) (U:St)(d:wC)(K:wK)(g:FuncId)(args:wE)(env:Env):Prop :=
 aG P g args U fun o τ=>(∃r,o=.ret r/\K (env.put d r) τ)\/∃v,o=.pan v/\Qp v τ
def zCj(P:Program) (U:St)(d:wC)(K:wK)(g:FuncId)(args:wE)(env:Env):Prop :=
 ∃r U',(aG P g args U fun o τ=>o=.ret r/\τ = U')/\K (env.put d r) U'
def zGc(P:Program)(c:Nat) (U:St)(d:wC)(K:wK)(g:FuncId)(args:wE)(env:Env):Prop :=
 ∃r U',KA c U U'/\(aG P g args U fun o τ=>o=.ret r/\τ = U')/\K (env.put d r) U'
def zGa(P:Program)(c:Nat) (U:St)(d:wC)(K:wK)(g:FuncId)(args:wE)(env:Env):Prop :=
 ∃r U',KE c U U'/\(aG P g args U fun o τ=>o=.ret r/\τ = U')/\K (env.put d r) U'
def zXK(P:Program)(Qp:Value->St->Prop)(f:Nat) (U:St)(d:wC)(K:wK)(g:FuncId)(args:wE)(env:Env):Prop:=match f with
 | 0=>uD P U d (fun e=>K e U) g args env
 | 1=>zCg P U d (fun e=>K e U) g args env
 | 2=>False
 | 3=>zCh P U d K g args env
 | 7=>zGb P U d K g args env
 | 8=>zLo P U d K g args env
 | 10=>zCi P Qp U d K g args env
 | 11=>zGd P U d K g args env
 |f=>if 1000<=f/\f<2000 then zGc P (f-1000) U d K g args env else if 3000<=f/\f<4000 then zGa P (f-3000) U d K g args env else zCj P U d K g args env
def qNU(P:Program)(f:Nat) (U:St)(d:wC)(K:wK)(b:Nat)(args:wE)(env:Env):Prop:=f=4/\∃r U',(lD P b args U fun o τ=>o=.ret r/\τ = U')/\K (env.put d r) U'
def zVG(P:Program)(Qp:Value->St->Prop)(f:Nat) (U:St)(d:wC)(K:wK)(fv:A)(args:wE)(env:Env):Prop:=match fv with
 | .clo g first cap=>zC P g=true/\zXK P Qp f U d K g (first++args++cap) env
 | .lit (.func (.yield b) ⟨[]⟩ ⟨[]⟩)=>qNU P f U d K b args env
 |_=>False
def zFw(Q:Ex->wK):Value->St->Prop:=fun v τ=>∀e,Q (.pan v) e τ
def dE:Value->wK:=fun _ _ _=>False
def zNS(P:Program)(f:Nat)(k:KOp)(env:Env) (U:St)(r:A) (U':St):Prop :=
 f=7\/f=11->k.isCall=true->∃u,U'=u U/\zEn U u/\∀τ:St,τ.length = U.length->dK U τ->eff P env τ r (u τ) k
def KF(f:Nat)(k:KOp) (U U':St):Prop:=(p7 f k=true->bF U U')/\(k.isCall=true->(1000<=f->f<2000->KA (f-1000) U U')/\(3000<=f->f<4000->KE (f-3000) U U'))
theorem KF.refl(f:Nat)(k:KOp) (U:St):KF f k U U:=⟨fun _=>bF.refl _,fun _=>⟨fun _ _=>KA.refl _ _,fun _ _=>KE.refl _ _⟩⟩
theorem KF.of{f:Nat}{k:KOp} {U':St}(hk:k.isCall=false)(h:p7 f k=true->bF U U'):KF f k U U':=⟨h,fun hc=>by rw[hk]at hc;cases hc⟩
def oR(f:Nat) (U:St):St:=if f=1 then cR U else if f=2 then []else U
noncomputable def j7(P:Program) (Qp:Value->St->Prop) (f:Nat) (K:wK) (k:KOp) (env:Env) (U:St):Prop:=match k with
 | .call d fo args=>zVG P Qp f U d K (ev env fo) (args.map (ev env)) env
 | .isz ..=>False
 | .shr ..=>False
 | .apq ..=>False
 | .pan ..=>False
 | .mop d m xs=>(match zSD m (xs.map (ev env)) U with
  |some (r,U')=>K (env.put d r) U'
  |none=>False)
 |k=>if k.keeps&&!k.lite then jU (zZ env (oR f U) k) fun r=>K (env.put k.dst r) U else wpO P dE K k env U
noncomputable def zTJ(P:Program) (Qp:Value->St->Prop) (f:Nat) (K:wK) (g:KG) (env:Env) (U:St):Prop :=
 match g.guard with
 |none=>j7 P Qp f K g.op env U
 |some (s,want)=>match env s with
  | .lit (.bool b)=>uF (b==want) (j7 P Qp f K g.op) (zFM g.op.dst K) env U
  | .lit (.tuple _)=>zFM g.op.dst K env U
  |_=>False
def zKl:A->Prop
 | .ptr _ _=>True
 |_=>False
def zKm:A->Prop
 | .rwp _ _ _=>True
 |_=>False
def isRow:A->Prop
 | .row _ _=>True
 |_=>False
def fW(c:Nat):A->Prop
 | .ptr l _=>c<=l
 | .rptr _=>True
 |_=>False
def pI(c:Nat):A->Prop
 | .ptr l _=>l<c
 |_=>False
def c9(f:Nat)(k:KOp)(env:Env):Prop:=match f with
 | 5=>(match k with
  | .st _ x _ _=>zKl (ev env x)
  |_=>True)
 | 6=>(match k with
  | .st _ x _ _=>zKm (ev env x)
  | .idx _ x _ _=>isRow (ev env x)
  |_=>True)
 |f=>if 4000<=f then (match k with
  | .ld _ x _ _=>fW (f-4000) (ev env x)
  | .idx _ x _ _=>isRow (ev env x)
  |_=>True)else if 2000<=f then (match k with
  | .ld _ x _ _=>fW (f-2000) (ev env x)
  |_=>True)else if 1000<=f then (match k with
  | .st _ x _ _=>pI (f-1000) (ev env x)
  |_=>True)else True
noncomputable def wpD(P:Program) (Qp:Value->St->Prop) (K:wK):List (Nat×Nat×KG)->wK
 |[],env,U=>K env U
 |x::rest,env,U=>c9 x.2.1 x.2.2.op env/\zTJ P Qp x.2.1 (wpD P Qp K rest) x.2.2 env U
section
variable{P:Program}{H:Mem}{L:wM} {U U' τ:St}{w:World}{N:Nat}{env:Env}{a:Act}{ops:Array Oper}{Qp:Value->St->Prop}
variable{r:A}
theorem zR5{k:KOp}(hk:k.keeps=true)(hc:k.isCall=false)(h:eff P env U r U' k) : U' = U:=by cases k<;>simp only[KOp.keeps,KOp.isCall,jAk,reduceCtorEq]at hk hc<;>exact h.1
theorem zR6{k:KOp}(hk:k.lite=true)(h:eff P env U r U' k) : U' = U/\∀τ,eff P env τ r τ k:=by
 have hp:∀τ,zZ env τ k=zZ env U k->(U' = U/\jU (zZ env U k) fun r'=>r=r')->(τ = τ/\jU (zZ env τ k) fun r'=>r=r'):=fun τ e h=>⟨rfl,by rw[e];exact h.2⟩
 cases k<;>simp only[KOp.lite,jAk]at hk
 case bslice d e sz n z ps=>exact⟨h.1,fun τ=>⟨rfl,h.2⟩⟩
 case len d s x =>
  cases s
  .simp[KOp.lite]at hk
  .exact⟨h.1,fun τ=>hp τ rfl h⟩
 case slc d x sz lo hi mx =>
  refine⟨h.1,fun τ=>hp τ ?_ h⟩;cases mx with
  |none=>rfl
  |some mx=>cases hi<;>rfl
 all_goals exact⟨h.1,fun τ=>hp τ rfl h⟩
variable{cs:wE}
theorem zP3{l:Nat}{fz:Bool}{e:TypeId}{s n:Nat}{o:AObj}(h : U[l]?=some (.row fz e s n cs)):bF U (U.set l o):=fun i ds hi=>by
 by_cases hil:i=l
 .subst hil;rw[h]at hi;cases hi
 .rw[jAa (Ne.symm hil)];exact hi
theorem zOP{k:KOp}(hk:k.grows=true)(h:eff P env U r U' k):bF U U':=by
 cases k<;>simp only[KOp.grows,jAk]at hk
 case brow =>
  simp only[eff]at h;split at h
  .obtain⟨_,rfl⟩:=h;exact bF.append _ _
  .exact h.elim
 case alloc d z=>obtain⟨_,rfl⟩:=h;exact bF.append _ _
 case alr d q z =>
  obtain⟨hq,_,rfl⟩:=h;exact fun l cs hl=>by
   by_cases e:l=q
   .subst e;rw[hq]at hl;cases hl
   .rw[jAa (Ne.symm e)];exact hl
 case box d x =>
  simp only[eff]at h;split at h
  .obtain⟨_,rfl⟩:=h;exact bF.append _ _
  .exact h.elim
 case app d e sz bytes x y =>
  simp only[eff]at h;split at h
  .rename_i m ys _;obtain⟨_,h⟩:=h;generalize ev env x=a at h;cases a<;>simp only[zQV]at h
   case nil=>obtain⟨_,_,rfl⟩:=h;exact bF.append _ _
   case row l n =>
    split at h
    .rename_i hl;obtain⟨_,_,_,rfl⟩:=h;exact zP3 hl
    .exact h.elim
   case fsl n cs =>
    obtain⟨_,h|h⟩:=h
    .obtain⟨_,_,rfl⟩:=h;exact bF.refl _
    .obtain⟨_,_,_,rfl⟩:=h;exact bF.append _ _
  .exact h.elim
theorem mB:∀{U:St} {l:Nat} {o:AObj},(cR U)[l]?=some o->o=.dead\/∃cs,o=.box cs/\U[l]?=some (.box cs)
 |[],l,o,h=>by simp[cR]at h
 |p::U,0,o,h=>by
  cases p<;>simp only[cR,jB3,jA2]at h<;>subst h
  case box cs=>exact .inr ⟨cs,rfl,rfl⟩
  all_goals exact .inl rfl
 |p::U,l+1,o,h=>by
  have:(cR (p::U))[l+1]?=(cR U)[l]?:=by cases p<;>simp[cR]
  rw[this]at h
  simpa using mB h
theorem zP4{n:Nat}{x:A}(h:ldA (cR U) n x=some cs)(hk:bF U τ):ldA τ n x=some cs:=by
 cases x<;>simp only[ldA]at h⊢<;>try(cases h;done)
 case rptr=>exact h
 case ptr l off =>
  split at h
  .rename_i ds hl;rcases mB hl with e|⟨_,e,hU⟩
   .cases e
   .cases e;rw[hk l _ hU];exact h
  .cases h
 case rwp l m off =>
  split at h
  .rename_i hl;rcases mB hl with e|⟨_,e,_⟩<;>cases e
  .cases h
theorem tQ{k:KOp}{p:Prop}(h:zZ env (cR U) k=some (p,r))(hk:bF U τ):zZ env τ k=some (p,r):=by
 cases k<;>simp only[zZ]at h⊢<;>try(first|exact h|(cases h;done))
 case ld d x n agg =>
  simp only[jAj,jA8]at h⊢;obtain⟨r',⟨cs,h1,h2⟩,h3⟩:=h;exact⟨r',⟨cs,zP4 h1 hk,h2⟩,h3⟩
 case addr d x off =>
  split at h<;>try(first|exact h|(cases h;done))
  split at h
  .rename_i hl;rcases mB hl with e|⟨_,e,_⟩<;>cases e
  .cases h
 case idx d x i sz =>
  split at h<;>try(first|exact h|(cases h;done))
  all_goals
   split at h
   .rename_i hl;rcases mB hl with e|⟨_,e,_⟩<;>cases e
   .cases h
 case len d s x =>
  cases s
  .simp only[zZ]at h⊢;split at h<;>try(first|exact h|(cases h;done))
   all_goals
    split at h
    .rename_i hl;rcases mB hl with e|⟨_,e,_⟩<;>cases e
    .cases h
  .exact h
 case rslc d x sz lo hi =>
  split at h<;>try(first|exact h|(cases h;done))
  all_goals
   split at h
   .rename_i hl;rcases mB hl with e|⟨_,e,_⟩<;>cases e
   .cases h
 case slc d x sz lo hi mx =>
  cases mx with
  |none=>exact h
  |some mx=>cases hi with
   |none=>simp[zZ]at h
   |some hi=>exact h
theorem zM3{k:KOp}(h:k.lite=true):k.keeps=true:=by cases k<;>simp_all [KOp.lite,KOp.keeps]
theorem zKs{k:KOp}(h:k.lite=true):k.isCall=false:=by cases k<;>simp_all [KOp.lite,KOp.isCall]
variable{f:Nat}
theorem zSX{k:KOp}{p:Prop}(hl:k.lite=false)(hc:k.isCall=false)(h:zZ env (oR f U) k=some (p,r)) {τ:St}(hs:zDS f k U τ):zZ env τ k=some (p,r):=by
 unfold oR at h;rcases hs with hs|⟨rfl,hs⟩|rfl
 .simp only[cK,hl,hc,jCm,jA7,beq_iff_eq]at hs;obtain⟨⟨rfl,_⟩,_⟩:=hs;simp only[Nat.reduceEqDiff,if_false,if_true]at h;exact tQ (U:=[]) h (fun l cs hl=>by simp at hl)
 .simp only[if_true]at h;exact tQ h hs
 .split at h
  .exact tQ h (bF.refl _)
  .split at h
   .exact tQ (U:=[]) h (fun l cs hl=>by simp at hl)
   .exact h
theorem zGe{K:wK}{k:KOp}(hf8:f≠8/\f≠10)(h:j7 P Qp f K k env U) :
 ∃r U',eff P env U r U' k/\(yL f k=true->U' = U)/\KF f k U U'/\(yL f k=true->∀τ,zDS f k U τ->eff P env τ r τ k)/\zNS P f k env U r U'/\K (env.put k.dst r) U':=by
 by_cases hcall:k.isCall=true
 .cases k<;>simp only[KOp.isCall,jAk]at hcall
  case call d fo args =>
   simp only[j7]at h;simp only[eff,zNS,KOp.isCall,forall_const];generalize ev env fo=fv at h⊢;have mk:∀r U',zDf P fv (args.map (ev env)) U (fun o τ=>o=.ret r/\τ = U')->(U' = U\/((f=3\/f=7)/\bF U U')\/(4<=f/\f≠7/\f≠8/\(1000<=f->f<2000->KA (f-1000) U U')/\(3000<=f->f<4000->KE (f-3000) U U')))->(f=7\/f=11->∃u,U'=u U/\zEn U u/\∀τ:St,τ.length = U.length->dK U τ->zDf P fv (args.map (ev env)) τ (fun o τ'=>o=.ret r/\τ'=u τ))->(f<=2->∀τ,zDS f (.call d fo args) U τ->zDf P fv (args.map (ev env)) τ (fun o τ'=>o=.ret r/\τ' = τ))->K (env.put d r) U' ->
    ∃r U',zDf P fv (args.map (ev env)) U (fun o τ=>o=.ret r/\τ = U')/\(yL f (.call d fo args)=true->U' = U)/\KF f (.call d fo args) U U' /\
     (yL f (.call d fo args)=true->∀τ,zDS f (.call d fo args) U τ->zDf P fv (args.map (ev env)) τ (fun o τ'=>o=.ret r/\τ' = τ))/\(f=7\/f=11->∃u,U'=u U/\zEn U u/\∀τ:St,τ.length = U.length->dK U τ->zDf P fv (args.map (ev env)) τ (fun o τ'=>o=.ret r/\τ'=u τ))/\K (env.put (KOp.call d fo args).dst r) U':=by
    intro r U' h1 h2 h7 h3 h4;have hk:yL f (.call d fo args)=true->f<=2:=fun hk=>by
     rcases jAx 2 f with hlt|hge
     .exfalso;have hb:Nat.ble 3 f=true:=by rw[Nat.ble_eq];exact hlt
      simp[yL,KOp.isCall,KOp.keeps,hb]at hk
     .exact hge
    refine⟨r,U',h1,fun hk'=>?_,⟨fun hg=>?_,fun _=>⟨fun q1 q2=>?_,fun q1 q2=>?_⟩⟩,fun hk'=>h3 (hk hk'),h7,h4⟩
    .rcases h2 with h2|⟨h2,_⟩|h2
     .exact h2
     .have:=hk hk';omega
     .have:=hk hk';omega
    .simp only[p7,KOp.grows,KOp.isCall,jCm,Bool.and_true,jBf,beq_iff_eq]at hg;rcases h2 with h2|⟨_,h2⟩|h2
     .rw[h2];exact bF.refl _
     .exact h2
     .omega
    .rcases h2 with h2|⟨h2,_⟩|h2
     .rw[h2];exact KA.refl _ _
     .omega
     .exact h2.2.2.2.1 q1 q2
    .rcases h2 with h2|⟨h2,_⟩|h2
     .rw[h2];exact KE.refl _ _
     .omega
     .exact h2.2.2.2.2 q1 q2
   unfold zVG at h;split at h
   .rename_i g first cap
    obtain⟨hcb,h⟩:=h;unfold zXK at h;split at h
    .obtain⟨r,h1,h2⟩:=h;refine mk r U ⟨hcb,h1⟩ (.inl rfl) (fun h=>(by omega)) (fun _ τ hs=>?_) h2;rcases hs with hs|⟨hs,_⟩|rfl
     .simp[cK,KOp.lite,KOp.isCall]at hs
     .cases hs
     .exact⟨hcb,h1⟩
    .obtain⟨r,h1,h2⟩:=h;refine mk r U ⟨hcb,h1 U (bF.refl _)⟩ (.inl rfl) (fun h=>(by omega)) (fun _ τ hs=>?_) h2;rcases hs with hs|⟨_,hs⟩|rfl
     .simp[cK,KOp.lite,KOp.isCall]at hs
     .exact⟨hcb,h1 τ hs⟩
     .exact⟨hcb,h1 _ (bF.refl _)⟩
    .exact h.elim
    .obtain⟨r,U',h1,h2,h3⟩:=h;exact mk r U' ⟨hcb,h2⟩ (.inr (.inl ⟨.inl rfl,h1⟩)) (fun h=>(by omega)) (fun hle=>by omega) h3
    .obtain⟨r,own,h1,h2,h3⟩:=h;exact mk r _ ⟨hcb,h2 U rfl (dK.refl _)⟩ (.inr (.inl ⟨.inr rfl,bF.append _ _⟩)) (fun _=>⟨fun τ=>τ++own,rfl,zEn.own h1,fun τ hl hk=>⟨hcb,h2 τ hl hk⟩⟩) (fun hle=>by omega) h3
    .exact(hf8.1 rfl).elim
    .exact(hf8.2 rfl).elim
    .obtain⟨r,u,h1,h2,h3⟩:=h;exact mk r _ ⟨hcb,h2 U rfl (dK.refl _)⟩ (.inr (.inr ⟨by omega,by omega,by omega,fun q1=>by omega,fun q1=>by omega⟩)) (fun _=>⟨u,rfl,h1,fun τ hl hk=>⟨hcb,h2 τ hl hk⟩⟩) (fun hle=>by omega) h3
    .rename_i n0 n1 n2 n3 n7 n8 n10 n11;have hf4:4<=f:=by
      rcases jAx f 4 with hlt|hge
      .exfalso;have:f=0\/f=1\/f=2\/f=3:=by omega
       rcases this with e|e|e|e
       .exact n0 e
       .exact n1 e
       .exact n2 e
       .exact n3 e
      .exact hge
     split at h
     .rename_i hr;obtain⟨r,U',h1,h2,h3⟩:=h;exact mk r U' ⟨hcb,h2⟩ (.inr (.inr ⟨hf4,n7,n8,fun _ _=>h1,fun q1 q2=>by omega⟩)) (fun h=>h.elim (fun e=>(n7 e).elim) fun e=>(n11 e).elim) (fun hle=>by omega) h3
     .rename_i hr;split at h
      .rename_i hr';obtain⟨r,U',h1,h2,h3⟩:=h;exact mk r U' ⟨hcb,h2⟩ (.inr (.inr ⟨hf4,n7,n8,fun q1 q2=>(hr ⟨q1,q2⟩).elim,fun _ _=>h1⟩)) (fun h=>h.elim (fun e=>(n7 e).elim) fun e=>(n11 e).elim) (fun hle=>by omega) h3
      .rename_i hr';obtain⟨r,U',h2,h3⟩:=h;exact mk r U' ⟨hcb,h2⟩ (.inr (.inr ⟨hf4,n7,n8,fun q1 q2=>(hr ⟨q1,q2⟩).elim,fun q1 q2=>(hr' ⟨q1,q2⟩).elim⟩)) (fun h=>h.elim (fun e=>(n7 e).elim) fun e=>(n11 e).elim) (fun hle=>by omega) h3
   .obtain⟨rfl,r,U',h1,h2⟩:=h;exact mk r U' h1 (.inr (.inr ⟨jA _,by omega,by omega,fun q1=>by omega,fun q1=>by omega⟩)) (fun h=>(by omega)) (fun hle=>by omega) h2
   .exact h.elim
 .simp only[jCo]at hcall;have hkf:∀f,yL f k=k.keeps:=fun f=>by simp[yL,hcall]
  have hgf:∀f,p7 f k=k.grows:=fun f=>by simp[p7,hcall]
  by_cases hbz:∃d ng x,k=.isz d ng x
  .obtain⟨d,ng,x,rfl⟩:=hbz;exact h.elim
  by_cases hbs:∃d x sz hx,k=.shr d x sz hx
  .obtain⟨d,x,sz,hx,rfl⟩:=hbs;exact h.elim
  by_cases hbq:∃d e sz bytes x y,k=.apq d e sz bytes x y
  .obtain⟨d,e,sz,bytes,x,y,rfl⟩:=hbq;exact h.elim
  by_cases hbp:∃d x,k=.pan d x
  .obtain⟨d,x,rfl⟩:=hbp;exact h.elim
  by_cases hbm:∃d m xs,k=.mop d m xs
  .obtain⟨d,m,xs,rfl⟩:=hbm;simp only[j7]at h;split at h
   .rename_i r U' h1;exact⟨r,U',h1,fun hk=>(by rw[hkf]at hk;cases hk),KF.of rfl fun hk=>(by rw[hgf]at hk;cases hk),fun hk=>(by rw[hkf]at hk;cases hk),fun _ hc=>(by cases hc),h⟩
   .exact h.elim
  have hd:j7 P Qp f K k env U = if k.keeps&&!k.lite then jU (zZ env (oR f U) k) fun r=>K (env.put k.dst r) U else wpO P dE K k env U:=by cases k<;>first|rfl|(simp[KOp.isCall]at hcall;done)|exact(hbm ⟨_,_,_,rfl⟩).elim|exact(hbz ⟨_,_,_,rfl⟩).elim|exact(hbs ⟨_,_,_,_,rfl⟩).elim|exact(hbq ⟨_,_,_,_,_,_,rfl⟩).elim|exact(hbp ⟨_,_,rfl⟩).elim
  rw[hd]at h;clear hd;have dfl:k.keeps=true->k.lite=false->∀τ,eff P env τ = fun r U' k'=>eff P env τ r U' k':=fun _ _ _=>rfl
  split at h
  .rename_i hc;simp only[jA7,jBw]at hc;have heff:∀τ r U',(U' = τ/\jU (zZ env τ k) fun r'=>r=r')->eff P env τ r U' k:=by intro τ r U' hh;cases k<;>first|exact hh|(simp[KOp.keeps]at hc;done)|(simp[KOp.lite]at hc;done)|(simp[KOp.isCall]at hcall;done)
   cases hp:zZ env (oR f U) k with
   |none=>rw[hp]at h;exact h.elim
   |some x =>
    rw[hp]at h;have hsee:∀τ,zDS f k U τ->eff P env τ x.2 τ k:=fun τ hs=>heff τ _ _ ⟨rfl,by rw[zSX hc.2 hcall hp hs];exact⟨h.1,rfl⟩⟩
    refine⟨x.2,U,hsee U (.inr (.inr rfl)),fun _=>rfl,KF.refl _ _ _,fun _ τ hs=>hsee τ hs,fun _ hc=>(by rw[hcall]at hc;cases hc),h.2⟩
  .rename_i hc;simp only[jA7,jBw,not_and,Bool.not_eq_false]at hc;have go:∀r U',eff P env U r U' k->K (env.put k.dst r) U'->∃r U',eff P env U r U' k/\(yL f k=true->U' = U)/\KF f k U U'/\(yL f k=true->∀τ,zDS f k U τ->eff P env τ r τ k)/\zNS P f k env U r U'/\K (env.put k.dst r) U':=fun r U' h1 h2 =>
    ⟨r,U',h1,fun hk=>zR5 (by rw[<-hkf f];exact hk) hcall h1,KF.of hcall fun hg=>zOP (by rw[<-hgf f];exact hg) h1,fun hk τ _=>(zR6 (hc (by rw[<-hkf f];exact hk)) h1).2 τ,fun _ hc=>(by rw[hcall]at hc;cases hc),h2⟩
   have dflt:(jU (zZ env U k) fun r'=>K (env.put k.dst r') U)->∃r,(jU (zZ env U k) fun r'=>r=r')/\K (env.put k.dst r) U:=by
    intro h;cases hp:zZ env U k with
    |none=>rw[hp]at h;exact h.elim
    |some x=>rw[hp]at h;exact⟨x.2,⟨h.1,rfl⟩,h.2⟩
   cases k
   case call d f args=>simp[KOp.isCall]at hcall
   case brow d e sz n z ps =>
    simp only[wpO]at h;split at h
    .rename_i cs hf;exact go _ _ (by simp[eff,hf]) h
    .exact h.elim
   case isz=>exact(hbz ⟨_,_,_,rfl⟩).elim
   case shr=>exact(hbs ⟨_,_,_,_,rfl⟩).elim
   case apq=>exact(hbq ⟨_,_,_,_,_,_,rfl⟩).elim
   case pan=>exact(hbp ⟨_,_,rfl⟩).elim
   case mop=>exact(hbm ⟨_,_,_,rfl⟩).elim
   case bslice d e sz n z ps =>
    simp only[wpO]at h;split at h
    .rename_i cs hf;exact go _ U ⟨rfl,by rw[hf]⟩ h
    .exact h.elim
   case alloc d z=>exact go _ _ ⟨rfl,rfl⟩ h
   case alr d q z =>
    simp only[wpO]at h;split at h
    .rename_i hq;exact go _ _ ⟨hq,rfl,rfl⟩ h
    .exact h.elim
   case box d x =>
    simp only[wpO]at h;split at h
    .rename_i cs hf;exact go _ _ (by simp[eff,hf]) h
    .exact h.elim
   case st d x v n =>
    simp only[wpO]at h;split at h
    .rename_i cs hf;split at h
     .rename_i hn;split at h
      .rename_i U1 hst;exact go _ U1 (by simp only[eff,hf];exact⟨hn,hst,trivial⟩) h
      .exact h.elim
     .exact h.elim
    .exact h.elim
   case app d e sz bytes x y =>
    simp only[wpO]at h;split at h
    .rename_i m ys hf;obtain⟨h0,h⟩:=h;have mk:∀r U',zQV U e sz bytes m ys r U' (ev env x)->eff P env U r U' (.app d e sz bytes x y):=fun r U' hr=>by simp only[eff,hf];exact⟨h0,hr⟩
     generalize ev env x=ax at h mk;cases ax<;>try(exact h.elim)
     case nil=>exact go _ _ (mk _ _ ⟨h.1,rfl,rfl⟩) h.2
     case row l n =>
      simp only at h;split at h
      .rename_i hl;split at h
       .rename_i hcnd;exact go _ _ (mk _ _ (by simp only[zQV,hl];exact⟨hcnd,h.1,trivial,trivial⟩)) h.2
       .exact h.elim
      .exact h.elim
     case fsl n cs =>
      by_cases hm:m=0
      .exact go _ _ (mk _ _ ⟨h.1,.inl ⟨hm,rfl,rfl⟩⟩) (h.2.1 hm)
      .exact go _ _ (mk _ _ ⟨h.1,.inr ⟨hm,(h.2.2 hm).1,rfl,rfl⟩⟩) (h.2.2 hm).2
    .exact h.elim
   case len d s x =>
    cases s
    .have:=hc rfl;simp[KOp.lite]at this
    .obtain⟨r,h1,h2⟩:=dflt h;exact go r U ⟨rfl,h1⟩ h2
   case ld d x n agg=>have:=hc rfl;simp[KOp.lite]at this
   case addr d x off=>have:=hc rfl;simp[KOp.lite]at this
   case idx d x i sz=>have:=hc rfl;simp[KOp.lite]at this
   case rslc d x sz lo hi=>have:=hc rfl;simp[KOp.lite]at this
   all_goals
    obtain⟨r,h1,h2⟩:=dflt h;exact go r U ⟨rfl,h1⟩ h2
variable{env':Env}{xs:List Operand}
theorem zBy{env:Env}(h:∀t,.tmp t∈xs->env t=env' t):∀x∈xs,ev env x=ev env' x:=by
 intro x hx;cases x with
 |tmp t=>exact h t hx
 |_=>rfl
theorem gZ{env:Env}(h:∀x∈xs,ev env x=ev env' x):xs.map (ev env)=xs.map (ev env'):=jC6 h
theorem mS{env:Env}{n:Nat}{x:Option Operand}(h:∀y∈x.toList,ev env y=ev env' y):jL env n x=jL env' n x:=by
 cases x with
 |none=>rfl
 |some x=>simp only[jL];rw[h x (by simp)]
theorem vU{env:Env}{ps:List (Nat×Nat×Operand)}(h:∀x∈ps.map (fun p=>p.2.2),ev env x=ev env' x) :
 (ps.map fun(o,s,x)=>(o,s,ev env x))=ps.map fun(o,s,x)=>(o,s,ev env' x) :=
 jC6 fun p hp=>by obtain⟨o,s,x⟩:=p;simp only[h x (jAd.2 ⟨(o,s,x),hp,rfl⟩)]
theorem zGI{env:Env}{k:KOp}(h:∀x∈k.reads,ev env x=ev env' x):eff P env U r U' k=eff P env' U r U' k:=by
 cases k<;>simp only[KOp.reads,jA3,jB,or_false,forall_eq_or_imp,forall_eq,jAc]at h<;>simp only[eff,zZ]
 case build d z ps=>rw[vU h]
 case bslice d n z ps=>rw[vU h]
 case brow d e sz n z ps=>rw[vU h]
 case mm d m xs=>rw[gZ h]
 case clo d f first cap=>rw[gZ (fun x hx=>h x (.inl hx)),gZ (fun x hx=>h x (.inr hx))]
 case call d f args=>rw[h.1,gZ h.2]
 case mop d m xs=>rw[gZ h]
 case len d s x=>cases s<;>simp only[zZ,h]
 case rslc d x sz lo hi =>
  have hl:∀n,jL env n lo=jL env' n lo:=fun n=>mS fun y hy=>h.2 y (.inl (.inl hy))
  have hh:∀n,jL env n hi=jL env' n hi:=fun n=>mS fun y hy=>h.2 y (.inl (.inr hy))
  simp only[h.1,hl,hh]
 case slc d x sz lo hi mx =>
  have hl:∀n,jL env n lo=jL env' n lo:=fun n=>mS fun y hy=>h.2 y (.inl (.inl hy))
  have hh:∀n,jL env n hi=jL env' n hi:=fun n=>mS fun y hy=>h.2 y (.inl (.inr hy))
  have hm:∀n,jL env n mx=jL env' n mx:=fun n=>mS fun y hy=>h.2 y (.inr hy)
  cases mx with
  |none=>simp only[zZ,h.1,hl,hh]
  |some mx=>cases hi with
   |none=>rfl
   |some hi=>simp only[zZ,h.1,hl,hh,hm]
 all_goals first|rfl|simp only[h]|simp only[h.1,h.2]|(rw[h.1,h.2.1,h.2.2])
def i7(P:Program)(g:KG)(env:Env) (U:St)(r:A) (U':St):Prop :=
 match g.guard with
 |none=>eff P env U r U' g.op
 |some (s,want)=>match env s with
  | .lit (.bool b)=>(b=want->eff P env U r U' g.op)/\(b≠want->r=.lit undef/\U' = U)
  | .lit (.tuple _)=>r=.lit undef/\U' = U
  |_=>False
variable{g:KG}
theorem zA5{env:Env}(h:∀t∈g.looks,env t=env' t):i7 P g env U r U'=i7 P g env' U r U':=by
 have hq:eff P env U r U' g.op=eff P env' U r U' g.op:=zGI (zBy fun t ht=>h t (jBk _ (jCs.2 ⟨.tmp t,ht,rfl⟩)));unfold i7;cases hg:g.guard with
 |none=>exact hq
 |some sw =>
  obtain⟨s,want⟩:=sw;simp only;rw[h s (List.mem_append_right _ (by simp[hg])),hq]
def lV(P:Program)(f:Nat)(g:KG)(env:Env) (U:St)(r:A) (U':St):Prop :=
 i7 P g env U r U'/\(yL f g.op=true->U' = U)/\KF f g.op U U'/\(cK f g.op=true->∀τ,i7 P g env τ r τ)/\c9 f g.op env
def nA(P:Program)(f:Nat)(g:KG)(env:Env) (U:St)(r:A) (U':St):Prop :=
 lV P f g env U r U'/\(yL f g.op=true->∀τ,zDS f g.op U τ->i7 P g env τ r τ)/\(g.guard=none->zNS P f g.op env U r U')
theorem vQ{k:KOp}(h:cK f k=true):yL f k=true:=by
 simp only[cK,jBf,jA7,jBw]at h;rcases h with h|⟨⟨_,h1⟩,h2⟩
 .simp[yL,zM3 h,zKs h]
 .simp[yL,h1,h2]
theorem zQu{K:wK}(hf8:f≠8/\f≠10)(ht:c9 f g.op env)(h:zTJ P Qp f K g env U):∃r U',nA P f g env U r U'/\K (env.put g.op.dst r) U':=by
 unfold zTJ at h;unfold nA lV i7;cases hg:g.guard with
 |none =>
  simp only[hg]at h;obtain⟨r,U',h1,h2,h3,h4,h6,h5⟩:=zGe hf8 h;exact⟨r,U',⟨⟨h1,h2,h3,fun hl τ=>h4 (vQ hl) τ (.inl hl),ht⟩,h4,fun _=>h6⟩,h5⟩
 |some sw =>
  obtain⟨s,want⟩:=sw;simp only[hg]at h;simp only;generalize env s=gv at h⊢;split at h
  .rename_i b;by_cases hw:b=want
   .subst hw;obtain⟨r,U',h1,h2,h3,h4,h6,h5⟩:=zGe hf8 (h.1 (by simp));exact⟨r,U',⟨⟨⟨fun _=>h1,fun e=>(e rfl).elim⟩,h2,h3,fun hl τ=>⟨fun _=>h4 (vQ hl) τ (.inl hl),fun e=>(e rfl).elim⟩,ht⟩,fun hk τ ht=>⟨fun _=>h4 hk τ ht,fun e=>(e rfl).elim⟩,fun e=>(by cases e)⟩,h5⟩
   .have:=h.2 (by simp[hw]);exact⟨_,U,⟨⟨⟨fun e=>(hw e).elim,fun _=>⟨rfl,rfl⟩⟩,fun _=>rfl,KF.refl _ _ _,fun _ τ=>⟨fun e=>(hw e).elim,fun _=>⟨rfl,trivial⟩⟩,ht⟩,fun _ τ _=>⟨fun e=>(hw e).elim,fun _=>⟨rfl,trivial⟩⟩,fun e=>(by cases e)⟩,this⟩
  .exact⟨_,U,⟨⟨⟨rfl,rfl⟩,fun _=>rfl,KF.refl _ _ _,fun _ τ=>⟨rfl,trivial⟩,ht⟩,fun _ τ _=>⟨rfl,trivial⟩,fun e=>(by cases e)⟩,h⟩
  .exact h.elim
theorem zFQ{k:KOp} {U τ υ:St}(h:zDS f k U τ)(h':zDS f k τ υ):zDS f k U υ:=by
 rcases h with h|⟨hf,h⟩|rfl
 .exact .inl h
 .rcases h' with h'|⟨_,h'⟩|rfl
  .exact .inl h'
  .exact .inr (.inl ⟨hf,h.trans h'⟩)
  .exact .inr (.inl ⟨hf,h⟩)
 .exact h'
theorem zA4{env:Env}(h:∀t∈g.looks,env t=env' t):lV P f g env U r U'=lV P f g env' U r U':=by
 have:∀U U',i7 P g env U r U'=i7 P g env' U r U':=fun U U'=>zA5 h
 have ht:c9 f g.op env=c9 f g.op env':=by
  have hr:=zBy (xs:=g.op.reads) fun t ht=>h t (jBk _ (jCs.2 ⟨.tmp t,ht,rfl⟩))
  unfold c9;split
  .split
   .rename_i x _ _ hx;rw[hr x (by simp[hx,KOp.reads])]
   .rfl
  .split
   .rename_i x _ _ hx;rw[hr x (by simp[hx,KOp.reads])]
   .rename_i x _ _ hx;rw[hr x (by simp[hx,KOp.reads])]
   .rfl
  .split
   .split
    .rename_i x _ _ hx;rw[hr x (by simp[hx,KOp.reads])]
    .rename_i x _ _ hx;rw[hr x (by simp[hx,KOp.reads])]
    .rfl
   .split
    .split
     .rename_i x _ _ hx;rw[hr x (by simp[hx,KOp.reads])]
     .rfl
    .split
     .split
      .rename_i x _ _ hx;rw[hr x (by simp[hx,KOp.reads])]
      .rfl
     .rfl
 unfold lV;simp only[this,ht]
variable{fi fj:Nat}{gi gj:KG}{ri rj:A}{Ui Uj:St}
theorem zMr(hc:tJ fi fj gi.op gj.op=true)(hi:nA P fi gi env U ri Ui)(hj:lV P fj gj env Ui rj Uj) :
 ∃U1,lV P fj gj env U rj U1/\nA P fi gi env U1 ri Uj:=by
 simp only[tJ,jBf,jA7,beq_iff_eq]at hc;rcases hc with hl|⟨hk,hc⟩
 .have:=hj.2.1 (vQ hl);subst this;exact⟨U,⟨hj.2.2.2.1 hl U,fun _=>rfl,KF.refl _ _ _,hj.2.2.2⟩,hi⟩
 .have e:=hi.1.2.1 hk;subst e;have hst:zDS fi gi.op Ui Uj:=by
   rcases hc with (hl|hj')|⟨hf,hg⟩
   .exact .inl hl
   .exact .inr (.inr (hj.2.1 hj'))
   .exact .inr (.inl ⟨hf,hj.2.2.1.1 hg⟩)
  have hij:=hi.2.1 hk Uj hst;exact⟨Uj,hj,⟨hij,fun _=>rfl,KF.refl _ _ _,hi.1.2.2.2⟩,fun _ τ ht=>hi.2.1 hk τ (zFQ hst ht),fun _ hf hcall=>(by
   have hk7:yL fi gi.op=false:=by rcases hf with rfl|rfl<;>simp[yL,hcall]
   rw[hk7]at hk;cases hk)⟩
theorem qAk{x:A}(hx:zKl x) {τ:St}(h:stA U cs x=some τ):∃l ds ds',U[l]?=some (.box ds)/\τ = U.set l (.box ds')/\∀υ:St,υ[l]?=some (.box ds)->stA υ cs x=some (υ.set l (.box ds')):=by
 cases x<;>simp only[zKl]at hx;rename_i l o;simp only[stA]at h;split at h<;>try(cases h;done)
 rename_i ds hl;split at h<;>try(cases h;done)
 rename_i hfit;cases h;exact⟨l,ds,_,hl,rfl,fun υ hu=>by simp only[stA,hu,hfit,if_true]⟩
theorem qAl{x:A}(hx:zKm x) {τ:St}(h:stA U cs x=some τ):∃l o o',(∀ds,o≠AObj.box ds)/\U[l]?=some o/\(∀ds,o'≠AObj.box ds)/\τ = U.set l o'/\∀υ:St,υ[l]?=some o->stA υ cs x=some (υ.set l o'):=by
 cases x<;>simp only[zKm]at hx;rename_i l m off;simp only[stA]at h;split at h<;>try(cases h;done)
 rename_i e sz k ds hl;split at h<;>try(cases h;done)
 rename_i hfit;cases h;exact⟨l,_,_,fun _=>by simp,hl,fun _=>by simp,rfl,fun υ hu=>by simp only[stA,hu,hfit,and_self,if_true]⟩
variable{x v:Operand}{d:wC}
theorem zNd{n:Nat}(h:eff P env U r U' (.st d x v n)):∃cs,cellsOf (ev env v)=some cs/\cs.length=n/\stA U cs (ev env x)=some U'/\r=.lit undef:=by
 simp only[eff]at h;split at h
 .rename_i cs hc;exact⟨cs,hc,h⟩
 .exact h.elim
theorem zR7{n:Nat}(h1:cellsOf (ev env v)=some cs)(h2:cs.length=n)(h3:stA U cs (ev env x)=some U'):eff P env U (.lit undef) U' (.st d x v n):=by simp only[eff,h1];exact⟨h2,h3,trivial⟩
variable{i:Operand}{J:A->Prop}
theorem zUJ{sz l n:Nat}(hx:ev env x=.row l n)(h:∀o,U[l]?=some o->(∀cs,o≠AObj.box cs)->τ[l]?=some o)(hp:jU (zZ env U (.idx d x i sz)) J):jU (zZ env τ (.idx d x i sz)) J:=by
 cases hi:ev env i with
 |lit u =>
  cases u with
  |int k j =>
   simp only[zZ,hx,hi]at hp ⊢;split at hp
   .rename_i ho;rw[h _ ho (fun _=>by simp)];exact hp
   .exact hp.elim
  |_=>simp[zZ,hx,hi,jU]at hp
 |_=>simp[zZ,hx,hi,jU]at hp
theorem zSg(hc:zKY fi fj gi gj=true)(hi:nA P fi gi env U ri Ui)(hj:lV P fj gj env Ui rj Uj) :
 ∃U1,lV P fj gj env U rj U1/\nA P fi gi env U1 ri Uj:=by
 obtain⟨gdi,ki⟩:=gi;obtain⟨gdj,kj⟩:=gj;simp only[zKY,jA7,beq_iff_eq,jD]at hc;obtain⟨⟨⟨⟨rfl,rfl⟩,rfl⟩,rfl⟩,hc⟩:=hc;cases kj<;>try(cases ki<;>simp at hc;done)
 case st dj xj vj nj =>
  obtain⟨hj1,_,_,_,hjt⟩:=hj;simp only[i7]at hj1;obtain⟨cj,c1,c2,c3,rfl⟩:=zNd hj1;obtain⟨l',ds,ds',s1,rfl,s3⟩:=qAk hjt c3;have mkj:∀υ:St,υ[l']?=some (.box ds)->lV P 5 ⟨none,.st dj xj vj nj⟩ env υ (.lit undef) (υ.set l' (.box ds')):=fun υ hu =>
   ⟨(zR7 (P:=P) (d:=dj) c1 c2 (s3 υ hu):eff P env υ (.lit undef) _ (.st dj xj vj nj)),fun h=>by simp[yL,KOp.keeps]at h,KF.of rfl fun h=>by simp[p7,KOp.grows,KOp.isCall]at h,fun h=>by simp[cK,KOp.lite,KOp.keeps]at h,hjt⟩
  cases ki<;>try(simp at hc;done)
  case idx di xi ii szi =>
   obtain⟨⟨hi1,hi2,_,_,hit⟩,hi3,_⟩:=hi;have e:=hi2 (by simp[yL,KOp.keeps,KOp.isCall]);subst e;simp only[c9]at hit;have hne:∀l n,ev env xi=.row l n->∀o,Ui[l]?=some o->(∀cs,o≠AObj.box cs)->l≠l':=fun l n _ o ho hb e=>by subst e;rw[s1]at ho;cases ho;exact hb _ rfl
   have mki:eff P env (Ui.set l' (.box ds')) ri (Ui.set l' (.box ds')) (.idx di xi ii szi):=by simp only[i7]at hi1;refine⟨rfl,?_⟩;have hi1:=hi1.2;generalize hax:ev env xi=ax at hit hne;cases ax<;>simp only[isRow]at hit;rename_i l n;refine zUJ hax (fun o ho hb=>?_) hi1;have hn:=hne l n rfl o ho hb;rw[jAa (Ne.symm hn)];exact ho
   refine⟨_,mkj Ui s1,⟨⟨mki,fun _=>rfl,KF.refl _ _ _,fun h=>by simp[cK,KOp.lite]at h,hit⟩,fun _ τ hs=>?_,fun _ _ h=>by simp[KOp.isCall]at h⟩⟩;rcases hs with hs|⟨hs,_⟩|rfl
   .simp[cK,KOp.lite]at hs
   .cases hs
   .exact mki
  case st di xi vi ni =>
   obtain⟨⟨hi1,_,_,_,hit⟩,_⟩:=hi;simp only[i7]at hi1;obtain⟨ci,d1,d2,d3,rfl⟩:=zNd hi1;obtain⟨l,o,o',t0,t1,t2,rfl,t3⟩:=qAl hit d3;have hlt:l < U.length:=(jA4.1 t1).1;have hne:l≠l':=fun e=>by subst e;rw[jAm hlt]at s1;cases s1;exact t2 _ rfl
   have s1' : U[l']?=some (.box ds):=by rw[jAa hne]at s1;exact s1
   refine⟨_,mkj U s1',⟨⟨?_,fun h=>by simp[yL,KOp.keeps]at h,KF.of rfl fun h=>by simp[p7,KOp.grows,KOp.isCall]at h,fun h=>by simp[cK,KOp.lite,KOp.keeps]at h,hit⟩,fun h=>by simp[yL,KOp.keeps]at h,fun _ _ h=>by simp[KOp.isCall]at h⟩⟩;have:=t3 (U.set l' (.box ds')) (by rw[jAa (Ne.symm hne)];exact t1);rw[List.set_comm _ _ (Ne.symm hne)]at this;exact(zR7 (P:=P) (d:=di) d1 d2 this:eff P env _ (.lit undef) _ (.st di xi vi ni))
theorem zIN(h1:1000<=f)(h2:f<2000){n:Nat}:c9 f (.st d x v n) env↔pI (f-1000) (ev env x):=by
 unfold c9;split
 .omega
 .omega
 .rw[if_neg (by omega),if_neg (by omega),if_pos h1]
theorem zLg(h1:4000<=f){n:Nat}{g:Bool}:c9 f (.ld d x n g) env↔fW (f-4000) (ev env x):=by
 unfold c9;split
 .omega
 .omega
 .rw[if_pos h1]
theorem zHI(h1:4000<=f){n:Nat}:c9 f (.idx d x i n) env↔isRow (ev env x):=by
 unfold c9;split
 .omega
 .omega
 .rw[if_pos h1]
theorem x7(h1:2000<=f)(h2:f<4000){n:Nat}{g:Bool}:c9 f (.ld d x n g) env↔fW (f-2000) (ev env x):=by
 unfold c9;split
 .omega
 .omega
 .rw[if_neg (by omega),if_pos h1]
theorem qAj{l o:Nat} {τ:St}(h:stA U cs (.ptr l o)=some τ):∃ds ds',U[l]?=some (AObj.box ds)/\τ = U.set l (.box ds')/\∀υ:St,υ[l]?=some (.box ds)->stA υ cs (.ptr l o)=some (υ.set l (.box ds')):=by
 simp only[stA]at h;split at h<;>try(cases h;done)
 rename_i ds hl;split at h<;>try(cases h;done)
 rename_i hfit;cases h;exact⟨ds,_,hl,rfl,fun υ hu=>by simp only[stA,hu,hfit,if_true]⟩
theorem zCU{n:Nat}{g:Bool}(h:ldA τ n (ev env x)=ldA U n (ev env x)):zZ env τ (.ld d x n g)=zZ env U (.ld d x n g):=by simp only[zZ,h]
theorem zMs(hc:zOr fi fj gi gj=true)(hi:nA P fi gi env U ri Ui)(hj:lV P fj gj env Ui rj Uj) :
 ∃U1,lV P fj gj env U rj U1/\nA P fi gi env U1 ri Uj:=by
 obtain⟨gdi,ki⟩:=gi;obtain⟨gdj,kj⟩:=gj;simp only[zOr,jA7,beq_iff_eq,jD,Nat.ble_eq,Nat.blt_eq]at hc;obtain⟨⟨⟨⟨⟨hfi,hf1⟩,hf2⟩,rfl⟩,rfl⟩,hc⟩:=hc;cases ki<;>try(simp at hc;done)
 case ld di xi ni agi =>
 cases kj<;>try(simp at hc;done)
 case st dj xj vj nj =>
  have hj0:=hj;obtain⟨hj1,q1,q2,q3,hjt⟩:=hj;obtain⟨⟨hi1,hi2,hi2',hi4,hit⟩,hi3,_⟩:=hi;have e:=hi2 (by simp[yL,KOp.keeps,KOp.isCall]);subst e;have hjt':=(zIN hf1 hf2).1 hjt;have hit':=(x7 (by omega) (by omega)).1 hit;simp only[i7]at hj1;obtain⟨cj,c1,c2,c3,rfl⟩:=zNd hj1;have key:∀n,ldA Uj n (ev env xi)=ldA Ui n (ev env xi):=by
   generalize ev env xj=aj at hjt' c3;generalize ev env xi=ai at hit';intro n;cases aj<;>simp only[pI]at hjt';rename_i lj oj;obtain⟨ds,ds',s1,rfl,_⟩:=qAj c3;cases ai<;>simp only[fW]at hit'
   .rename_i li oi;have hne:lj≠li:=by omega
    simp only[ldA,jAa hne]
   .rfl
  have mk:eff P env Uj ri Uj (.ld di xi ni agi):=by simp only[i7]at hi1;refine⟨rfl,?_⟩;have h2:=hi1.2;rw[zCU (key ni)];exact h2
  have hlF:cK fi (.ld di xi ni agi)=false:=by simp only[cK,KOp.lite,jCm,jCp,beq_eq_false_iff_ne];exact .inl (.inl (by omega))
  refine⟨Uj,hj0,⟨⟨mk,fun _=>rfl,KF.refl _ _ _,fun h=>(by rw[hlF]at h;cases h),hit⟩,fun _ τ hs=>?_,fun _ _ h=>by simp[KOp.isCall]at h⟩⟩;rcases hs with hs|⟨hs,_⟩|rfl
  .rw[hlF]at hs;cases hs
  .omega
  .exact mk
 case call dj fo args =>
  have hj0:=hj;obtain⟨hj1,q1,q2,q3,hjt⟩:=hj;obtain⟨⟨hi1,hi2,hi2',hi4,hit⟩,hi3,_⟩:=hi;have e:=hi2 (by simp[yL,KOp.keeps,KOp.isCall]);subst e;have hit':=(x7 (by omega) (by omega)).1 hit;obtain⟨c,hcj⟩:∃c,fj=c+1000:=⟨fj-1000,by omega⟩;have hka:KA c Ui Uj:=by
   have:=(q2.2 rfl).1 hf1 hf2
   rwa[hcj,Nat.add_sub_cancel]at this
  have hic:fi-2000=c:=by omega
  rw[hic]at hit';simp only[i7]at hi1;have h2:=hi1.2;have key:ldA Uj ni (ev env xi)=ldA Ui ni (ev env xi):=by
   simp only[zZ]at h2;generalize ev env xi=ai at hit' h2 ⊢;cases ai<;>simp only[fW]at hit'
   .rename_i li oi;simp only[ldA]at h2 ⊢;cases hb : Ui[li]? with
    |none=>rw[hb]at h2;simp[jU]at h2
    |some o =>
     rw[hb]at h2;cases o<;>first|(simp[jU]at h2;done)|skip
     rename_i cs;rw[hka li cs hit' hb]
   .rfl
  have mk:eff P env Uj ri Uj (.ld di xi ni agi):=by refine⟨rfl,?_⟩;rw[zCU key];exact h2
  have hlF:cK fi (.ld di xi ni agi)=false:=by simp only[cK,KOp.lite,jCm,jCp,beq_eq_false_iff_ne];exact .inl (.inl (by omega))
  refine⟨Uj,hj0,⟨⟨mk,fun _=>rfl,KF.refl _ _ _,fun h=>(by rw[hlF]at h;cases h),hit⟩,fun _ τ hs=>?_,fun _ _ h=>by simp[KOp.isCall]at h⟩⟩;rcases hs with hs|⟨hs,_⟩|rfl
  .rw[hlF]at hs;cases hs
  .omega
  .exact mk
theorem zZp{sz l n:Nat}(hx:ev env x=.row l n)(h:zGh U τ)(hp:jU (zZ env U (.idx d x i sz)) J):jU (zZ env τ (.idx d x i sz)) J:=by
 cases hi:ev env i with
 |lit u =>
  cases u with
  |int k j =>
   simp only[zZ,hx,hi]at hp ⊢;split at hp
   .rename_i ho;obtain⟨fz',cs',h'⟩:=h _ _ _ _ _ _ ho;rw[h'];exact hp
   .exact hp.elim
  |_=>simp[zZ,hx,hi,jU]at hp
 |_=>simp[zZ,hx,hi,jU]at hp
theorem zTU{off:Nat}(h:zGh U τ)(hp:jU (zZ env U (.addr d x off)) J):jU (zZ env τ (.addr d x off)) J:=by
 simp only[zZ]at hp ⊢;cases hx:ev env x with
 |rwp l n o =>
  simp only[hx]at hp ⊢;cases ho : U[l]? with
  |none=>rw[ho]at hp;exact hp.elim
  |some b =>
   rw[ho]at hp;cases b<;>first|(exact hp.elim)|skip
   obtain⟨fz',cs',h'⟩:=h _ _ _ _ _ _ ho;rw[h'];exact hp
 |_=>simp only[hx]at hp ⊢;exact hp
theorem zPs(hc:zV2 fi fj gi gj=true)(hi:nA P fi gi env U ri Ui)(hj:lV P fj gj env Ui rj Uj) :
 ∃U1,lV P fj gj env U rj U1/\nA P fi gi env U1 ri Uj:=by
 obtain⟨gdi,ki⟩:=gi;obtain⟨gdj,kj⟩:=gj;simp only[zV2,jA7,beq_iff_eq,jD,Nat.ble_eq,Nat.blt_eq]at hc;obtain⟨⟨⟨⟨⟨hfi,hf1⟩,hf2⟩,rfl⟩,rfl⟩,hc⟩:=hc;have hj0:=hj;obtain⟨hj1,q1,q2,q3,hjt⟩:=hj;obtain⟨⟨hi1,hi2,hi2',hi4,hit⟩,hi3,hi5⟩:=hi;cases ki<;>try(simp at hc;done)
 case ld di xi ni agi =>
  cases kj<;>try(simp at hc;done)
  case call dj fo args =>
   have e:=hi2 (by simp[yL,KOp.keeps,KOp.isCall]);subst e;have hit':=(zLg (by omega)).1 hit;obtain⟨c,hcj⟩:∃c,fj=c+3000:=⟨fj-3000,by omega⟩;have hka:KE c Ui Uj:=by
    have:=(q2.2 rfl).2 hf1 hf2
    rwa[hcj,Nat.add_sub_cancel]at this
   have hic:fi-4000=c:=by omega
   rw[hic]at hit';simp only[i7]at hi1;have h2:=hi1.2;have key:ldA Uj ni (ev env xi)=ldA Ui ni (ev env xi):=by
    simp only[zZ]at h2;generalize ev env xi=ai at hit' h2 ⊢;cases ai<;>simp only[fW]at hit'
    .rename_i li oi;simp only[ldA]at h2 ⊢;cases hb : Ui[li]? with
     |none=>rw[hb]at h2;simp[jU]at h2
     |some o =>
      rw[hb]at h2;cases o<;>first|(simp[jU]at h2;done)|skip
      rename_i cs;rw[hka.1 li cs hit' hb]
    .rfl
   have mk:eff P env Uj ri Uj (.ld di xi ni agi):=by refine⟨rfl,?_⟩;rw[zCU key];exact h2
   have hlF:cK fi (.ld di xi ni agi)=false:=by simp only[cK,KOp.lite,jCm,jCp,beq_eq_false_iff_ne];exact .inl (.inl (by omega))
   refine⟨Uj,hj0,⟨⟨mk,fun _=>rfl,KF.refl _ _ _,fun h=>(by rw[hlF]at h;cases h),hit⟩,fun _ τ hs=>?_,fun _ _ h=>by simp[KOp.isCall]at h⟩⟩;rcases hs with hs|⟨hs,_⟩|rfl
   .rw[hlF]at hs;cases hs
   .omega
   .exact mk
 case idx di xi ii szi =>
  cases kj<;>try(simp at hc;done)
  case call dj fo args =>
   have e:=hi2 (by simp[yL,KOp.keeps,KOp.isCall]);subst e;have hit':=(zHI (by omega)).1 hit;have hka:zGh Ui Uj:=((q2.2 rfl).2 hf1 hf2).2;simp only[i7]at hi1;have h2:=hi1.2;have mk:eff P env Uj ri Uj (.idx di xi ii szi):=by refine⟨rfl,?_⟩;generalize hax:ev env xi=ax at hit';cases ax<;>simp only[isRow]at hit';exact zZp hax hka h2
   have hlF:cK fi (.idx di xi ii szi)=false:=by simp only[cK,KOp.lite,jCm,jCp,beq_eq_false_iff_ne];exact .inl (.inl (by omega))
   refine⟨Uj,hj0,⟨⟨mk,fun _=>rfl,KF.refl _ _ _,fun h=>(by rw[hlF]at h;cases h),hit⟩,fun _ τ hs=>?_,fun _ _ h=>by simp[KOp.isCall]at h⟩⟩;rcases hs with hs|⟨hs,_⟩|rfl
   .rw[hlF]at hs;cases hs
   .omega
   .exact mk
 case addr di xi oi =>
  cases kj<;>try(simp at hc;done)
  case call dj fo args =>
   have e:=hi2 (by simp[yL,KOp.keeps,KOp.isCall]);subst e;have hka:zGh Ui Uj:=((q2.2 rfl).2 hf1 hf2).2;simp only[i7]at hi1;have h2:=hi1.2;have mk:eff P env Uj ri Uj (.addr di xi oi):=by exact⟨rfl,zTU hka h2⟩
   have hlF:cK fi (.addr di xi oi)=false:=by simp only[cK,KOp.lite,jCm,jCp,beq_eq_false_iff_ne];exact .inl (.inl (by omega))
   refine⟨Uj,hj0,⟨⟨mk,fun _=>rfl,KF.refl _ _ _,fun h=>(by rw[hlF]at h;cases h),hit⟩,fun _ τ hs=>?_,fun _ _ h=>by simp[KOp.isCall]at h⟩⟩;rcases hs with hs|⟨hs,_⟩|rfl
   .rw[hlF]at hs;cases hs
   .omega
   .exact mk
theorem zPp(hc:zKW fi fj gi gj=true)(hi:nA P fi gi env U ri Ui)(hj:lV P fj gj env Ui rj Uj) :
 ∃U1,lV P fj gj env U rj U1/\nA P fi gi env U1 ri Uj:=by
 simp only[zKW,jBf]at hc;rcases hc with hc|hc
 .exact zMs hc hi hj
 .exact zPs hc hi hj
theorem zPt(hc:zKZ gi gj=true)(hi:nA P fi gi env U ri Ui)(hj:lV P fj gj env Ui rj Uj) :
 ∃U1,lV P fj gj env U rj U1/\nA P fi gi env U1 ri Uj:=by
 obtain⟨gdi,ki⟩:=gi;obtain⟨gdj,kj⟩:=gj;simp only[zKZ,jA7,jD]at hc;obtain⟨⟨rfl,rfl⟩,hc⟩:=hc;cases ki<;>try(simp at hc;done)
 case alr di qi zi =>
 cases kj<;>try(simp at hc;done)
 case alr dj qj zj =>
  have hne:qi≠qj:=by simpa using hc
  obtain⟨hj1,p1,p2,p3,hjt⟩:=hj;obtain⟨⟨hi1,o1,o2,o3,hit⟩,hi3,_⟩:=hi;simp only[i7,eff]at hi1 hj1;obtain⟨a1,rfl,rfl⟩:=hi1;obtain⟨b1,rfl,rfl⟩:=hj1;have b1' : U[qj]?=some .rsv:=by rw[jAa hne]at b1;exact b1
  have kp:∀(υ:St) q (o:AObj),υ[q]?=some .rsv->bF υ (υ.set q o):=fun υ q o hq l cs hl=>by
   by_cases e:l=q
   .subst e;rw[hq]at hl;cases hl
   .rw[jAa (Ne.symm e)];exact hl
  refine⟨U.set qj (AObj.box (zj.map jN)),⟨?_,fun h=>by simp[yL,KOp.keeps]at h,KF.of rfl fun _=>kp _ _ _ b1',fun h=>by simp[cK,KOp.lite,KOp.keeps]at h,hjt⟩,⟨?_,fun h=>by simp[yL,KOp.keeps]at h,KF.of rfl fun _=>?_,fun h=>by simp[cK,KOp.lite,KOp.keeps]at h,hit⟩,fun h=>by simp[yL,KOp.keeps]at h,fun _ _ h=>by simp[KOp.isCall]at h⟩
  .simp only[i7,eff];exact⟨b1',trivial,trivial⟩
  .simp only[i7,eff];exact⟨by rw[jAa (Ne.symm hne)];exact a1,trivial,List.set_comm _ _ hne⟩
  .rw[List.set_comm _ _ hne];exact kp _ _ _ (by rw[jAa (Ne.symm hne)];exact a1)
theorem zMt(hc:zOs fi gi gj=true)(hi:nA P fi gi env U ri Ui)(hj:lV P fj gj env Ui rj Uj) :
 ∃U1,lV P fj gj env U rj U1/\nA P fi gi env U1 ri Uj:=by
 obtain⟨gdi,ki⟩:=gi;obtain⟨gdj,kj⟩:=gj;simp only[zOs,jA7,jBf,beq_iff_eq,jD]at hc;obtain⟨⟨⟨hf,rfl⟩,rfl⟩,hc⟩:=hc;cases ki<;>try(simp at hc;done)
 case call di fo args =>
 cases kj<;>try(simp at hc;done)
 case alr dj qj zj =>
  obtain⟨hj1,p1,p2,p3,hjt⟩:=hj;obtain⟨⟨hi1,o1,o2,o3,hit⟩,_,hi3⟩:=hi;obtain⟨u,rfl,hu,hall⟩:=hi3 rfl hf rfl;simp only[i7,eff]at hj1;obtain⟨b1,rfl,rfl⟩:=hj1;have b1' : U[qj]?=some .rsv:=hu.1 _ b1;have kp:dK U (U.set qj (AObj.box (zj.map jN))):=fun l o hl hn=>by
   by_cases e:l=qj
   .subst e;rw[b1']at hl;cases hl;exact(hn rfl).elim
   .rw[jAa (Ne.symm e)];exact hl
  have hset:=hu.2 U qj (AObj.box (zj.map jN)) rfl (dK.refl _) b1';rw[<-hset];have hnew:=hall (U.set qj (AObj.box (zj.map jN))) (by simp) kp;have back:∀q:Nat,(U.set qj (AObj.box (zj.map jN)))[q]?=some AObj.rsv->U[q]?=some AObj.rsv:=fun q hq=>by
   by_cases e:q=qj
   .subst e;exact b1'
   .rw[jAa (Ne.symm e)]at hq;exact hq
  have hkF:yL fi (.call di fo args)=false:=by rcases hf with rfl|rfl<;>simp[yL,KOp.isCall]
  have hlF:cK fi (.call di fo args)=false:=by simp[cK,KOp.lite,KOp.isCall]
  refine⟨U.set qj (AObj.box (zj.map jN)),⟨?_,fun h=>by simp[yL,KOp.keeps]at h,KF.of rfl fun _=>kp.keeps,fun h=>by simp[cK,KOp.lite,KOp.keeps]at h,hjt⟩,
   ⟨⟨?_,fun h=>(by rw[hkF]at h;cases h),⟨fun hg=>?_,fun _=>⟨fun q1 q2=>by omega,fun q1 q2=>by omega⟩⟩,fun h=>(by rw[hlF]at h;cases h),hit⟩,fun h=>(by rw[hkF]at h;cases h),fun _ _ _=>⟨u,rfl,⟨fun q hq=>?_,fun τ q o hl hk hq=>?_⟩,fun τ hl hk=>hall τ (by simpa using hl) (kp.trans hk)⟩⟩⟩
  .simp only[i7,eff];exact⟨b1',trivial,trivial⟩
  .simp only[i7];exact hnew
  .have h0:=o2.1 hg;rw[hset];intro l cs hl;by_cases e:l=qj
   .subst e;have hlt:l<(u U).length:=by
     rcases jAx l (u U).length with h|h
     .exact h
     .rw[jBd h]at b1;cases b1
    have hlt2:l < U.length:=by
     rcases jAx l U.length with h|h
     .exact h
     .rw[jBd h]at b1';cases b1'
    rw[jAm hlt2]at hl;rw[jAm hlt];exact hl
   .rw[jAa (Ne.symm e)]at hl ⊢;exact h0 l cs hl
  .rw[hset]at hq;by_cases e:q=qj
   .subst e;have hlt:q<(u U).length:=by
     rcases jAx q (u U).length with h|h
     .exact h
     .rw[jBd h]at b1;cases b1
    rw[jAm hlt]at hq;cases hq
   .rw[jAa (Ne.symm e)]at hq;have:=hu.1 q hq;rw[jAa (Ne.symm e)];exact this
  .exact hu.2 τ q o (by simpa using hl) (kp.trans hk) (back q hq)
def KOp.looksL:KOp->Bool
 | .len _ s _=>!s
 | .idx .. | .ld .. | .addr ..=>true
 |_=>false
theorem zSW{k:KOp}{p:Prop}{q:Nat}{zs:wE}(hk:k.looksL=true)(hq : U[q]?=some .rsv)(h:zZ env U k=some (p,r)):zZ env (U.set q (AObj.box zs)) k=some (p,r):=by
 have get:∀l:Nat,l≠q->(U.set q (AObj.box zs))[l]? = U[l]?:=fun l hl=>jAa (Ne.symm hl)
 cases k<;>simp only[KOp.looksL]at hk<;>try(cases hk;done)
 case len d s x =>
  cases s<;>try(cases hk;done)
  simp only[zZ]at h⊢;generalize ev env x=a at h⊢;cases a<;>first
   |exact h
   |(cases h;done)
   |(rename_i l n;by_cases hl:l=q;(subst hl;simp only[hq]at h;cases h);(simp only[get l hl];exact h))
   |(rename_i l n o k c;by_cases hl:l=q;(subst hl;simp only[hq]at h;cases h);(simp only[get l hl];exact h))
 case idx d x i sz =>
  simp only[zZ]at h⊢;generalize ev env x=a at h⊢;generalize ev env i=b at h⊢;cases b<;>first
   |(cases a<;>first|exact h|(cases h;done))
   |(rename_i v;cases v<;>first
    |(cases a<;>first|exact h|(cases h;done))
    |(cases a<;>first
     |exact h
     |(cases h;done)
     |(rename_i l n;by_cases hl:l=q;(subst hl;simp only[hq]at h;cases h);(simp only[get l hl];exact h))
     |(rename_i l n o k c;by_cases hl:l=q;(subst hl;simp only[hq]at h;cases h);(simp only[get l hl];exact h))))
 case addr d x off =>
  simp only[zZ]at h⊢;generalize ev env x=a at h⊢;cases a<;>first
   |exact h
   |(cases h;done)
   |(rename_i l n o;by_cases hl:l=q;(subst hl;simp only[hq]at h;cases h);(simp only[get l hl];exact h))
 case ld d x n agg =>
  simp only[zZ]at h⊢;have key:∀cs,ldA U n (ev env x)=some cs->ldA (U.set q (AObj.box zs)) n (ev env x)=some cs:=by
   intro cs hcs;unfold ldA at hcs ⊢;generalize ev env x=a at hcs ⊢;cases a<;>first
    |exact hcs
    |(cases hcs;done)
    |(rename_i l o;by_cases hl:l=q;(subst hl;simp only[hq]at hcs;cases hcs);(simp only[get l hl];exact hcs))
    |(rename_i l m o;by_cases hl:l=q;(subst hl;simp only[hq]at hcs;cases hcs);(simp only[get l hl];exact hcs))
  cases hld:ldA U n (ev env x)with
  |none=>rw[hld]at h;cases h
  |some cs=>rw[key cs hld];rw[hld]at h;exact h
theorem zPr(hc:zV1 gi gj=true)(hi:nA P fi gi env U ri Ui)(hj:lV P fj gj env Ui rj Uj) :
 ∃U1,lV P fj gj env U rj U1/\nA P fi gi env U1 ri Uj:=by
 obtain⟨gdi,ki⟩:=gi;obtain⟨gdj,kj⟩:=gj;simp only[zV1,jA7,jD]at hc;obtain⟨⟨rfl,rfl⟩,hc⟩:=hc;have hki:ki.looksL=true/\∃d q z,kj=.alr d q z:=by
  split at hc
  all_goals first|exact⟨rfl,_,_,_,rfl⟩|(cases hc;done)
 clear hc;obtain⟨hki,dj,qj,zj,rfl⟩:=hki;have hkeep:ki.keeps=true/\ki.isCall=false/\ki.grows=false:=by cases ki<;>first|(cases hki;done)|(rename_i s x;cases s<;>first|exact⟨rfl,rfl,rfl⟩|(cases hki;done))|exact⟨rfl,rfl,rfl⟩
 have hkf:yL fi ki=true:=by simp[yL,hkeep.1,hkeep.2.1]
 obtain⟨hj1,p1,p2,p3,hjt⟩:=hj;obtain⟨⟨hi1,o1,o2,o3,hit⟩,hi2,hi3⟩:=hi;have hU:Ui = U:=o1 hkf;subst hU;simp only[i7,eff]at hj1;obtain⟨b1,rfl,rfl⟩:=hj1;have kp:bF Ui (Ui.set qj (AObj.box (zj.map jN))):=fun l cs hl=>by
  by_cases e:l=qj
  .subst e;rw[b1]at hl;cases hl
  .rw[jAa (Ne.symm e)];exact hl
 have hnew:i7 P ⟨none,ki⟩ env (Ui.set qj (AObj.box (zj.map jN))) ri (Ui.set qj (AObj.box (zj.map jN))):=by
  simp only[i7]at hi1 ⊢;have hd:∀τ,eff P env τ ri τ ki↔jU (zZ env τ ki) fun r'=>ri=r':=by intro τ;cases ki<;>first|(cases hki;done)|(simp only[eff,true_and])
  rw[hd]at hi1 ⊢;cases hp:zZ env Ui ki with
  |none=>rw[hp]at hi1;exact hi1.elim
  |some x =>
   obtain⟨pp,rr⟩:=x;rw[zSW hki b1 hp];rw[hp]at hi1;exact hi1
 refine⟨Ui.set qj (AObj.box (zj.map jN)),⟨?_,fun h=>by simp[yL,KOp.keeps]at h,KF.of rfl fun _=>kp,fun h=>by simp[cK,KOp.lite,KOp.keeps]at h,hjt⟩,
  ⟨⟨hnew,fun _=>rfl,KF.refl _ _ _,o3,hit⟩,fun _ τ hs=>?_,fun _ h7 hcl=>by rw[hkeep.2.1]at hcl;cases hcl⟩⟩
 .simp only[i7,eff];exact⟨b1,trivial,trivial⟩
 .rcases hs with h|⟨h,hk⟩|rfl
  .exact o3 h τ
  .exact hi2 hkf τ (.inr (.inl ⟨h,fun l cs hl=>hk l cs (kp l cs hl)⟩))
  .exact hnew
theorem zPq(hc:zKX fi gi gj=true)(hi:nA P fi gi env U ri Ui)(hj:lV P fj gj env Ui rj Uj) :
 ∃U1,lV P fj gj env U rj U1/\nA P fi gi env U1 ri Uj:=by
 simp only[zKX,jBf]at hc;rcases hc with hc|hc
 .exact zMt hc hi hj
 .exact zPr hc hi hj
theorem zPo(hc:(tJ fi fj gi.op gj.op||(zKY fi fj gi gj||(zKW fi fj gi gj||(zKZ gi gj||zKX fi gi gj))))=true)(hi:nA P fi gi env U ri Ui)(hj:lV P fj gj env Ui rj Uj) :
 ∃U1,lV P fj gj env U rj U1/\nA P fi gi env U1 ri Uj:=by
 simp only[jBf]at hc;rcases hc with hc|hc|hc|hc|hc
 .exact zMr hc hi hj
 .exact zSg hc hi hj
 .exact zPp hc hi hj
 .exact zPt hc hi hj
 .exact zPq hc hi hj
theorem Env.put_ne{x:A}{t:Nat}(h:∀y,d=some y->t≠y):env.put d x t=env t:=by
 cases d with
 |none=>rfl
 |some y=>simp[Env.put,h y rfl]
theorem Env.put_comm{d':wC}{x y:A}(h:∀z,d=some z->d'≠some z):(env.put d x).put d' y=(env.put d' y).put d x:=by
 cases d with
 |none=>rfl
 |some z =>
  cases d' with
  |none=>rfl
  |some z' =>
   have hne:z'≠z:=fun e=>h z rfl (by rw[e])
   funext t;simp only[Env.put];by_cases h1:t=z'
   .subst h1;simp[hne]
   .simp[h1]
def zEy(P:Program)(Qp:Value->St->Prop)(f:Nat)(fv:A)(args:wE) (U:St)(R:A->St->Prop):Prop:=match fv with
 | .clo g first cap=>zC P g=true/\aG P g (first++args++cap) U fun o τ=>(∃r,o=.ret r/\(f=8->bF U τ)/\R r τ)\/∃v,o=.pan v/\Qp v τ
 |_=>False
theorem zLE{fv:A}{args:wE}{R R':A->St->Prop}(h:zEy P Qp f fv args U R)(hr:∀r τ,(f=8->bF U τ)->R r τ->R' r τ):zEy P Qp f fv args U R':=by
 unfold zEy at h⊢;split at h
 .refine⟨h.1,fun H L w vs h1 h2=>(h.2 H L w vs h1 h2).mono fun e w' hh=>?_⟩;obtain⟨o,U',H',L',g1,g2,hh⟩:=hh;refine⟨o,U',H',L',g1,g2,?_⟩;rcases hh with ⟨r,g3,g4,g5⟩|hh
  .exact .inl ⟨r,g3,g4,hr r U' g4 g5⟩
  .exact .inr hh
 .exact h.elim
def aOp(P:Program)(Qp:Value->St->Prop)(all:List (Nat×Nat×KG))(i:Nat)(K:wK)(env:Env) (U:St):Prop :=
 (∃f g r U',(i,f,g)∈all/\lV P f g env U r U'/\K (env.put g.op.dst r) U') \/
 ∃f d fo args,(f=8\/f=10)/\(i,f,(⟨none,.call d fo args⟩:KG))∈all/\zEy P Qp f (ev env fo) (args.map (ev env)) U fun r τ=>K (env.put d r) τ
def uC(P:Program)(Qp:Value->St->Prop)(ops:Array Oper)(all:List (Nat×Nat×KG))(Q:wK):Nat->Array Bool->wK
 | 0,listed,env,U=>Region.ready .any ops listed=[]/\Q env U
 |fuel+1,listed,env,U=>(Region.ready .any ops listed=[]->Q env U)/\∀i∈Region.ready .any ops listed,aOp P Qp all i (uC P Qp ops all Q fuel (listed.setIfInBounds i true)) env U
structure Fits(ops:Array Oper)(all:List (Nat×Nat×KG)):Prop where
 dst:∀(i f:Nat) o g,ops[i]?=some o->(i,f,g)∈all->g.op.dst=o.dst
 looks:∀(i f:Nat) o g,ops[i]?=some o->(i,f,g)∈all->∀t∈g.looks,t∈o.looksAt ops
theorem zJU{listed:Array Bool}{n:Nat}(h:listed.getD n true=false)(h':listed.getD n false=true):False:=by
 rcases jAx n listed.size with hn|hn
 .simp[hn]at h h';rw[h]at h';cases h'
 .simp[Array.getElem?_eq_none hn]at h'
theorem qF1{fo:Operand}{args:List Operand}(hfj:fj=8\/fj=10)(h:(tJ fi fj gi.op (.call d fo args)||(zKY fi fj gi ⟨none,.call d fo args⟩||(zKW fi fj gi ⟨none,.call d fo args⟩||(zKZ gi ⟨none,.call d fo args⟩||zKX fi gi ⟨none,.call d fo args⟩))))=true) :
 yL fi gi.op=true/\(cK fi gi.op=true\/(fi=1/\fj=8)):=by
 have e1:zKY fi fj gi ⟨none,.call d fo args⟩=false:=by simp[zKY]
 have e2:zKW fi fj gi ⟨none,.call d fo args⟩=false:=by
  have a1:Nat.ble 1000 fj=false:=by rcases hfj with rfl|rfl<;>rfl
  have a2:Nat.ble 3000 fj=false:=by rcases hfj with rfl|rfl<;>rfl
  simp[zKW,zOr,zV2,a1,a2]
 have e3:zKZ gi ⟨none,.call d fo args⟩=false:=by unfold zKZ;cases gi.op<;>simp
 have e4:zKX fi gi ⟨none,.call d fo args⟩=false:=by unfold zKX zOs zV1;cases gi.op<;>simp
 have e5:cK fj (.call d fo args)=false:=by rcases hfj with rfl|rfl<;>simp[cK,KOp.lite]
 have e6:yL fj (.call d fo args)=false:=by
  have:Nat.ble 3 fj=true:=by rcases hfj with rfl|rfl<;>rfl
  simp[yL,KOp.isCall,this]
 have e7:p7 10 (.call d fo args)=false:=by simp[p7,KOp.grows]
 rw[e1,e2,e3,e4]at h;simp only[tJ,e5,e6,Bool.or_false,jCm,jA7,jBf,beq_iff_eq]at h;refine⟨h.1,h.2.imp id fun x=>⟨x.1,?_⟩⟩;rcases hfj with e|e
 .exact e
 .rw[e,e7]at x;cases x.2
theorem zIT{all:List (Nat×Nat×KG)}(hf:Fits ops all){Q:wK}{i:Nat}{oi:Oper}(hi:ops[i]?=some oi)(hgi:(i,fi,gi)∈all)(B:wA)
 (hB:∀j∈B,∃o,ops[j]?=some o/\∃e∈o.after,Region.binds .any e=true/\(e.on=i\/e.on∈B)) :
 ∀(fuel:Nat) (listed:Array Bool) (env:Env) (U Ui:St),(∀j∈B,listed.getD j true=false) ->
  (∀j oj fj gj,ops[j]?=some oj->(j,fj,gj)∈all->j≠i->listed.getD j true=false->(∀e∈oj.after,Region.binds .any e=true->e.on≠i)->j∉B->oi.apart ops oj=true/\(tJ fi fj gi.op gj.op||(zKY fi fj gi gj||(zKW fi fj gi gj||(zKZ gi gj||zKX fi gi gj))))=true) ->
  i∈Region.ready .any ops listed->nA P fi gi env U ri Ui ->
  uC P Qp ops all Q fuel (listed.setIfInBounds i true) (env.put gi.op.dst ri) Ui->uC P Qp ops all Q (fuel+1) listed env U:=by
 intro fuel;induction fuel with
 |zero =>
  intro listed env U Ui _ _ hr hy H;refine⟨fun h=>(by rw[h]at hr;cases hr),fun j hj=>?_⟩;by_cases hji:j=i
  .subst hji;exact .inl ⟨fi,gi,ri,Ui,hgi,hy.1,H⟩
  .have:=ready_mono hj hji;rw[H.1]at this;cases this
 |succ fuel ih =>
  intro listed env U Ui hBl hfree hr hy H;refine⟨fun h=>(by rw[h]at hr;cases hr),fun j hj=>?_⟩;by_cases hji:j=i
  .subst hji;exact .inl ⟨fi,gi,ri,Ui,hgi,hy.1,H⟩
  .obtain⟨hjun,oj,hoj,hall⟩:=mem_ready.1 hj;have hiun:=(mem_ready.1 hr).1;have hnot:∀e∈oj.after,Region.binds .any e=true->e.on≠i:=fun e he hb heq=>by have:=hall e he hb;rw[heq]at this;exact zJU hiun this
   have hjB:j∉B:=fun hm=>by
    obtain⟨o,ho,e,he,hb,hon⟩:=hB j hm;rw[hoj]at ho;cases ho;rcases hon with h1|h1
    .exact hnot e he hb h1
    .exact zJU (hBl _ h1) (hall e he hb)
   rcases H.2 j (ready_mono hj hji)with ⟨fj,gj,rj,Uj,hgj,ej,hK⟩|⟨f8,dd,foj,argsj,hf8,hgj,hcn⟩
   rotate_left
   .obtain⟨hap,hcm⟩:=hfree j oj f8 _ hoj hgj hji hjun hnot hjB;obtain⟨h1,h2,h3⟩:=Oper.apart_spec hap;have di:=hf.dst i fi oi gi hi hgi;have dj:=hf.dst j f8 oj _ hoj hgj;simp only[KOp.dst]at dj;have hcm':=qF1 hf8 hcm;obtain⟨hk,hst⟩:=hcm';have e:=hy.1.2.1 hk;subst e;have hlki:∀x∈(KOp.call dd foj argsj).reads,ev (env.put gi.op.dst ri) x=ev env x:=zBy fun t ht=>Env.put_ne fun y hy' e=>by subst e;exact h1 t (by rw[<-di];exact hy') (hf.looks j f8 oj _ hoj hgj t (jBk _ (jCs.2 ⟨.tmp t,ht,rfl⟩)))
    rw[hlki foj (by simp[KOp.reads]),gZ fun x hx=>hlki x (by simp[KOp.reads,hx])]at hcn;refine .inr ⟨f8,dd,foj,argsj,hf8,hgj,zLE hcn fun r τ hkp hK=>?_⟩;have hstab:zDS fi gi.op Ui τ:=by
     rcases hst with hl|⟨hf1,hf2⟩
     .exact .inl hl
     .exact .inr (.inl ⟨hf1,hkp hf2⟩)
    have hij:=hy.2.1 hk τ hstab;have hlk:∀t∈gi.looks,(env.put dd r) t=env t:=fun t ht=>Env.put_ne fun y hy' e=>by subst e;exact h3 t (by rw[<-dj];exact hy') (hf.looks i fi oi gi hi hgi t ht)
    have hy2:nA P fi gi (env.put dd r) τ ri τ:=⟨by
     rw[zA4 hlk];exact⟨hij,fun _=>rfl,KF.refl _ _ _,hy.1.2.2.2⟩,fun hk' υ ht=>by rw[zA5 hlk];exact hy.2.1 hk' υ (zFQ hstab ht),fun _ hf7 hcl=>(by
      have hk7:yL fi gi.op=false:=by rcases hf7 with rfl|rfl<;>simp[yL,hcl]
      rw[hk7]at hk;cases hk)⟩
    refine ih (listed.setIfInBounds j true) (env.put dd r) τ τ ?_ ?_ (ready_mono hr (Ne.symm hji)) hy2 ?_
    .intro m hm;have hne:j≠m:=fun e=>hjB (e▸hm)
     rw[getD_set_ne true hne];exact hBl m hm
    .intro k ok fk gk hk hgk hki hun hno hkB;refine hfree k ok fk gk hk hgk hki ?_ hno hkB;by_cases hjk:j=k
     .subst hjk;exact hjun
     .rw[getD_set_ne true hjk]at hun;exact hun
    .rw[Array.setIfInBounds_comm _ _ hji,<-Env.put_comm (fun z hz=>by rw[dj];exact h2 z (by rw[<-di];exact hz))];exact hK
   .obtain⟨hap,hcm⟩:=hfree j oj fj gj hoj hgj hji hjun hnot hjB;obtain⟨h1,h2,h3⟩:=Oper.apart_spec hap;have di:=hf.dst i fi oi gi hi hgi;have dj:=hf.dst j fj oj gj hoj hgj;have ej':lV P fj gj env Ui rj Uj:=by
     rw[zA4 (env':=env.put gi.op.dst ri)]
     .exact ej
     .intro t ht;refine(Env.put_ne fun y hy' e=>?_).symm;subst e;exact h1 t (by rw[<-di];exact hy') (hf.looks j fj oj gj hoj hgj t ht)
    obtain⟨U1,ej1,hy1⟩:=zPo hcm hy ej';have hlk:∀t∈gi.looks,(env.put gj.op.dst rj) t=env t:=fun t ht=>Env.put_ne fun y hy' e=>by subst e;exact h3 t (by rw[<-dj];exact hy') (hf.looks i fi oi gi hi hgi t ht)
    have hy2:nA P fi gi (env.put gj.op.dst rj) U1 ri Uj:=⟨by rw[zA4 hlk];exact hy1.1,fun hk τ ht=>by rw[zA5 hlk];exact hy1.2.1 hk τ ht,fun hg hf hcl=>by obtain⟨u,e1,e2,e3⟩:=hy1.2.2 hg hf hcl;refine⟨u,e1,e2,fun τ hl hk=>?_⟩;have hq:eff P (env.put gj.op.dst rj) τ ri (u τ) gi.op=eff P env τ ri (u τ) gi.op:=zGI (zBy fun t ht=>hlk t (jBk _ (jCs.2 ⟨.tmp t,ht,rfl⟩)));rw[hq];exact e3 τ hl hk⟩
    refine .inl ⟨fj,gj,rj,U1,hgj,ej1,ih (listed.setIfInBounds j true) (env.put gj.op.dst rj) U1 Uj ?_ ?_ (ready_mono hr (Ne.symm hji)) hy2 ?_⟩
    .intro m hm;have hne:j≠m:=fun e=>hjB (e▸hm)
     rw[getD_set_ne true hne];exact hBl m hm
    .intro k ok fk gk hk hgk hki hun hno hkB;refine hfree k ok fk gk hk hgk hki ?_ hno hkB;by_cases hjk:j=k
     .subst hjk;exact hjun
     .rw[getD_set_ne true hjk]at hun;exact hun
    .rw[Array.setIfInBounds_comm _ _ hji,<-Env.put_comm (fun z hz=>by rw[dj];exact h2 z (by rw[<-di];exact hz))];exact hK
theorem zAe{i:Nat}:∀(l acc:wA),(∀j∈acc,∃o,ops[j]?=some o/\∃e∈o.after,Region.binds .any e=true/\(e.on=i\/e.on∈acc)) ->
 ∀j∈uU ops i l acc,∃o,ops[j]?=some o/\∃e∈o.after,Region.binds .any e=true/\(e.on=i\/e.on∈uU ops i l acc)
 |[],acc,h=>h
 |x::l,acc,h=>by
  simp only[uU];refine zAe l _ ?_;split
  .rename_i o ho;split
   .rename_i hany;rw[Array.any_eq_true']at hany;obtain⟨e,he,hb⟩:=hany;simp only[jA7,jBf,beq_iff_eq,List.contains_iff_mem]at hb;intro j hj;rcases jA3.1 hj with rfl|hj
    .exact⟨o,ho,e,he,hb.1,hb.2.imp id (jAh _)⟩
    .obtain⟨o',h1,e',h2,h3,h4⟩:=h j hj;exact⟨o',h1,e',h2,h3,h4.imp id (jAh _)⟩
   .exact h
  .exact h
theorem oV{all:List (Nat×Nat×KG)}(hf:Fits ops all){Q:wK}:∀(l:List (Nat×Nat×KG)) (listed:Array Bool) (env:Env) (U:St),(∀x∈l,x∈all) ->
 zE8 ops all l listed=true->wpD P Qp Q l env U->uC P Qp ops all Q l.length listed env U
 |[],_,_,_,_,hB,h=>⟨by simpa[zE8]using hB,h⟩
 |(k,f,g)::l,listed,env,U,hl,hB,h=>by
  have h0:=hl (k,f,g) (jAr ..);simp only[zE8,jA7]at hB;obtain⟨⟨hr,hst⟩,hB'⟩:=hB;simp only[wpD]at h;by_cases hf8:f=8\/f=10
  .have hff:(f==8||f==10)=true:=by rcases hf8 with rfl|rfl<;>rfl
   simp only[hff,if_true,jA7,beq_iff_eq]at hst;obtain⟨⟨hg1,hg2⟩,hg3⟩:=hst;obtain⟨gd,k0⟩:=g;simp only[jD]at hg1;subst hg1;cases k0<;>simp only[KOp.isCall,jAk]at hg2;rename_i d fo args;refine⟨fun h0=>(by rw[hg3]at h0;cases h0),fun j hj=>?_⟩;rw[hg3,jAp]at hj;subst hj;refine .inr ⟨f,d,fo,args,hf8,h0,?_⟩;have h2:=h.2;simp only[zTJ,j7,zVG]at h2;unfold zEy;split at h2
   .rename_i g first cap hfo
    simp only[hfo];obtain⟨hcb,h2⟩:=h2;rcases hf8 with rfl|rfl
    .refine⟨hcb,fun H L w vs h3 h4=>(h2 H L w vs h3 h4).mono fun e w' hh=>?_⟩;obtain⟨o,U',H',L',g1,g2,r,g3,g4,g5⟩:=hh;exact⟨o,U',H',L',g1,g2,.inl ⟨r,g3,fun _=>g4,oV hf l _ _ _ (fun x hx=>hl x (jAh _ hx)) hB' g5⟩⟩
    .refine⟨hcb,fun H L w vs h3 h4=>(h2 H L w vs h3 h4).mono fun e w' hh=>?_⟩;obtain⟨o,U',H',L',g1,g2,hh⟩:=hh;refine⟨o,U',H',L',g1,g2,?_⟩;rcases hh with ⟨r,g3,g5⟩|hh
     .exact .inl ⟨r,g3,fun e=>(by cases e),oV hf l _ _ _ (fun x hx=>hl x (jAh _ hx)) hB' g5⟩
     .exact .inr hh
   .have:=h2.1;omega
   .exact h2.elim
  have hff:(f==8||f==10)=false:=by simp only[Bool.or_eq_false_iff,beq_eq_false_iff_ne];exact not_or.1 hf8
  rw[hff]at hst;simp only[jAk,if_false]at hst;replace hf8:=not_or.1 hf8;obtain⟨r,U',hy,hK⟩:=zQu hf8 h.1 h.2;have rest:=oV hf l _ _ _ (fun x hx=>hl x (jAh _ hx)) hB' hK;have hrk:k∈Region.ready .any ops listed:=by simpa using hr
  obtain⟨_,ok,ho,_⟩:=mem_ready.1 hrk;have use:∀B:wA,(∀j∈B,∃o,ops[j]?=some o/\∃e∈o.after,Region.binds .any e=true/\(e.on=k\/e.on∈B))->zCb ops all listed B k f g=true->uC P Qp ops all Q (l.length+1) listed env U:=by
   intro B hBp hs;simp only[zCb,ho,jA7,jB8,jBw]at hs;refine zIT hf ho h0 B hBp l.length listed env U U' hs.1 (fun j oj fj gj hoj hgj hne hun hno hnB=>?_) hrk hy rest;have hj:=hs.2 (j,fj,gj) hgj;have hd:pE ops k j=false:=by rw[pE,hoj];simp only;rw[Bool.eq_false_iff,ne_eq,Array.any_eq_true'];rintro⟨e,he,hb⟩;simp only[jA7,beq_iff_eq]at hb;exact hno e he hb.1 hb.2
   simp only[zSR,hoj,hd,hun,jBf,beq_iff_eq,hne,false_or,jAk,jA7,List.contains_iff_mem,hnB,or_false]at hj;simp only[jBf];exact hj
  simp only[zTx,jBf]at hst;rcases hst with hst|hst
  .exact use [] (by simp) hst
  .exact use (zCn ops k) (zAe _ [] (by simp)) hst
theorem zGf{Qp:Value->wK}{k:KOp}(h:eff P env U r U' k):wpO P Qp (fun env' τ=>env'=env.put k.dst r/\τ = U') k env U:=by
 have dflt:(U' = U/\jU (zZ env U k) fun r'=>r=r')->(jU (zZ env U k) fun r'=>env.put k.dst r'=env.put k.dst r/\U = U'):=by
  rintro⟨rfl,h⟩;unfold jU at h⊢;split at h
  .exact⟨h.1,by rw[h.2],rfl⟩
  .exact h.elim
 cases k
 case call d f args =>
  simp only[eff,zDf]at h;simp only[wpO];split at h
  .rename_i g first cap hf
   rw[hf];refine⟨h.1,fun H L w vs h1 h2=>(h.2 H L w vs h1 h2).mono fun e w' hh=>?_⟩;obtain⟨o,τ,H',L',g1,g2,rfl,rfl⟩:=hh;exact⟨_,_,H',L',g1,g2,rfl,rfl⟩
  .rename_i b hf;rw[hf];intro H L w vs h1 h2;obtain⟨fn,tmps,x,y,k1,k2⟩:=h H L w vs h1 h2;refine⟨fn,tmps,x,y,k1,k2.mono fun e w' hh=>?_⟩;obtain⟨o,τ,H',L',g1,g2,rfl,rfl⟩:=hh;exact⟨_,_,H',L',g1,g2,rfl,rfl⟩
  .exact h.elim
 case brow d e sz n z ps =>
  simp only[eff]at h;simp only[wpO];split at h
  .rename_i hf;obtain⟨rfl,rfl⟩:=h;rw[hf];exact⟨rfl,rfl⟩
  .exact h.elim
 case isz d ng x=>exact h.elim
 case shr d x sz hx=>exact h.elim
 case apq d e sz bytes x y=>exact h.elim
 case pan d x=>exact h.elim
 case bslice d e sz n z ps =>
  obtain⟨rfl,h⟩:=h;simp only[wpO];split at h
  .rename_i hf;rw[hf];subst h;exact⟨rfl,trivial⟩
  .exact h.elim
 case alloc d z =>
  obtain⟨rfl,rfl⟩:=h;exact⟨rfl,rfl⟩
 case box d x =>
  simp only[eff]at h;simp only[wpO];split at h
  .rename_i hf;obtain⟨rfl,rfl⟩:=h;rw[hf];exact⟨rfl,rfl⟩
  .exact h.elim
 case st d x v n =>
  simp only[eff]at h;simp only[wpO];split at h
  .rename_i cs hf;obtain⟨h1,h2,rfl⟩:=h;rw[hf];simp only[h1,if_true,h2];exact⟨rfl,trivial⟩
  .exact h.elim
 case app d e sz bytes x y =>
  simp only[eff]at h;simp only[wpO];split at h
  .rename_i m ys hf;rw[hf];obtain⟨h0,h⟩:=h;refine⟨h0,?_⟩;generalize ev env x=ax at h⊢;cases ax<;>simp only[zQV]at h
   case nil =>
    obtain⟨h1,rfl,rfl⟩:=h;exact⟨h1,rfl,rfl⟩
   case row l n =>
    simp only;split at h
    .rename_i hl;obtain⟨h1,h2,rfl,rfl⟩:=h;rw[hl];simp only[h1,and_self,if_true];exact⟨by rw[<-h1.1];exact h2,rfl,trivial⟩
    .exact h.elim
   case fsl n cs =>
    obtain⟨h1,h|h⟩:=h
    .obtain⟨h2,rfl,rfl⟩:=h;exact⟨h1,fun _=>⟨rfl,rfl⟩,fun hne=>(hne h2).elim⟩
    .obtain⟨h2,h3,rfl,rfl⟩:=h;exact⟨h1,fun h0=>(h2 h0).elim,fun _=>⟨h3,rfl,rfl⟩⟩
  .exact h.elim
 case len d s x =>
  cases s
  .obtain⟨rfl,h⟩:=h;simp only[wpO];split
   .rename_i n cs hx;intro _;simp only[jU,zZ,hx,true_and]at h;subst h;exact⟨rfl,trivial⟩
   .rename_i n cs hx;intro _;simp only[jU,zZ,hx,true_and]at h;subst h;exact⟨rfl,trivial⟩
   .cases hp:zZ env U' (.len d false x)with
    |none=>rw[hp]at h;exact h.elim
    |some y=>rw[hp]at h;exact⟨h.1,by rw[h.2];rfl,trivial⟩
  .exact dflt h
 case mop d m xs =>
  simp only[wpO];exact zMB h ⟨rfl,rfl⟩
 case alr d q z =>
  obtain⟨hq,rfl,rfl⟩:=h;simp only[wpO,hq];exact⟨rfl,trivial⟩
 all_goals exact dflt h
structure Comp(P:Program)(N:Nat)(ops:Array Oper)(all:List (Nat×Nat×KG)):Prop where
 get:∀(i f:Nat) o g,ops[i]?=some o->(i,f,g)∈all->oD P N ops o=some g.erase
theorem xO(k:KOp):k.erase.dst=k.dst:=by cases k<;>rfl
theorem zDv(g:KG):g.erase.looks=g.looks:=by obtain⟨gd,k⟩:=g;cases k<;>rfl
theorem lF{o:Oper}(h:oD P N ops o=some g):g.erase=g:=by
 have hk:=(aJ h).1;have hke:g.op.erase=g.op:=by
  generalize g.op=k at hk;cases k<;>try rfl
  case shr =>
   generalize hkk:KOp.shr _ _ _ _=kk at hk;cases aH hk<;>first|(cases hkk;done)|(subst hkk;rename_i hpk _;simp[gO]at hpk)
  case apq =>
   generalize hkk:KOp.apq _ _ _ _ _ _=kk at hk;cases aH hk<;>first|(cases hkk;done)|(subst hkk;rename_i hpk _;simp[gO]at hpk)
  case isz =>
   generalize hkk:KOp.isz _ _ _=kk at hk;cases aH hk<;>first|(cases hkk;done)|(subst hkk;rename_i hpk _;simp[gO]at hpk)
  case rslc =>
   generalize hkk:KOp.rslc _ _ _ _ _=kk at hk;cases aH hk<;>first|(cases hkk;done)|(subst hkk;rename_i hpk _;simp[gO]at hpk)
  .generalize hkk:KOp.brow _ _ _ _ _ _=kk at hk;cases aH hk<;>first|(cases hkk;done)|(subst hkk;rename_i hpk _;simp[gO]at hpk)
  .generalize hkk:KOp.alr _ _ _=kk at hk;cases aH hk<;>first|(cases hkk;done)|(subst hkk;rename_i hpk _;simp[gO]at hpk)
 simp only[KG.erase,hke]
theorem zJf:(zN6 f g).erase=g.erase:=by
 unfold zN6;split
 .rename_i hz;split
  .simp only[KG.erase,hz,KOp.erase]
  .rfl
 .rename_i hz;split
  .simp only[KG.erase,hz,KOp.erase]
  .rfl
 .rfl
theorem nS{ro:wC}{all:List (Nat×Nat×KG)}(hc:Comp P N ops all)(hall:∀o∈ops.toList,∀x,o.dst=some x->x<N){Q:Ex->wK}{dfs:List Deferred}{Qc:Exit->Act->World->Prop} :
 ∀(fuel:Nat) (listed:Array Bool) {H:Mem} {L:wM} {U:St} {w:World} {env:Env} {a:Act},qO H L N env a.tmps->RelSt H L U w->a.defers=dfs ->
  uC P (zFw Q) ops all (Q .norm) fuel listed env U->(∀e b v,zAt H L w N Q dfs e b v->Qc e b v)->wpAnyIn (Wr ro) 0 P .any ops Qc fuel listed a w
 | 0,listed,H,L,U,w,env,a,he,hs,hd,h,hQ=>⟨h.1,hQ _ _ _ ⟨.norm,env,U,H,L,rfl,hd▸Mk.refl _ _ _,he,Nxt.refl hs,h.2⟩⟩
 |fuel+1,listed,H,L,U,w,env,a,he,hs,hd,h,hQ=>by
  refine⟨fun h0=>hQ _ _ _ ⟨.norm,env,U,H,L,rfl,hd▸Mk.refl _ _ _,he,Nxt.refl hs,h.1 h0⟩,fun i hi=>?_⟩;obtain⟨_,o,ho,_⟩:=mem_ready.1 hi;rcases h.2 i hi with ⟨f,g,r,U1,hg,hy,hK⟩|⟨f8,d,fo,args,hf8,hg,hcn⟩
  rotate_left
  .have hcg:=hc.get i f8 o _ ho hg;obtain⟨hk,hdst,hgd⟩:=aJ hcg;unfold wpOpIn;simp only[ho];rcases hgd with ⟨hog,hgn⟩|⟨j,want,s,hog,hsl,hgn⟩
   .have hw:Region.wanted o (yielded ops a.tmps)=true:=by simp[Region.wanted,hog]
    rw[if_pos hw];refine oB (k:=.call d fo args) (Qp:=fun v _ τ=>zFw Q v τ) (K:=fun env' τ=>uC P (zFw Q) ops all (Q .norm) fuel (listed.setIfInBounds i true) env' τ) hk hdst he hs ?_ (fun env' U' H' L' a' w' h1 h2 h3 h4=>?_) (fun v U' H' L' w' h1 h2=>hQ _ _ _ ⟨.pan v,env,U',H',L',rfl,hd▸Mk.refl _ _ _,he.mono h1.step.hle h1.lle,h1,h2 env⟩)
    .simp only[wpO];unfold zEy at hcn;split at hcn
     .rename_i g first cap hfo
      simp only[hfo];refine⟨hcn.1,fun H L w vs h3 h4=>(hcn.2 H L w vs h3 h4).mono fun e w' hh=>?_⟩;obtain⟨o,U',H',L',g1,g2,hh⟩:=hh;refine⟨o,U',H',L',g1,g2,?_⟩;rcases hh with ⟨r,rfl,g4,g5⟩|⟨v,rfl,g4⟩
      .exact g5
      .exact g4
     .exact hcn.elim
    .exact nS hc hall fuel _ h2 h3.st (h1.trans hd) h4 fun e b v hp=>hQ e b v (hp.next h3 (Mk.refl _ _ _))
   .cases hgn
  have hcg:=hc.get i f o g ho hg;obtain⟨hk,hdst,hgd⟩:=aJ hcg;have hkd:=bZ hk;rw[show g.erase.op.dst=g.op.dst from xO _]at hkd;unfold wpOpIn;simp only[ho];have exec:eff P env U r U1 g.op->o.wpIn (Wr ro) 0 P a w (wpAnyIn (Wr ro) 0 P .any ops Qc fuel (listed.setIfInBounds i true)) Qc:=by intro hq;refine oB (k:=g.op) (Qp:=fun _ _ _=>False) hk hdst he hs (zGf hq) (fun env' U' H' L' a' w' h1 h2 h3 h4=>?_) (fun v U' H' L' w' h1 h2=>h2.elim);obtain⟨h4,h5⟩:=h4;subst h4;subst h5;exact nS hc hall fuel _ h2 h3.st (h1.trans hd) hK fun e b v hp=>hQ e b v (hp.next h3 (Mk.refl _ _ _))
  have skip:r=.lit undef->U1 = U->wpAnyIn (Wr ro) 0 P .any ops Qc fuel (listed.setIfInBounds i true) (a.put o.dst undef) w:=by rintro rfl rfl;refine nS hc hall fuel _ ?_ hs ((jH _ _).trans hd) hK hQ;rw[hkd];exact he.put hdst (by simp[Rel])
  replace hy:=hy.1;unfold i7 at hy;rcases hgd with ⟨hog,hgn⟩|⟨j,want,s,hog,hsl,hgn⟩
  .replace hgn:g.guard=none:=hgn;simp only[hgn]at hy;have hw:Region.wanted o (yielded ops a.tmps)=true:=by simp[Region.wanted,hog]
   rw[if_pos hw];exact exec hy
  .replace hgn:g.guard=some (s,want):=hgn;simp only[hgn]at hy;have hsN:=s8 hsl hall;obtain⟨w1,w2⟩:=nN (a:=a) hog hsl (jCb hsN he.1);have hrel:=he.2 s;split at hy
   .rename_i b hb;rw[hb]at hrel;simp only[Rel]at hrel;rw[w1 b hrel];by_cases hbw:b=want
    .simp only[hbw,decide_true,if_true];exact exec (hy.1 hbw)
    .simp only[hbw,decide_false,jAk,if_false];exact⟨fun _ _=>trivial,skip (hy.2 hbw).1 (hy.2 hbw).2⟩
   .rename_i t ht;rw[ht]at hrel;simp only[Rel]at hrel;rw[w2 t hrel];simp only[jAk,if_false];exact⟨fun _ _=>trivial,skip hy.1 hy.2⟩
   .exact hy.elim
theorem lG{ops:Array Oper}:∀{l:List Oper} {gs:List KG},iH P N ops l=some gs->gs.length=l.length/\∀(i:Nat) o g,l[i]?=some o->gs[i]?=some g->oD P N ops o=some g
 |[],gs,h=>by simp only[iH,jA2]at h;subst h;exact⟨rfl,fun i o g h=>by simp at h⟩
 |o::l,gs,h=>by
  simp only[iH]at h;split at h<;>try(cases h;done)
  rename_i g gs' hg hgs;cases h;obtain⟨h1,h2⟩:=lG hgs;refine⟨by simp[h1],fun i o' g' ho hg'=>?_⟩;cases i with
  |zero=>simp only[jB3,jA2]at ho hg';subst ho;subst hg';exact hg
  |succ i=>simp only[jBo]at ho hg';exact h2 i o' g' ho hg'
theorem vR{ops:Array Oper}:∀{l:List Oper} {gs:List KG},pL ops l gs=true->∀(i:Nat) o g,l[i]?=some o->gs[i]?=some g->∀t∈g.looks,t∈o.looksAt ops
 |[],[],_,i,o,g,h,_=>by simp at h
 |o::l,g::gs,h,i,o',g',ho,hg=>by
  simp only[pL,jA7]at h;cases i with
  |zero =>
   simp only[jB3,jA2]at ho hg;subst ho;subst hg;intro t ht;have:=jB8.1 h.1 t ht
   simpa using this
  |succ i=>simp only[jBo]at ho hg;exact vR h.2 i o' g' ho hg
 |[],_::_,h,_,_,_,_,_=>by simp[pL]at h
 |_::_,[],h,_,_,_,_,_=>by simp[pL]at h
theorem zDx{gs0:List KG}:∀{l:List KG} {k:Nat} {x:Nat×Nat×KG},x∈zB6 ops gs0 k l->k<=x.1/\l[x.1-k]?=some x.2.2
 |[],k,x,h=>by simp[zB6]at h
 |g::l,k,x,h=>by
  simp only[zB6,jA3]at h;rcases h with rfl|h
  .simp
  .obtain⟨h1,h2⟩:=zDx h;refine⟨by omega,?_⟩;have:x.1-k=x.1-(k+1)+1:=by omega
   rw[this]
   simpa using h2
theorem zFs:∀{l:List KG} {k:Nat} {x:Nat×Nat×KG},x∈zFr k l->k<=x.1/\l[x.1-k]?=some x.2.2
 |[],k,x,h=>by simp[zFr]at h
 |g::l,k,x,h=>by
  simp only[zFr,jA3]at h;rcases h with rfl|h
  .simp
  .obtain⟨h1,h2⟩:=zFs h;refine⟨by omega,?_⟩;have:x.1-k=x.1-(k+1)+1:=by omega
   rw[this]
   simpa using h2
variable{gs:List KG}
theorem zDy{x:Nat×Nat×KG}(h:x∈zIj ops gs):gs[x.1]?=some x.2.2:=by
 unfold zIj at h;split at h
 .simpa using (zDx h).2
 .simpa using (zFs h).2
theorem zCO{gs:List KG}:∀{l:wD} {r:List (Nat×Nat×KG)} {x:Nat×Nat×KG},zKB gs l=some r->x∈r->∃g,gs[x.1]?=some g/\x.2.2.erase=g.erase
 |[],r,x,h,hx=>by simp only[zKB,jA2]at h;subst h;simp at hx
 |(k,f)::l,r,x,h,hx=>by
  simp only[zKB]at h;split at h<;>try(cases h;done)
  rename_i g r' hg hr;cases h;rcases jA3.1 hx with rfl|hx
  .exact⟨g,hg,zJf⟩
  .exact zCO hr hx
theorem zQv{ro:wC}{id:Nat}{l:List (Nat×Nat×KG)}(hm:P.follows .mixedOrders=true)(hB:zE9 ops l=true)(hlo:pL ops ops.toList gs=true)(hc:iH P N ops ops.toList=some gs)(hl:∀x∈l,∃g,gs[x.1]?=some g/\x.2.2.erase=g.erase)
 {Q:Ex->wK}{dfs:List Deferred}{Qc:Exit->Act->World->Prop}(he:qO H L N env a.tmps)(hs:RelSt H L U w)(hd:a.defers=dfs)
 (h:wpD P (zFw Q) (Q .norm) l env U)(hQ:∀e b v,zAt H L w N Q dfs e b v->Qc e b v):(Code.region id ops true).wpIn (Wr ro) 0 P Qc a w:=by
 obtain⟨hlen,hget⟩:=lG hc;have hcm:Comp P N ops l:=⟨fun i f o g ho hg=>by obtain⟨g0,h1,h2⟩:=hl (i,f,g) hg;have h3:=hget i o g0 (by simpa using ho) h1;rw[show g.erase=g0 from h2.trans (lF h3)];exact h3⟩
 have hf:Fits ops l:=⟨fun i f o g ho hg=>(xO g.op).symm.trans (bZ (aJ (hcm.get i f o g ho hg)).1),fun i f o g ho hg=>by obtain⟨g0,h1,h2⟩:=hl (i,f,g) hg;have h3:=hget i o g0 (by simpa using ho) h1;have h4:=vR hlo i o g0 (by simpa using ho) h1;rw[<-zDv,show g.erase=g0 from h2.trans (lF h3)];exact h4⟩
 have hall:∀o∈ops.toList,∀x,o.dst=some x->x<N:=by
  intro o ho;obtain⟨i,hi⟩:=jCv ho;have hlt:i<gs.length:=by rw[hlen];exact(jA4.1 hi).1
  exact(aJ (hget i o _ hi (jA1 hlt))).2.1
 simp only[zE9,jA7,beq_iff_eq]at hB;obtain⟨⟨hB,hsz⟩,_⟩:=hB;refine wpIn_region_any hm ?_;have hs':RelSt H L U {w with drawn:=w.drawn+1}:=hs.heap_eq rfl;have hlex:=oV hf l (Array.replicate ops.size false) env U (fun _ hx=>hx) hB h;rw[hsz]at hlex;have hn:Nxt H L w H L U {w with drawn:=w.drawn+1}:=⟨hs',⟨rfl,rfl,rfl,jA _,fun _ _ _=>rfl,HLe.refl _,fun _ _ _ h=>.inl h,jCk _,fun _ _ h=>h⟩,LLe.refl _,fun _ h=>.inl h⟩;refine nS hcm hall _ _ he hs' hd hlex fun e b v hp=>hQ e b v ?_
 exact hp.next hn (Mk.refl _ _ _)
end
end Go.Abs
