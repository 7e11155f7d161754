/-
  An evaluator of small code at closed abstract states: its operations.
  Nil slices as rows of their own; rows that are frozen.
  Cells of lists whose elements have so many cells each.
  Contracts of functions whose result may be any of several.
  slices.Grow of a nil slice, as a contract over abstract states.
  The reference's sets of IDs, and the law's lists of IDs.
-/
import Derived.Test.YthglhccibdlccaaGreatDoorX7
import Derived.Test.YthglhccibdlccaaGreatDoorX3
import Derived.Shelf.Spec.SlicesGrow
set_option linter.unusedVariables false
set_option maxHeartbeats 8000000
set_option maxRecDepth 100000
set_option linter.unusedSimpArgs false
open Go.Proofs.Tryz (prog)
namespace Go.Abs
def lkB:List (Nat×A)→Nat→A
 | [],_=>.any
 | p::l,x=>bif Nat.beq x p.1 then p.2 else lkB l x
theorem zIX:∀l:List (Nat×A),lkB l=qT l
 | []=>rfl
 | (t,a)::l=>by
  funext x;simp only[lkB,qT,zIX l];by_cases h:x=t
  ·subst h; simp
  ·have:Nat.beq x t=false:=by
    cases hb:Nat.beq x t with
    | false=>rfl
    | true=>exact(h (jC2 hb)).elim
   simp[this,h]
def zOt (d:Option Nat)(a:A)(l:List (Nat×A)):List (Nat×A):=match d with
 | none=>l
 | some d=>(d,a)::l
theorem zEn (d:Option Nat)(a:A)(l:List (Nat×A)):qT (zOt d a l)=(qT l).put d a:=by cases d<;>rfl
def eqB:SK→A→A→Option Bool
 | .i,.lit (.int k a),.lit (.int k' b)=>if k=k' then some (decide (a=b)) else none
 | .b,.lit (.bool a),.lit (.bool b)=>some (a==b)
 | _,_,_=>none
def zPa:List SK→List A→List A→Option Bool
 | [],[],[]=>some true
 | k::ks,x::xs,y::ys=>match eqB k x y,zPa ks xs ys with
  | some p,some q=>some (p&&q)
  | _,_=>none
 | _,_,_=>none
def qDI (op:BinOp)(k:IntKind)(a b:Int):Option A:=match op with
 | .add=>some (.lit (.int k (k.wrap (a+b))))
 | .sub=>some (.lit (.int k (k.wrap (a-b))))
 | .mul=>some (.lit (.int k (k.wrap (a*b))))
 | .quo=>if b=0 then none else some (.lit (.int k (k.wrap (a.tdiv b))))
 | .rem=>if b=0 then none else some (.lit (.int k (a.tmod b)))
 | .lss=>some (.lit (.bool (decide (a<b))))
 | .leq=>some (.lit (.bool (decide (a≤b))))
 | .gtr=>some (.lit (.bool (decide (b<a))))
 | .geq=>some (.lit (.bool (decide (b≤a))))
 | _=>none
def qAi (neg b:Bool):A:=.lit (.bool (if neg then !b else b))
theorem zMS {k:SK}{x y:A}{b:Bool}(h:eqB k x y=some b):∃p,zBT k x y=some p∧(p↔b=true):=by
 unfold eqB at h;split at h
 ·split at h<;>try (cases h; done)
  rename_i hk;cases h;subst hk;exact⟨_,by simp only[zBT,if_true]; rfl,by simp⟩
 ·cases h;exact⟨_,rfl,by simp⟩
 ·cases h
theorem zKW:∀{ks:List SK} {xs ys:List A} {b:Bool},zPa ks xs ys=some b→∃p,zAf ks xs ys=some p∧(p↔b=true)
 | [],[],[],b,h=>by cases h; exact⟨_,rfl,by simp⟩
 | k::ks,x::xs,y::ys,b,h=>by
  simp only[zPa]at h;split at h<;>try (cases h; done)
  rename_i p q hp hq;cases h;obtain⟨p',h1,h2⟩:=zMS hp;obtain⟨q',h3,h4⟩:=zKW hq;exact⟨_,by simp only[zAf,h1,h3]; rfl,by simp[h2,h4]⟩
 | [],[],_::_,b,h=>by simp[zPa]at h
 | [],_::_,_,b,h=>by simp[zPa]at h
 | _::_,[],_,b,h=>by simp[zPa]at h
 | _::_,_::_,[],b,h=>by simp[zPa]at h
theorem zTc {neg b:Bool}{p:Prop}(h:p↔b=true):zBd neg p=qAi neg b:=by have e:p=(b=true):=propext h;subst e;unfold zBd qAi;cases neg<;>cases b<;>simp
theorem zRt {op:BinOp}{k:IntKind}{a b:Int}{r:A}(h:qDI op k a b=some r):∃p:Prop,zEk op k a b=some (p,r)∧p:=by
 unfold qDI at h;split at h<;>first
  | (cases h; exact⟨True,rfl,trivial⟩)
  | (split at h<;>first | (cases h; done) | (rename_i hb; cases h; exact⟨_,rfl,hb⟩))
  | (cases h; done)
def zLA (env:Env) (σ : St):KOp→Option A
 | .mov _ x=>some (ev env x)
 | .pick _ c a b=>match ev env c with
  | .lit (.bool t)=>some (bif t then ev env a else ev env b)
  | _=>none
 | .ld _ x n agg=>(ldA σ n (ev env x)).bind (zBE agg)
 | .addr _ x off=>zHH σ off (ev env x)
 | .idx _ x i sz=>match ev env x,ev env i with
  | .sl n cs,.lit (.int _ j)=>if (0≤j∧j<n)∧j.toNat*sz<cs.length then some (.rptr (cs.drop (j.toNat*sz))) else none
  | .fsl n cs,.lit (.int _ j)=>if (0≤j∧j<n)∧j.toNat*sz<cs.length then some (.rptr (cs.drop (j.toNat*sz))) else none
  | .row l n,.lit (.int _ j)=>match σ[l]? with
   | some (.row _ _ s m _)=>if (n=m∧s=sz)∧0≤j∧j<n then some (.rwp l n (j.toNat*sz)) else none
   | _=>none
  | .win l n o k' _,.lit (.int _ j)=>match σ[l]? with
   | some (.row _ _ s m _)=>if (n=m∧s=sz)∧0≤j∧j<k' then some (.rwp l n (o+j.toNat*sz)) else none
   | _=>none
  | _,_=>none
 | .rslc _ x sz lo hi=>match ev env x with
  | .row l n=>match σ[l]? with
   | some (.row _ _ s m _)=>(match qO env 0 lo,qO env n hi with
    | some l',some h=>if (n=m∧s=sz)∧0≤l'∧l'≤h∧h≤n then some (.win l n (l'.toNat*sz) (h-l').toNat ((h-l').toNat*sz)) else none
    | _,_=>none)
   | _=>none
  | .win l n o k _=>match σ[l]? with
   | some (.row _ _ s m _)=>(match qO env 0 lo,qO env k hi with
    | some l',some h=>if (n=m∧s=sz)∧0≤l'∧l'≤h∧h≤k then some (.win l n (o+l'.toNat*sz) (h-l').toNat ((h-l').toNat*sz)) else none
    | _,_=>none)
   | _=>none
  | _=>none
 | .slc _ x sz lo hi none=>match ev env x with
  | .sl n cs=>(match qO env 0 lo,qO env n hi with
   | some l,some h=>if 0≤l∧l≤h∧h≤n then some (.sl (h-l).toNat ((cs.drop (l.toNat*sz)).take ((h-l).toNat*sz))) else none
   | _,_=>none)
  | .fsl n cs=>(match qO env 0 lo,qO env n hi with
   | some l,some h=>if 0≤l∧l≤h∧h≤n then some (.sl (h-l).toNat ((cs.drop (l.toNat*sz)).take ((h-l).toNat*sz))) else none
   | _,_=>none)
  | .nil=>(match qO env 0 lo,qO env 0 hi with
   | some l,some h=>if l=0∧h=0 then some .nil else none
   | _,_=>none)
  | _=>none
 | .fld _ x off n agg=>match ev env x with
  | .agg cs=>(sub cs off n).bind (zBE agg)
  | _=>none
 | .ix _ x i len sz agg=>match ev env x,ev env i with
  | .agg cs,.lit (.int _ j)=>if 0≤j∧j<len then (sub cs (j.toNat*sz) sz).bind (zBE agg) else none
  | _,_=>none
 | .bin _ op x y=>match ev env x,ev env y with
  | .lit (.int k a),.lit (.int k' b)=>if k=k' then qDI op k a b else none
  | _,_=>none
 | .eqv _ neg k x y=>(eqB k (ev env x) (ev env y)).map (qAi neg)
 | .eqs _ neg ks x y=>match ev env x,ev env y with
  | .agg xs,.agg ys=>(zPa ks xs ys).map (qAi neg)
  | _,_=>none
 | .isn _ neg x=>match ev env x with
  | .nil=>some (.lit (.bool !neg))
  | .sl n _=>if n=0 then none else some (.lit (.bool neg))
  | .fsl n _=>if n=0 then none else some (.lit (.bool neg))
  | _=>none
 | .neg _ x=>match ev env x with
  | .lit (.int k a)=>some (.lit (.int k (k.wrap (0-a))))
  | _=>none
 | .not _ x=>match ev env x with
  | .lit (.bool b)=>some (.lit (.bool !b))
  | _=>none
 | .mm _ max xs=>mmA max (xs.map (ev env))
 | .ext _ x i=>match ev env x with
  | .tup vs=>vs[i]?
  | _=>none
 | .clo _ f first cap=>some (.clo f (first.map (ev env)) (cap.map (ev env)))
 | .nilc _ x=>match ev env x with
  | .ptr l o=>some (.ptr l o)
  | .rptr cs=>some (.rptr cs)
  | _=>none
 | .build _ zero parts=>(zBp (zero.map jJ) (parts.map fun(o,s,x)=>(o,s,ev env x))).map .agg
 | .len _ false x=>match ev env x with
  | .nil=>some (.lit (.int .i64 0))
  | .sl n _=>some (.lit (.int .i64 n))
  | .fsl n _=>some (.lit (.int .i64 n))
  | .row l n=>match σ[l]? with
   | some (.row _ _ _ m _)=>if n=m then some (.lit (.int .i64 n)) else none
   | _=>none
  | .win l n _ k _=>match σ[l]? with
   | some (.row _ _ _ m _)=>if n=m then some (.lit (.int .i64 k)) else none
   | _=>none
  | _=>none
 | _=>none
section
variable {P:Program}{env:Env} {σ : St}
theorem zJW {k:KOp}{r:A}(h:zLA env σ k=some r){J:A→Prop}(hJ:J r):jG (zP env σ k) J:=by
 cases k<;>simp only[zLA]at h<;>try (cases h; done)
 case mov=>cases h; exact⟨trivial,hJ⟩
 case pick d c a b =>
  split at h<;>try (cases h; done)
  rename_i t ht;cases h;rw[zNz,ht];cases t<;>exact hJ
 case ld d x n agg =>
  simp only[zP,h];exact⟨trivial,hJ⟩
 case addr d x off =>
  rw[zHk,h];exact⟨trivial,hJ⟩
 case idx d x i sz =>
  split at h<;>try (cases h; done)
  ·rename_i h1 h2;split at h<;>try (cases h; done)
   rename_i hc;cases h;simp only[zP,h1,h2];exact⟨hc,hJ⟩
  ·rename_i h1 h2;split at h<;>try (cases h; done)
   rename_i hc;cases h;simp only[zP,h1,h2];exact⟨hc,hJ⟩
  ·rename_i h1 h2;split at h<;>try (cases h; done)
   rename_i h3;split at h<;>try (cases h; done)
   rename_i hc;cases h;simp only[zP,h1,h2,h3,hc.1,and_self,if_true];obtain⟨⟨rfl,rfl⟩,hc⟩:=hc;exact⟨hc,hJ⟩
  ·rename_i h1 h2;split at h<;>try (cases h; done)
   rename_i h3;split at h<;>try (cases h; done)
   rename_i hc;cases h;simp only[zP,h1,h2,h3,hc.1,and_self,if_true];obtain⟨⟨rfl,rfl⟩,hc⟩:=hc;exact⟨hc,hJ⟩
 case rslc d x sz lo hi =>
  split at h<;>try (cases h; done)
  all_goals
   rename_i h1;split at h<;>try (cases h; done)
   rename_i h3;split at h<;>try (cases h; done)
   rename_i h4 h5;split at h<;>try (cases h; done)
   rename_i hc;cases h;obtain⟨⟨rfl,rfl⟩,hc⟩:=hc;simp only[zP,h1,h3,h4,h5,and_self,if_true];exact⟨hc,hJ⟩
 case slc d x sz lo hi mx =>
  cases mx<;>simp only at h<;>try (cases h; done)
  split at h<;>try (cases h; done)
  all_goals
   rename_i h1;split at h<;>try (cases h; done)
   rename_i h4 h5;split at h<;>try (cases h; done)
   rename_i hc;cases h;simp only[zP,h1,h4,h5];exact⟨hc,hJ⟩
 case fld d x off n agg =>
  split at h<;>try (cases h; done)
  rename_i h1;simp only[zP,h1,h];exact⟨trivial,hJ⟩
 case ix d x i len sz agg =>
  split at h<;>try (cases h; done)
  rename_i h1 h2;split at h<;>try (cases h; done)
  rename_i hc;simp only[zP,h1,h2,h];exact⟨hc,hJ⟩
 case bin d op x y =>
  split at h<;>try (cases h; done)
  rename_i h1 h2;split at h<;>try (cases h; done)
  rename_i hc;obtain⟨p,h3,h4⟩:=zRt h;simp only[zP,h1,h2,hc,if_true];rw[←hc,h3];exact⟨h4,hJ⟩
 case eqv d neg k x y =>
  rw[jAe]at h;obtain⟨b,h1,rfl⟩:=h;obtain⟨p,h2,h3⟩:=zMS h1;simp only[zP,h2,jBs,jG];rw[zTc h3];exact⟨trivial,hJ⟩
 case eqs d neg ks x y =>
  split at h<;>try (cases h; done)
  rename_i g1 g2;rw[jAe]at h;obtain⟨b,h1,rfl⟩:=h;obtain⟨p,h2,h3⟩:=zKW h1;simp only[zP,g1,g2,h2,jBs,jG];rw[zTc h3];exact⟨trivial,hJ⟩
 case isn d neg x =>
  split at h<;>try (cases h; done)
  ·rename_i h1; cases h; simp only[zP,h1]; exact⟨trivial,hJ⟩
  ·rename_i h1;split at h<;>try (cases h; done)
   rename_i hc;cases h; simp only[zP,h1]; exact⟨hc,hJ⟩
  ·rename_i h1;split at h<;>try (cases h; done)
   rename_i hc;cases h; simp only[zP,h1]; exact⟨hc,hJ⟩
 case neg d x =>
  split at h<;>try (cases h; done)
  rename_i h1; cases h; simp only[zP,h1]; exact⟨trivial,hJ⟩
 case not d x =>
  split at h<;>try (cases h; done)
  rename_i h1; cases h; simp only[zP,h1]; exact⟨trivial,hJ⟩
 case mm d mx xs =>
  rw[zSI,h];exact hJ
 case ext d x i =>
  split at h<;>try (cases h; done)
  rename_i h1;simp only[zP,h1,h];exact⟨trivial,hJ⟩
 case clo d f a b=>cases h; exact⟨trivial,hJ⟩
 case nilc d x =>
  split at h<;>try (cases h; done)
  ·rename_i h1; cases h; simp only[zP,h1]; exact⟨trivial,hJ⟩
  ·rename_i h1; cases h; simp only[zP,h1]; exact⟨trivial,hJ⟩
 case build d z ps =>
  rw[zKE,h];exact hJ
 case len d s x =>
  cases s<;>simp only at h<;>try (cases h; done)
  split at h<;>try (cases h; done)
  ·rename_i h1; cases h; simp only[zP,h1]; exact⟨trivial,hJ⟩
  ·rename_i h1; cases h; simp only[zP,h1]; exact⟨trivial,hJ⟩
  ·rename_i h1; cases h; simp only[zP,h1]; exact⟨trivial,hJ⟩
  ·rename_i h1;split at h<;>try (cases h; done)
   rename_i h2;split at h<;>try (cases h; done)
   rename_i hc;cases h;simp only[zP,h1,h2,hc,if_true];exact⟨trivial,by rw[←hc]; exact hJ⟩
  ·rename_i h1;split at h<;>try (cases h; done)
   rename_i h2;split at h<;>try (cases h; done)
   rename_i hc;cases h;simp only[zP,h1,h2,hc,if_true];exact⟨trivial,hJ⟩
def evO (C:FuncId→List A→St→Option (A×St))(k:KOp)(env:Env) (σ : St):Option (A×St):=match k with
 | .alloc _ zs=>some (.ptr σ.length 0,σ++[.box (zs.map jJ)])
 | .box _ x=>match cellsOf (ev env x)with
  | some cs=>some (.ptr σ.length 0,σ++[.box cs])
  | none=>none
 | .bslice _ _ _ n zero parts=>match zBp (zero.map jJ) (parts.map fun(o,s,x)=>(o,s,ev env x))with
  | some cs=>some (.fsl n cs,σ)
  | none=>none
 | .brow _ e sz n zero parts=>match zBp (zero.map jJ) (parts.map fun(o,s,x)=>(o,s,ev env x))with
  | some cs=>some (.row σ.length n,σ++[.row false e sz n cs])
  | none=>none
 | .st _ x v n=>match cellsOf (ev env v)with
  | some cs=>if cs.length=n then (match stA σ cs (ev env x)with
   | some σ'=>some (.lit undef,σ')
   | none=>none) else none
  | none=>none
 | .app _ e sz bytes x y=>match zCn σ sz (ev env y)with
  | some (m,ys)=>if ys.length=m*sz then (match ev env x with
   | .nil=>if m≤maxLen∧m*bytes≤140737488355328 then some (.row σ.length m,σ++[.row false e sz m ys]) else none
   | .row l n=>(match σ[l]? with
    | some (.row fz e' s n' cs)=>if (n=n'∧e'=e∧s=sz)∧n+m≤maxLen∧(n+m)*bytes≤140737488355328 then some (.row l (n+m),σ.set l (.row fz e sz (n+m) (cs++ys))) else none
    | _=>none)
   | .fsl n cs=>if cs.length=n*sz then (if m=0 then some (.fsl n cs,σ) else if n+m≤maxLen∧(n+m)*bytes≤140737488355328 then some (.row σ.length (n+m),σ++[.row false e sz (n+m) (cs++ys)]) else none) else none
   | _=>none) else none
  | none=>none
 | .call _ f args=>match ev env f with
  | .clo g first cap=>C g (first++args.map (ev env)++cap) σ
  | _=>none
 | .alr _ q zs=>(match σ[q]? with
  | some .rsv=>some (.ptr q 0,σ.set q (.box (zs.map jJ)))
  | _=>none)
 | .mop _ m xs=>zP9 m (xs.map (ev env)) σ
 | .isz _ ng x=>(match ev env x with
  | .nil=>some (.lit (.bool !ng),σ)
  | .sl n _=>if n=0 then none else some (.lit (.bool ng),σ)
  | .row l n=>(match σ[l]? with
   | some (.row _ _ _ m _)=>if n=m∧n≠0 then some (.lit (.bool ng),σ) else none
   | _=>none)
  | _=>none)
 | k=>match zLA env σ k with
  | some r=>some (r,σ)
  | none=>none
def zA3 (P:Program)(C:FuncId→List A→St→Option (A×St)):Prop:=∀f xs σ r σ',C f xs σ = some (r,σ')→zA P f=true∧Ret P f xs σ r σ'
theorem zIP {C:FuncId→List A→St→Option (A×St)}(hC:zA3 P C){k:KOp}{r:A} {σ':St}(h:evO C k env σ = some (r,σ')){Qp:Value→Env→St→Prop}{K:Env→St→Prop}(hK:K (env.put k.dst r) σ'):wpO P Qp K k env σ:=by
 have dflt:(match zLA env σ k with | some r=>some (r,σ) | none=>none)=some (r,σ')→jG (zP env σ k) fun r=>K (env.put k.dst r) σ:=by
  intro h;split at h<;>try (cases h; done)
  rename_i r0 h0;cases h;exact zJW h0 hK
 cases k<;>simp only[evO]at h
 case alloc d z=>cases h; exact hK
 case box d x =>
  split at h<;>try (cases h; done)
  rename_i h1;cases h;simp only[wpO,h1];exact hK
 case bslice d e sz n z ps =>
  split at h<;>try (cases h; done)
  rename_i h1;cases h;simp only[wpO,h1];exact hK
 case brow d e sz n z ps =>
  split at h<;>try (cases h; done)
  rename_i h1;cases h;simp only[wpO,h1];exact hK
 case st d x v n =>
  split at h<;>try (cases h; done)
  rename_i h1;split at h<;>try (cases h; done)
  rename_i h2;split at h<;>try (cases h; done)
  rename_i h3;cases h;simp only[wpO,h1,h2,if_true,h3];exact hK
 case app d e sz bytes x y =>
  split at h<;>try (cases h; done)
  rename_i m ys h1;split at h<;>try (cases h; done)
  rename_i h2;simp only[wpO,h1];refine⟨h2,?_⟩;split at h<;>try (cases h; done)
  ·rename_i h3;split at h<;>try (cases h; done)
   rename_i h4;cases h;rw[h3];exact⟨h4,hK⟩
  ·rename_i h3;split at h<;>try (cases h; done)
   rename_i h4;split at h<;>try (cases h; done)
   rename_i h5;cases h;rw[h3];simp only[h4,h5.1,and_self,if_true];rw[←h5.1.1];exact⟨h5.2,hK⟩
  ·rename_i n cs h3;split at h<;>try (cases h; done)
   rename_i h4;rw[h3];refine⟨h4,?_⟩;split at h
   ·rename_i h5;cases h;exact⟨fun _=>hK,fun h=>(h h5).elim⟩
   ·rename_i h5;split at h<;>try (cases h; done)
    rename_i h6;cases h;exact⟨fun h=>(h5 h).elim,fun _=>⟨h6,hK⟩⟩
 case call d f args =>
  split at h<;>try (cases h; done)
  rename_i g first cap h1
  obtain⟨h2,h3⟩:=hC _ _ _ _ _ h;simp only[wpO,h1];exact⟨h2,h3.mono fun o τ ho=>by obtain⟨rfl,rfl⟩:=ho; exact hK⟩
 case alr d q z =>
  split at h<;>try (cases h; done)
  rename_i h1;cases h;simp only[wpO,h1];exact hK
 case isz d ng x =>
  split at h<;>try (cases h; done)
  ·rename_i h1;cases h;simp only[wpO,h1];exact hK
  ·rename_i h1;split at h<;>try (cases h; done)
   rename_i hc;cases h;simp only[wpO,h1];exact⟨hK,fun e=>(hc e).elim⟩
  ·rename_i h1;split at h<;>try (cases h; done)
   rename_i h2;split at h<;>try (cases h; done)
   rename_i hc;cases h;simp only[wpO,h1,h2];exact⟨hc.1,hK,fun e=>(hc.2 e).elim⟩
 case mop d m xs =>
  simp only[wpO];exact zLs h (J:=fun r τ=>K (env.put d r) τ) hK
 case len d s x =>
  cases s
  ·have:=dflt h;simp only[wpO];split
   ·rename_i n cs h1;intro _;simp only[zP,h1,jG]at this;exact this.2
   ·rename_i n cs h1;intro _;simp only[zP,h1,jG]at this;exact this.2
   ·exact this
  ·exact dflt h
 case pan d x=>simp[evO,zLA]at h
 all_goals exact dflt h
def qAh (f:Nat)(k:KOp)(env:Env):Bool:=bif Nat.blt f 5 then true else
 bif Nat.beq f 5 then (match k with
  | .st _ x _ _=>(match ev env x with | .ptr _ _=>true | _=>false)
  | _=>true) else
 bif Nat.beq f 6 then (match k with
  | .st _ x _ _=>(match ev env x with | .rwp _ _ _=>true | _=>false)
  | .idx _ x _ _=>(match ev env x with | .row _ _=>true | _=>false)
  | _=>true) else
 bif Nat.ble 4000 f then false else
 bif Nat.ble 2000 f then (match k with
  | .ld _ x _ _=>(match ev env x with | .ptr l _=>Nat.ble (f-2000) l | .rptr _=>true | _=>false)
  | _=>true) else
 bif Nat.ble 1000 f then (match k with
  | .st _ x _ _=>(match ev env x with | .ptr l _=>Nat.blt l (f-1000) | _=>false)
  | _=>true) else true
theorem zRO {f:Nat}{k:KOp}(h:qAh f k env=true):zBi f k env:=by
 unfold qAh at h;unfold zBi;split
 ·simp only[show Nat.blt 5 5=false from rfl,show Nat.beq 5 5=true from rfl,cond_true,cond_false]at h;cases k<;>simp only at h⊢;generalize ev env _=a at h⊢;cases a<;>simp_all [zNn]
 ·simp only[show Nat.blt 6 5=false from rfl,show Nat.beq 6 5=false from rfl,show Nat.beq 6 6=true from rfl,cond_true,cond_false]at h;cases k<;>simp only at h⊢
  ·generalize ev env _=a at h⊢;cases a<;>simp_all [zNo]
  ·generalize ev env _=a at h⊢;cases a<;>simp_all [isRow]
 ·rename_i h5 h6;split
  ·rename_i h7;have e1:Nat.blt f 5=false:=by simp only[Nat.blt_eq,←jAu]; omega
   have e2:Nat.beq f 5=false:=by simp only[Nat.beq_eq,←jAu]; omega
   have e3:Nat.beq f 6=false:=by simp only[Nat.beq_eq,←jAu]; omega
   have e4:Nat.ble 4000 f=true:=by simp only[jCb]; omega
   simp only[e1,e2,e3,e4,cond_true,cond_false,jAc]at h
  rename_i h7;have e0:Nat.ble 4000 f=false:=by simp only[jCb,←jAu]; omega
  split
  ·rename_i h2;have e1:Nat.blt f 5=false:=by simp only[Nat.blt_eq,←jAu]; omega
   have e2:Nat.beq f 5=false:=by simp only[Nat.beq_eq,←jAu]; omega
   have e3:Nat.beq f 6=false:=by simp only[Nat.beq_eq,←jAu]; omega
   have e4:Nat.ble 2000 f=true:=by simp only[jCb]; omega
   simp only[e0,e1,e2,e3,e4,cond_true,cond_false]at h;cases k<;>simp only at h⊢;generalize ev env _=a at h⊢;cases a<;>simp_all [zCb]
  ·rename_i h2;split
   ·rename_i h3;have e1:Nat.blt f 5=false:=by simp only[Nat.blt_eq,←jAu]; omega
    have e2:Nat.beq f 5=false:=by simp only[Nat.beq_eq,←jAu]; omega
    have e3:Nat.beq f 6=false:=by simp only[Nat.beq_eq,←jAu]; omega
    have e4:Nat.ble 2000 f=false:=by simp only[jCb,←jAu]; omega
    have e5:Nat.ble 1000 f=true:=by simp only[jCb]; omega
    simp only[e0,e1,e2,e3,e4,e5,cond_true,cond_false]at h;cases k<;>simp only at h⊢;generalize ev env _=a at h⊢;cases a<;>simp_all [zFg]
   ·trivial
abbrev Cl0:=(FuncId→List A→Option A)×(FuncId→List A→Nat→Option (A×St))
def zS0 (C:FuncId→List A→St→Option (A×St))(C0:Cl0)(f:Nat)(k:KOp)(env:Env) (σ : St):Option (A×St):=match k with
 | .call _ fo args=>match ev env fo with
  | .clo g first cap=>match f with
   | 0=>(match C0.1 g (first++args.map (ev env)++cap)with | some r=>some (r,σ) | none=>none)
   | 1=>(match C0.1 g (first++args.map (ev env)++cap)with | some r=>some (r,σ) | none=>none)
   | 2=>none
   | 3=>none
   | 8=>none
   | 7=>(match C0.2 g (first++args.map (ev env)++cap) σ.length with | some (r,own)=>some (r,σ++own) | none=>none)
   | f=>bif Nat.ble 1000 f then none else C g (first++args.map (ev env)++cap) σ
  | _=>none
 | .isz ..=>none
 | .mop _ m xs=>zP9 m (xs.map (ev env)) σ
 | k=>bif k.keeps&&!k.lite then (match zLA env (zD8 f σ) k with | some r=>some (r,σ) | none=>none) else evO C k env σ
def zFF (P:Program)(C0:Cl0):Prop:=(∀f xs r,C0.1 f xs=some r→zA P f=true∧∀τ,yX P f xs τ fun o τ'=>o=.ret r∧τ' = τ) ∧
 ∀f xs n r own,C0.2 f xs n=some (r,own)→zA P f=true∧(∀o∈own,o≠AObj.rsv)∧∀τ : St,τ.length=n→yX P f xs τ fun o τ'=>o=.ret r∧τ' = τ++own
theorem zJH {C:FuncId→List A→St→Option (A×St)}(hC:zA3 P C){C0:Cl0}(hC0:zFF P C0){f:Nat}{k:KOp}{r:A} {σ':St}(h:zS0 C C0 f k env σ = some (r,σ')){Qd:Value→St→Prop}{K:Env→St→Prop}(hK:K (env.put k.dst r) σ'):jP P Qd f K k env σ:=by
 have dflt:(bif k.keeps&&!k.lite then (match zLA env (zD8 f σ) k with | some r=>some (r,σ) | none=>none) else evO C k env σ)=some (r,σ') →
  (if k.keeps&&!k.lite then jG (zP env (zD8 f σ) k) fun r=>K (env.put k.dst r) σ else wpO P zAR K k env σ):=by
  intro h;cases hb:k.keeps&&!k.lite
  ·rw[hb]at h;exact zIP hC h hK
  ·rw[hb]at h;simp only[cond_true]at h;simp only[if_true];split at h<;>try (cases h; done)
   rename_i h0;cases h;exact zJW h0 hK
 cases k<;>simp only[zS0]at h<;>try (cases h; done)
 case call d fo args =>
  split at h<;>try (cases h; done)
  rename_i g first cap h1
  simp only[jP,zXZ,h1];split at h<;>try (cases h; done)
  ·split at h<;>try (cases h; done)
   rename_i h2;cases h;obtain⟨h3,h4⟩:=hC0.1 _ _ _ h2;exact⟨h3,r,h4 _,hK⟩
  ·split at h<;>try (cases h; done)
   rename_i h2;cases h;obtain⟨h3,h4⟩:=hC0.1 _ _ _ h2;exact⟨h3,r,fun τ _=>h4 τ,hK⟩
  ·split at h<;>try (cases h; done)
   rename_i r1 own h2;cases h;obtain⟨h3,h4,h5⟩:=hC0.2 _ _ _ _ _ h2;exact⟨h3,_,own,h4,fun τ hl _=>h5 τ hl,hK⟩
  ·rename_i n0 n1 n2 n3 n8 n7;cases hb:Nat.ble 1000 f
   case true=>rw[hb]at h; cases h
   rw[hb]at h;simp only[cond_false]at h;have hr0:¬1000≤f:=fun hh=>by rw[←jAu,jCb]at hb; exact hb hh
   have hr:¬(1000≤f∧f<2000):=fun hh=>hr0 hh.1
   have hr':¬(3000≤f∧f<4000):=fun hh=>hr0 (by omega)
   obtain⟨h3,h4⟩:=hC _ _ _ _ _ h;refine⟨h3,?_⟩;unfold zYa;split
   ·exact(n0 rfl).elim
   ·exact(n1 rfl).elim
   ·exact(n2 rfl).elim
   ·exact(n3 rfl).elim
   ·exact(n7 rfl).elim
   ·exact(n8 rfl).elim
   ·exact fun H L w vs a b=>(h4 H L w vs a b).mono fun e w' hh=>by obtain⟨o,τ,H',L',g1,g2,rfl,rfl⟩:=hh;exact⟨_,_,H',L',g1,g2,.inl ⟨r,rfl,hK⟩⟩
   ·rw[if_neg hr,if_neg hr']; exact⟨r,σ',h4,hK⟩
 case mop d m xs =>
  simp only[jP,h];exact hK
 all_goals exact dflt h
end
end Go.Abs
namespace Go.Abs
section
variable {P:Program}{H:Mem}{L:List LI} {σ : St}{w:World}
theorem yG {n0 t:Nat}{env:Env} {σ : St}(ht:env t=.nil)(e:TypeId)(sz:Nat):zBL n0 (env.put (some t) (.row σ.length 0)) (σ++[AObj.row false e sz 0 []]) env σ:=by
 intro H0 L0 w0 H L w N tmps h0 h1 h2;have hn:=zCR h1.st e sz;refine⟨H,_,h1.trans hn,h2.1,fun x=>?_⟩;simp only[Env.put];split
 ·rename_i hx;subst hx;have:=h2.2 x;rw[ht]at this;simp only[Rel]at this;rw[this];simp only[Rel];exact⟨rfl,⟨none,0,0,true⟩,by rw[←h1.st.len]; simp,rfl,jA _,fun _=>rfl⟩
 ·exact Rel.mono (HLe.refl _) hn.lle _ (h2.2 x)
theorem zEr {n0:Nat}{env:Env} {σ : St}{l o n:Nat}{e:TypeId}{sz:Nat}{cs:List A}(hl : σ[l]?=some (.row false e sz n cs))(hc:cs[o]?=some .nil)(e':TypeId)(sz':Nat) :
 zBL n0 env (σ.set l (.row false e sz n (cs.set o (.row σ.length 0)))++[AObj.row false e' sz' 0 []]) env σ:=by
 intro H0 L0 w0 H L w N tmps h0 h1 h2;have hn:=zCR h1.st e' sz';have hlt:l < σ.length:=(jA4.1 hl).1;have hl':(σ++[AObj.row false e' sz' 0 []])[l]?=some (.row false e sz n cs):=by rw[jAo hlt]; exact hl
 have hs:=zJq (o':=.row false e sz n (cs.set o (.row σ.length 0))) hn.st hl' (fun li hob=>by
  simp only[zW]at hob ⊢;obtain⟨g0,g1,g2,g3⟩:=hob;refine⟨g0,g1,by simpa using g2,?_⟩;rcases g3 with ⟨q1,q2⟩ | ⟨b,cur,q1,q2,q3,q4,q5,q6,q7,q8⟩
  ·subst q2;have:cs=[]:=jC (by simpa using g2);subst this;simp at hc
  ·obtain⟨v,hv,hrel⟩:=q6.get hc;simp only[Rel]at hrel;subst hrel;have hset:cur.toList.take (n*sz)=(cur.toList.take (n*sz)).set o (.slice none 0 0):=by
    apply jC9;intro i;by_cases hi:i=o
    ·subst hi; rw[jAq (jA4.1 hv).1,hv]
    ·rw[jAf (Ne.symm hi)]
   refine .inr ⟨b,cur,q1,q2,q3,q4,q5,?_,q7,q8⟩;rw[hset];refine q6.set o ?_;simp only[Rel];exact⟨rfl,⟨none,0,0,true⟩,by rw[←h1.st.len]; simp,rfl,jA _,fun _=>rfl⟩)
 rw[List.set_append_left _ _ hlt]at hs;have hm:=h1.trans hn;exact⟨H,_,⟨hs,hm.step,hm.lle,hm.own⟩,h2.1,fun x=>Rel.mono (HLe.refl _) hn.lle _ (h2.2 x)⟩
theorem zTy {f:FuncId}{l n:Nat}{e:TypeId}{sz:Nat}{cs:List A}(hσ : σ[l]?=some (.row false e sz n cs)){Q:Out→St→Prop}(h:yX P f [.sl n cs] (σ.set l (.row true e sz n cs)) Q):yX P f [.row l n] σ Q:=by
 intro H L w vs hs hvs;obtain⟨v,vs',rfl,h1,h2⟩:=qB hvs;have:=jR h2;subst this;obtain⟨H',hn,hr⟩:=zZI hs hσ h1;refine(h H' L w [v] hn.st (qR hr jZ)).mono fun e w' hh=>?_
 obtain⟨o,σ',H2,L2,g1,g2,g3⟩:=hh;exact⟨o,σ',H2,L2,g1,hn.trans g2,g3⟩
end
end Go.Abs
namespace Go.Abs
section
variable {α : Type}{enc : α→List A}{k:Nat}
theorem zBD (hk:∀x,(enc x).length=k):∀(l:List α),(l.flatMap enc).length=l.length*k
 | []=>by simp
 | x::l=>by rw[jBc,jA5,hk,zBD hk l,jAd,jC8,jD3]
theorem zCu (hk:∀x,(enc x).length=k):∀{l:List α} {i:Nat} (h:i<l.length),(l.flatMap enc).drop (i*k)=enc l[i]++(l.drop (i+1)).flatMap enc
 | x::l,0,h=>by simp
 | x::l,i+1,h=>by rw[jC8,jD3,jBc,←jAs,jD1 (hk x),zCu hk (by simpa using h)];simp
theorem zC8 (hk:∀x,(enc x).length=k){l:List α}{i:Nat}(h:i<l.length):(l.take (i+1)).flatMap enc=(l.take i).flatMap enc++enc l[i]:=by rw[jA9 h,jCh]; simp
theorem zPc (hk:∀x,(enc x).length=k):∀{l:List α} {i:Nat} (x : α),i<l.length→(l.flatMap enc).take (i*k)++(enc x++(l.flatMap enc).drop (i*k+k))=(l.set i x).flatMap enc
 | y::l,0,x,h=>by simp[jD1 (hk y)]
 | y::l,i+1,x,h=>by have:=zPc hk (l:=l) (i:=i) x (by simpa using h);rw[List.set_cons_succ,jBc,jBc,←this,jC8,jD3 (i*k) k,List.take_add,List.take_left' (hk y),jD1 (hk y),jBe k,←jAs,jD1 (hk y),jAv,jD3 k (i*k)]
theorem zBg (hp:∀x,jM (enc x)):∀(l:List α),jM (l.flatMap enc)
 | []=>jM.nil
 | x::l=>by
  have h1:=hp x;have h2:=zBg hp l;refine⟨?_,fun rf g=>?_⟩
  ·rw[jBc,zIn,h1.1,h2.1]
  ·rw[jBc,zMk,h1.2,h2.2]
end
end Go.Abs
namespace Go.Abs
section
variable {P:Program}
theorem zNM {I:Type}{C:I→Prop}{rr:I→A}{ss:I→St}{hint:Nat→Option (List (Nat×Nat))}{f:FuncId}{fn:Func}{c:Code}{k:K}{rs:List RS}(hf:P.funcs[f]?=some fn)(hb:fn.body=some c)(hc:qD P fn.ntmps hint c=some k.erase)(hr:zB9 P fn.results.toList=some rs)
 {args:List A} {σ0:St}(h:wpF P k rs args σ0 fun o τ=>∃i,C i∧zGS σ0.length (rr i) (ss i) o τ):yX P f args σ0 fun o τ=>∃i,C i∧o=.ret (rr i)∧τ = ss i:=by
 intro H L w vs hs ha;refine(zC3 hf hb hc hr h H L w vs hs ha).mono fun e w' hh=>?_
 obtain⟨o,σ',H',L',g1,g2,i,hi,r',ks,fuel,rfl,hk,hd,ho,hr⟩:=hh;obtain⟨v,rfl,hv⟩:=g1;obtain⟨H2,L2,k1,_,k3⟩:=zOq ks fuel (by rw[hs.len]; exact hk) hd ho g2;refine⟨.ret (rr i),ss i,H2,L2,⟨v,rfl,?_⟩,k1,i,hi,rfl,rfl⟩;rcases hr with e | e
 ·rw[e]; exact k3 _ _ hv
 ·rw[e]; exact Rel.nrm0 _ (k3 _ _ hv)
theorem zJ7 {I:Type}{C:I→Prop}{rr:I→A}{ss:I→St}{f:FuncId}{fn:Func}{c:Code}{k:K}{rs:List RS}(hf:P.funcs[f]?=some fn)(hb:fn.body=some c)(hc:zL P fn.ntmps c=some k.erase)(hr:zB9 P fn.results.toList=some rs)
 {args:List A} {σ0:St}(h:wpF P k rs args σ0 fun o τ=>∃i,C i∧zGS σ0.length (rr i) (ss i) o τ):yX P f args σ0 fun o τ=>∃i,C i∧o=.ret (rr i)∧τ = ss i:=zNM (hint:=zA1) hf hb hc hr h
end
end Go.Abs
namespace Go.Abs
open Go.Proofs
section
variable {P:Program}{H:Mem}{L:List LI} {σ : St}{w:World}
theorem zUr (hs:RelSt H L σ w)(ob:AObj)(o:Obj)(li:LI)(hli:li.block=some w.heap.size)(ho:zW H (L++[li]) (w.alloc o) li ob):Nxt H L w H (L++[li]) (σ++[ob]) (w.alloc o):=by
 have hll:=LLe.append L [li];refine⟨⟨fun b o v hv=>?_,by simp[hs.len],fun i l o hL hσ=>?_,fun i j l l' b hi hj hb hb'=>?_,fun i l b hL hb=>?_⟩,
  ⟨rfl,rfl,rfl,by simp,fun k hk _=>heap_alloc_old w _ (h:=hk),HLe.refl _,fun b o v hv=>.inl hv,jA _,zEg (fun k hk=>heap_alloc_old w _ (h:=hk))⟩,hll,fun b ⟨i,l,hL,hb⟩=>?_⟩
 ·rw[World.cell?_alloc_lt _ _ _ (hs.h_lt hv)];exact hs.pers b o v hv
 ·rcases jQ hL with hL' | ⟨rfl,rfl⟩
  ·have hi:i<L.length:=(jA4.1 hL').1;rw[jAo (by rw[←hs.len]; exact hi)]at hσ;exact(hs.obj i l o hL' hσ).carry (fun b hb=>heap_alloc_old w _ (h:=hs.lt i l b hL' hb)) (HLe.refl _) hll (fun _ _ _=>rfl)
  ·rw[hs.len]at hσ;rw[jBg (jA _)]at hσ;simp only[jBx,jAx,jA1]at hσ;subst hσ;exact ho
 ·rcases jQ hi with hi' | ⟨rfl,rfl⟩
  ·rcases jQ hj with hj' | ⟨rfl,rfl⟩
   ·exact hs.inj i j l l' b hi' hj' hb hb'
   ·rw[hli]at hb'; cases hb'; have:=hs.lt i l _ hi' hb; omega
  ·rw[hli]at hb;cases hb;rcases jQ hj with hj' | ⟨rfl,rfl⟩
   ·have:=hs.lt j l' _ hj' hb'; omega
   ·rfl
 ·rcases jQ hL with hL' | ⟨rfl,rfl⟩
  ·have:=hs.lt i l b hL' hb; simp; omega
  ·rw[hli]at hb; cases hb; simp
 ·rcases jQ hL with hL' | ⟨rfl,rfl⟩
  ·exact .inl ⟨i,l,hL',hb⟩
  ·rw[hli]at hb; cases hb; exact .inr (jA _)
theorem zWK {ρ : Go.Shelf.Ren}(LL:Lays8.n4 P ρ){i:TypeInfo}{z:Value}(hi:P.info? (ρ.t 25)=some i)(hz:i.zero=some z)(hzs:z.cells.size=i.size)(h0:0<i.size){n:Nat}(hb:n*i.bytes≤140737488355328)(hn63:n≤4611686018427387904) :
 Ret P (ρ.f 4) [.nil,.lit (.int .i64 n)] [] (.row 0 0) [.row false (ρ.t 25) i.size 0 []]:=by
 intro H L w vs hs hvs;obtain⟨v,vs',rfl,h1,h2⟩:=qB hvs;obtain⟨u,vs'',rfl,h3,h4⟩:=qB h2;have:=jR h4;subst this;simp only[Rel]at h1 h3;subst h1 h3;have hL:L=[]:=jC (by rw[hs.len]; rfl);subst hL;have hn:n≤maxLen:=by simp only[maxLen]; omega
 by_cases hz0:n=0
 ·subst hz0;refine(Any8.slices_Grow_room LL none 0 0 0 w (jA _) (by omega) (by omega) (by omega)).mono fun e w' hh=>?_
  obtain⟨rfl,rfl⟩:=hh;have hnx:=zCR hs (ρ.t 25) i.size;refine⟨.ret (.row 0 0),_,H,_,⟨_,rfl,?_⟩,hnx,rfl,rfl⟩;simp only[Rel];exact⟨rfl,⟨none,0,0,true⟩,by simp,rfl,jA _,fun _=>rfl⟩
 ·refine(Any8.slices_Grow_grow LL i z hi hz h0 none 0 0 n [] w (jA _) (by omega) (by rw[jB0]; exact hb) (by omega) (by simp) (fun _=>rfl) (fun a ha=>by cases ha)).mono fun e w' hh=>?_
  obtain⟨rfl,rfl⟩:=hh;have hge:=grownCap_ge w (0+n) 0 (ρ.t 25);have hcm:grownCap w (0+n) 0 (ρ.t 25)≤maxLen:=grownCap_le_maxLen w (0+n) 0 (ρ.t 25) (by omega);generalize grownCap w (0+n) 0 (ρ.t 25)=cap at hge hcm ⊢;have hd:=zPM hs;have hnx:=zUr hd.st (.row false (ρ.t 25) i.size 0 []) (.cells ((([]:List Value).toArray++Builtin.zeroCells z.cells (0+n-0)++Builtin.zeroCells z.cells (cap-(0+n)))) (ρ.t 25)) ⟨some w.heap.size,cap,0,true⟩ rfl (by
   simp only[zW];refine⟨trivial,trivial,by simp,.inr ⟨w.heap.size,_,rfl,heap_alloc_new w.drew _,jBo _,hcm,?_,?_,?_,fun o=>?_⟩⟩
   ·simp only[Array.size_append,size_zeroCells,hzs];simp only[jCa,jBm,jB0,Nat.sub_zero,←jBk]
    congr 1
    omega
   ·simp[zY]
   ·simp
   ·cases hH:H w.heap.size o with
    | none=>rfl
    | some v=>have:=hs.h_lt hH; omega)
  have hnx:=hd.trans hnx;refine⟨.ret (.row 0 0),_,H,_,⟨_,rfl,?_⟩,hnx,rfl,rfl⟩;simp only[Rel];exact⟨rfl,⟨some w.heap.size,cap,0,true⟩,by simp,rfl,jA _,fun _=>rfl⟩
theorem zNg {ρ : Go.Shelf.Ren}(LL:Lays8.n4 P ρ){sz bs:Nat}{z:Value}(hi:(P.info? (ρ.t 25)).map (fun i=>(i.size,i.bytes,i.zero))=some (sz,bs,some z))(hzs:z.cells.size=sz)(h0:0<sz){n:Nat}(hb:n*bs≤140737488355328)(hn63:n≤4611686018427387904) :
 Ret P (ρ.f 4) [.nil,.lit (.int .i64 n)] [] (.row 0 0) [.row false (ρ.t 25) sz 0 []]:=by
 rw[jAe]at hi;obtain⟨i,h1,h2⟩:=hi;simp only[jBb]at h2;obtain⟨rfl,rfl,h3⟩:=h2;exact zWK LL h1 h3 hzs h0 hb hn63
end
end Go.Abs
namespace Go.Proofs.YthglhccibdlccaaGreatDoor
open Go.Abs
theorem qF (n:Int)(h : -9223372036854775808≤n∧n≤9223372036854775807):IntKind.i64.wrap n=n:=IntWalk.i64_in _ h
theorem zAk (n:Nat)(h:n<9000000000000000000):IntKind.i64.wrap ((n:Int)+1)=(n:Int)+1:=IntWalk.i64_in _ (by omega)
def w64 (n:Int):Int:=IntKind.i64.wrap n
def zCx (a b c a' b' c':Int):Bool:=decide (Id.mk a b c=Id.mk a' b' c')
@[simp] theorem zBu {x y:Id}:zCx x.a x.b x.c y.a y.b y.c=decide (x=y):=rfl
def Id.zero:Id:=⟨0,0,0⟩
@[simp] theorem qEt {x:Id}:zCx x.a x.b x.c 0 0 0=decide (x=Id.zero):=rfl
@[simp] theorem Id.zero_a:Id.zero.a=0:=rfl
@[simp] theorem Id.zero_b:Id.zero.b=0:=rfl
@[simp] theorem Id.zero_c:Id.zero.c=0:=rfl
@[simp] theorem qKW:zCx 0 0 0 0 0 0=true:=rfl
@[simp] theorem zZe {a b c a' b' c':Int}:zNV [.i,.i,.i] false (.agg [.lit (.int .i64 a),.lit (.int .i64 b),.lit (.int .i64 c)]) (.agg [.lit (.int .i64 a'),.lit (.int .i64 b'),.lit (.int .i64 c')]) =
 some (.lit (.bool (zCx a b c a' b' c'))):=by simp[zNV,zAf,zBT,zBd,zCx]
@[simp] theorem qJ3 {a b c a' b' c':Int}:zNV [.i,.i,.i] true (.agg [.lit (.int .i64 a),.lit (.int .i64 b),.lit (.int .i64 c)]) (.agg [.lit (.int .i64 a'),.lit (.int .i64 b'),.lit (.int .i64 c')]) =
 some (.lit (.bool (!zCx a b c a' b' c'))):=by simp[zNV,zAf,zBT,zBd,zCx]
def K12:K:=G [kMi 4 0] (Z (G [M 5 0,kBi 6 5 0 .lss] (Y 6 (K.ops [M 7 0,kBi 8 7 1 .add,⟨none,.neg (some 9) (kt 8)⟩,M 0 9]) ks)) (G [M 10 0,M 11 1,kB 12 10 11 .rem,M 4 12] kr))
theorem c12:zL prog Tryz.f12.ntmps (Tryz.f12.body.getD .skip)=some K12.erase:=by kernel_rfl
@[simp] theorem qR5:zA prog 12=true:=by kernel_rfl
def K5:K:=G [kO 2 0,kO 3 1,kMb 4 false] (G [D 5 2 0,L 6 5 1,D 7 3 0,L 8 7 1,kC 9 20 [(kt 6),(kt 8)],M 10 9,T 10 true (D 11 2 1),T 10 true (L 12 11 1),T 10 true (D 13 3 1),T 10 true (L 14 13 1),T 10 true (kC 15 20 [(kt 12),(kt 14)]),kPf 16 10 15,M 4 16] kr)
theorem c5:zL prog Tryz.f16.ntmps (Tryz.f16.body.getD .skip)=some K5.erase:=by kernel_rfl
@[simp] theorem qRL:zA prog 16=true:=by kernel_rfl
def K6:K:=G [kO 1 0,kZ 2 [kl,kl]] (G [D 3 1 0,L 4 3 1,D 5 1 1,L 6 5 1,kb 7 [kl,kl] [(0,1,(kt 4)),(1,1,(kt 6))],S 2 7 2] kr)
theorem c6:zL prog Tryz.f17.ntmps (Tryz.f17.body.getD .skip)=some K6.erase:=by kernel_rfl
@[simp] theorem qRM:zA prog 17=true:=by kernel_rfl
def K30:K:=G [kO 3 1,kMn 4] (G [kMi 5 0] (Z (K.block 0 (K.loop (Z (Z (K.dops [(0,0,M 7 5),(1,0,M 8 0),(2,0,kN 9 8),(3,0,kB 10 7 9 .lss),(4,0,M 11 10),(5,0,T 11 true (M 12 0)),(6,0,T 11 true (M 13 5)),(7,0,T 11 true (kX 14 12 13 3)),(8,0,T 11 true (J 15 14 3)),(9,0,T 11 true (J 16 3 3)),(10,0,T 11 true (kC 17 110 [(kt 15),(kt 16)])),(11,0,kPf 18 11 17)]) (Y 18 ks (K.exit 0))) (K.block 1 (K.ops [M 19 5,kBi 20 19 1 .add,M 5 20]))))) (Z (Z (K.dops [(0,0,M 21 5),(1,0,M 22 0),(2,0,kN 23 22),(3,0,kB 24 21 23 .lss),(4,0,M 25 24),(5,0,T 25 true (M 26 0)),(6,0,T 25 true (M 27 5)),(7,0,T 25 true (kX 28 26 27 3)),(8,0,T 25 true (J 29 28 3)),(9,0,T 25 true (J 30 3 3)),(10,0,⟨some (25,true),.eqs (some 31) false [.i,.i,.i] (kt 29) (kt 30)⟩),(11,0,kPf 32 25 31)]) (Y 32 (G [M 33 0,M 4 33] kr) ks)) (G [kd 34 29 3 0 [] [],M 35 0,M 36 5,⟨none,.slc (some 37) (kt 35) 3 none (some (kt 36)) none⟩,kP 38 29 3 24 34 37,M 6 38] (G [M 39 6,J 40 3 3,kd 41 29 3 1 [ki,ki,ki] [(0,3,(kt 40))],kP 42 29 3 24 39 41,M 6 42] (G [M 43 6,M 44 0,M 45 5,⟨none,.slc (some 46) (kt 44) 3 (some (kt 45)) none none⟩,kP 47 29 3 24 43 46,M 4 47] kr))))))
theorem c30:zL prog Tryz.f61.ntmps (Tryz.f61.body.getD .skip)=some K30.erase:=by kernel_rfl
@[simp] theorem qR9:zA prog 61=true:=by kernel_rfl
def zA4 (n k:Int):Int:=(if n<0 then w64 (0-w64 (n+1)) else n).tmod k
theorem zG1 (n k:Int)(hk:0<k):Ret prog 12 [int n,int k] [] (int (zA4 n k)) []:=by
 refine zK Tryz.func12 rfl c12 (rs:=[.slot 4]) (by kernel_rfl) ?_;unfold K12;have h0:¬k=0:=by omega
 by_cases h:n<0
 ·simp[h,h0];exact zC 0 (by simp[zA4,h,w64])
 ·simp[h,h0];exact zC 0 (by simp[zA4,h])
theorem zC2 {n k:Int}(hn:w64 n=n)(hk:0<k):0≤zA4 n k∧zA4 n k<k:=by
 unfold zA4;have h:0≤(if n<0 then w64 (0-w64 (n+1)) else n):=by simp only[w64,IntKind.wrap_i64]at hn ⊢;split<;>omega
 exact⟨jDo _ h,Int.tmod_lt_of_pos _ hk⟩
def zFE:List Id→Id→List Id
 | [],x=>[x]
 | y::l,x=>if zCj y x=true then y::zFE l x else if y=x then y::l else x::y::l
structure Trc where
 defs:List Id
 nodes:List Id
 deriving DecidableEq
def zDr (t:Trc):List A:=[.sl t.defs.length (qE t.defs),.sl t.nodes.length (qE t.nodes)]
theorem zPT (t:Trc):Ret prog 17 [.agg (zDr t)] [] (.agg (zDr t)) []:=by refine zK Tryz.func17 rfl c6 (rs:=[.cell 2 2 true]) (by kernel_rfl) ?_;unfold K6;simp[zDr];exact zC 0 (by simp)
theorem qAb (a b:Trc):Ret prog 16 [.agg (zDr a),.agg (zDr b)] [] (bl (decide (a=b))) []:=by
 refine zK Tryz.func16 rfl c5 (rs:=[.slot 4]) (by kernel_rfl) ?_;unfold K5;have hab:a=b↔a.defs=b.defs∧a.nodes=b.nodes:=by cases a; cases b; simp
 simp[zDr];refine zT (zLM a.defs b.defs) (by simp) (by simp) ?_;by_cases h:a.defs=b.defs
 ·simp[h];refine zT (zLM a.nodes b.nodes) (by simp) (by simp) ?_;simp;exact zC 0 (by simp[hab,h])
 ·simp[h];exact zC 0 (by simp[hab,h])
end Go.Proofs.YthglhccibdlccaaGreatDoor
