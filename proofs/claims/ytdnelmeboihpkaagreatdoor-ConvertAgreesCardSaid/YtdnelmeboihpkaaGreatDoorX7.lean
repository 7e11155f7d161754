/- The rules by which a walk over abstract states goes on, for simp. -/
import Derived.Test.YtdnelmeboihpkaaGreatDoorX6
set_option linter.unusedVariables false
set_option maxHeartbeats 8000000
set_option maxRecDepth 100000
set_option linter.unusedSimpArgs false
namespace Go.Abs
def qN8(o:Option A)(d:wC)(K:wK)(env:Env) (U:St):Prop:=match o with
 |some r=>K (env.put d r) U
 |none=>False
def qN7(o:Option A)(d:wC)(K:Env->Prop)(env:Env):Prop:=match o with
 |some r=>K (env.put d r)
 |none=>False
def zPI(o:Option wE)(J:List A->Prop):Prop:=match o with
 |some r=>J r
 |none=>False
def zZJ(o:Option St)(J:St->Prop):Prop:=match o with
 |some r=>J r
 |none=>False
section
variable{P:Program}{n0:Nat}{Qp:Value->wK}{Qd:Value->St->Prop}{K':wK}{KD:Env->Prop}{Q:Ex->wK}{env:Env} {U:St}{d d':wC}{x y z:Operand}
variable{r:A}
@[simp]theorem qBK:qN8 (some r) d K' env U = K' (env.put d r) U:=rfl
@[simp]theorem qBI:qN7 (some r) d KD env=KD (env.put d r):=rfl
@[simp]theorem qBH{r:wE}{J:List A->Prop}:zPI (some r) J=J r:=rfl
@[simp]theorem qBL{r:St}{J:St->Prop}:zZJ (some r) J=J r:=rfl
@[simp]theorem qHy:env.put none r=env:=rfl
variable{i t:Nat}
@[simp]theorem zVt:(env.put (some i) r) t=if t=i then r else env t:=rfl
@[simp]theorem qNx:ev env (.tmp t)=env t:=rfl
variable{f:FuncId}
@[simp]theorem qJ1:ev env (.func f)=.clo f [] []:=rfl
@[simp]theorem qNv{k:IntKind}{n:Int}:ev env (.const (.int k n))=.lit (.int k n):=rfl
variable{b:Bool}
@[simp]theorem qJ0:ev env (.const (.bool b))=.lit (.bool b):=rfl
@[simp]theorem qBl{s:ByteArray}:ev env (.const (.string s))=.lit (.string s):=rfl
@[simp]theorem qNw:ev env (.const (.slice none 0 0))=.nil:=rfl
@[simp]theorem zYX:ev env (.const .nilFunc)=.lit .nilFunc:=rfl
@[simp]theorem qBk:ev env (.const (.pointer none))=.lit (.pointer none):=rfl
@[simp]theorem qNu{l:wL}:ev env (.const (.agg ⟨l⟩))=if bK l then .agg (l.map jN)else .any:=rfl
@[simp]theorem zX7:bK []=true:=rfl
variable{v:Value}
@[simp]theorem zVl{l:wL}:bK (v::l)=(v.oneCell'&&bK l):=rfl
@[simp]theorem qJP{k:IntKind}{n:Int}:(Value.int k n).oneCell'=true:=rfl
@[simp]theorem qHi:(Value.bool b).oneCell'=true:=rfl
@[simp]theorem zZG{s:ByteArray}:(Value.string s).oneCell'=true:=rfl
@[simp]theorem qBG{a:Option Addr}{n c:Nat}:(Value.slice a n c).oneCell'=true:=rfl
@[simp]theorem zX9{a:Option Addr}:(Value.pointer a).oneCell'=true:=rfl
@[simp]theorem zX8:(Value.nilFunc).oneCell'=true:=rfl
@[simp]theorem qJQ{r:wC}:(Value.map r).oneCell'=true:=rfl
@[simp]theorem zZE{k:IntKind}{n:Int}:jN (.int k n)=.lit (.int k n):=rfl
@[simp]theorem zX6:jN (.bool b)=.lit (.bool b):=rfl
@[simp]theorem zTQ{s:ByteArray}:jN (.string s)=.lit (.string s):=rfl
@[simp]theorem zZF:jN (.slice none 0 0)=.nil:=rfl
@[simp]theorem zSO:jN .nilFunc=.lit .nilFunc:=rfl
@[simp]theorem zTP:jN (.pointer none)=.lit (.pointer none):=rfl
@[simp]theorem zTO:jN (.map none)=.lit (.map none):=rfl
@[simp]theorem zWK:cellsOf .nil=some [.nil]:=rfl
variable{cs:wE}
@[simp]theorem zWF:cellsOf (.agg cs)=some cs:=rfl
@[simp]theorem zWI:cellsOf (.lit v)=if v.oneCell' then some [.lit v]else none:=rfl
@[simp]theorem zYE{n:Nat}:cellsOf (.sl n cs)=some [.sl n cs]:=rfl
@[simp]theorem zWH{n:Nat}:cellsOf (.fsl n cs)=some [.fsl n cs]:=rfl
@[simp]theorem zWM{l n:Nat}:cellsOf (.row l n)=some [.row l n]:=rfl
@[simp]theorem zWL{l n:Nat}:cellsOf (.ptr l n)=some [.ptr l n]:=rfl
variable{l:Nat}
@[simp]theorem zWJ:cellsOf (.map l)=some [.map l]:=rfl
@[simp]theorem zWP{l n o k c:Nat}:cellsOf (.win l n o k c)=some [.win l n o k c]:=rfl
@[simp]theorem zWN{l n o:Nat}:cellsOf (.rwp l n o)=some [.rwp l n o]:=rfl
@[simp]theorem zUk:cellsOf (.rptr cs)=some [.rptr cs]:=rfl
@[simp]theorem zWG{a b:wE}:cellsOf (.clo f a b)=some [.clo f a b]:=rfl
@[simp]theorem zZK:iE true cs=some (.agg cs):=rfl
@[simp]theorem zXA{c:A}:iE false [c]=some c:=rfl
@[simp]theorem qGz{n:Nat}:ldA U n (.rptr cs)=sub cs 0 n:=rfl
def zXo:Option AObj->Nat->Nat->Option wE
 |some (.box cs),off,n=>sub cs off n
 |_,_,_=>none
def zXp:Option AObj->Nat->Nat->Nat->Option wE
 |some (.row _ _ _ k cs),m,off,n=>if m=k then sub cs off n else none
 |_,_,_,_=>none
@[simp]theorem zZs{off n:Nat}:zXo (some (.box cs)) off n=sub cs off n:=rfl
variable{fz:Bool}{e:TypeId}
@[simp]theorem zZt{s k:Nat}{m off n:Nat}:zXp (some (.row fz e s k cs)) m off n=if m=k then sub cs off n else none:=rfl
@[simp]theorem qJA{l off n:Nat}:ldA U n (.ptr l off)=zXo U[l]? off n:=by
 simp only[ldA];cases U[l]? with
 |none=>rfl
 |some o=>cases o<;>rfl
@[simp]theorem qJB{l m off n:Nat}:ldA U n (.rwp l m off)=zXp U[l]? m off n:=by
 simp only[ldA];cases U[l]? with
 |none=>rfl
 |some o=>cases o<;>rfl
@[simp]theorem qNB{off n:Nat}:sub cs off n=if off+n<=cs.length then some ((cs.drop off).take n)else none:=rfl
def zXH:Option AObj->St->List A->Nat->Nat->Option St
 |some (.box ds),U,cs,l,off=>if off+cs.length<=ds.length then some (U.set l (.box (ds.take off++cs++ds.drop (off+cs.length))))else none
 |_,_,_,_,_=>none
def zXI:Option AObj->St->List A->Nat->Nat->Nat->Option St
 |some (.row false e sz k ds),U,cs,l,m,off=>if m=k/\off+cs.length<=ds.length then some (U.set l (.row false e sz k (ds.take off++cs++ds.drop (off+cs.length))))else none
 |_,_,_,_,_,_=>none
variable{off:Nat}
@[simp]theorem qAh{ds:wE}:zXH (some (.box ds)) U cs l off=if off+cs.length<=ds.length then some (U.set l (.box (ds.take off++cs++ds.drop (off+cs.length))))else none:=rfl
@[simp]theorem qAi{sz k:Nat}{ds:wE}{m:Nat}:zXI (some (.row false e sz k ds)) U cs l m off=if m=k/\off+cs.length<=ds.length then some (U.set l (.row false e sz k (ds.take off++cs++ds.drop (off+cs.length))))else none:=rfl
@[simp]theorem qKc:stA U cs (.ptr l off)=zXH U[l]? U cs l off:=by
 simp only[stA];cases U[l]? with
 |none=>rfl
 |some o=>cases o<;>rfl
@[simp]theorem qKd{m:Nat}:stA U cs (.rwp l m off)=zXI U[l]? U cs l m off:=by
 simp only[stA];cases U[l]? with
 |none=>rfl
 |some o =>
  cases o<;>try rfl
  rename_i fz e s n ds;cases fz<;>rfl
def zXE:Option AObj->Nat->Nat->(List A->Prop)->Prop
 |some (.row _ _ s m cs),n,sz,J=>n=m/\s=sz/\J cs
 |_,_,_,_=>False
@[simp]theorem zMX{s m n sz:Nat}{J:List A->Prop}:zXE (some (.row fz e s m cs)) n sz J=(n=m/\s=sz/\J cs):=rfl
@[simp]theorem qAO:(b==true)=b:=by cases b<;>rfl
@[simp]theorem zYO{A B:wK}:uF true A B env U = A env U:=by simp[uF]
@[simp]theorem zWX{A B:wK}:uF false A B env U = B env U:=by simp[uF]
@[simp]theorem qHF:zFM d K' env U = K' (env.put d (.lit undef)) U:=rfl
@[simp]theorem qHm:outK d env K' Qp (.ret r) U = K' (env.put d r) U:=rfl
@[simp]theorem qHl:outK d env K' Qp (.pan v) U = Qp v env U:=rfl
@[simp]theorem qHR{J:wK}:thn J Q .norm=J:=rfl
@[simp]theorem qKg{J:wK}:thn J Q .ret=Q .ret:=rfl
@[simp]theorem qHQ{J:wK}:thn J Q (.exit i)=Q (.exit i):=rfl
@[simp]theorem qKf{J:wK}:thn J Q (.pan v)=Q (.pan v):=rfl
@[simp]theorem qEh{id:Nat}:blk id Q .norm=Q .norm:=rfl
@[simp]theorem qIu{id:Nat}:blk id Q .ret=Q .ret:=rfl
@[simp]theorem qEg{id i:Nat}:blk id Q (.exit i)=if i=id then Q .norm else Q (.exit i):=rfl
@[simp]theorem qIt{id:Nat}:blk id Q (.pan v)=Q (.pan v):=rfl
variable{I:Nat->wK}
@[simp]theorem qJX{n:Nat}:rnd n0 I n Q .ret=Q .ret:=rfl
@[simp]theorem qH5{n i:Nat}:rnd n0 I n Q (.exit i)=Q (.exit i):=rfl
@[simp]theorem qJW{n:Nat}:rnd n0 I n Q (.pan v)=Q (.pan v):=rfl
variable{rs:List RS}{R:Out->St->Prop}
@[simp]theorem qFQ:fin rs R .norm=zFC rs R:=rfl
@[simp]theorem qJ3:fin rs R .ret=zFC rs R:=rfl
@[simp]theorem qJ2:fin rs R (.pan v) env U = R (.pan v) U:=rfl
@[simp]theorem qBR:zFC [.slot t] R env U = R (.ret (env t)) U:=rfl
@[simp]theorem qH4{u:Nat}:zFC [.slot t,.slot u] R env U = R (.ret (.tup [env t,env u])) U:=rfl
@[simp]theorem zZS{u v:Nat}:zFC [.slot t,.slot u,.slot v] R env U = R (.ret (.tup [env t,env u,env v])) U:=rfl
variable{a:A}
@[simp]theorem zTZ{l:wE}:mM (a::l) 0=a:=rfl
@[simp]theorem zTY{l:wE}{n:Nat}:mM (a::l) (n+1)=mM l n:=by simp[mM]
@[simp]theorem zW4{n:Nat}:mM [] n=.lit undef:=by simp[mM]
@[simp]theorem qA7{k:K}{args:wE}:wpF P k rs args U R=wpK P U.length k (fin rs R) (mM args) U:=rfl
@[simp]theorem qIl:wpK P n0 .skip Q env U = Q .norm env U:=rfl
@[simp]theorem qK0:wpK P n0 .ret Q env U = Q .ret env U:=rfl
@[simp]theorem qIj:wpK P n0 (.exit i) Q env U = Q (.exit i) env U:=rfl
@[simp]theorem qK2{a b:K}:wpK P n0 (.seq a b) Q env U = wpK P n0 a (thn (wpK P n0 b Q) Q) env U:=rfl
@[simp]theorem qCH{a:K}:wpK P n0 (.block i a) Q env U = wpK P n0 a (blk i Q) env U:=rfl
@[simp]theorem qIk{a:K}:wpK P n0 (.loop a) Q env U = zIY n0 (wpK P n0 a) Q env U:=rfl
@[simp]theorem qA8{a:K}:wpK P n0 (.wk a) Q env U = Wk n0 (wpK P n0 a Q) env U:=rfl
@[simp]theorem qKz{l:List KG}:wpK P n0 (.ops l) Q env U = lY P (fun v=>Q (.pan v)) (Q .norm) l env U:=rfl
@[simp]theorem qIi{l:List (Nat×Nat×KG)}:wpK P n0 (.dops l) Q env U = wpD P (zFw Q) (Q .norm) l env U:=rfl
@[simp]theorem qK1{ps:wA}{a b:K}:wpK P n0 (.rng x ps a b) Q env U = zXZ P n0 x ps (fun n=>wpK P n a) (fun n=>wpK P n b) Q env U:=rfl
@[simp]theorem qAL{S:St}{J:wK}:zUa S J .norm env U = (U = S/\J env U):=rfl
@[simp]theorem qBi{S:St}:zUs n0 S .norm env U = Wk n0 (fun _ U'=>U'=S) env U:=rfl
@[simp]theorem qBN{xs:wE}:vW env [] xs=env:=by cases xs<;>rfl
@[simp]theorem zZQ{p:Nat}{ps:wA}{xs:wE}:vW env (p::ps) (a::xs)=vW (env.put (some p) a) ps xs:=rfl
@[simp]theorem zYF{b:Nat}:cellsOf (yv b)=some [yv b]:=rfl
def zWY(a:A)(A B:wK)(env:Env) (U:St):Prop:=match a with
 | .lit (.bool t)=>uF t A B env U
 |_=>False
@[simp]theorem zYP{t:Bool}{A B:wK}:zWY (.lit (.bool t)) A B env U = uF t A B env U:=rfl
@[simp]theorem qIh{a b:K}:wpK P n0 (.cond x a b) Q env U = zWY (ev env x) (wpK P n0 a Q) (wpK P n0 b Q) env U:=rfl
@[simp]theorem qCK:lY P Qp K' [] env U = K' env U:=rfl
@[simp]theorem qAB{o:KOp}{l:List KG}:lY P Qp K' (⟨none,o⟩::l) env U = wpO P Qp (lY P Qp K' l) o env U:=rfl
def zCD(a:A)(want:Bool)(A B:wK)(env:Env) (U:St):Prop:=match a with
 | .lit (.bool b)=>uF (b==want) A B env U
 | .lit (.tuple _)=>B env U
 |_=>False
variable{want:Bool}
@[simp]theorem zXc{A B:wK}:zCD (.lit (.bool b)) want A B env U = uF (b==want) A B env U:=rfl
@[simp]theorem zUF{A B:wK}:zCD (.lit undef) want A B env U = B env U:=rfl
variable{s:Nat}
@[simp]theorem zXN{o:KOp}{l:List KG}:lY P Qp K' (⟨some (s,want),o⟩::l) env U = zCD (env s) want (wpO P Qp (lY P Qp K' l) o) (zFM o.dst (lY P Qp K' l)) env U:=by
 simp only[lY,wpG,zCD];generalize env s=a;cases a<;>try rfl
 all_goals (rename_i v;cases v<;>rfl)
def zOk(a:A)(x y:A)(J:A->Prop):Prop:=match a with
 | .lit (.bool t)=>J (if t then x else y)
 |_=>False
variable{J:A->Prop}
@[simp]theorem zZL{t:Bool}{b:A}:zOk (.lit (.bool t)) a b J=J (if t then a else b):=rfl
def nO(o:Option A)(J:A->Prop):Prop:=match o with
 |some r=>J r
 |none=>False
@[simp]theorem qBJ:nO (some r) J=J r:=rfl
theorem rY{o:Option A}:jU (o.map fun r=>(True,r)) J=nO o J:=by cases o<;>simp[jU,nO]
@[simp]theorem qKJ:wpO P Qp K' (.mov d x) env U = K' (env.put d (ev env x)) U:=by simp[wpO,jU,zZ,KOp.dst]
theorem zPM:jU (zZ env U (.pick d x y z)) J=zOk (ev env x) (ev env y) (ev env z) J:=by
 simp only[zZ,zOk,jU];generalize ev env x=a;cases a<;>try rfl
 rename_i v;cases v<;>simp
@[simp]theorem qIr:wpO P Qp K' (.pick d x y z) env U = zOk (ev env x) (ev env y) (ev env z) fun r=>K' (env.put d r) U:=zPM (d:=d)
variable{zs:wL}
@[simp]theorem qCI:wpO P Qp K' (.alloc d zs) env U = K' (env.put d (.ptr U.length 0)) (U++[.box (zs.map jN)]):=rfl
@[simp]theorem qK7:wpO P Qp K' (.box d x) env U = zPI (cellsOf (ev env x)) fun cs=>K' (env.put d (.ptr U.length 0)) (U++[.box cs]):=rfl
variable{agg:Bool}
@[simp]theorem qNV{n:Nat}:wpO P Qp K' (.ld d x n agg) env U = nO ((ldA U n (ev env x)).bind (iE agg)) fun r=>K' (env.put d r) U:=rY
@[simp]theorem qNX{n:Nat}:wpO P Qp K' (.st d x y n) env U = zPI (cellsOf (ev env y)) fun cs=>cs.length=n/\zZJ (stA U cs (ev env x)) fun U'=>K' (env.put d (.lit undef)) U':=by
 simp only[wpO,zPI,zZJ];cases cellsOf (ev env y)with
 |none=>rfl
 |some cs =>
  simp only;by_cases h:cs.length=n
  .simp only[h,if_true,true_and];cases stA U cs (ev env x)<;>rfl
  .simp[h]
def zDh(U:St)(off:Nat):A->Option A
 | .ptr l o=>some (.ptr l (o+off))
 | .rptr cs=>some (.rptr (cs.drop off))
 | .rwp l n o=>match U[l]? with
  |some (.row _ _ _ m _)=>if n=m then some (.rwp l n (o+off))else none
  |_=>none
 |_=>none
variable{o:Nat}
@[simp]theorem qAG:zDh U off (.ptr l o)=some (.ptr l (o+off)):=rfl
@[simp]theorem zYc:zDh U off (.rptr cs)=some (.rptr (cs.drop off)):=rfl
theorem zEp:zZ env U (.addr d x off)=(zDh U off (ev env x)).map fun r=>(True,r):=by
 simp only[zZ];generalize ev env x=a;cases a<;>simp only[zDh]<;>try rfl
 rename_i l n o;cases U[l]? with
 |none=>rfl
 |some ob =>
  cases ob<;>try rfl
  simp only;split<;>rfl
@[simp]theorem qIm:wpO P Qp K' (.addr d x off) env U = nO (zDh U off (ev env x)) fun r=>K' (env.put d r) U:=by show jU (zZ env U (.addr d x off)) _=_;rw[zEp,rY];rfl
def tE(U:St)(sz:Nat)(a i:A)(J:A->Prop):Prop:=match a,i with
 | .sl n cs,.lit (.int _ j)=>((0<=j/\j<n)/\j.toNat*sz<cs.length)/\J (.rptr (cs.drop (j.toNat*sz)))
 | .fsl n cs,.lit (.int _ j)=>((0<=j/\j<n)/\j.toNat*sz<cs.length)/\J (.rptr (cs.drop (j.toNat*sz)))
 | .row l n,.lit (.int _ j)=>match U[l]? with
  |some (.row _ _ s m _)=>if n=m/\s=sz then (0<=j/\j<n)/\J (.rwp l n (j.toNat*sz))else False
  |_=>False
 | .win l n o k' _,.lit (.int _ j)=>match U[l]? with
  |some (.row _ _ s m _)=>if n=m/\s=sz then (0<=j/\j<k')/\J (.rwp l n (o+j.toNat*sz))else False
  |_=>False
 |_,_=>False
variable{sz:Nat}
theorem zHj:jU (zZ env U (.idx d x y sz)) J=tE U sz (ev env x) (ev env y) J:=by
 simp only[zZ,tE,jU];generalize ev env x=a;generalize ev env y=b;cases a<;>cases b<;>try rfl
 all_goals (rename_i v;cases v<;>try rfl)
 .rename_i l n k j;simp only;cases U[l]? with
  |none=>rfl
  |some ob =>
   cases ob<;>try rfl
   rename_i fz e s m cs;by_cases h:n=m/\s=sz<;>simp[h]
 .rename_i l n o k' c k j;simp only;cases U[l]? with
  |none=>rfl
  |some ob =>
   cases ob<;>try rfl
   rename_i fz e s m cs;by_cases h:n=m/\s=sz<;>simp[h]
@[simp]theorem qKC:wpO P Qp K' (.idx d x y sz) env U = tE U sz (ev env x) (ev env y) fun r=>K' (env.put d r) U:=zHj (d:=d)
variable{j:Int}
@[simp]theorem qJ7{sz n:Nat}{k:IntKind}:tE U sz (.sl n cs) (.lit (.int k j)) J=(((0<=j/\j<n)/\j.toNat*sz<cs.length)/\J (.rptr (cs.drop (j.toNat*sz)))):=rfl
@[simp]theorem qGi{sz n:Nat}{k:IntKind}:tE U sz (.fsl n cs) (.lit (.int k j)) J=(((0<=j/\j<n)/\j.toNat*sz<cs.length)/\J (.rptr (cs.drop (j.toNat*sz)))):=rfl
def zBC(len sz:Nat)(a i:A)(J:A->Prop):Prop:=match a,i with
 | .ptr l o,.lit (.int _ j)=>(0<=j/\j<len)/\J (.ptr l (o+j.toNat*sz))
 | .rptr cs,.lit (.int _ j)=>((0<=j/\j<len)/\j.toNat*sz<cs.length)/\J (.rptr (cs.drop (j.toNat*sz)))
 |_,_=>False
@[simp]theorem zUK{len sz:Nat}{k:IntKind}:zBC len sz (.rptr cs) (.lit (.int k j)) J=(((0<=j/\j<len)/\j.toNat*sz<cs.length)/\J (.rptr (cs.drop (j.toNat*sz)))):=rfl
@[simp]theorem zXl{len sz l o:Nat}{k:IntKind}:zBC len sz (.ptr l o) (.lit (.int k j)) J=((0<=j/\j<len)/\J (.ptr l (o+j.toNat*sz))):=rfl
theorem zIs{len sz:Nat}:jU (zZ env U (.idxarr d x y len sz)) J=zBC len sz (ev env x) (ev env y) J:=by
 simp only[zZ,zBC,jU];generalize ev env x=a;generalize ev env y=b;cases a<;>first
  |rfl
  |(cases b<;>first
   |rfl
   |(rename_i v;cases v<;>rfl))
@[simp]theorem qAA{len sz:Nat}:wpO P Qp K' (.idxarr d x y len sz) env U = zBC len sz (ev env x) (ev env y) fun r=>K' (env.put d r) U:=zIs (d:=d)
def oX(op:BinOp)(a b:A)(J:A->Prop):Prop:=match a,b with
 | .lit (.int k m),.lit (.int k' n)=>if k=k' then (match rT op k m n with|some (p,r)=>p/\J r|none=>False)else False
 | .lit (.string s),.lit (.string t)=>(match zTy op s t with|some (p,r)=>p/\J r|none=>False)
 |_,_=>False
variable{op:BinOp}
theorem zO3:jU (zZ env U (.bin d op x y)) J=oX op (ev env x) (ev env y) J:=by
 simp only[zZ,oX,jU];generalize ev env x=a;generalize ev env y=b;cases a<;>try rfl
 rename_i u;cases b<;>try(cases u<;>rfl)
 rename_i v;cases u<;>cases v<;>try rfl
 case lit.lit.int.int k m k' n =>
  by_cases h:k=k'
  .simp only[h,if_true];cases rT op k' m n<;>rfl
  .simp[h]
@[simp]theorem qK6:wpO P Qp K' (.bin d op x y) env U = oX op (ev env x) (ev env y) fun r=>K' (env.put d r) U:=zO3 (d:=d)
@[simp]theorem qEe{s t:ByteArray}:oX .add (.lit (.string s)) (.lit (.string t)) J=(s.size+t.size<=1000000/\J (.lit (.string (s++t)))):=rfl
@[simp]theorem qDW{k:IntKind}{m n:Int}:oX .add (.lit (.int k m)) (.lit (.int k n)) J=J (.lit (.int k (k.wrap (m+n)))):=by simp[oX,rT]
@[simp]theorem qEf{k:IntKind}{m n:Int}:oX .sub (.lit (.int k m)) (.lit (.int k n)) J=J (.lit (.int k (k.wrap (m-n)))):=by simp[oX,rT]
@[simp]theorem qEb{k:IntKind}{m n:Int}:oX .mul (.lit (.int k m)) (.lit (.int k n)) J=J (.lit (.int k (k.wrap (m*n)))):=by simp[oX,rT]
@[simp]theorem qEc{k:IntKind}{m n:Int}:oX .quo (.lit (.int k m)) (.lit (.int k n)) J=(n≠0/\J (.lit (.int k (k.wrap (m.tdiv n))))):=by simp[oX,rT]
@[simp]theorem qEd{k:IntKind}{m n:Int}:oX .rem (.lit (.int k m)) (.lit (.int k n)) J=(n≠0/\J (.lit (.int k (m.tmod n)))):=by simp[oX,rT]
@[simp]theorem qEa{k:IntKind}{m n:Int}:oX .lss (.lit (.int k m)) (.lit (.int k n)) J=J (.lit (.bool (decide (m<n)))):=by simp[oX,rT]
@[simp]theorem qDZ{k:IntKind}{m n:Int}:oX .leq (.lit (.int k m)) (.lit (.int k n)) J=J (.lit (.bool (decide (m<=n)))):=by simp[oX,rT]
@[simp]theorem qDY{k:IntKind}{m n:Int}:oX .gtr (.lit (.int k m)) (.lit (.int k n)) J=J (.lit (.bool (decide (n<m)))):=by simp[oX,rT]
@[simp]theorem qDX{k:IntKind}{m n:Int}:oX .geq (.lit (.int k m)) (.lit (.int k n)) J=J (.lit (.bool (decide (n<=m)))):=by simp[oX,rT]
noncomputable def eqA(k:SK) (ng:Bool) (a b:A):Option A:=(iO k a b).map (fC ng)
noncomputable def zIe(ks:List SK) (ng:Bool) (a b:A):Option A:=match a,b with
 | .agg xs,.agg ys=>(bA ks xs ys).map (fC ng)
 |_,_=>none
variable{ng:Bool}
theorem zRE{k:SK}:jU (zZ env U (.eqv d ng k x y)) J=nO (eqA k ng (ev env x) (ev env y)) J:=by simp only[zZ,eqA];cases iO k (ev env x) (ev env y)<;>simp[jU,nO]
theorem zRD{ks:List SK}:jU (zZ env U (.eqs d ng ks x y)) J=nO (zIe ks ng (ev env x) (ev env y)) J:=by
 simp only[zZ,zIe];generalize ev env x=a;generalize ev env y=b;cases a<;>cases b<;>try rfl
 rename_i xs ys;simp only;cases bA ks xs ys<;>simp[jU,nO]
@[simp]theorem qKA{k:SK}:wpO P Qp K' (.eqv d ng k x y) env U = nO (eqA k ng (ev env x) (ev env y)) fun r=>K' (env.put d r) U:=zRE (d:=d)
@[simp]theorem qK9{ks:List SK}:wpO P Qp K' (.eqs d ng ks x y) env U = nO (zIe ks ng (ev env x) (ev env y)) fun r=>K' (env.put d r) U:=zRD (d:=d)
@[simp]theorem qJz{k:IntKind}{m n:Int}:eqA .i false (.lit (.int k m)) (.lit (.int k n))=some (.lit (.bool (decide (m=n)))):=by simp[eqA,iO,fC]
@[simp]theorem qFI{k:IntKind}{m n:Int}:eqA .i true (.lit (.int k m)) (.lit (.int k n))=some (.lit (.bool (decide (m≠n)))):=by simp[eqA,iO,fC]
@[simp]theorem qFH{m n:Bool}:eqA .b false (.lit (.bool m)) (.lit (.bool n))=some (.lit (.bool (decide (m=n)))):=by simp[eqA,iO,fC]
@[simp]theorem qBj{m n:Bool}:eqA .b true (.lit (.bool m)) (.lit (.bool n))=some (.lit (.bool (decide (m≠n)))):=by simp[eqA,iO,fC]
def zVa(a:A)(J:A->Prop):Prop:=match a with | .lit (.int k m)=>J (.lit (.int k (k.wrap (0-m))))|_=>False
@[simp]theorem qGQ{k:IntKind}{m:Int}:zVa (.lit (.int k m)) J=J (.lit (.int k (k.wrap (0-m)))):=rfl
theorem zSG:jU (zZ env U (.neg d x)) J=zVa (ev env x) J:=by
 simp only[zZ,zVa];generalize ev env x=a;cases a<;>try rfl
 rename_i v;cases v<;>simp[jU]
@[simp]theorem qKK:wpO P Qp K' (.neg d x) env U = zVa (ev env x) fun r=>K' (env.put d r) U:=zSG (d:=d)
def zVc(a:A)(J:A->Prop):Prop:=match a with | .lit (.bool b)=>J (.lit (.bool !b))|_=>False
@[simp]theorem qB3:zVc (.lit (.bool b)) J=J (.lit (.bool !b)):=rfl
theorem zSJ:jU (zZ env U (.not d x)) J=zVc (ev env x) J:=by
 simp only[zZ,zVc];generalize ev env x=a;cases a<;>try rfl
 rename_i v;cases v<;>simp[jU]
@[simp]theorem qKL:wpO P Qp K' (.not d x) env U = zVc (ev env x) fun r=>K' (env.put d r) U:=zSJ (d:=d)
def oY(U:St)(a:A)(J:A->Prop):Prop:=match a with
 | .nil=>J (.lit (.int .i64 0))
 | .sl n _=>n<=maxLen->J (.lit (.int .i64 n))
 | .fsl n _=>n<=maxLen->J (.lit (.int .i64 n))
 | .row l n=>match U[l]? with
  |some (.row _ _ _ m _)=>if n=m then J (.lit (.int .i64 n))else False
  |_=>False
 | .win l n _ k _=>match U[l]? with
  |some (.row _ _ _ m _)=>if n=m then J (.lit (.int .i64 k))else False
  |_=>False
 |_=>False
@[simp]theorem qG5:oY U .nil J=J (.lit (.int .i64 0)):=rfl
@[simp]theorem qJD{n:Nat}:oY U (.sl n cs) J=(n<=maxLen->J (.lit (.int .i64 n))):=rfl
@[simp]theorem qG4{n:Nat}:oY U (.fsl n cs) J=(n<=maxLen->J (.lit (.int .i64 n))):=rfl
@[simp]theorem qKG:wpO P Qp K' (.len d false x) env U = oY U (ev env x) fun r=>K' (env.put d r) U:=by
 simp only[wpO,oY,zZ];generalize ev env x=a;cases a<;>simp only[jU,true_and]
 .rename_i l n;cases U[l]? with
  |none=>rfl
  |some ob =>
   cases ob<;>try rfl
   rename_i fz e s m cs;by_cases h:n=m<;>simp[h]
 .rename_i l n _ k _;cases U[l]? with
  |none=>rfl
  |some ob =>
   cases ob<;>try rfl
   rename_i fz e s m cs;by_cases h:n=m<;>simp[h]
def zOb(a:A)(J:A->Prop):Prop:=match a with | .lit (.string s)=>J (.lit (.int .i64 s.size))|_=>False
@[simp]theorem zUQ{s:ByteArray}:zOb (.lit (.string s)) J=J (.lit (.int .i64 s.size)):=rfl
theorem zP6:jU (zZ env U (.len d true x)) J=zOb (ev env x) J:=by
 simp only[zZ,zOb];generalize ev env x=a;cases a<;>try rfl
 rename_i v;cases v<;>simp[jU]
@[simp]theorem qIp:wpO P Qp K' (.len d true x) env U = zOb (ev env x) fun r=>K' (env.put d r) U:=zP6 (d:=d)
def mmA(mx:Bool):List A->Option A
 | .lit (.int k a)::rest=>vS mx a rest k
 |_=>none
@[simp]theorem zXr{k:IntKind}{m n:Int}:mmA true [.lit (.int k m),.lit (.int k n)]=some (.lit (.int k (if m<n then n else m))):=by simp[mmA,vS]
@[simp]theorem zXs{k:IntKind}{m n:Int}:mmA false [.lit (.int k m),.lit (.int k n)]=some (.lit (.int k (if n<m then n else m))):=by simp[mmA,vS]
variable{xs:List Operand}{mx:Bool}
theorem zUY:jU (zZ env U (.mm d mx xs)) J=nO (mmA mx (xs.map (ev env))) J:=by
 simp only[zZ];generalize xs.map (ev env)=l;cases l with
 |nil=>rfl
 |cons a l =>
  cases a<;>try rfl
  rename_i v;cases v<;>try rfl
  exact rY
@[simp]theorem qNW:wpO P Qp K' (.mm d mx xs) env U = nO (mmA mx (xs.map (ev env))) fun r=>K' (env.put d r) U:=zUY (d:=d)
def zUA(i:Nat)(a:A)(J:A->Prop):Prop:=match a with | .tup vs=>(match vs[i]? with|some r=>J r|none=>False)|_=>False
@[simp]theorem qFP{vs:wE}:zUA i (.tup vs) J=nO vs[i]? J:=rfl
theorem zRR:jU (zZ env U (.ext d x i)) J=zUA i (ev env x) J:=by
 simp only[zZ,zUA];generalize ev env x=a;cases a<;>try rfl
 rename_i vs;simp only;cases vs[i]?<;>simp[jU]
@[simp]theorem qKB:wpO P Qp K' (.ext d x i) env U = zUA i (ev env x) fun r=>K' (env.put d r) U:=zRR (d:=d)
@[simp]theorem qK8{a b:List Operand}:wpO P Qp K' (.clo d f a b) env U = K' (env.put d (.clo f (a.map (ev env)) (b.map (ev env)))) U:=by simp[wpO,zZ,jU,KOp.dst]
variable{ps:List (Nat×Nat×Operand)}
theorem zLA:jU (zZ env U (.build d zs ps)) J=nO ((fT (zs.map jN) (ps.map fun(o,s,x)=>(o,s,ev env x))).map .agg) J:=by simp only[zZ];cases fT (zs.map jN) (ps.map fun(o,s,x)=>(o,s,ev env x))<;>simp[jU,nO]
def zMv(a:A)(neg:Bool)(J:A->Prop):Prop:=match a with
 | .lit (.pointer none)=>J (.lit (.bool !neg))
 | .rptr _=>J (.lit (.bool neg))
 | .ptr _ _=>J (.lit (.bool neg))
 |_=>False
variable{neg:Bool}
@[simp]theorem qGq:zMv (.lit (.pointer none)) neg J=J (.lit (.bool !neg)):=rfl
@[simp]theorem qBv:zMv (.rptr cs) neg J=J (.lit (.bool neg)):=rfl
@[simp]theorem qGr:zMv (.ptr l o) neg J=J (.lit (.bool neg)):=rfl
@[simp]theorem qKE:wpO P Qp K' (.isp d neg x) env U = zMv (ev env x) neg fun r=>K' (env.put d r) U:=by
 show jU (zZ env U (.isp d neg x)) _=_;simp only[zZ];generalize ev env x=a;cases a with
 |lit v=>cases v with
  |pointer ad=>cases ad<;>simp[jU,zMv,KOp.dst]
  |_=>rfl
 |rptr cs=>simp[jU,zMv,KOp.dst]
 |ptr l o=>simp[jU,zMv,KOp.dst]
 |_=>rfl
def qGF(t:TypeId)(a:A):A:=match a with
 | .lit v=>.lit (.iface t v)
 |_=>.any
@[simp]theorem qGG{t:TypeId}:qGF t (.lit v)=.lit (.iface t v):=rfl
@[simp]theorem qKH{t:TypeId}:wpO P Qp K' (.mki d t x) env U = K' (env.put d (qGF t (ev env x))) U:=by simp only[wpO,zZ,jU,KOp.dst,true_and];generalize ev env x=a;cases a<;>rfl
def qHn(Qp:Value->wK)(env:Env) (U:St)(a:A):Prop:=match a with
 | .lit (.iface t v)=>Qp (.iface t v) env U
 |_=>False
@[simp]theorem qHo{t:TypeId}:qHn Qp env U (.lit (.iface t v))=Qp (.iface t v) env U:=rfl
@[simp]theorem qKM:wpO P Qp K' (.pan d x) env U = qHn Qp env U (ev env x):=rfl
@[simp]theorem qCJ:wpO P Qp K' (.build d zs ps) env U = nO ((fT (zs.map jN) (ps.map fun(o,s,x)=>(o,s,ev env x))).map .agg) fun r=>K' (env.put d r) U:=zLA (d:=d)
@[simp]theorem qA9{sz n:Nat}:wpO P Qp K' (.bslice d e sz n zs ps) env U = nO ((fT (zs.map jN) (ps.map fun(o,s,x)=>(o,s,ev env x))).map (.fsl n)) fun r=>K' (env.put d r) U:=by simp only[wpO,nO];cases fT (zs.map jN) (ps.map fun(o,s,x)=>(o,s,ev env x))<;>simp
@[simp]theorem qIn{sz n:Nat}:wpO P Qp K' (.brow d e sz n zs ps) env U = zPI (fT (zs.map jN) (ps.map fun(o,s,x)=>(o,s,ev env x))) fun cs=>K' (env.put d (.row U.length n)) (U++[.row false e sz n cs]):=by simp only[wpO,zPI];cases fT (zs.map jN) (ps.map fun(o,s,x)=>(o,s,ev env x))<;>simp
def zP0(a:A)(neg:Bool)(J:A->Prop):Prop:=match a with
 | .nil=>J (.lit (.bool !neg))
 | .sl n _=>n≠0/\J (.lit (.bool neg))
 | .fsl n _=>n≠0/\J (.lit (.bool neg))
 |_=>False
@[simp]theorem qGp:zP0 .nil neg J=J (.lit (.bool !neg)):=rfl
@[simp]theorem qJ8{n:Nat}:zP0 (.sl n cs) neg J=(n≠0/\J (.lit (.bool neg))):=rfl
@[simp]theorem qGo{n:Nat}:zP0 (.fsl n cs) neg J=(n≠0/\J (.lit (.bool neg))):=rfl
theorem zSu:jU (zZ env U (.isn d neg x)) J=zP0 (ev env x) neg J:=by simp only[zZ,zP0,jU];generalize ev env x=a;cases a<;>simp
def zV4(o:Option AObj) (U:St)(l n sz:Nat)(h:Int)(J:A->St->Prop):Prop:=match o with
 |some (.row false e s m cs)=>(n=m/\s=sz/\0<=h/\h<=n/\n≠0)/\J (.row U.length h.toNat) (U.set l .dead++[.row false e sz h.toNat (cs.take (h.toNat*sz))])
 |_=>False
@[simp]theorem qCd{e s m l n sz:Nat}{h:Int}{J:A->St->Prop}:zV4 (some (.row false e s m cs)) U l n sz h J=((n=m/\s=sz/\0<=h/\h<=n/\n≠0)/\J (.row U.length h.toNat) (U.set l .dead++[.row false e sz h.toNat (cs.take (h.toNat*sz))])):=rfl
def qAe(U:St)(sz:Nat)(a b:A)(J:A->St->Prop):Prop:=match a,b with
 | .row l n,.lit (.int _ h)=>zV4 U[l]? U l n sz h J
 |_,_=>False
@[simp]theorem qHE{l n sz:Nat}{k:IntKind}{h:Int}{J:A->St->Prop}:qAe U sz (.row l n) (.lit (.int k h)) J=zV4 U[l]? U l n sz h J:=rfl
@[simp]theorem qKN:wpO P Qp K' (.shr d x sz y) env U = qAe U sz (ev env x) (ev env y) fun r τ=>K' (env.put d r) τ:=by simp only[wpO,qAe,zV4];generalize ev env x=a;generalize ev env y=b;cases a<;>cases b<;>first|rfl|(rename_i v;cases v<;>rfl)
def zTX(ob:Option AObj) (U:St)(e:TypeId)(sz bytes:Nat)(l n o k c m:Nat)(ys:wE)(J:A->St->Prop):Prop:=match ob with
 |some (.row false e' s n' cs)=>(ys.length=m*sz/\m≠0/\n=n'/\e'=e/\s=sz/\c=sz/\o+k*sz=n*sz/\n+m<=maxLen/\(n+m)*bytes<=140737488355328) /\
  J (.win l (n+m) o (k+m) sz) (U.set l (.row false e sz (n+m) (cs++ys)))/\J (.win U.length (k+m) 0 (k+m) sz) (U++[.row false e sz (k+m) (cs.drop o++ys)])
 |_=>False
variable{e':TypeId}{ys:wE}
@[simp]theorem qAJ{n':Nat}{sz bytes l n o k c m:Nat}{J:A->St->Prop}:zTX (some (.row false e' s n' cs)) U e sz bytes l n o k c m ys J=((ys.length=m*sz/\m≠0/\n=n'/\e'=e/\s=sz/\c=sz/\o+k*sz=n*sz/\n+m<=maxLen/\(n+m)*bytes<=140737488355328) /\
 J (.win l (n+m) o (k+m) sz) (U.set l (.row false e sz (n+m) (cs++ys)))/\J (.win U.length (k+m) 0 (k+m) sz) (U++[.row false e sz (k+m) (cs.drop o++ys)])):=rfl
def zYe(U:St)(e:TypeId)(sz bytes:Nat)(el:Option (Nat×wE))(a:A)(J:A->St->Prop):Prop:=match el,a with
 |some (m,ys),.win l n o k c=>zTX U[l]? U e sz bytes l n o k c m ys J
 |_,_=>False
@[simp]theorem qDU{sz bytes l n o k c m:Nat}{J:A->St->Prop}:zYe U e sz bytes (some (m,ys)) (.win l n o k c) J=zTX U[l]? U e sz bytes l n o k c m ys J:=rfl
variable{bytes:Nat}
@[simp]theorem qK5:wpO P Qp K' (.apq d e sz bytes x y) env U = zYe U e sz bytes (fQ U sz (ev env y)) (ev env x) fun r τ=>K' (env.put d r) τ:=by simp only[wpO,zYe,zTX];generalize fQ U sz (ev env y)=el;generalize ev env x=a;cases el<;>cases a<;>rfl
def zP1(U:St)(a:A)(neg:Bool)(J:A->Prop):Prop:=match a with
 | .nil=>J (.lit (.bool !neg))
 | .sl n _=>J (.lit (.bool neg))/\(n=0->J (.lit (.bool !neg)))
 | .row l n=>(match U[l]? with
  |some (.row _ _ _ m _)=>n=m/\J (.lit (.bool neg))/\(n=0->J (.lit (.bool !neg)))
  |_=>False)
 |_=>False
@[simp]theorem qGs:zP1 U .nil neg J=J (.lit (.bool !neg)):=rfl
@[simp]theorem qJ9{n:Nat}:zP1 U (.sl n cs) neg J=(J (.lit (.bool neg))/\(n=0->J (.lit (.bool !neg)))):=rfl
@[simp]theorem qKF:wpO P Qp K' (.isz d neg x) env U = zP1 U (ev env x) neg fun r=>K' (env.put d r) U:=by simp only[wpO,zP1];cases ev env x<;>rfl
@[simp]theorem qKD:wpO P Qp K' (.isn d neg x) env U = zP0 (ev env x) neg fun r=>K' (env.put d r) U:=zSu (d:=d)
@[simp]theorem qBm:fT cs []=some cs:=rfl
def zXa(c:Option wE)(o s:Nat)(cs:wE)(rest:List (Nat×Nat×A)):Option wE:=match c with
 |some l=>if l.length=s/\o+s<=cs.length then fT (cs.take o++l++cs.drop (o+s)) rest else none
 |none=>none
variable{rest:List (Nat×Nat×A)}
@[simp]theorem zZg{l:wE}:zXa (some l) o s cs rest=if l.length=s/\o+s<=cs.length then fT (cs.take o++l++cs.drop (o+s)) rest else none:=rfl
@[simp]theorem zZf:fT cs ((o,s,a)::rest)=zXa (cellsOf a) o s cs rest:=rfl
def elP(U:St)(sz:Nat)(a:A)(J:Nat->List A->Prop):Prop:=match fQ U sz a with
 |some (m,ys)=>ys.length=m*sz/\J m ys
 |none=>False
@[simp]theorem qJw{J:Nat->List A->Prop}:elP U sz .nil J=J 0 []:=by simp[elP,fQ]
@[simp]theorem qNt{sz n:Nat}{J:Nat->List A->Prop}:elP U sz (.sl n cs) J=(cs.length=n*sz/\J n cs):=rfl
@[simp]theorem qJv{sz n:Nat}{J:Nat->List A->Prop}:elP U sz (.fsl n cs) J=(cs.length=n*sz/\J n cs):=rfl
@[simp]theorem qJx{sz l n:Nat}{J:Nat->List A->Prop}:elP U sz (.row l n) J=zXE U[l]? n sz fun cs=>cs.length=n*sz/\J n cs:=by
 simp only[elP,fQ];cases U[l]? with
 |none=>rfl
 |some o =>
  cases o<;>try rfl
  rename_i fz e s m cs;by_cases h:n=m/\s=sz
  .simp[h]
  .simp only[h,if_false,zMX,eq_iff_iff,false_iff];rintro⟨h1,h2,_⟩;exact h ⟨h1,h2⟩
def zQU(d:wC)(K':wK)(env:Env) (U:St)(e:TypeId)(sz bytes m:Nat)(ys:wE):A->Prop
 | .nil=>(m<=maxLen/\m*bytes<=140737488355328)/\K' (env.put d (.row U.length m)) (U++[AObj.row false e sz m ys])
 | .row l n=>(match U[l]? with
  |some (.row fz e' s n' cs)=>if n=n'/\e'=e/\s=sz then (n+m<=maxLen/\(n+m)*bytes<=140737488355328)/\K' (env.put d (.row l (n+m))) (U.set l (.row fz e sz (n+m) (cs++ys)))else False
  |_=>False)
 | .fsl n cs=>cs.length=n*sz/\(m=0->K' (env.put d (.fsl n cs)) U)/\(m≠0->(n+m<=maxLen/\(n+m)*bytes<=140737488355328)/\K' (env.put d (.row U.length (n+m))) (U++[AObj.row false e sz (n+m) (cs++ys)]))
 |_=>False
@[simp]theorem qDS{m:Nat}:zQU d K' env U e sz bytes m ys .nil=((m<=maxLen/\m*bytes<=140737488355328)/\K' (env.put d (.row U.length m)) (U++[AObj.row false e sz m ys])):=rfl
@[simp]theorem qDR{sz bytes m n:Nat}:zQU d K' env U e sz bytes m ys (.fsl n cs)=(cs.length=n*sz/\(m=0->K' (env.put d (.fsl n cs)) U)/\(m≠0->(n+m<=maxLen/\(n+m)*bytes<=140737488355328)/\K' (env.put d (.row U.length (n+m))) (U++[AObj.row false e sz (n+m) (cs++ys)]))):=rfl
def zXF:Option AObj->Nat->TypeId->Nat->(Bool->List A->Prop)->Prop
 |some (.row fz e' s n' cs),n,e,sz,J=>(n=n'/\e'=e/\s=sz)/\J fz cs
 |_,_,_,_,_=>False
@[simp]theorem zZY{s n' n sz:Nat}{J:Bool->List A->Prop}:zXF (some (.row fz e' s n' cs)) n e sz J=((n=n'/\e'=e/\s=sz)/\J fz cs):=rfl
@[simp]theorem qDT{sz bytes m l n:Nat}:zQU d K' env U e sz bytes m ys (.row l n)=zXF U[l]? n e sz fun fz cs=>(n+m<=maxLen/\(n+m)*bytes<=140737488355328)/\K' (env.put d (.row l (n+m))) (U.set l (.row fz e sz (n+m) (cs++ys))):=by
 simp only[zQU];cases U[l]? with
 |none=>rfl
 |some o =>
  cases o<;>try rfl
  rename_i fz e' s n' cs;by_cases h:n=n'/\e'=e/\s=sz
  .simp[h]
  .simp[h]
@[simp]theorem qK4:wpO P Qp K' (.app d e sz bytes x y) env U = elP U sz (ev env y) fun m ys=>zQU d K' env U e sz bytes m ys (ev env x):=by
 simp only[wpO,elP];cases fQ U sz (ev env y)with
 |none=>rfl
 |some r =>
  obtain⟨m,ys⟩:=r;simp only;generalize ev env x=a;cases a<;>rfl
def zRl(P:Program)(Qp:Value->wK)(K':wK)(d:wC)(f:A)(args:wE)(env:Env) (U:St):Prop:=match f with
 | .clo g first cap=>zC P g=true/\aG P g (first++args++cap) U (outK d env K' Qp)
 | .lit (.func (.yield b) ⟨[]⟩ ⟨[]⟩)=>lD P b args U (outK d env K' Qp)
 |_=>False
@[simp]theorem qF0{b:Nat}{args:wE}:zRl P Qp K' d (yv b) args env U = lD P b args U (outK d env K' Qp):=rfl
variable{g:FuncId}
@[simp]theorem qAW{first cap args:wE}:zRl P Qp K' d (.clo g first cap) args env U = (zC P g=true/\aG P g (first++args++cap) U (outK d env K' Qp)):=rfl
@[simp]theorem qIo{args:List Operand}:wpO P Qp K' (.call d x args) env U = zRl P Qp K' d (ev env x) (args.map (ev env)) env U:=rfl
@[simp]theorem qAQ:cR []=[]:=rfl
@[simp]theorem qAP:cR (.box cs::U)=.box cs::cR U:=rfl
@[simp]theorem qAR{sz n:Nat}:cR (.row fz e sz n cs::U)=.dead::cR U:=rfl
@[simp]theorem qEm{fr:Bool}{nk:Nat}{es:List (wB×A)}:cR (.mp fr nk es::U)=.dead::cR U:=rfl
@[simp]theorem qAS:cR (.rsv::U)=.dead::cR U:=rfl
@[simp]theorem qEk{m n:Nat}{met:wA}:cR (.it m n met::U)=.dead::cR U:=rfl
@[simp]theorem qEl{b M:Nat}{r:Loop}{es:List (Nat×A)}:cR (.lp b r M es::U)=.dead::cR U:=rfl
variable{τ:St}
theorem zBk{U:St}:cR (U++τ)=cR U++cR τ:=by
 induction U with
 |nil=>rfl
 |cons o U ih=>cases o<;>simp[cR,ih]
@[simp]theorem zUc{U:St}:(cR U).length = U.length:=by
 induction U with
 |nil=>rfl
 |cons o U ih=>cases o<;>simp[cR,ih]
@[simp]theorem qBX{U:St}:oR 0 U = U:=rfl
@[simp]theorem qHA{U:St}:oR 1 U = cR U:=rfl
@[simp]theorem qHC{U:St}:oR 2 U = []:=rfl
variable{fl k:Nat}
@[simp]theorem qHp:zFw Q v U = ∀e,Q (.pan v) e U:=rfl
@[simp]theorem qKy:wpD P Qd K' [] env U = K' env U:=by simp only[wpD]
@[simp]theorem qNC{o:KOp}:c9 0 o env=True:=rfl
@[simp]theorem qND{o:KOp}:c9 1 o env=True:=rfl
@[simp]theorem qNE{o:KOp}:c9 2 o env=True:=rfl
@[simp]theorem qNF{o:KOp}:c9 3 o env=True:=rfl
@[simp]theorem qNG{o:KOp}:c9 4 o env=True:=rfl
@[simp]theorem qNH{n:Nat}:c9 5 (.st d x y n) env=zKl (ev env x):=rfl
@[simp]theorem qNI{n:Nat}:c9 6 (.st d x y n) env=zKm (ev env x):=rfl
@[simp]theorem qKe{n:Nat}:c9 6 (.idx d x y n) env=isRow (ev env x):=rfl
@[simp]theorem qBs:zKl (.ptr l o)=True:=rfl
@[simp]theorem qBu{l n o:Nat}:zKm (.rwp l n o)=True:=rfl
@[simp]theorem qBt{l n:Nat}:isRow (.row l n)=True:=rfl
@[simp]theorem qHB{U:St}:oR 6 U = U:=rfl
@[simp]theorem qIc{o:KOp}{l:List (Nat×Nat×KG)}:wpD P Qd K' ((k,fl,⟨none,o⟩)::l) env U = (c9 fl o env/\j7 P Qd fl (wpD P Qd K' l) o env U):=rfl
@[simp]theorem qCx{o:KOp}{l:List (Nat×Nat×KG)}:wpD P Qd K' ((k,fl,⟨some (s,want),o⟩)::l) env U = (c9 fl o env/\zCD (env s) want (j7 P Qd fl (wpD P Qd K' l) o) (zFM o.dst (wpD P Qd K' l)) env U):=by
 simp only[wpD,zTJ,zCD];generalize env s=a;cases a<;>try rfl
 all_goals (rename_i v;cases v<;>rfl)
@[simp]theorem qA5:j7 P Qd fl K' (.pick d x y z) env U = wpO P dE K' (.pick d x y z) env U:=by simp[j7,KOp.lite,KOp.keeps]
@[simp]theorem qA1{e sz n:Nat}:j7 P Qd fl K' (.brow d e sz n zs ps) env U = wpO P dE K' (.brow d e sz n zs ps) env U:=by simp[j7,KOp.lite,KOp.keeps]
@[simp]theorem qCC{m:MOp}:j7 P Qd fl K' (.mop d m xs) env U = (match zSD m (xs.map (ev env)) U with
 |some (r,U')=>K' (env.put d r) U'
 |none=>False):=rfl
@[simp]theorem qC9:j7 P Qd fl K' (.isp d ng x) env U = wpO P dE K' (.isp d ng x) env U:=by simp[j7,KOp.lite,KOp.keeps]
@[simp]theorem qCB{t:TypeId}:j7 P Qd fl K' (.mki d t x) env U = wpO P dE K' (.mki d t x) env U:=by simp[j7,KOp.lite,KOp.keeps]
@[simp]theorem qCD:j7 P Qd fl K' (.mov d x) env U = wpO P dE K' (.mov d x) env U:=by simp[j7,KOp.lite,KOp.keeps]
@[simp]theorem zVI{len sz:Nat}:j7 P Qd fl K' (.idxarr d x y len sz) env U = wpO P dE K' (.idxarr d x y len sz) env U:=by simp[j7,KOp.lite,KOp.keeps]
@[simp]theorem qC0:j7 P Qd fl K' (.bin d op x y) env U = wpO P dE K' (.bin d op x y) env U:=by simp[j7,KOp.lite,KOp.keeps]
@[simp]theorem qC4{k:SK}:j7 P Qd fl K' (.eqv d ng k x y) env U = wpO P dE K' (.eqv d ng k x y) env U:=by simp[j7,KOp.lite,KOp.keeps]
@[simp]theorem qC3{ks:List SK}:j7 P Qd fl K' (.eqs d ng ks x y) env U = wpO P dE K' (.eqs d ng ks x y) env U:=by simp[j7,KOp.lite,KOp.keeps]
@[simp]theorem qCE:j7 P Qd fl K' (.neg d x) env U = wpO P dE K' (.neg d x) env U:=by simp[j7,KOp.lite,KOp.keeps]
@[simp]theorem qCF:j7 P Qd fl K' (.not d x) env U = wpO P dE K' (.not d x) env U:=by simp[j7,KOp.lite,KOp.keeps]
@[simp]theorem qIf:j7 P Qd fl K' (.mm d mx xs) env U = wpO P dE K' (.mm d mx xs) env U:=by simp[j7,KOp.lite,KOp.keeps]
@[simp]theorem qA3:j7 P Qd fl K' (.len d true x) env U = wpO P dE K' (.len d true x) env U:=by simp[j7,KOp.lite,KOp.keeps]
@[simp]theorem qC5:j7 P Qd fl K' (.ext d x i) env U = wpO P dE K' (.ext d x i) env U:=by simp[j7,KOp.lite,KOp.keeps]
@[simp]theorem qC2{a b:List Operand}:j7 P Qd fl K' (.clo d f a b) env U = wpO P dE K' (.clo d f a b) env U:=by simp[j7,KOp.lite,KOp.keeps]
@[simp]theorem qCG{lo hi mx:Option Operand}:j7 P Qd fl K' (.slc d x sz lo hi mx) env U = wpO P dE K' (.slc d x sz lo hi mx) env U:=by simp[j7,KOp.lite,KOp.keeps]
@[simp]theorem zXM:j7 P Qd fl K' (.build d zs ps) env U = wpO P dE K' (.build d zs ps) env U:=by simp[j7,KOp.lite,KOp.keeps]
@[simp]theorem zVH{sz n:Nat}:j7 P Qd fl K' (.bslice d e sz n zs ps) env U = wpO P dE K' (.bslice d e sz n zs ps) env U:=by simp[j7,KOp.lite,KOp.keeps]
@[simp]theorem zXL:j7 P Qd fl K' (.alloc d zs) env U = wpO P dE K' (.alloc d zs) env U:=by simp[j7,KOp.lite,KOp.keeps]
@[simp]theorem qC1:j7 P Qd fl K' (.box d x) env U = wpO P dE K' (.box d x) env U:=by simp[j7,KOp.lite,KOp.keeps]
@[simp]theorem qIg{n:Nat}:j7 P Qd fl K' (.st d x y n) env U = wpO P dE K' (.st d x y n) env U:=by simp[j7,KOp.lite,KOp.keeps]
@[simp]theorem qCz:j7 P Qd fl K' (.app d e sz bytes x y) env U = wpO P dE K' (.app d e sz bytes x y) env U:=by simp[j7,KOp.lite,KOp.keeps]
@[simp]theorem qC6{off n:Nat}:j7 P Qd fl K' (.fld d x off n agg) env U = wpO P dE K' (.fld d x off n agg) env U:=by simp[j7,KOp.lite,KOp.keeps]
@[simp]theorem qId{len sz:Nat}:j7 P Qd fl K' (.ix d x y len sz agg) env U = wpO P dE K' (.ix d x y len sz agg) env U:=by simp[j7,KOp.lite,KOp.keeps]
@[simp]theorem qC8:j7 P Qd fl K' (.isn d ng x) env U = wpO P dE K' (.isn d ng x) env U:=by simp[j7,KOp.lite,KOp.keeps]
@[simp]theorem qIe{n:Nat}:j7 P Qd fl K' (.ld d x n agg) env U = nO ((ldA (oR fl U) n (ev env x)).bind (iE agg)) fun r=>K' (env.put d r) U:=rY
@[simp]theorem qA0:j7 P Qd fl K' (.addr d x off) env U = nO (zDh (oR fl U) off (ev env x)) fun r=>K' (env.put d r) U:=by show jU (zZ env (oR fl U) (.addr d x off)) _=_;rw[zEp,rY];rfl
@[simp]theorem qC7:j7 P Qd fl K' (.idx d x y sz) env U = tE (oR fl U) sz (ev env x) (ev env y) fun r=>K' (env.put d r) U:=zHj (d:=d)
def zGv(U:St)(a:A)(J:A->Prop):Prop:=match a with
 | .nil=>J (.lit (.int .i64 0))
 | .sl n _=>J (.lit (.int .i64 n))
 | .fsl n _=>J (.lit (.int .i64 n))
 | .row l n=>match U[l]? with
  |some (.row _ _ _ m _)=>if n=m then J (.lit (.int .i64 n))else False
  |_=>False
 | .win l n _ k _=>match U[l]? with
  |some (.row _ _ _ m _)=>if n=m then J (.lit (.int .i64 k))else False
  |_=>False
 |_=>False
@[simp]theorem qG1:zGv U .nil J=J (.lit (.int .i64 0)):=rfl
@[simp]theorem qJC{n:Nat}:zGv U (.sl n cs) J=J (.lit (.int .i64 n)):=rfl
@[simp]theorem qG0{n:Nat}:zGv U (.fsl n cs) J=J (.lit (.int .i64 n)):=rfl
def zMz(o:Option AObj)(n:Nat)(J:A->Prop):Prop:=match o with
 |some (.row _ _ _ m _)=>if n=m then J (.lit (.int .i64 n))else False
 |_=>False
@[simp]theorem zXq{s m n:Nat}:zMz (some (.row fz e s m cs)) n J=if n=m then J (.lit (.int .i64 n))else False:=rfl
@[simp]theorem qG2{l n:Nat}:zGv U (.row l n) J=zMz U[l]? n J:=by simp only[zGv,zMz]
theorem zP5:jU (zZ env τ (.len d false x)) J=zGv τ (ev env x) J:=by
 simp only[zGv,zZ];generalize ev env x=a;cases a<;>simp only[jU,true_and]
 .rename_i l n;cases τ[l]? with
  |none=>rfl
  |some ob =>
   cases ob<;>try rfl
   rename_i fz e s m cs;by_cases h:n=m<;>simp[h]
 .rename_i l n _ k _;cases τ[l]? with
  |none=>rfl
  |some ob =>
   cases ob<;>try rfl
   rename_i fz e s m cs;by_cases h:n=m<;>simp[h]
@[simp]theorem qCA:j7 P Qd fl K' (.len d false x) env U = zGv (oR fl U) (ev env x) fun r=>K' (env.put d r) U:=by show jU (zZ env (oR fl U) (.len d false x)) _=_;exact zP5
def uZ(P:Program)(Qd:Value->St->Prop)(fl:Nat) (U:St)(d:wC)(K':wK)(f:A)(args:wE)(env:Env):Prop:=zVG P Qd fl U d K' f args env
@[simp]theorem qA2{args:List Operand}:j7 P Qd fl K' (.call d x args) env U = uZ P Qd fl U d K' (ev env x) (args.map (ev env)) env:=rfl
@[simp]theorem qJn{first cap args:wE}:uZ P Qd 0 U d K' (.clo g first cap) args env=(zC P g=true/\uD P U d (fun e=>K' e U) g (first++args++cap) env):=rfl
@[simp]theorem qJo{first cap args:wE}:uZ P Qd 1 U d K' (.clo g first cap) args env=(zC P g=true/\zCg P U d (fun e=>K' e U) g (first++args++cap) env):=rfl
@[simp]theorem qJp{first cap args:wE}:uZ P Qd 3 U d K' (.clo g first cap) args env=(zC P g=true/\zCh P U d K' g (first++args++cap) env):=rfl
@[simp]theorem qJr{first cap args:wE}:uZ P Qd 7 U d K' (.clo g first cap) args env=(zC P g=true/\zGb P U d K' g (first++args++cap) env):=rfl
@[simp]theorem qJs{first cap args:wE}:uZ P Qd 8 U d K' (.clo g first cap) args env=(zC P g=true/\zLo P U d K' g (first++args++cap) env):=rfl
@[simp]theorem qFx{first cap args:wE}:uZ P Qd 10 U d K' (.clo g first cap) args env=(zC P g=true/\zCi P Qd U d K' g (first++args++cap) env):=rfl
@[simp]theorem qFy{first cap args:wE}:uZ P Qd 11 U d K' (.clo g first cap) args env=(zC P g=true/\zGd P U d K' g (first++args++cap) env):=rfl
@[simp]theorem qJt{n:Nat}{first cap args:wE}(h1:11<n):uZ P Qd n U d K' (.clo g first cap) args env=(zC P g=true/\(if 1000<=n/\n<2000 then zGc P (n-1000) U d K' g (first++args++cap) env else if 3000<=n/\n<4000 then zGa P (n-3000) U d K' g (first++args++cap) env else zCj P U d K' g (first++args++cap) env)):=by obtain⟨m,rfl⟩:∃m,n=m+12:=⟨n-12,by omega⟩;rfl
@[simp]theorem qJq{first cap args:wE}:uZ P Qd 4 U d K' (.clo g first cap) args env=(zC P g=true/\zCj P U d K' g (first++args++cap) env):=rfl
@[simp]theorem qFz{b:Nat}{args:wE}:uZ P Qd 4 U d K' (yv b) args env = ∃r U',(lD P b args U fun o τ=>o=.ret r/\τ = U')/\K' (env.put d r) U':=by show (4=4/\_)=_;simp
theorem qX{t:Bool}{A B:wK}(h1:t=true->A env U)(h2:t=false->B env U):uF t A B env U:=⟨h1,h2⟩
theorem zUW{S:Type}{W:(Ex->wK)->wK}(E:S->List (Nat×A))(T:S->St)(I:S->Prop) (μ:S->Nat)(s0:S)(h0:I s0)(start:b9 n0 (qV (E s0)) (T s0) env U)
 (round:∀s,I s->W (rnd n0 (fun n e t=>∃s,I s/\μ s=n/\e=qV (E s)/\t=T s) (μ s) Q) (qV (E s)) (T s)):zIY n0 W Q env U:=by
 refine⟨fun n e t=>∃s,I s/\μ s=n/\e=qV (E s)/\t=T s,⟨μ s0,_,_,start,s0,h0,rfl,rfl,rfl⟩,?_⟩;rintro n e t ⟨s,hs,rfl,rfl,rfl⟩;exact round s hs
theorem zZT{S:Type}{E:S->List (Nat×A)}{T:S->St}{I:S->Prop} {μ:S->Nat}{n:Nat}(s:S)(hs:I s)(hm : μ s<n)(hw:b9 n0 (qV (E s)) (T s) env U) :
 rnd n0 (fun n e t=>∃s,I s/\μ s=n/\e=qV (E s)/\t=T s) n Q .norm env U:=⟨μ s,hm,_,_,hw,s,hs,rfl,rfl,rfl⟩
theorem zCx{l:List (Nat×A)} {U':St}(he : U = U'++τ)(hn:n0<=U'.length)(hl:∀p∈l,env p.1=p.2)(hb:∀p∈l,p.2.bnd U'.length=true)(ho:∀o∈U',o.bnd U'.length=true) :
 b9 n0 (qV l) U' env U:=by
 subst he;exact b9.cut l hn hl hb ho
@[simp]theorem zZ5{l:List (Nat×A)}:qV ((i,a)::l) t=if t=i then a else qV l t:=rfl
@[simp]theorem qBy:qV [] t=.any:=rfl
end
end Go.Abs
namespace Go.Abs
def zOJ(o k c:Nat):A->A
 | .sl _ cs=>if k=0 then .sl 0 []else .sl k ((cs.drop o).take (k*c))
 |_=>.any
mutual
def vw(rf:Bool->Nat->Nat->A)(g:Nat->wC):A->A
 | .ptr l o=>match g l with
  |some i=>.ptr i o
  |none=>rf true l o
 | .row l n=>match g l with
  |some i=>.row i n
  |none=>rf false l n
 | .rwp l n o=>match g l with
  |some i=>.rwp i n o
  |none=>.any
 | .map l=>match g l with
  |some i=>.map i
  |none=>.any
 | .win l n o k c=>match g l with
  |some i=>.win i n o k c
  |none=>zOJ o k c (rf false l n)
 | .agg cs=>.agg (vwL rf g cs)
 | .tup cs=>.tup (vwL rf g cs)
 | .sl n cs=>.sl n (vwL rf g cs)
 | .fsl n cs=>.fsl n (vwL rf g cs)
 | .rptr cs=>.rptr (vwL rf g cs)
 | .clo f a b=>.clo f (vwL rf g a) (vwL rf g b)
 | .any=>.any
 | .nil=>.nil
 | .lit v=>.lit v
def vwL(rf:Bool->Nat->Nat->A)(g:Nat->wC):List A->wE
 |[]=>[]
 |c::cs=>vw rf g c::vwL rf g cs
end
def seen(U:St)(g:Nat->wC):Nat->Bool->Nat->Nat->A
 | 0,_,_,_=>.any
 |k+1,false,l,n=>match U[l]? with
  |some (.row _ _ _ m cs)=>if n=m then .sl n (vwL (seen U g k) g cs)else .any
  |_=>.any
 |k+1,true,l,o=>match U[l]? with
  |some (.box cs)=>.rptr ((vwL (seen U g k) g cs).drop o)
  |_=>.any
def vwO(rf:Bool->Nat->Nat->A)(g:Nat->wC):AObj->AObj
 | .dead=>.dead
 | .box cs=>.box (vwL rf g cs)
 | .row fz e sz n cs=>.row fz e sz n (vwL rf g cs)
 | .lp b r M es=>.lp b r M (es.map fun p=>(p.1,vw rf g p.2))
 | .mp fr nk es=>.mp fr nk (es.map fun p=>(p.1,vw rf g p.2))
 | .it m n met=>match g m with
  |some i=>.it i n met
  |none=>.dead
 | .rsv=>.rsv
def zAc:AObj->AObj
 | .dead=>.dead
 | .box cs=>.box (jT cs)
 | .row fz e sz n cs=>.row fz e sz n (jT cs)
 | .lp b r M es=>.lp b r M (es.map fun p=>(p.1,nrm0 p.2))
 | .mp fr nk es=>.mp fr nk (es.map fun p=>(p.1,nrm0 p.2))
 | .it m n met=>.it m n met
 | .rsv=>.rsv
def qR:List Nat->Nat->wC
 |[],_=>none
 |k::ks,l=>if l=k then some 0 else (qR ks l).map (· + 1)
theorem zCT:∀{ks:wA} {l i:Nat},qR ks l=some i->ks[i]?=some l
 |[],l,i,h=>by simp[qR]at h
 |k::ks,l,i,h=>by
  simp only[qR]at h;split at h
  .cases h;rename_i h;simp[h]
  .simp only[jAj]at h;obtain⟨j,hj,rfl⟩:=h
   simpa using zCT hj
theorem zFy:∀{ks:wA} {l:Nat},qR ks l=none->l∉ks
 |[],l,_=>by simp
 |k::ks,l,h=>by
  simp only[qR]at h;split at h
  .cases h
  .rename_i hne;simp only[Option.map_eq_none_iff]at h;simp[hne,zFy h]
section
variable{P:Program}{H H':Mem}{L L':wM} {U:St}{w:World}
theorem zCL:∀{ks:wA} {i j x:Nat},ks.Nodup->ks[i]?=some x->ks[j]?=some x->i=j
 |[],i,j,x,_,h,_=>by simp at h
 |k::ks,i,j,x,hd,h1,h2=>by
  rw[jD2]at hd;cases i with
  |zero =>
   cases j with
   |zero=>rfl
   |succ j =>
    simp only[jB3,jBo,jA2]at h1 h2;subst h1;exact(hd.1 (jC3 h2)).elim
  |succ i =>
   cases j with
   |zero =>
    simp only[jB3,jBo,jA2]at h1 h2;subst h2;exact(hd.1 (jC3 h1)).elim
   |succ j =>
    simp only[jBo]at h1 h2;rw[zCL hd.2 h1 h2]
mutual
theorem Rel.vw{rf:Bool->Nat->Nat->A}{g:Nat->wC}(hh:HLe H H')(hg:∀l i,g l=some i->L'[i]?=L[l]?)(hr:∀l n v,g l=none->Rel H L (.row l n) v->Rel H' L' (rf false l n) v)(hp:∀l n v,g l=none->Rel H L (.ptr l n) v->Rel H' L' (rf true l n) v) :
 ∀(a:A) {v:Value},Rel H L a v->Rel H' L' (vw rf g a) v
 | .ptr l o,v,h=>by
  simp only[Abs.vw];split
  .rename_i i hi;simp only[Rel]at h⊢;rw[hg l i hi];exact h
  .rename_i hi;exact hp l o v hi h
 | .row l n,v,h=>by
  simp only[Abs.vw];split
  .rename_i i hi;simp only[Rel]at h⊢;rw[hg l i hi];exact h
  .rename_i hi;exact hr l n v hi h
 | .rwp l n o,v,h=>by
  simp only[Abs.vw];split
  .rename_i i hi;simp only[Rel]at h⊢;rw[hg l i hi];exact h
  .simp[Rel]
 | .map l,v,h=>by
  simp only[Abs.vw];split
  .rename_i i hi;simp only[Rel]at h⊢;rw[hg l i hi];exact h
  .simp[Rel]
 | .win l n o k c,v,h=>by
  simp only[Abs.vw];split
  .rename_i i hi;simp only[Rel]at h⊢;rw[hg l i hi];exact h
  .rename_i hi;simp only[Rel]at h;obtain⟨h0,li,e,h1,h2,h3⟩:=h;by_cases hn:n=li.len
   .obtain⟨g0,ad,cap,rfl,g1,g2,g3⟩:=h3 hn;have h4:=hr l n (match li.block with|none=>.slice none 0 0|some b=>.slice (some ⟨b,0,none⟩) n li.cap) hi (by
     simp only[Rel];exact⟨by split<;>rfl,li,e,h1,h2,fun _=>rfl⟩)
    generalize rf false l n=x at h4;cases x<;>simp only[zOJ]<;>try(simp only[Rel];done)
    rename_i n' cs;split
    .rename_i hk;subst hk;simp only[Rel];exact⟨ad,cap,rfl,jB4 _,g2,.inl (by simp)⟩
    .rename_i hk;replace g3:=zO1 g1 g3;rcases g3 with g3|⟨b,g3,rfl⟩
     .exact(hk g3).elim
     .simp only[g3,Rel]at h4 ⊢;obtain⟨a',cap',k1,k2,k3,k4⟩:=h4;simp only[Value.slice.injEq]at k1;obtain⟨rfl,rfl,rfl⟩:=k1;refine⟨_,cap,rfl,g1,g2,?_⟩;rcases k4 with ⟨rfl,rfl⟩|⟨b',o',us,k5,k6,k7,k8⟩
      .omega
      .cases k5;refine .inr ⟨b,o,_,rfl,(k6.drop o).take (k*c),dM k7,?_⟩;have:=(k8.drop o).take (k*c)
       rwa[jB1]at this
   .have h4:=hr l n (.bool true) hi (by
     simp only[Rel];exact⟨rfl,li,e,h1,h2,fun e=>(hn e).elim⟩)
    generalize rf false l n=x at h4;cases x<;>simp only[zOJ]<;>try(simp only[Rel];done)
    simp only[Rel]at h4;obtain⟨_,_,h4,_⟩:=h4;cases h4
 | .agg cs,v,h=>by simp only[Rel,Abs.vw]at h⊢;obtain⟨vs,rfl,h1,h2⟩:=h;exact⟨vs,rfl,qE.vw hh hg hr hp cs h1,h2⟩
 | .tup cs,v,h=>by simp only[Rel,Abs.vw]at h⊢;obtain⟨vs,rfl,h1⟩:=h;exact⟨vs,rfl,qE.vw hh hg hr hp cs h1⟩
 | .sl n cs,v,h=>by
  simp only[Rel,Abs.vw]at h⊢;obtain⟨a,cap,rfl,h1,h2,h3⟩:=h;refine⟨a,cap,rfl,h1,h2,?_⟩;rcases h3 with ⟨h3,rfl⟩|⟨b,o,us,rfl,h4,h5,h6⟩
  .exact .inl ⟨h3,by simp[vwL]⟩
  .exact .inr ⟨b,o,us,rfl,qE.vw hh hg hr hp cs h4,h5,h6.mono hh⟩
 | .fsl n cs,v,h=>by
  simp only[Rel,Abs.vw]at h⊢;obtain⟨a,rfl,h1,h3⟩:=h;refine⟨a,rfl,h1,?_⟩;rcases h3 with ⟨h3,rfl⟩|⟨b,o,us,rfl,h4,h5,h6⟩
  .exact .inl ⟨h3,by simp[vwL]⟩
  .exact .inr ⟨b,o,us,rfl,qE.vw hh hg hr hp cs h4,h5,h6.mono hh⟩
 | .rptr cs,v,h=>by simp only[Rel,Abs.vw]at h⊢;obtain⟨b,o,us,rfl,h4,h5,h6⟩:=h;exact⟨b,o,us,rfl,qE.vw hh hg hr hp cs h4,h5,h6.mono hh⟩
 | .clo f first cap,v,h=>by simp only[Rel,Abs.vw]at h⊢;obtain⟨fs,cs,rfl,h1,h2⟩:=h;exact⟨fs,cs,rfl,qE.vw hh hg hr hp first h1,qE.vw hh hg hr hp cap h2⟩
 | .any,_,_=>by simp[Rel,Abs.vw]
 | .nil,_,h=>by simpa[Rel,Abs.vw]using h
 | .lit _,_,h=>by simpa[Rel,Abs.vw]using h
theorem qE.vw{rf:Bool->Nat->Nat->A}{g:Nat->wC}(hh:HLe H H')(hg:∀l i,g l=some i->L'[i]?=L[l]?)(hr:∀l n v,g l=none->Rel H L (.row l n) v->Rel H' L' (rf false l n) v)(hp:∀l n v,g l=none->Rel H L (.ptr l n) v->Rel H' L' (rf true l n) v) :
 ∀(cs:wE) {vs:wL},qE H L cs vs->qE H' L' (vwL rf g cs) vs
 |[],vs,h=>by simpa[qE,vwL]using h
 |c::cs,vs,h=>by simp only[qE,vwL]at h⊢;obtain⟨u,us,rfl,h1,h2⟩:=h;exact⟨u,us,rfl,Rel.vw hh hg hr hp c h1,qE.vw hh hg hr hp cs h2⟩
end
def AObj.held:AObj->Nat
 | .row _ _ sz n _=>n*sz
 | .box cs=>cs.length
 |_=>0
def zIt(g:Nat->wC)(L:wM) (U:St)(b o:Nat):Prop :=
 ∃(i:Nat) (li:LI) (ob:AObj),g i=none/\L[i]?=some li/\U[i]?=some ob/\li.block=some b/\o<ob.held
open Classical in
noncomputable def zET(g:Nat->wC) (H:Mem) (L:wM) (U:St) (w:World):Mem:=⟨fun b o=>match H b o with
 |some v=>some v
 |none=>if zIt g L U b o then w.cell? ⟨b,o,none⟩ else none,fun b o v h=>by simp only[H.2 b o v h]⟩
open Classical in
theorem tB(g:Nat->wC)(H:Mem)(L:wM) (U:St)(w:World)(b o:Nat):zET g H L U w b o=match H b o with
 |some v=>some v
 |none=>if zIt g L U b o then w.cell? ⟨b,o,none⟩ else none:=rfl
variable{g:Nat->wC}
theorem tC:HLe H (zET g H L U w):=fun b o v h=>by rw[tB,h]
theorem zKb{b o:Nat}{v:Value}(h:zET g H L U w b o=some v):H b o=some v\/(zIt g L U b o/\w.cell? ⟨b,o,none⟩=some v):=by
 rw[tB]at h;split at h
 .rename_i u hu;cases h;exact .inl hu
 .split at h
  .rename_i hr;exact .inr ⟨hr,h⟩
  .cases h
theorem zKc(hs:RelSt H L U w){b o:Nat}{v:Value}(hx:zIt g L U b o)(hc:w.cell? ⟨b,o,none⟩=some v):zET g H L U w b o=some v:=by
 rw[tB];split
 .rename_i x hx;have:=hs.pers b o x hx;rw[hc]at this;exact this.symm
 .rw[if_pos hx];exact hc
theorem Rel.seen{g:Nat->wC}(hs:RelSt H L U w)(hg:∀l i,g l=some i->L'[i]?=L[l]?) :
 ∀(k:Nat),(∀(l n:Nat) (v:Value),g l=none->Rel H L (.row l n) v->Rel (zET g H L U w) L' (seen U g k false l n) v)/\∀(l n:Nat) (v:Value),g l=none->Rel H L (.ptr l n) v->Rel (zET g H L U w) L' (seen U g k true l n) v
 | 0=>⟨fun l n v _ _=>by simp[Abs.seen,Rel],fun l n v _ _=>by simp[Abs.seen,Rel]⟩
 |k+1=>by
  obtain⟨ih1,ih2⟩:=Rel.seen hs hg k;refine⟨fun l n v hl h=>?_,fun l n v hl h=>?_⟩
  .simp only[Abs.seen];split
   .rename_i fz e sz m cs hU;split
    .rename_i hn;subst hn;simp only[Rel]at h⊢;obtain⟨_,li,e1,e2,e3,hv⟩:=h;have hob:=hs.obj l li _ e1 hU;simp only[qA]at hob;obtain⟨_,g1,g2,hob⟩:=hob;have hv:=hv g1.symm;rcases hob with ⟨hb,h0⟩|⟨b,cur,hb,k1,k2,k3,k4,k5,k6,k7⟩
     .rw[hb]at hv;subst h0;have hcs:cs=[]:=jC9 (by simpa using g2);exact⟨none,0,hv,jA _,jB4 _,.inl ⟨rfl,by simp[hcs,vwL]⟩⟩
     .rw[hb]at hv;refine⟨_,_,hv,k2,k3,.inr ⟨b,0,_,rfl,qE.vw tC hg ih1 ih2 cs k5,k6,fun j u hu=>?_⟩⟩;have hj:j<n*sz:=by
       rw[jBg]at hu;split at hu
       .assumption
       .cases hu
      have hc:w.cell? ⟨b,j,none⟩=some u:=by
       rw[cell_of_row w b j cur e (0,0) k1];rw[jBg,if_pos hj]at hu
       simpa using hu
      simp only[jB1];exact zKc hs ⟨l,li,_,hl,e1,hU,hb,hj⟩ hc
    .simp[Rel]
   .simp[Rel]
  .simp only[Abs.seen];split
   .rename_i cs hU;simp only[Rel]at h⊢;obtain⟨li,b,e1,e2,e3,hv⟩:=h;have hob:=hs.obj l li _ e1 hU;simp only[qA]at hob;obtain⟨_,b',vs,e,hb',hh,hr,h1,_⟩:=hob;rw[e2]at hb';cases hb';refine⟨b,n,vs.drop n,hv,(qE.vw tC hg ih1 ih2 cs hr).drop n,fun u hu=>h1 u (jC4 hu),fun j u hu=>?_⟩;rw[jDh]at hu;have hlt:n+j<cs.length:=by rw[<-hr.length];exact(jA4.1 hu).1
    refine zKc hs ⟨l,li,_,hl,e1,hU,e2,hlt⟩ ?_;rw[cell_of_row w b _ _ e (0,0) hh]
    simpa using hu
   .simp[Rel]
def aB(U:St)(rf:Bool->Nat->Nat->A)(g:Nat->wC):List Nat->St->Prop
 |[],[]=>True
 |j::js,o'::os=>(match U[j]? with
  |some o=>o'=vwO rf g o\/o'=zAc (vwO rf g o)
  |none=>False)/\aB U rf g js os
 |_,_=>False
theorem sC{rf:Bool->Nat->Nat->A}{g:Nat->wC}:∀{ks:wA} {U':St},aB U rf g ks U'->U'.length=ks.length
 |[],[],_=>rfl
 |_::_,_::_,h=>by simp[sC h.2]
theorem sB{rf:Bool->Nat->Nat->A}{g:Nat->wC}:∀{ks:wA} {U':St},aB U rf g ks U'->∀{i j:Nat} {o':AObj},ks[i]?=some j->U'[i]?=some o'->∃o,U[j]?=some o/\(o'=vwO rf g o\/o'=zAc (vwO rf g o))
 |[],[],_,i,j,o',h,_=>by simp at h
 |k::ks,p::U',h,i,j,o',h1,h2=>by
  cases i with
  |zero =>
   simp only[jB3,jA2]at h1 h2;subst h1;subst h2;have:=h.1;split at this
   .rename_i o ho;exact⟨o,ho,this⟩
   .exact this.elim
  |succ i =>
   simp only[jBo]at h1 h2;exact sB h.2 h1 h2
theorem qA.nrm{li:LI}{o:AObj}(h:qA H L w li o):qA H L w li (zAc o):=by
 cases o with
 |dead=>trivial
 |box cs =>
  simp only[qA,zAc]at h⊢;obtain⟨h0,b,vs,e,h1,h2,h3,h4,h5⟩:=h;exact⟨h0,b,vs,e,h1,h2,qE.nrm0 _ h3,h4,h5⟩
 |row fz e sz n cs =>
  simp only[qA,zAc]at h⊢;obtain⟨h0,h1,h2,h3⟩:=h;have hl:∀cs:wE,(jT cs).length=cs.length:=fun cs=>by induction cs with
   |nil=>rfl
   |cons c cs ih=>simp[jT,ih]
  refine⟨h0,h1,by rw[hl];exact h2,?_⟩;rcases h3 with h3|⟨b,cur,g1,g2,g3,g4,g5,g6,g7,g8⟩
  .exact .inl h3
  .exact .inr ⟨b,cur,g1,g2,g3,g4,g5,qE.nrm0 _ g6,g7,g8⟩
 |lp b r M es =>
  simp only[qA,zAc]at h⊢;obtain⟨h0,h1,tmps,h2,h3,h4⟩:=h;exact⟨h0,h1,tmps,h2,h3,h4.map _ fun a v ha=>Rel.nrm0 a ha⟩
 |mp fr nk es =>
  simp only[qA,zAc]at h⊢;obtain⟨h0,b,ents,ck,h1,h2,h3,h4⟩:=h;exact⟨h0,b,ents,ck,h1,h2,bG.map _ (fun p _ v hv=>Rel.nrm0 _ hv) h3,h4.1,zEY h4.2⟩
 |it m n met=>exact h
 |rsv=>exact h
theorem zBd{rf:Bool->Nat->Nat->A}{g:Nat->wC}:∀{cs:wE},(vwL rf g cs).length=cs.length
 |[]=>rfl
 |c::cs=>by simp[vwL,zBd]
theorem zOi{H0:Mem}{L0:wM}{w0:World}(ks:wA)(fuel:Nat) {U':St}(hk:∀i,i<L0.length->ks[i]?=some i)(hd:ks.Nodup)
 (ho:aB U (Abs.seen U (qR ks) fuel) (qR ks) ks U')(h:Nxt H0 L0 w0 H L U w) :
 ∃H' L',Nxt H0 L0 w0 H' L' U' w/\HLe H H'/\∀a v,Rel H L a v->Rel H' L' (Abs.vw (Abs.seen U (qR ks) fuel) (qR ks) a) v:=by
 have hs:=h.st;let g:=qR ks;let L':wM:=ks.map fun k=>L.getD k ⟨none,0,0,false⟩
 have hin:∀(i j:Nat),ks[i]?=some j->∃li,L[j]?=some li/\L'[i]?=some li:=by
  intro i j hij;have hi:i < U'.length:=by rw[sC ho];exact(jA4.1 hij).1
  obtain⟨o,hU,_⟩:=sB ho hij (jA1 hi);have hj:j<L.length:=by rw[hs.len];exact(jA4.1 hU).1
  refine⟨L[j],jA1 hj,?_⟩;simp[L',hij,hj]
 have hback:∀{i:Nat} {li:LI},L'[i]?=some li->∃j,ks[i]?=some j/\L[j]?=some li:=by
  intro i li hi;have hi':i<ks.length:=by simpa[L']using (jA4.1 hi).1
  obtain⟨li',h1,h2⟩:=hin i ks[i] (jA1 hi');rw[hi]at h2;cases h2;exact⟨_,jA1 hi',h1⟩
 have hg:∀l i,g l=some i->L'[i]?=L[l]?:=by intro l i hl;obtain⟨li,h1,h2⟩:=hin i l (zCT hl);rw[h1,h2]
 have hrel:∀a v,Rel H L a v->Rel (zET g H L U w) L' (Abs.vw (Abs.seen U g fuel) g a) v:=fun a v ha=>Rel.vw tC hg (Rel.seen hs hg fuel).1 (Rel.seen hs hg fuel).2 a ha
 have hrelL:∀cs vs,qE H L cs vs->qE (zET g H L U w) L' (vwL (Abs.seen U g fuel) g cs) vs:=fun a v ha=>qE.vw tC hg (Rel.seen hs hg fuel).1 (Rel.seen hs hg fuel).2 a ha
 have hkeep:∀(j:Nat) (li:LI) (b:Nat),j∈ks->L[j]?=some li->li.block=some b->∀o,zET g H L U w b o=H b o:=by
  intro j li b hj hL hb o;rw[tB];cases hH:H b o with
  |some v=>rfl
  |none =>
   simp only;rw[if_neg];rintro⟨i,li',ob,g1,g2,g3,g4,g5⟩;have:=hs.inj i j li' li b g2 hL g4 hb;subst this;exact zFy g1 hj
 refine⟨zET g H L U w,L',⟨⟨fun b o v hv=>(zKb hv).elim (hs.pers b o v) fun h=>h.2,by simp[L',sC ho],fun i li o hL hU=>?_,fun i j x y b hi hj hx hy=>?_,fun i li b hi hb=>?_⟩,
  ⟨h.step.os,h.step.tape,h.step.output,h.step.size,h.step.keep,h.step.hle.trans tC,fun b o v hv=>?_,h.step.drawn,h.step.dfr⟩,fun i x hx=>?_,fun b ⟨i,x,hi,hx⟩=>?_⟩,tC,hrel⟩
 .obtain⟨j,hj,hLj⟩:=hback hL;obtain⟨o0,hU0,heq⟩:=sB ho hj hU;have hob:=hs.obj j li o0 hLj hU0;have hjm:j∈ks:=jC3 hj;have key:qA (zET g H L U w) L' w li (vwO (Abs.seen U g fuel) g o0):=by
   cases o0 with
   |dead=>trivial
   |box cs =>
    simp only[qA,vwO]at hob ⊢;obtain⟨h0,b,vs,e,h1,h2,h3,h4,h5⟩:=hob;exact⟨h0,b,vs,e,h1,h2,hrelL _ _ h3,h4,fun o=>by rw[hkeep j li b hjm hLj h1];exact h5 o⟩
   |row fz e sz n cs =>
    simp only[qA,vwO]at hob ⊢;obtain⟨h0,h1,h2,h3⟩:=hob;refine⟨h0,h1,by rw[zBd];exact h2,?_⟩;rcases h3 with h3|⟨b,cur,g1,g2,g3,g4,g5,g6,g7,g8⟩
    .exact .inl h3
    .refine .inr ⟨b,cur,g1,g2,g3,g4,g5,hrelL _ _ g6,g7,?_⟩;cases fz with
     |false=>exact fun o=>by rw[hkeep j li b hjm hLj g1];exact g8 o
     |true=>exact⟨g8.1.mono tC,fun o ho=>by rw[hkeep j li b hjm hLj g1];exact g8.2 o ho⟩
   |lp b r M es =>
    simp only[qA,vwO]at hob ⊢;obtain⟨h0,h1,tmps,h2,h3,h4⟩:=hob;exact⟨h0,h1,tmps,h2,h3,h4.map _ hrel⟩
   |mp fr nk es =>
    simp only[qA,vwO]at hob ⊢;obtain⟨h0,b,ents,ck,h1,h2,h3,h4⟩:=hob;exact⟨h0,b,ents,ck,h1,h2,bG.map _ (fun p _ v hv=>hrel _ _ hv) h3,h4.1,zEY h4.2⟩
   |it m n met =>
    simp only[vwO];split
    .rename_i i0 hi0;simp only[qA]at hob ⊢;obtain⟨h0,b,mb,lm,h1,h2,h3,h4,h5⟩:=hob;have hp:Rel H L (.ptr m 0) (.pointer (some ⟨mb,0,none⟩)):=by simp only[Rel];exact⟨lm,mb,h2,h3,h4,rfl⟩
     have hp:=hrel _ _ hp;simp only[Abs.vw,hi0,Rel]at hp;obtain⟨lm',mb',k2,k3,k4,k5⟩:=hp;cases k5;exact⟨h0,b,mb,lm',h1,k2,k3,k4,h5⟩
    .trivial
   |rsv=>exact hob
  rcases heq with rfl|rfl
  .exact key
  .exact key.nrm
 .obtain⟨i',hi',hLi⟩:=hback hi;obtain⟨j',hj',hLj⟩:=hback hj;have:=hs.inj i' j' x y b hLi hLj hx hy;subst this;have hi1:=(jA4.1 hi').1;have hj1:=(jA4.1 hj').1;exact zCL hd hi' hj'
 .obtain⟨j,_,hLj⟩:=hback hi;exact hs.lt j li b hLj hb
 .rcases zKb hv with h1|⟨⟨i,li,_,_,hL,_,hb,_⟩,_⟩
  .exact h.step.hnew b o v h1
  .exact .inr (h.own b ⟨i,li,hL,hb⟩)
 .obtain⟨x',hx',hr⟩:=h.lle i x hx;have hi:i<L0.length:=(jA4.1 hx).1;obtain⟨li,h1,h2⟩:=hin i i (hk i hi);rw[hx']at h1;cases h1;exact⟨_,h2,hr⟩
 .obtain⟨j,_,hLj⟩:=hback hi;exact h.own b ⟨j,x,hLj,hx⟩
theorem b9.sel{n0:Nat}{env:Env}(ks:wA)(fuel:Nat)(l:List (Nat×A)) {U':St}(hk:∀i,i<n0->ks[i]?=some i)(hd:ks.Nodup)(ho:aB U (Abs.seen U (qR ks) fuel) (qR ks) ks U')
 (hl:∀p∈l,p.2=Abs.vw (Abs.seen U (qR ks) fuel) (qR ks) (env p.1)\/p.2=nrm0 (Abs.vw (Abs.seen U (qR ks) fuel) (qR ks) (env p.1))):b9 n0 (qV l) U' env U:=by
 intro H0 L0 w0 H L w N tmps h0 h1 h2;subst h0;obtain⟨H',L',g1,_,g3⟩:=zOi ks fuel hk hd ho h1;refine⟨H',L',g1,h2.1,fun t=>?_⟩;rcases nW l t with h|h
 .rw[h];simp[Rel]
 .have:=g3 _ _ (h2.2 t);rcases hl _ h with e|e
  .simp only at e;rw[e];exact this
  .simp only at e;rw[e];exact Rel.nrm0 _ this
end
end Go.Abs
namespace Go.Abs
def Ret(P:Program)(f:FuncId)(args:wE) (U0:St)(r:A) (U1:St):Prop:=aG P f args U0 fun o U'=>o=.ret r/\U' = U1
def j9:Bool->Nat->Nat->A:=fun _ _ _=>.any
def jF{α:Type}:List α->List Nat->List α->List α
 |s,[],t=>s++t
 |s,j::js,o::os=>jF (s.set j o) js os
 |s,_::_,[]=>s
theorem mP{α:Type}:∀{js:wA} {s t:List α},js.length<=t.length->(jF s js t).length=s.length+(t.length-js.length)
 |[],s,t,_=>by simp[jF]
 |j::js,s,[],h=>by simp at h
 |j::js,s,o::os,h=>by simp only[jF,jAb]at h⊢;rw[mP (by omega)];simp
theorem tS{α:Type}:∀{js:wA} {s t:List α} {x:Nat},js.length<=t.length->x<s.length->x∉js->(jF s js t)[x]?=s[x]?
 |[],s,t,x,_,hx,_=>by simp[jF,jAl hx]
 |j::js,s,[],x,h,_,_=>by simp at h
 |j::js,s,o::os,x,h,hx,hn=>by simp only[jF,jAb,jA3,not_or]at h hn ⊢;rw[tS (by omega) (by simpa using hx) hn.2,jAa (Ne.symm hn.1)]
theorem nX{α:Type}:∀{js:wA} {s t:List α} {i x:Nat},js.length<=t.length->js.Nodup->(∀y∈js,y<s.length)->js[i]?=some x->(jF s js t)[x]?=t[i]?
 |[],s,t,i,x,_,_,_,h=>by simp at h
 |j::js,s,[],i,x,h,_,_,_=>by simp at h
 |j::js,s,o::os,i,x,h,hd,hb,hi=>by
  rw[jD2]at hd;simp only[jF,jAb]at h⊢;cases i with
  |zero =>
   simp only[jB3,jA2]at hi;subst hi;have hj:=hb j (jAr ..);rw[tS (by omega) (by simpa using hj) hd.1,jAm hj];rfl
  |succ i =>
   simp only[jBo]at hi ⊢;exact nX (by omega) hd.2 (fun y hy=>by simpa using hb y (jAh _ hy)) hi
theorem zAO{α:Type}:∀{js:wA} {s t:List α} {k:Nat},js.length<=t.length->(jF s js t)[s.length+k]?=t[js.length+k]?
 |[],s,t,k,_=>by simp only[jF,jBe,jB1];rw[jAy (by omega),Nat.add_sub_cancel_left]
 |j::js,s,[],k,h=>by simp at h
 |j::js,s,o::os,k,h=>by
  simp only[jF,jAb]at h⊢;have:=zAO (js:=js) (s:=s.set j o) (t:=os) (k:=k) (by omega);rw[jBz]at this;rw[this];have e:js.length+1+k=js.length+k+1:=by omega
  rw[e,jBo]
def back(js:wA)(n l:Nat):Nat:=match js,l with
 |[],l=>n+l
 |j::_,0=>j
 |_::js,l+1=>back js n l
theorem zDX:∀{js:wA} {n i x:Nat},js[i]?=some x->back js n i=x
 |[],n,i,x,h=>by simp at h
 |j::js,n,0,x,h=>by simpa[back]using h
 |j::js,n,i+1,x,h=>by simp only[back];exact zDX (by simpa using h)
theorem zBj:∀{js:wA} {n k:Nat},back js n (js.length+k)=n+k
 |[],n,k=>by simp[back]
 |j::js,n,k=>by
  have e:(j::js).length+k=js.length+k+1:=by simp;omega
  rw[e];simp only[back];exact zBj
def ren(js:wA)(n:Nat)(a:A):A:=vw j9 (fun l=>some (back js n l)) a
def zZR(js:wA)(n:Nat)(cs:wE):wE:=vwL j9 (fun l=>some (back js n l)) cs
def cP(js:wA)(n:Nat)(o:AObj):AObj:=vwO j9 (fun l=>some (back js n l)) o
def dS(js:wA):List A->List A->Prop
 |[],[]=>True
 |a'::aS',a::aS=>(a=vw j9 (qR js) a'\/a=nrm0 (vw j9 (qR js) a'))/\dS js aS' aS
 |_,_=>False
section
variable{P:Program}{H H':Mem}{L L':wM} {U:St}{w:World}
theorem qA.vw{H':Mem}{L':wM}{w':World}{rf:Bool->Nat->Nat->A}{g:Nat->wC}{li:LI}{o:AObj}(h:qA H L w li o)(hrel:∀cs vs,qE H L cs vs->qE H' L' (vwL rf g cs) vs)
 (hw:∀b,li.block=some b->w'.heap[b]?=w.heap[b]?)(hh:HLe H H')(hb:∀b,li.block=some b->∀o,H' b o=H b o):qA H' L' w' li (vwO rf g o):=by
 cases o with
 |dead=>trivial
 |box cs =>
  simp only[qA,vwO]at h⊢;obtain⟨h0,b,vs,e,h1,h2,h3,h4,h5⟩:=h;exact⟨h0,b,vs,e,h1,by rw[hw b h1];exact h2,hrel _ _ h3,h4,fun o=>by rw[hb b h1];exact h5 o⟩
 |row fz e sz n cs =>
  simp only[qA,vwO]at h⊢;obtain⟨h0,h1,h2,h3⟩:=h;refine⟨h0,h1,by rw[zBd];exact h2,?_⟩;rcases h3 with h3|⟨b,cur,g1,g2,g3,g4,g5,g6,g7,g8⟩
  .exact .inl h3
  .refine .inr ⟨b,cur,g1,by rw[hw b g1];exact g2,g3,g4,g5,hrel _ _ g6,g7,?_⟩;cases fz with
   |false=>exact fun o=>by rw[hb b g1];exact g8 o
   |true=>exact⟨g8.1.mono hh,fun o ho=>by rw[hb b g1];exact g8.2 o ho⟩
 |lp b r M es =>
  simp only[qA,vwO]at h⊢;obtain⟨h0,h1,tmps,h2,h3,h4⟩:=h;exact⟨h0,h1,tmps,by rw[hw b h1];exact h2,h3,h4.map _ fun a v ha=>by have:=hrel [a] [v] (qW ha jV);simp only[vwL]at this;obtain⟨u,us,k1,k2,_⟩:=qF this;cases k1;exact k2⟩
 |mp fr nk es =>
  simp only[qA,vwO]at h⊢;obtain⟨h0,b,ents,ck,h1,h2,h3,h4⟩:=h;refine⟨h0,b,ents,ck,h1,by rw[hw b h1];exact h2,bG.map _ (fun p _ v ha=>?_) h3,h4.1,zEY h4.2⟩;have:=hrel [p.2] [v] (qW ha jV);simp only[vwL]at this;obtain⟨u,us,k1,k2,_⟩:=qF this;cases k1;exact k2
 |it m n met =>
  simp only[vwO];split
  .rename_i i0 hi0;simp only[qA]at h⊢;obtain⟨h0,b,mb,lm,h1,h2,h3,h4,h5⟩:=h;have hp:Rel H L (.ptr m 0) (.pointer (some ⟨mb,0,none⟩)):=by simp only[Rel];exact⟨lm,mb,h2,h3,h4,rfl⟩
   have:=hrel [_] [_] (qW hp jV);simp only[vwL,Abs.vw,hi0]at this;obtain⟨u,us,k1,k2,_⟩:=qF this;cases k1;simp only[Rel]at k2;obtain⟨lm',mb',g2,g3,g4,g5⟩:=k2;cases g5;exact⟨h0,b,mb,lm',h1,g2,g3,g4,by rw[hw b h1];exact h5⟩
  .trivial
 |rsv=>exact h
variable{U0:St}
theorem zVv{js:wA} (hs:RelSt H L U w)(hd:js.Nodup)(ho:aB U j9 (qR js) js U0) :
 ∃L0:wM,L0.length=js.length/\(∀i j:Nat,js[i]?=some j->∃li,L[j]?=some li/\L0[i]?=some li)/\RelSt H L0 U0 w/\∀a v,Rel H L a v->Rel H L0 (Abs.vw j9 (qR js) a) v:=by
 let L0:wM:=js.map fun k=>L.getD k ⟨none,0,0,false⟩
 have hin:∀(i j:Nat),js[i]?=some j->∃li,L[j]?=some li/\L0[i]?=some li:=by
  intro i j hij;have hi:i < U0.length:=by rw[sC ho];exact(jA4.1 hij).1
  obtain⟨o,hU,_⟩:=sB ho hij (jA1 hi);have hj:j<L.length:=by rw[hs.len];exact(jA4.1 hU).1
  refine⟨L[j],jA1 hj,?_⟩;simp[L0,hij,hj]
 have hback:∀{i:Nat} {li:LI},L0[i]?=some li->∃j,js[i]?=some j/\L[j]?=some li:=by
  intro i li hi;have hi':i<js.length:=by simpa[L0]using (jA4.1 hi).1
  obtain⟨li',h1,h2⟩:=hin i js[i] (jA1 hi');rw[hi]at h2;cases h2;exact⟨_,jA1 hi',h1⟩
 have hg:∀l i,qR js l=some i->L0[i]?=L[l]?:=by intro l i hl;obtain⟨li,h1,h2⟩:=hin i l (zCT hl);rw[h1,h2]
 have hr0:∀(l n:Nat) (v:Value),qR js l=none->Rel H L (.row l n) v->Rel H L0 (j9 false l n) v:=fun _ _ _ _ _=>by simp[j9,Rel]
 have hp0:∀(l n:Nat) (v:Value),qR js l=none->Rel H L (.ptr l n) v->Rel H L0 (j9 true l n) v:=fun _ _ _ _ _=>by simp[j9,Rel]
 refine⟨L0,by simp[L0],hin,⟨hs.pers,by simp[L0,sC ho],fun i li o hL hU=>?_,fun i j x y b hi hj hx hy=>?_,fun i li b hi hb=>?_⟩,fun a v ha=>Rel.vw (HLe.refl _) hg hr0 hp0 a ha⟩
 .obtain⟨j,hj,hLj⟩:=hback hL;obtain⟨o0,hU0,heq⟩:=sB ho hj hU;have key:=(hs.obj j li o0 hLj hU0).vw (H':=H) (L':=L0) (w':=w) (rf:=j9) (g:=qR js) (fun cs vs h=>qE.vw (HLe.refl _) hg hr0 hp0 cs h) (fun _ _=>rfl) (HLe.refl _) (fun _ _ _=>rfl);rcases heq with rfl|rfl
  .exact key
  .exact key.nrm
 .obtain⟨i',hi',hLi⟩:=hback hi;obtain⟨j',hj',hLj⟩:=hback hj;have:=hs.inj i' j' x y b hLi hLj hx hy;subst this;exact zCL hd hi' hj'
 .obtain⟨j,_,hLj⟩:=hback hi;exact hs.lt j li b hLj hb
def zNu(C:List Value->World->(Ending->World->Prop)->Prop)(args:wE) (U:St)(Q:Out->St->Prop):Prop :=
 ∀(H:Mem) (L:wM) (w:World) (vs:wL),RelSt H L U w->qE H L args vs->C vs w fun e w'=>∃o U' H' L',zAs H' L' o e/\Nxt H L w H' L' U' w'/\Q o U'
def zMR(js:wA)(n:Nat):Out->Out
 | .ret r=>.ret (ren js n r)
 | .pan v=>.pan v
variable{C:List Value->World->(Ending->World->Prop)->Prop}{Q0 Q:Out->St->Prop}
theorem zCr(hmono:∀vs w R R',C vs w R->(∀e w',R e w'->R' e w')->C vs w R'){args args':wE} (h:zNu C args U0 Q0)(js:wA)(hd:js.Nodup)(ho:aB U j9 (qR js) js U0)(ha:dS js args' args)
 (hq:∀o U1,Q0 o U1->Q (zMR js U.length o) (jF U js (U1.map (cP js U.length)))):zNu C args' U Q:=by
 intro H L w vs hs hvs;obtain⟨L0,hL0,hin,hs0,hrel0⟩:=zVv hs hd ho;have hvs0:qE H L0 args vs:=by
  clear hq h;induction args' generalizing args vs with
  |nil=>cases args with
   |nil=>rw[jP hvs];exact jV
   |cons _ _=>exact ha.elim
  |cons a' aS' ih=>cases args with
   |nil=>exact ha.elim
   |cons a aS =>
    obtain⟨u,us,rfl,h1,h2⟩:=qF hvs;refine qW ?_ (ih (vs:=us) ha.2 h2);rcases ha.1 with e|e
    .rw[e];exact hrel0 _ _ h1
    .rw[e];exact Rel.nrm0 _ (hrel0 _ _ h1)
 refine hmono _ _ _ _ (h H L0 w vs hs0 hvs0) fun e w' hh=>?_
 obtain⟨o,U',H1,L1,g1,g2,hq0⟩:=hh;have hq:=hq o U' hq0;have hjs:js.length<=L1.length:=by
  rcases jAx L1.length js.length with hlt|hge
  .have hlt0:L1.length<L0.length:=by omega
   obtain⟨l',hl',_⟩:=g2.lle L1.length L0[L1.length] (jA1 hlt0);exact absurd (jA4.1 hl').1 (Nat.lt_irrefl _)
  .exact hge
 have hjs1:js.length<=(U'.map (cP js U.length)).length:=by rw[jAe,<-g2.st.len];exact hjs
 have hjb:∀y∈js,y<L.length:=by intro y hy;obtain⟨i,hi⟩:=jCv hy;obtain⟨li,h1,_⟩:=hin i y hi;exact(jA4.1 h1).1
 have hjb':∀y∈js,y < U.length:=fun y hy=>by rw[<-hs.len];exact hjb y hy
 let L':=jF L js L1;have hlen':L'.length=(jF U js (U'.map (cP js U.length))).length:=by rw[mP hjs,mP hjs1,jAe,hs.len,g2.st.len]
 have hgf:∀l,L'[back js U.length l]?=L1[l]?:=by
  intro l;rcases jAx l js.length with hl|hl
  .have:=jA1 hl;rw[zDX this];exact nX hjs hd hjb this
  .obtain⟨k,rfl⟩:=Nat.le.dest hl;rw[zBj,<-hs.len];exact zAO hjs
 have hgs:∀l,(jF U js (U'.map (cP js U.length)))[back js U.length l]?=(U'[l]?).map (cP js U.length):=by
  intro l;rw[<-jC0];rcases jAx l js.length with hl|hl
  .have:=jA1 hl;rw[zDX this];exact nX hjs1 hd hjb' this
  .obtain⟨k,rfl⟩:=Nat.le.dest hl;rw[zBj];exact zAO hjs1
 have hg:∀l i,(fun l=>some (back js U.length l)) l=some i->L'[i]?=L1[l]?:=by intro l i hl;simp only[jA2]at hl;subst hl;exact hgf l
 have hr0:∀(l n:Nat) (v:Value),(fun l=>some (back js U.length l)) l=none->Rel H1 L1 (.row l n) v->Rel H1 L' (j9 false l n) v:=fun _ _ _ _ _=>by simp[j9,Rel]
 have hp0:∀(l n:Nat) (v:Value),(fun l=>some (back js U.length l)) l=none->Rel H1 L1 (.ptr l n) v->Rel H1 L' (j9 true l n) v:=fun _ _ _ _ _=>by simp[j9,Rel]
 have hcase:∀x,x<L'.length->(∃l,l<L1.length/\back js U.length l=x)\/(x<L.length/\x∉js):=by
  intro x hx;by_cases hm:x∈js
  .obtain⟨i,hi⟩:=jCv hm;exact .inl ⟨i,by have:=(jA4.1 hi).1;omega,zDX hi⟩
  .rcases jAx x L.length with h|h
   .exact .inr ⟨h,hm⟩
   .obtain⟨k,rfl⟩:=Nat.le.dest h;refine .inl ⟨js.length+k,?_,by rw[zBj,hs.len]⟩;rw[mP hjs]at hx;omega
 have hold:∀x,x<L.length->x∉js->L'[x]?=L[x]?:=fun x hx hm=>tS hjs hx hm
 have holds:∀x,x<L.length->x∉js->(jF U js (U'.map (cP js U.length)))[x]? = U[x]?:=fun x hx hm=>tS hjs1 (by rw[<-hs.len];exact hx) hm
 have hown0:∀b,zKD L0 b->∃(j:Nat) (li:LI),j∈js/\L[j]?=some li/\li.block=some b:=by
  rintro b ⟨i,li,h1,h2⟩;have hi:i<js.length:=by rw[<-hL0];exact(jA4.1 h1).1
  obtain⟨li',h3,h4⟩:=hin i js[i] (jA1 hi);rw[h1]at h4;cases h4;exact⟨_,li,jA0 hi,h3,h2⟩
 have hnot:∀x li b,x∉js->L[x]?=some li->li.block=some b->¬zKD L0 b:=by intro x li b hx h1 h2 ho;obtain⟨j,li',hj,h3,h4⟩:=hown0 b ho;have:=hs.inj x j li li' b h1 h3 h2 h4;subst this;exact hx hj
 have hlle:LLe L L':=by
  intro x li hx;have hxl:x<L.length:=(jA4.1 hx).1;by_cases hm:x∈js
  .obtain⟨i,hi⟩:=jCv hm;obtain⟨li',h1,h2⟩:=hin i x hi;rw[hx]at h1;cases h1;obtain⟨l',h3,h4⟩:=g2.lle i li h2;exact⟨l',by rw[nX hjs hd hjb hi];exact h3,h4⟩
  .exact⟨li,by rw[hold x hxl hm];exact hx,.inl rfl⟩
 have hout:zAs H1 L' (zMR js U.length o) e:=by
  cases o with
  |ret r =>
   obtain⟨v,rfl,hv⟩:=g1;exact⟨v,rfl,Rel.vw (HLe.refl _) hg hr0 hp0 r hv⟩
  |pan v=>exact g1
 refine⟨zMR js U.length o,jF U js (U'.map (cP js U.length)),H1,L',hout,⟨⟨g2.st.pers,hlen',fun x li o hL hU=>?_,fun x y lx ly b hx hy hbx hby=>?_,fun x li b hx hb=>?_⟩,
  ⟨g2.step.os,g2.step.tape,g2.step.output,g2.step.size,fun k hk hn=>g2.step.keep k hk fun ho=>hn (by obtain⟨j,li,_,h1,h2⟩:=hown0 k ho;exact⟨j,li,h1,h2⟩),g2.step.hle,fun b o v hv=>?_,g2.step.drawn,g2.step.dfr⟩,hlle,fun b ⟨x,li,hx,hb⟩=>?_⟩,hq⟩
 .rcases hcase x (jA4.1 hL).1 with ⟨l,hl,rfl⟩|⟨h1,h2⟩
  .rw[hgf]at hL;rw[hgs,jAj]at hU;obtain⟨o1,ho1,rfl⟩:=hU;exact(g2.st.obj l li o1 hL ho1).vw (fun cs vs h=>qE.vw (HLe.refl _) hg hr0 hp0 cs h) (fun _ _=>rfl) (HLe.refl _) (fun _ _ _=>rfl)
  .rw[hold x h1 h2]at hL;rw[holds x h1 h2]at hU;refine(hs.obj x li o hL hU).carry (fun b hb=>g2.step.keep b (hs.lt x li b hL hb) (hnot x li b h2 hL hb)) g2.step.hle hlle (fun b hb o'=>?_);cases hH:H b o' with
   |some u=>exact g2.step.hle _ _ _ hH
   |none =>
    cases hH1:H1 b o' with
    |none=>rfl
    |some u =>
     rcases g2.step.hnew b o' u hH1 with k1|k1|k1
     .rw[hH]at k1;cases k1
     .exact(hnot x li b h2 hL hb k1).elim
     .have:=hs.lt x li b hL hb;omega
 .have cross:∀(l y:Nat) (lx ly:LI),L1[l]?=some lx->lx.block=some b->y∉js->L[y]?=some ly->ly.block=some b->False:=by
   intro l y lx ly k1 k2 k3 k4 k5;rcases g2.own b ⟨l,lx,k1,k2⟩with k|k
   .exact hnot y ly b k3 k4 k5 k
   .have:=hs.lt y ly b k4 k5;omega
  rcases hcase x (jA4.1 hx).1 with ⟨l,hl,rfl⟩|⟨h1,h2⟩
  .rw[hgf]at hx;rcases hcase y (jA4.1 hy).1 with ⟨m,hm,rfl⟩|⟨h3,h4⟩
   .rw[hgf]at hy;rw[g2.st.inj l m lx ly b hx hy hbx hby]
   .rw[hold y h3 h4]at hy;exact(cross l y lx ly hx hbx h4 hy hby).elim
  .rw[hold x h1 h2]at hx;rcases hcase y (jA4.1 hy).1 with ⟨m,hm,rfl⟩|⟨h3,h4⟩
   .rw[hgf]at hy;exact(cross m x ly lx hy hby h2 hx hbx).elim
   .rw[hold y h3 h4]at hy;exact hs.inj x y lx ly b hx hy hbx hby
 .rcases hcase x (jA4.1 hx).1 with ⟨l,hl,rfl⟩|⟨h1,h2⟩
  .rw[hgf]at hx;exact g2.st.lt l li b hx hb
  .rw[hold x h1 h2]at hx;exact jCb (hs.lt x li b hx hb) g2.step.size
 .rcases g2.step.hnew b o v hv with k|k|k
  .exact .inl k
  .obtain⟨j,li,_,h1,h2⟩:=hown0 b k;exact .inr (.inl ⟨j,li,h1,h2⟩)
  .exact .inr (.inr k)
 .rcases hcase x (jA4.1 hx).1 with ⟨l,hl,rfl⟩|⟨h1,h2⟩
  .rw[hgf]at hx;rcases g2.own b ⟨l,li,hx,hb⟩with k|k
   .obtain⟨j,li',_,h1,h2⟩:=hown0 b k;exact .inl ⟨j,li',h1,h2⟩
   .exact .inr k
  .rw[hold x h1 h2]at hx;exact .inl ⟨x,li,hx,hb⟩
theorem zGA(hmono:∀vs w R R',C vs w R->(∀e w',R e w'->R' e w')->C vs w R'){args args':wE} (h:zNu C args U0 Q0)(js:wA)(hd:js.Nodup)(ho:aB U j9 (qR js) js U0)(ha:dS js args' args)
 (hnp:∀v U1,¬Q0 (.pan v) U1)(hq:∀r U1,Q0 (.ret r) U1->Q (.ret (ren js U.length r)) (jF U js (U1.map (cP js U.length)))):zNu C args' U Q :=
 zCr hmono h js hd ho ha fun o U1 h0=>by
  cases o with
  |ret r=>exact hq r U1 h0
  |pan v=>exact(hnp v U1 h0).elim
theorem zAw(P:Program)(f:FuncId):∀(vs:wL) (w:World) (R R':Ending->World->Prop),Calls P f vs.toArray w R->(∀e w',R e w'->R' e w')->Calls P f vs.toArray w R':=fun _ _ _ _ h k=>h.mono k
variable{f:FuncId}{U1:St}{r:A}
theorem cS{args args':wE} (h:Ret P f args U0 r U1)(js:wA)(hd:js.Nodup)(ho:aB U j9 (qR js) js U0)(ha:dS js args' args)
 (hq:Q (.ret (ren js U.length r)) (jF U js (U1.map (cP js U.length)))):aG P f args' U Q :=
 zGA (C:=fun vs w R=>Calls P f vs.toArray w R) (zAw P f) (Q0:=fun o U'=>o=.ret r/\U' = U1) h js hd ho ha (fun v U1 h=>by cases h.1) (fun r' U' h=>by obtain⟨h1,rfl⟩:=h;cases h1;exact hq)
theorem zLF(P:Program)(b:Nat):∀(vs:wL) (w:World) (R R':Ending->World->Prop),(∃f tmps x y,(Instr.yield b vs.toArray).run P w=.ok (.round b f tmps x y) w/\RoundIn Fence.wide 0 P b f tmps x y w R)->(∀e w',R e w'->R' e w') ->
 ∃f tmps x y,(Instr.yield b vs.toArray).run P w=.ok (.round b f tmps x y) w/\RoundIn Fence.wide 0 P b f tmps x y w R':=fun _ _ _ _ ⟨f,tmps,x,y,h1,h2⟩ k=>⟨f,tmps,x,y,h1,h2.mono k⟩
theorem zOA{b:Nat}{args args':wE} (h:lD P b args U0 fun o τ=>o=.ret r/\τ = U1)(js:wA)(hd:js.Nodup)(ho:aB U j9 (qR js) js U0)(ha:dS js args' args)
 (hq:Q (.ret (ren js U.length r)) (jF U js (U1.map (cP js U.length)))):lD P b args' U Q :=
 zGA (C:=fun vs w R=>∃f tmps x y,(Instr.yield b vs.toArray).run P w=.ok (.round b f tmps x y) w/\RoundIn Fence.wide 0 P b f tmps x y w R) (zLF P b) (Q0:=fun o U'=>o=.ret r/\U' = U1) h js hd ho ha (fun v U1 h=>by cases h.1)
  (fun r' U' h=>by obtain⟨h1,rfl⟩:=h;cases h1;exact hq)
theorem zAV{args:wE} 
 (h:aG P f args U0 fun o U'=>∃(r':A)(ks:wA)(fuel:Nat),o=.ret r'/\(∀i,i < U0.length->ks[i]?=some i)/\ks.Nodup/\aB U' (seen U' (qR ks) fuel) (qR ks) ks U1 /\
  (r=vw (seen U' (qR ks) fuel) (qR ks) r'\/r=nrm0 (vw (seen U' (qR ks) fuel) (qR ks) r'))):Ret P f args U0 r U1:=by
 intro H L w vs hs ha;refine(h H L w vs hs ha).mono fun e w' hh=>?_
 obtain⟨o,U',H',L',g1,g2,r',ks,fuel,rfl,hk,hd,ho,hr⟩:=hh;obtain⟨v,rfl,hv⟩:=g1;obtain⟨H2,L2,k1,_,k3⟩:=zOi ks fuel (by rw[hs.len];exact hk) hd ho g2;refine⟨.ret r,U1,H2,L2,⟨v,rfl,?_⟩,k1,rfl,rfl⟩;rcases hr with e|e
 .rw[e];exact k3 _ _ hv
 .rw[e];exact Rel.nrm0 _ (k3 _ _ hv)
end
end Go.Abs
