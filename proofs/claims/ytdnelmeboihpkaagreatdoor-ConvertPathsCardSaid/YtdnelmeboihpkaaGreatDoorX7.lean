/- The rules by which a walk over abstract states goes on, for simp. -/
import Derived.Test.YtdnelmeboihpkaaGreatDoorX6
set_option linter.unusedVariables false
set_option maxHeartbeats 8000000
set_option maxRecDepth 100000
set_option linter.unusedSimpArgs false
namespace Go.Abs
def qLn(o:Option A)(d:wC)(K:wJ)(env:Env) (U:St):Prop:=match o with
 |some r=>K (env.put d r) U
 |none=>False
def qLm(o:Option A)(d:wC)(K:Env->Prop)(env:Env):Prop:=match o with
 |some r=>K (env.put d r)
 |none=>False
def zOE(o:Option wE)(J:List A->Prop):Prop:=match o with
 |some r=>J r
 |none=>False
def zYr(o:Option St)(J:St->Prop):Prop:=match o with
 |some r=>J r
 |none=>False
section
variable{P:Program}{n0:Nat}{Qp:Value->wJ}{Qd:Value->St->Prop}{K':wJ}{KD:Env->Prop}{Q:Ex->wJ}{env:Env} {U:St}{d d':wC}{x y z:Operand}
variable{r:A}
@[simp]theorem qAt:qLn (some r) d K' env U = K' (env.put d r) U:=rfl
@[simp]theorem qAr:qLm (some r) d KD env=KD (env.put d r):=rfl
@[simp]theorem qAq{r:wE}{J:List A->Prop}:zOE (some r) J=J r:=rfl
@[simp]theorem qAu{r:St}{J:St->Prop}:zYr (some r) J=J r:=rfl
@[simp]theorem qF7:env.put none r=env:=rfl
variable{i t:Nat}
@[simp]theorem zTY:(env.put (some i) r) t=if t=i then r else env t:=rfl
@[simp]theorem qLc:ev env (.tmp t)=env t:=rfl
variable{f:FuncId}
@[simp]theorem qHA:ev env (.func f)=.clo f [] []:=rfl
@[simp]theorem qLa{k:IntKind}{n:Int}:ev env (.const (.int k n))=.lit (.int k n):=rfl
variable{b:Bool}
@[simp]theorem qH9:ev env (.const (.bool b))=.lit (.bool b):=rfl
@[simp]theorem zZK{s:ByteArray}:ev env (.const (.string s))=.lit (.string s):=rfl
@[simp]theorem qLb:ev env (.const (.slice none 0 0))=.nil:=rfl
@[simp]theorem zX5:ev env (.const .nilFunc)=.lit .nilFunc:=rfl
@[simp]theorem zZJ:ev env (.const (.pointer none))=.lit (.pointer none):=rfl
@[simp]theorem qKZ{l:wK}:ev env (.const (.agg ⟨l⟩))=if aY l then .agg (l.map qZ)else .any:=rfl
@[simp]theorem zWh:aY []=true:=rfl
variable{v:Value}
@[simp]theorem zTQ{l:wK}:aY (v::l)=(v.oneCell'&&aY l):=rfl
@[simp]theorem qHY{k:IntKind}{n:Int}:(Value.int k n).oneCell'=true:=rfl
@[simp]theorem qFr:(Value.bool b).oneCell'=true:=rfl
@[simp]theorem zYo{s:ByteArray}:(Value.string s).oneCell'=true:=rfl
@[simp]theorem qAp{a:Option Addr}{n c:Nat}:(Value.slice a n c).oneCell'=true:=rfl
@[simp]theorem zWj{a:Option Addr}:(Value.pointer a).oneCell'=true:=rfl
@[simp]theorem zWi:(Value.nilFunc).oneCell'=true:=rfl
@[simp]theorem qHZ{r:wC}:(Value.map r).oneCell'=true:=rfl
@[simp]theorem zYm{k:IntKind}{n:Int}:qZ (.int k n)=.lit (.int k n):=rfl
@[simp]theorem zWg:qZ (.bool b)=.lit (.bool b):=rfl
@[simp]theorem zS8{s:ByteArray}:qZ (.string s)=.lit (.string s):=rfl
@[simp]theorem zYn:qZ (.slice none 0 0)=.nil:=rfl
@[simp]theorem zRB:qZ .nilFunc=.lit .nilFunc:=rfl
@[simp]theorem zS7:qZ (.pointer none)=.lit (.pointer none):=rfl
@[simp]theorem zS6:qZ (.map none)=.lit (.map none):=rfl
@[simp]theorem zVv:cellsOf .nil=some [.nil]:=rfl
variable{cs:wE}
@[simp]theorem zVq:cellsOf (.agg cs)=some cs:=rfl
@[simp]theorem zVt:cellsOf (.lit v)=if v.oneCell' then some [.lit v]else none:=rfl
@[simp]theorem zXm{n:Nat}:cellsOf (.sl n cs)=some [.sl n cs]:=rfl
@[simp]theorem zVs{n:Nat}:cellsOf (.fsl n cs)=some [.fsl n cs]:=rfl
@[simp]theorem zVx{l n:Nat}:cellsOf (.row l n)=some [.row l n]:=rfl
@[simp]theorem zVw{l n:Nat}:cellsOf (.ptr l n)=some [.ptr l n]:=rfl
variable{l:Nat}
@[simp]theorem zVu:cellsOf (.map l)=some [.map l]:=rfl
@[simp]theorem zV0{l n o k c:Nat}:cellsOf (.win l n o k c)=some [.win l n o k c]:=rfl
@[simp]theorem zVy{l n o:Nat}:cellsOf (.rwp l n o)=some [.rwp l n o]:=rfl
@[simp]theorem zSR:cellsOf (.rptr cs)=some [.rptr cs]:=rfl
@[simp]theorem zVr{a b:wE}:cellsOf (.clo f a b)=some [.clo f a b]:=rfl
@[simp]theorem zYs:fW true cs=some (.agg cs):=rfl
@[simp]theorem zWk{c:A}:fW false [c]=some c:=rfl
@[simp]theorem qE8{n:Nat}:ldA U n (.rptr cs)=sub cs 0 n:=rfl
def zVO:Option AObj->Nat->Nat->Option wE
 |some (.box cs),off,n=>sub cs off n
 |_,_,_=>none
def zVP:Option AObj->Nat->Nat->Nat->Option wE
 |some (.row _ _ _ k cs),m,off,n=>if m=k then sub cs off n else none
 |_,_,_,_=>none
@[simp]theorem zXQ{off n:Nat}:zVO (some (.box cs)) off n=sub cs off n:=rfl
variable{fz:Bool}{e:TypeId}
@[simp]theorem zXR{s k:Nat}{m off n:Nat}:zVP (some (.row fz e s k cs)) m off n=if m=k then sub cs off n else none:=rfl
@[simp]theorem qHJ{l off n:Nat}:ldA U n (.ptr l off)=zVO U[l]? off n:=by
 simp only[ldA];cases U[l]? with
 |none=>rfl
 |some o=>cases o<;>rfl
@[simp]theorem qHK{l m off n:Nat}:ldA U n (.rwp l m off)=zVP U[l]? m off n:=by
 simp only[ldA];cases U[l]? with
 |none=>rfl
 |some o=>cases o<;>rfl
@[simp]theorem qLq{off n:Nat}:sub cs off n=if off+n<=cs.length then some ((cs.drop off).take n)else none:=rfl
def zWr:Option AObj->St->List A->Nat->Nat->Option St
 |some (.box ds),U,cs,l,off=>if off+cs.length<=ds.length then some (U.set l (.box (ds.take off++cs++ds.drop (off+cs.length))))else none
 |_,_,_,_,_=>none
def zWs:Option AObj->St->List A->Nat->Nat->Nat->Option St
 |some (.row false e sz k ds),U,cs,l,m,off=>if m=k/\off+cs.length<=ds.length then some (U.set l (.row false e sz k (ds.take off++cs++ds.drop (off+cs.length))))else none
 |_,_,_,_,_,_=>none
variable{off:Nat}
@[simp]theorem zYF{ds:wE}:zWr (some (.box ds)) U cs l off=if off+cs.length<=ds.length then some (U.set l (.box (ds.take off++cs++ds.drop (off+cs.length))))else none:=rfl
@[simp]theorem zYG{sz k:Nat}{ds:wE}{m:Nat}:zWs (some (.row false e sz k ds)) U cs l m off=if m=k/\off+cs.length<=ds.length then some (U.set l (.row false e sz k (ds.take off++cs++ds.drop (off+cs.length))))else none:=rfl
@[simp]theorem qIl:stA U cs (.ptr l off)=zWr U[l]? U cs l off:=by
 simp only[stA];cases U[l]? with
 |none=>rfl
 |some o=>cases o<;>rfl
@[simp]theorem qIm{m:Nat}:stA U cs (.rwp l m off)=zWs U[l]? U cs l m off:=by
 simp only[stA];cases U[l]? with
 |none=>rfl
 |some o =>
  cases o<;>try rfl
  rename_i fz e s n ds;cases fz<;>rfl
def zWo:Option AObj->Nat->Nat->(List A->Prop)->Prop
 |some (.row _ _ s m cs),n,sz,J=>n=m/\s=sz/\J cs
 |_,_,_,_=>False
@[simp]theorem zLK{s m n sz:Nat}{J:List A->Prop}:zWo (some (.row fz e s m cs)) n sz J=(n=m/\s=sz/\J cs):=rfl
@[simp]theorem zZx:(b==true)=b:=by cases b<;>rfl
@[simp]theorem zXw{A B:wJ}:sQ true A B env U = A env U:=by simp[sQ]
@[simp]theorem zV8{A B:wJ}:sQ false A B env U = B env U:=by simp[sQ]
@[simp]theorem qFO:zEI d K' env U = K' (env.put d (.lit undef)) U:=rfl
@[simp]theorem qFv:outK d env K' Qp (.ret r) U = K' (env.put d r) U:=rfl
@[simp]theorem qFu:outK d env K' Qp (.pan v) U = Qp v env U:=rfl
@[simp]theorem qGa{J:wJ}:thn J Q .norm=J:=rfl
@[simp]theorem qIp{J:wJ}:thn J Q .ret=Q .ret:=rfl
@[simp]theorem qFZ{J:wJ}:thn J Q (.exit i)=Q (.exit i):=rfl
@[simp]theorem qIo{J:wJ}:thn J Q (.pan v)=Q (.pan v):=rfl
@[simp]theorem qCu{id:Nat}:blk id Q .norm=Q .norm:=rfl
@[simp]theorem qG2{id:Nat}:blk id Q .ret=Q .ret:=rfl
@[simp]theorem qCt{id i:Nat}:blk id Q (.exit i)=if i=id then Q .norm else Q (.exit i):=rfl
@[simp]theorem qG1{id:Nat}:blk id Q (.pan v)=Q (.pan v):=rfl
variable{I:Nat->wJ}
@[simp]theorem qIg{n:Nat}:rnd n0 I n Q .ret=Q .ret:=rfl
@[simp]theorem qFE{n i:Nat}:rnd n0 I n Q (.exit i)=Q (.exit i):=rfl
@[simp]theorem qIf{n:Nat}:rnd n0 I n Q (.pan v)=Q (.pan v):=rfl
variable{rs:List RS}{R:Out->St->Prop}
@[simp]theorem qEb:fin rs R .norm=zE9 rs R:=rfl
@[simp]theorem qHC:fin rs R .ret=zE9 rs R:=rfl
@[simp]theorem qHB:fin rs R (.pan v) env U = R (.pan v) U:=rfl
@[simp]theorem qA0:zE9 [.slot t] R env U = R (.ret (env t)) U:=rfl
@[simp]theorem qFD{u:Nat}:zE9 [.slot t,.slot u] R env U = R (.ret (.tup [env t,env u])) U:=rfl
@[simp]theorem zY1{u v:Nat}:zE9 [.slot t,.slot u,.slot v] R env U = R (.ret (.tup [env t,env u,env v])) U:=rfl
variable{a:A}
@[simp]theorem zSG{l:wE}:lF (a::l) 0=a:=rfl
@[simp]theorem zSF{l:wE}{n:Nat}:lF (a::l) (n+1)=lF l n:=by simp[lF]
@[simp]theorem zVg{n:Nat}:lF [] n=.lit undef:=by simp[lF]
@[simp]theorem zZg{k:K}{args:wE}:wpF P k rs args U R=wpK P U.length k (fin rs R) (lF args) U:=rfl
@[simp]theorem qGt:wpK P n0 .skip Q env U = Q .norm env U:=rfl
@[simp]theorem qI9:wpK P n0 .ret Q env U = Q .ret env U:=rfl
@[simp]theorem qGr:wpK P n0 (.exit i) Q env U = Q (.exit i) env U:=rfl
@[simp]theorem qIB{a b:K}:wpK P n0 (.seq a b) Q env U = wpK P n0 a (thn (wpK P n0 b Q) Q) env U:=rfl
@[simp]theorem qBq{a:K}:wpK P n0 (.block i a) Q env U = wpK P n0 a (blk i Q) env U:=rfl
@[simp]theorem qGs{a:K}:wpK P n0 (.loop a) Q env U = zHQ n0 (wpK P n0 a) Q env U:=rfl
@[simp]theorem zZh{a:K}:wpK P n0 (.wk a) Q env U = Wk n0 (wpK P n0 a Q) env U:=rfl
@[simp]theorem qI8{l:List KG}:wpK P n0 (.ops l) Q env U = iX P (fun v=>Q (.pan v)) (Q .norm) l env U:=rfl
@[simp]theorem qGq{l:List (Nat×Nat×KG)}:wpK P n0 (.dops l) Q env U = wpD P (zEq Q) (Q .norm) l env U:=rfl
@[simp]theorem qIA{ps:wA}{a b:K}:wpK P n0 (.rng x ps a b) Q env U = zW7 P n0 x ps (fun n=>wpK P n a) (fun n=>wpK P n b) Q env U:=rfl
@[simp]theorem zZu{S:St}{J:wJ}:zSH S J .norm env U = (U = S/\J env U):=rfl
@[simp]theorem zZH{S:St}:zSZ n0 S .norm env U = Wk n0 (fun _ U'=>U'=S) env U:=rfl
@[simp]theorem qAw{xs:wE}:uM env [] xs=env:=by cases xs<;>rfl
@[simp]theorem zYy{p:Nat}{ps:wA}{xs:wE}:uM env (p::ps) (a::xs)=uM (env.put (some p) a) ps xs:=rfl
@[simp]theorem zXn{b:Nat}:cellsOf (yv b)=some [yv b]:=rfl
def zV9(a:A)(A B:wJ)(env:Env) (U:St):Prop:=match a with
 | .lit (.bool t)=>sQ t A B env U
 |_=>False
@[simp]theorem zXx{t:Bool}{A B:wJ}:zV9 (.lit (.bool t)) A B env U = sQ t A B env U:=rfl
@[simp]theorem qGp{a b:K}:wpK P n0 (.cond x a b) Q env U = zV9 (ev env x) (wpK P n0 a Q) (wpK P n0 b Q) env U:=rfl
@[simp]theorem qBt:iX P Qp K' [] env U = K' env U:=rfl
@[simp]theorem zZk{o:KOp}{l:List KG}:iX P Qp K' (⟨none,o⟩::l) env U = wpO P Qp (iX P Qp K' l) o env U:=rfl
def zBJ(a:A)(want:Bool)(A B:wJ)(env:Env) (U:St):Prop:=match a with
 | .lit (.bool b)=>sQ (b==want) A B env U
 | .lit (.tuple _)=>B env U
 |_=>False
variable{want:Bool}
@[simp]theorem zVD{A B:wJ}:zBJ (.lit (.bool b)) want A B env U = sQ (b==want) A B env U:=rfl
@[simp]theorem zTw{A B:wJ}:zBJ (.lit undef) want A B env U = B env U:=rfl
variable{s:Nat}
@[simp]theorem zWx{o:KOp}{l:List KG}:iX P Qp K' (⟨some (s,want),o⟩::l) env U = zBJ (env s) want (wpO P Qp (iX P Qp K' l) o) (zEI o.dst (iX P Qp K' l)) env U:=by
 simp only[iX,wpG,zBJ];generalize env s=a;cases a<;>try rfl
 all_goals (rename_i v;cases v<;>rfl)
def zNc(a:A)(x y:A)(J:A->Prop):Prop:=match a with
 | .lit (.bool t)=>J (if t then x else y)
 |_=>False
variable{J:A->Prop}
@[simp]theorem zYt{t:Bool}{b:A}:zNc (.lit (.bool t)) a b J=J (if t then a else b):=rfl
def mH(o:Option A)(J:A->Prop):Prop:=match o with
 |some r=>J r
 |none=>False
@[simp]theorem qAs:mH (some r) J=J r:=rfl
theorem pL{o:Option A}:jJ (o.map fun r=>(True,r)) J=mH o J:=by cases o<;>simp[jJ,mH]
@[simp]theorem qIS:wpO P Qp K' (.mov d x) env U = K' (env.put d (ev env x)) U:=by simp[wpO,jJ,zR,KOp.dst]
theorem zOH:jJ (zR env U (.pick d x y z)) J=zNc (ev env x) (ev env y) (ev env z) J:=by
 simp only[zR,zNc,jJ];generalize ev env x=a;cases a<;>try rfl
 rename_i v;cases v<;>simp
@[simp]theorem qGz:wpO P Qp K' (.pick d x y z) env U = zNc (ev env x) (ev env y) (ev env z) fun r=>K' (env.put d r) U:=zOH (d:=d)
variable{zs:wK}
@[simp]theorem qBr:wpO P Qp K' (.alloc d zs) env U = K' (env.put d (.ptr U.length 0)) (U++[.box (zs.map qZ)]):=rfl
@[simp]theorem qIG:wpO P Qp K' (.box d x) env U = zOE (cellsOf (ev env x)) fun cs=>K' (env.put d (.ptr U.length 0)) (U++[.box cs]):=rfl
variable{agg:Bool}
@[simp]theorem qLA{n:Nat}:wpO P Qp K' (.ld d x n agg) env U = mH ((ldA U n (ev env x)).bind (fW agg)) fun r=>K' (env.put d r) U:=pL
@[simp]theorem qLC{n:Nat}:wpO P Qp K' (.st d x y n) env U = zOE (cellsOf (ev env y)) fun cs=>cs.length=n/\zYr (stA U cs (ev env x)) fun U'=>K' (env.put d (.lit undef)) U':=by
 simp only[wpO,zOE,zYr];cases cellsOf (ev env y)with
 |none=>rfl
 |some cs =>
  simp only;by_cases h:cs.length=n
  .simp only[h,if_true,true_and];cases stA U cs (ev env x)<;>rfl
  .simp[h]
def zCj(U:St)(off:Nat):A->Option A
 | .ptr l o=>some (.ptr l (o+off))
 | .rptr cs=>some (.rptr (cs.drop off))
 | .rwp l n o=>match U[l]? with
  |some (.row _ _ _ m _)=>if n=m then some (.rwp l n (o+off))else none
  |_=>none
 |_=>none
variable{o:Nat}
@[simp]theorem zZp:zCj U off (.ptr l o)=some (.ptr l (o+off)):=rfl
@[simp]theorem zWB:zCj U off (.rptr cs)=some (.rptr (cs.drop off)):=rfl
theorem zDg:zR env U (.addr d x off)=(zCj U off (ev env x)).map fun r=>(True,r):=by
 simp only[zR];generalize ev env x=a;cases a<;>simp only[zCj]<;>try rfl
 rename_i l n o;cases U[l]? with
 |none=>rfl
 |some ob =>
  cases ob<;>try rfl
  simp only;split<;>rfl
@[simp]theorem qGu:wpO P Qp K' (.addr d x off) env U = mH (zCj U off (ev env x)) fun r=>K' (env.put d r) U:=by show jJ (zR env U (.addr d x off)) _=_;rw[zDg,pL];rfl
def uC(U:St)(sz:Nat)(a i:A)(J:A->Prop):Prop:=match a,i with
 | .sl n cs,.lit (.int _ j)=>((0<=j/\j<n)/\j.toNat*sz<cs.length)/\J (.rptr (cs.drop (j.toNat*sz)))
 | .fsl n cs,.lit (.int _ j)=>((0<=j/\j<n)/\j.toNat*sz<cs.length)/\J (.rptr (cs.drop (j.toNat*sz)))
 | .row l n,.lit (.int _ j)=>match U[l]? with
  |some (.row _ _ s m _)=>if n=m/\s=sz then (0<=j/\j<n)/\J (.rwp l n (j.toNat*sz))else False
  |_=>False
 | .win l n o k' _,.lit (.int _ j)=>match U[l]? with
  |some (.row _ _ s m _)=>if n=m/\s=sz then (0<=j/\j<k')/\J (.rwp l n (o+j.toNat*sz))else False
  |_=>False
 |_,_=>False
variable{sz:Nat}
theorem zGb:jJ (zR env U (.idx d x y sz)) J=uC U sz (ev env x) (ev env y) J:=by
 simp only[zR,uC,jJ];generalize ev env x=a;generalize ev env y=b;cases a<;>cases b<;>try rfl
 all_goals (rename_i v;cases v<;>try rfl)
 .rename_i l n k j;simp only;cases U[l]? with
  |none=>rfl
  |some ob =>
   cases ob<;>try rfl
   rename_i fz e s m cs;by_cases h:n=m/\s=sz<;>simp[h]
 .rename_i l n o k' c k j;simp only;cases U[l]? with
  |none=>rfl
  |some ob =>
   cases ob<;>try rfl
   rename_i fz e s m cs;by_cases h:n=m/\s=sz<;>simp[h]
@[simp]theorem qIL:wpO P Qp K' (.idx d x y sz) env U = uC U sz (ev env x) (ev env y) fun r=>K' (env.put d r) U:=zGb (d:=d)
variable{j:Int}
@[simp]theorem qHG{sz n:Nat}{k:IntKind}:uC U sz (.sl n cs) (.lit (.int k j)) J=(((0<=j/\j<n)/\j.toNat*sz<cs.length)/\J (.rptr (cs.drop (j.toNat*sz)))):=rfl
@[simp]theorem qEr{sz n:Nat}{k:IntKind}:uC U sz (.fsl n cs) (.lit (.int k j)) J=(((0<=j/\j<n)/\j.toNat*sz<cs.length)/\J (.rptr (cs.drop (j.toNat*sz)))):=rfl
def zAK(len sz:Nat)(a i:A)(J:A->Prop):Prop:=match a,i with
 | .ptr l o,.lit (.int _ j)=>(0<=j/\j<len)/\J (.ptr l (o+j.toNat*sz))
 | .rptr cs,.lit (.int _ j)=>((0<=j/\j<len)/\j.toNat*sz<cs.length)/\J (.rptr (cs.drop (j.toNat*sz)))
 |_,_=>False
@[simp]theorem zT0{len sz:Nat}{k:IntKind}:zAK len sz (.rptr cs) (.lit (.int k j)) J=(((0<=j/\j<len)/\j.toNat*sz<cs.length)/\J (.rptr (cs.drop (j.toNat*sz)))):=rfl
@[simp]theorem zVL{len sz l o:Nat}{k:IntKind}:zAK len sz (.ptr l o) (.lit (.int k j)) J=((0<=j/\j<len)/\J (.ptr l (o+j.toNat*sz))):=rfl
theorem zHf{len sz:Nat}:jJ (zR env U (.idxarr d x y len sz)) J=zAK len sz (ev env x) (ev env y) J:=by
 simp only[zR,zAK,jJ];generalize ev env x=a;generalize ev env y=b;cases a<;>first
  |rfl
  |(cases b<;>first
   |rfl
   |(rename_i v;cases v<;>rfl))
@[simp]theorem zZj{len sz:Nat}:wpO P Qp K' (.idxarr d x y len sz) env U = zAK len sz (ev env x) (ev env y) fun r=>K' (env.put d r) U:=zHf (d:=d)
def nR(op:BinOp)(a b:A)(J:A->Prop):Prop:=match a,b with
 | .lit (.int k m),.lit (.int k' n)=>if k=k' then (match pH op k m n with|some (p,r)=>p/\J r|none=>False)else False
 | .lit (.string s),.lit (.string t)=>(match zSj op s t with|some (p,r)=>p/\J r|none=>False)
 |_,_=>False
variable{op:BinOp}
theorem zNw:jJ (zR env U (.bin d op x y)) J=nR op (ev env x) (ev env y) J:=by
 simp only[zR,nR,jJ];generalize ev env x=a;generalize ev env y=b;cases a<;>try rfl
 rename_i u;cases b<;>try(cases u<;>rfl)
 rename_i v;cases u<;>cases v<;>try rfl
 case lit.lit.int.int k m k' n =>
  by_cases h:k=k'
  .simp only[h,if_true];cases pH op k' m n<;>rfl
  .simp[h]
@[simp]theorem qIF:wpO P Qp K' (.bin d op x y) env U = nR op (ev env x) (ev env y) fun r=>K' (env.put d r) U:=zNw (d:=d)
@[simp]theorem qCr{s t:ByteArray}:nR .add (.lit (.string s)) (.lit (.string t)) J=(s.size+t.size<=1000000/\J (.lit (.string (s++t)))):=rfl
@[simp]theorem qCj{k:IntKind}{m n:Int}:nR .add (.lit (.int k m)) (.lit (.int k n)) J=J (.lit (.int k (k.wrap (m+n)))):=by simp[nR,pH]
@[simp]theorem qCs{k:IntKind}{m n:Int}:nR .sub (.lit (.int k m)) (.lit (.int k n)) J=J (.lit (.int k (k.wrap (m-n)))):=by simp[nR,pH]
@[simp]theorem qCo{k:IntKind}{m n:Int}:nR .mul (.lit (.int k m)) (.lit (.int k n)) J=J (.lit (.int k (k.wrap (m*n)))):=by simp[nR,pH]
@[simp]theorem qCp{k:IntKind}{m n:Int}:nR .quo (.lit (.int k m)) (.lit (.int k n)) J=(n≠0/\J (.lit (.int k (k.wrap (m.tdiv n))))):=by simp[nR,pH]
@[simp]theorem qCq{k:IntKind}{m n:Int}:nR .rem (.lit (.int k m)) (.lit (.int k n)) J=(n≠0/\J (.lit (.int k (m.tmod n)))):=by simp[nR,pH]
@[simp]theorem qCn{k:IntKind}{m n:Int}:nR .lss (.lit (.int k m)) (.lit (.int k n)) J=J (.lit (.bool (decide (m<n)))):=by simp[nR,pH]
@[simp]theorem qCm{k:IntKind}{m n:Int}:nR .leq (.lit (.int k m)) (.lit (.int k n)) J=J (.lit (.bool (decide (m<=n)))):=by simp[nR,pH]
@[simp]theorem qCl{k:IntKind}{m n:Int}:nR .gtr (.lit (.int k m)) (.lit (.int k n)) J=J (.lit (.bool (decide (n<m)))):=by simp[nR,pH]
@[simp]theorem qCk{k:IntKind}{m n:Int}:nR .geq (.lit (.int k m)) (.lit (.int k n)) J=J (.lit (.bool (decide (n<=m)))):=by simp[nR,pH]
noncomputable def eqA(k:SK) (ng:Bool) (a b:A):Option A:=(gI k a b).map (eD ng)
noncomputable def zGS(ks:List SK) (ng:Bool) (a b:A):Option A:=match a,b with
 | .agg xs,.agg ys=>(aP ks xs ys).map (eD ng)
 |_,_=>none
variable{ng:Bool}
theorem zQz{k:SK}:jJ (zR env U (.eqv d ng k x y)) J=mH (eqA k ng (ev env x) (ev env y)) J:=by simp only[zR,eqA];cases gI k (ev env x) (ev env y)<;>simp[jJ,mH]
theorem zQy{ks:List SK}:jJ (zR env U (.eqs d ng ks x y)) J=mH (zGS ks ng (ev env x) (ev env y)) J:=by
 simp only[zR,zGS];generalize ev env x=a;generalize ev env y=b;cases a<;>cases b<;>try rfl
 rename_i xs ys;simp only;cases aP ks xs ys<;>simp[jJ,mH]
@[simp]theorem qIJ{k:SK}:wpO P Qp K' (.eqv d ng k x y) env U = mH (eqA k ng (ev env x) (ev env y)) fun r=>K' (env.put d r) U:=zQz (d:=d)
@[simp]theorem qII{ks:List SK}:wpO P Qp K' (.eqs d ng ks x y) env U = mH (zGS ks ng (ev env x) (ev env y)) fun r=>K' (env.put d r) U:=zQy (d:=d)
@[simp]theorem qH8{k:IntKind}{m n:Int}:eqA .i false (.lit (.int k m)) (.lit (.int k n))=some (.lit (.bool (decide (m=n)))):=by simp[eqA,gI,eD]
@[simp]theorem qDT{k:IntKind}{m n:Int}:eqA .i true (.lit (.int k m)) (.lit (.int k n))=some (.lit (.bool (decide (m≠n)))):=by simp[eqA,gI,eD]
@[simp]theorem qDS{m n:Bool}:eqA .b false (.lit (.bool m)) (.lit (.bool n))=some (.lit (.bool (decide (m=n)))):=by simp[eqA,gI,eD]
@[simp]theorem zZI{m n:Bool}:eqA .b true (.lit (.bool m)) (.lit (.bool n))=some (.lit (.bool (decide (m≠n)))):=by simp[eqA,gI,eD]
def zTF(a:A)(J:A->Prop):Prop:=match a with | .lit (.int k m)=>J (.lit (.int k (k.wrap (0-m))))|_=>False
@[simp]theorem qEZ{k:IntKind}{m:Int}:zTF (.lit (.int k m)) J=J (.lit (.int k (k.wrap (0-m)))):=rfl
theorem zR3:jJ (zR env U (.neg d x)) J=zTF (ev env x) J:=by
 simp only[zR,zTF];generalize ev env x=a;cases a<;>try rfl
 rename_i v;cases v<;>simp[jJ]
@[simp]theorem qIT:wpO P Qp K' (.neg d x) env U = zTF (ev env x) fun r=>K' (env.put d r) U:=zR3 (d:=d)
def zTH(a:A)(J:A->Prop):Prop:=match a with | .lit (.bool b)=>J (.lit (.bool !b))|_=>False
@[simp]theorem qAc:zTH (.lit (.bool b)) J=J (.lit (.bool !b)):=rfl
theorem zR6:jJ (zR env U (.not d x)) J=zTH (ev env x) J:=by
 simp only[zR,zTH];generalize ev env x=a;cases a<;>try rfl
 rename_i v;cases v<;>simp[jJ]
@[simp]theorem qIU:wpO P Qp K' (.not d x) env U = zTH (ev env x) fun r=>K' (env.put d r) U:=zR6 (d:=d)
def sZ(U:St)(a:A)(J:A->Prop):Prop:=match a with
 | .nil=>J (.lit (.int .i64 0))
 | .sl n _=>n<=maxLen->J (.lit (.int .i64 n))
 | .fsl n _=>n<=maxLen->J (.lit (.int .i64 n))
 | .row l n=>match U[l]? with
  |some (.row _ _ _ m _)=>if n=m then J (.lit (.int .i64 n))else False
  |_=>False
 | .win l n _ k _=>match U[l]? with
  |some (.row _ _ _ m _)=>if n=m then J (.lit (.int .i64 k))else False
  |_=>False
 |_=>False
@[simp]theorem qEE:sZ U .nil J=J (.lit (.int .i64 0)):=rfl
@[simp]theorem qHM{n:Nat}:sZ U (.sl n cs) J=(n<=maxLen->J (.lit (.int .i64 n))):=rfl
@[simp]theorem qED{n:Nat}:sZ U (.fsl n cs) J=(n<=maxLen->J (.lit (.int .i64 n))):=rfl
@[simp]theorem qIP:wpO P Qp K' (.len d false x) env U = sZ U (ev env x) fun r=>K' (env.put d r) U:=by
 simp only[wpO,sZ,zR];generalize ev env x=a;cases a<;>simp only[jJ,true_and]
 .rename_i l n;cases U[l]? with
  |none=>rfl
  |some ob =>
   cases ob<;>try rfl
   rename_i fz e s m cs;by_cases h:n=m<;>simp[h]
 .rename_i l n _ k _;cases U[l]? with
  |none=>rfl
  |some ob =>
   cases ob<;>try rfl
   rename_i fz e s m cs;by_cases h:n=m<;>simp[h]
def zMS(a:A)(J:A->Prop):Prop:=match a with | .lit (.string s)=>J (.lit (.int .i64 s.size))|_=>False
@[simp]theorem zT6{s:ByteArray}:zMS (.lit (.string s)) J=J (.lit (.int .i64 s.size)):=rfl
theorem zO2:jJ (zR env U (.len d true x)) J=zMS (ev env x) J:=by
 simp only[zR,zMS];generalize ev env x=a;cases a<;>try rfl
 rename_i v;cases v<;>simp[jJ]
@[simp]theorem qGx:wpO P Qp K' (.len d true x) env U = zMS (ev env x) fun r=>K' (env.put d r) U:=zO2 (d:=d)
def mmA(mx:Bool):List A->Option A
 | .lit (.int k a)::rest=>uI mx a rest k
 |_=>none
@[simp]theorem zVR{k:IntKind}{m n:Int}:mmA true [.lit (.int k m),.lit (.int k n)]=some (.lit (.int k (if m<n then n else m))):=by simp[mmA,uI]
@[simp]theorem zVS{k:IntKind}{m n:Int}:mmA false [.lit (.int k m),.lit (.int k n)]=some (.lit (.int k (if n<m then n else m))):=by simp[mmA,uI]
variable{xs:List Operand}{mx:Bool}
theorem zTD:jJ (zR env U (.mm d mx xs)) J=mH (mmA mx (xs.map (ev env))) J:=by
 simp only[zR];generalize xs.map (ev env)=l;cases l with
 |nil=>rfl
 |cons a l =>
  cases a<;>try rfl
  rename_i v;cases v<;>try rfl
  exact pL
@[simp]theorem qLB:wpO P Qp K' (.mm d mx xs) env U = mH (mmA mx (xs.map (ev env))) fun r=>K' (env.put d r) U:=zTD (d:=d)
def zTr(i:Nat)(a:A)(J:A->Prop):Prop:=match a with | .tup vs=>(match vs[i]? with|some r=>J r|none=>False)|_=>False
@[simp]theorem qEa{vs:wE}:zTr i (.tup vs) J=mH vs[i]? J:=rfl
theorem zQC:jJ (zR env U (.ext d x i)) J=zTr i (ev env x) J:=by
 simp only[zR,zTr];generalize ev env x=a;cases a<;>try rfl
 rename_i vs;simp only;cases vs[i]?<;>simp[jJ]
@[simp]theorem qIK:wpO P Qp K' (.ext d x i) env U = zTr i (ev env x) fun r=>K' (env.put d r) U:=zQC (d:=d)
@[simp]theorem qIH{a b:List Operand}:wpO P Qp K' (.clo d f a b) env U = K' (env.put d (.clo f (a.map (ev env)) (b.map (ev env)))) U:=by simp[wpO,zR,jJ,KOp.dst]
variable{ps:List (Nat×Nat×Operand)}
theorem zKv:jJ (zR env U (.build d zs ps)) J=mH ((eT (zs.map qZ) (ps.map fun(o,s,x)=>(o,s,ev env x))).map .agg) J:=by simp only[zR];cases eT (zs.map qZ) (ps.map fun(o,s,x)=>(o,s,ev env x))<;>simp[jJ,mH]
def zLh(a:A)(neg:Bool)(J:A->Prop):Prop:=match a with
 | .lit (.pointer none)=>J (.lit (.bool !neg))
 | .rptr _=>J (.lit (.bool neg))
 | .ptr _ _=>J (.lit (.bool neg))
 |_=>False
variable{neg:Bool}
@[simp]theorem qEz:zLh (.lit (.pointer none)) neg J=J (.lit (.bool !neg)):=rfl
@[simp]theorem zZU:zLh (.rptr cs) neg J=J (.lit (.bool neg)):=rfl
@[simp]theorem qE0:zLh (.ptr l o) neg J=J (.lit (.bool neg)):=rfl
@[simp]theorem qIN:wpO P Qp K' (.isp d neg x) env U = zLh (ev env x) neg fun r=>K' (env.put d r) U:=by
 show jJ (zR env U (.isp d neg x)) _=_;simp only[zR];generalize ev env x=a;cases a with
 |lit v=>cases v with
  |pointer ad=>cases ad<;>simp[jJ,zLh,KOp.dst]
  |_=>rfl
 |rptr cs=>simp[jJ,zLh,KOp.dst]
 |ptr l o=>simp[jJ,zLh,KOp.dst]
 |_=>rfl
def qEO(t:TypeId)(a:A):A:=match a with
 | .lit v=>.lit (.iface t v)
 |_=>.any
@[simp]theorem qEP{t:TypeId}:qEO t (.lit v)=.lit (.iface t v):=rfl
@[simp]theorem qIQ{t:TypeId}:wpO P Qp K' (.mki d t x) env U = K' (env.put d (qEO t (ev env x))) U:=by simp only[wpO,zR,jJ,KOp.dst,true_and];generalize ev env x=a;cases a<;>rfl
def qFw(Qp:Value->wJ)(env:Env) (U:St)(a:A):Prop:=match a with
 | .lit (.iface t v)=>Qp (.iface t v) env U
 |_=>False
@[simp]theorem qFx{t:TypeId}:qFw Qp env U (.lit (.iface t v))=Qp (.iface t v) env U:=rfl
@[simp]theorem qIV:wpO P Qp K' (.pan d x) env U = qFw Qp env U (ev env x):=rfl
@[simp]theorem qBs:wpO P Qp K' (.build d zs ps) env U = mH ((eT (zs.map qZ) (ps.map fun(o,s,x)=>(o,s,ev env x))).map .agg) fun r=>K' (env.put d r) U:=zKv (d:=d)
@[simp]theorem zZi{sz n:Nat}:wpO P Qp K' (.bslice d e sz n zs ps) env U = mH ((eT (zs.map qZ) (ps.map fun(o,s,x)=>(o,s,ev env x))).map (.fsl n)) fun r=>K' (env.put d r) U:=by simp only[wpO,mH];cases eT (zs.map qZ) (ps.map fun(o,s,x)=>(o,s,ev env x))<;>simp
@[simp]theorem qGv{sz n:Nat}:wpO P Qp K' (.brow d e sz n zs ps) env U = zOE (eT (zs.map qZ) (ps.map fun(o,s,x)=>(o,s,ev env x))) fun cs=>K' (env.put d (.row U.length n)) (U++[.row false e sz n cs]):=by simp only[wpO,zOE];cases eT (zs.map qZ) (ps.map fun(o,s,x)=>(o,s,ev env x))<;>simp
def zOx(a:A)(neg:Bool)(J:A->Prop):Prop:=match a with
 | .nil=>J (.lit (.bool !neg))
 | .sl n _=>n≠0/\J (.lit (.bool neg))
 | .fsl n _=>n≠0/\J (.lit (.bool neg))
 |_=>False
@[simp]theorem qEy:zOx .nil neg J=J (.lit (.bool !neg)):=rfl
@[simp]theorem qHH{n:Nat}:zOx (.sl n cs) neg J=(n≠0/\J (.lit (.bool neg))):=rfl
@[simp]theorem qEx{n:Nat}:zOx (.fsl n cs) neg J=(n≠0/\J (.lit (.bool neg))):=rfl
theorem zRh:jJ (zR env U (.isn d neg x)) J=zOx (ev env x) neg J:=by simp only[zR,zOx,jJ];generalize ev env x=a;cases a<;>simp
def zUi(o:Option AObj) (U:St)(l n sz:Nat)(h:Int)(J:A->St->Prop):Prop:=match o with
 |some (.row false e s m cs)=>(n=m/\s=sz/\0<=h/\h<=n/\n≠0)/\J (.row U.length h.toNat) (U.set l .dead++[.row false e sz h.toNat (cs.take (h.toNat*sz))])
 |_=>False
@[simp]theorem qAC{e s m l n sz:Nat}{h:Int}{J:A->St->Prop}:zUi (some (.row false e s m cs)) U l n sz h J=((n=m/\s=sz/\0<=h/\h<=n/\n≠0)/\J (.row U.length h.toNat) (U.set l .dead++[.row false e sz h.toNat (cs.take (h.toNat*sz))])):=rfl
def zYC(U:St)(sz:Nat)(a b:A)(J:A->St->Prop):Prop:=match a,b with
 | .row l n,.lit (.int _ h)=>zUi U[l]? U l n sz h J
 |_,_=>False
@[simp]theorem qFN{l n sz:Nat}{k:IntKind}{h:Int}{J:A->St->Prop}:zYC U sz (.row l n) (.lit (.int k h)) J=zUi U[l]? U l n sz h J:=rfl
@[simp]theorem qIW:wpO P Qp K' (.shr d x sz y) env U = zYC U sz (ev env x) (ev env y) fun r τ=>K' (env.put d r) τ:=by simp only[wpO,zYC,zUi];generalize ev env x=a;generalize ev env y=b;cases a<;>cases b<;>first|rfl|(rename_i v;cases v<;>rfl)
def zSE(ob:Option AObj) (U:St)(e:TypeId)(sz bytes:Nat)(l n o k c m:Nat)(ys:wE)(J:A->St->Prop):Prop:=match ob with
 |some (.row false e' s n' cs)=>(ys.length=m*sz/\m≠0/\n=n'/\e'=e/\s=sz/\c=sz/\o+k*sz=n*sz/\n+m<=maxLen/\(n+m)*bytes<=140737488355328) /\
  J (.win l (n+m) o (k+m) sz) (U.set l (.row false e sz (n+m) (cs++ys)))/\J (.win U.length (k+m) 0 (k+m) sz) (U++[.row false e sz (k+m) (cs.drop o++ys)])
 |_=>False
variable{e':TypeId}{ys:wE}
@[simp]theorem zZs{n':Nat}{sz bytes l n o k c m:Nat}{J:A->St->Prop}:zSE (some (.row false e' s n' cs)) U e sz bytes l n o k c m ys J=((ys.length=m*sz/\m≠0/\n=n'/\e'=e/\s=sz/\c=sz/\o+k*sz=n*sz/\n+m<=maxLen/\(n+m)*bytes<=140737488355328) /\
 J (.win l (n+m) o (k+m) sz) (U.set l (.row false e sz (n+m) (cs++ys)))/\J (.win U.length (k+m) 0 (k+m) sz) (U++[.row false e sz (k+m) (cs.drop o++ys)])):=rfl
def zWD(U:St)(e:TypeId)(sz bytes:Nat)(el:Option (Nat×wE))(a:A)(J:A->St->Prop):Prop:=match el,a with
 |some (m,ys),.win l n o k c=>zSE U[l]? U e sz bytes l n o k c m ys J
 |_,_=>False
@[simp]theorem qCh{sz bytes l n o k c m:Nat}{J:A->St->Prop}:zWD U e sz bytes (some (m,ys)) (.win l n o k c) J=zSE U[l]? U e sz bytes l n o k c m ys J:=rfl
variable{bytes:Nat}
@[simp]theorem qIE:wpO P Qp K' (.apq d e sz bytes x y) env U = zWD U e sz bytes (eN U sz (ev env y)) (ev env x) fun r τ=>K' (env.put d r) τ:=by simp only[wpO,zWD,zSE];generalize eN U sz (ev env y)=el;generalize ev env x=a;cases el<;>cases a<;>rfl
def zOy(U:St)(a:A)(neg:Bool)(J:A->Prop):Prop:=match a with
 | .nil=>J (.lit (.bool !neg))
 | .sl n _=>J (.lit (.bool neg))/\(n=0->J (.lit (.bool !neg)))
 | .row l n=>(match U[l]? with
  |some (.row _ _ _ m _)=>n=m/\J (.lit (.bool neg))/\(n=0->J (.lit (.bool !neg)))
  |_=>False)
 |_=>False
@[simp]theorem qE1:zOy U .nil neg J=J (.lit (.bool !neg)):=rfl
@[simp]theorem qHI{n:Nat}:zOy U (.sl n cs) neg J=(J (.lit (.bool neg))/\(n=0->J (.lit (.bool !neg)))):=rfl
@[simp]theorem qIO:wpO P Qp K' (.isz d neg x) env U = zOy U (ev env x) neg fun r=>K' (env.put d r) U:=by simp only[wpO,zOy];cases ev env x<;>rfl
@[simp]theorem qIM:wpO P Qp K' (.isn d neg x) env U = zOx (ev env x) neg fun r=>K' (env.put d r) U:=zRh (d:=d)
@[simp]theorem zZL:eT cs []=some cs:=rfl
def zVB(c:Option wE)(o s:Nat)(cs:wE)(rest:List (Nat×Nat×A)):Option wE:=match c with
 |some l=>if l.length=s/\o+s<=cs.length then eT (cs.take o++l++cs.drop (o+s)) rest else none
 |none=>none
variable{rest:List (Nat×Nat×A)}
@[simp]theorem zXE{l:wE}:zVB (some l) o s cs rest=if l.length=s/\o+s<=cs.length then eT (cs.take o++l++cs.drop (o+s)) rest else none:=rfl
@[simp]theorem zXD:eT cs ((o,s,a)::rest)=zVB (cellsOf a) o s cs rest:=rfl
def elP(U:St)(sz:Nat)(a:A)(J:Nat->List A->Prop):Prop:=match eN U sz a with
 |some (m,ys)=>ys.length=m*sz/\J m ys
 |none=>False
@[simp]theorem qH5{J:Nat->List A->Prop}:elP U sz .nil J=J 0 []:=by simp[elP,eN]
@[simp]theorem qKY{sz n:Nat}{J:Nat->List A->Prop}:elP U sz (.sl n cs) J=(cs.length=n*sz/\J n cs):=rfl
@[simp]theorem qH4{sz n:Nat}{J:Nat->List A->Prop}:elP U sz (.fsl n cs) J=(cs.length=n*sz/\J n cs):=rfl
@[simp]theorem qH6{sz l n:Nat}{J:Nat->List A->Prop}:elP U sz (.row l n) J=zWo U[l]? n sz fun cs=>cs.length=n*sz/\J n cs:=by
 simp only[elP,eN];cases U[l]? with
 |none=>rfl
 |some o =>
  cases o<;>try rfl
  rename_i fz e s m cs;by_cases h:n=m/\s=sz
  .simp[h]
  .simp only[h,if_false,zLK,eq_iff_iff,false_iff];rintro⟨h1,h2,_⟩;exact h ⟨h1,h2⟩
def zPH(d:wC)(K':wJ)(env:Env) (U:St)(e:TypeId)(sz bytes m:Nat)(ys:wE):A->Prop
 | .nil=>(m<=maxLen/\m*bytes<=140737488355328)/\K' (env.put d (.row U.length m)) (U++[AObj.row false e sz m ys])
 | .row l n=>(match U[l]? with
  |some (.row fz e' s n' cs)=>if n=n'/\e'=e/\s=sz then (n+m<=maxLen/\(n+m)*bytes<=140737488355328)/\K' (env.put d (.row l (n+m))) (U.set l (.row fz e sz (n+m) (cs++ys)))else False
  |_=>False)
 | .fsl n cs=>cs.length=n*sz/\(m=0->K' (env.put d (.fsl n cs)) U)/\(m≠0->(n+m<=maxLen/\(n+m)*bytes<=140737488355328)/\K' (env.put d (.row U.length (n+m))) (U++[AObj.row false e sz (n+m) (cs++ys)]))
 |_=>False
@[simp]theorem qCf{m:Nat}:zPH d K' env U e sz bytes m ys .nil=((m<=maxLen/\m*bytes<=140737488355328)/\K' (env.put d (.row U.length m)) (U++[AObj.row false e sz m ys])):=rfl
@[simp]theorem qCe{sz bytes m n:Nat}:zPH d K' env U e sz bytes m ys (.fsl n cs)=(cs.length=n*sz/\(m=0->K' (env.put d (.fsl n cs)) U)/\(m≠0->(n+m<=maxLen/\(n+m)*bytes<=140737488355328)/\K' (env.put d (.row U.length (n+m))) (U++[AObj.row false e sz (n+m) (cs++ys)]))):=rfl
def zWp:Option AObj->Nat->TypeId->Nat->(Bool->List A->Prop)->Prop
 |some (.row fz e' s n' cs),n,e,sz,J=>(n=n'/\e'=e/\s=sz)/\J fz cs
 |_,_,_,_,_=>False
@[simp]theorem zY6{s n' n sz:Nat}{J:Bool->List A->Prop}:zWp (some (.row fz e' s n' cs)) n e sz J=((n=n'/\e'=e/\s=sz)/\J fz cs):=rfl
@[simp]theorem qCg{sz bytes m l n:Nat}:zPH d K' env U e sz bytes m ys (.row l n)=zWp U[l]? n e sz fun fz cs=>(n+m<=maxLen/\(n+m)*bytes<=140737488355328)/\K' (env.put d (.row l (n+m))) (U.set l (.row fz e sz (n+m) (cs++ys))):=by
 simp only[zPH];cases U[l]? with
 |none=>rfl
 |some o =>
  cases o<;>try rfl
  rename_i fz e' s n' cs;by_cases h:n=n'/\e'=e/\s=sz
  .simp[h]
  .simp[h]
@[simp]theorem qID:wpO P Qp K' (.app d e sz bytes x y) env U = elP U sz (ev env y) fun m ys=>zPH d K' env U e sz bytes m ys (ev env x):=by
 simp only[wpO,elP];cases eN U sz (ev env y)with
 |none=>rfl
 |some r =>
  obtain⟨m,ys⟩:=r;simp only;generalize ev env x=a;cases a<;>rfl
def zPW(P:Program)(Qp:Value->wJ)(K':wJ)(d:wC)(f:A)(args:wE)(env:Env) (U:St):Prop:=match f with
 | .clo g first cap=>zC P g=true/\aH P g (first++args++cap) U (outK d env K' Qp)
 | .lit (.func (.yield b) ⟨[]⟩ ⟨[]⟩)=>gZ P b args U (outK d env K' Qp)
 |_=>False
@[simp]theorem qDB{b:Nat}{args:wE}:zPW P Qp K' d (yv b) args env U = gZ P b args U (outK d env K' Qp):=rfl
variable{g:FuncId}
@[simp]theorem zZ5{first cap args:wE}:zPW P Qp K' d (.clo g first cap) args env U = (zC P g=true/\aH P g (first++args++cap) U (outK d env K' Qp)):=rfl
@[simp]theorem qGw{args:List Operand}:wpO P Qp K' (.call d x args) env U = zPW P Qp K' d (ev env x) (args.map (ev env)) env U:=rfl
@[simp]theorem zZz:bZ []=[]:=rfl
@[simp]theorem zZy:bZ (.box cs::U)=.box cs::bZ U:=rfl
@[simp]theorem zZ0{sz n:Nat}:bZ (.row fz e sz n cs::U)=.dead::bZ U:=rfl
@[simp]theorem qCz{fr:Bool}{nk:Nat}{es:List (wB×A)}:bZ (.mp fr nk es::U)=.dead::bZ U:=rfl
@[simp]theorem zZ1:bZ (.rsv::U)=.dead::bZ U:=rfl
@[simp]theorem qCx{m n:Nat}{met:wA}:bZ (.it m n met::U)=.dead::bZ U:=rfl
@[simp]theorem qCy{b M:Nat}{r:Loop}{es:List (Nat×A)}:bZ (.lp b r M es::U)=.dead::bZ U:=rfl
variable{τ:St}
theorem zAv{U:St}:bZ (U++τ)=bZ U++bZ τ:=by
 induction U with
 |nil=>rfl
 |cons o U ih=>cases o<;>simp[bZ,ih]
@[simp]theorem zSJ{U:St}:(bZ U).length = U.length:=by
 induction U with
 |nil=>rfl
 |cons o U ih=>cases o<;>simp[bZ,ih]
@[simp]theorem qA6{U:St}:nK 0 U = U:=rfl
@[simp]theorem qFJ{U:St}:nK 1 U = bZ U:=rfl
@[simp]theorem qFL{U:St}:nK 2 U = []:=rfl
variable{fl k:Nat}
@[simp]theorem qFy:zEq Q v U = ∀e,Q (.pan v) e U:=rfl
@[simp]theorem qI7:wpD P Qd K' [] env U = K' env U:=by simp only[wpD]
@[simp]theorem qLr{o:KOp}:dI 0 o env=True:=rfl
@[simp]theorem qLs{o:KOp}:dI 1 o env=True:=rfl
@[simp]theorem qLt{o:KOp}:dI 2 o env=True:=rfl
@[simp]theorem qLu{o:KOp}:dI 3 o env=True:=rfl
@[simp]theorem qLv{o:KOp}:dI 4 o env=True:=rfl
@[simp]theorem qLw{n:Nat}:dI 5 (.st d x y n) env=zJf (ev env x):=rfl
@[simp]theorem qLx{n:Nat}:dI 6 (.st d x y n) env=zJg (ev env x):=rfl
@[simp]theorem qIn{n:Nat}:dI 6 (.idx d x y n) env=isRow (ev env x):=rfl
@[simp]theorem zZR:zJf (.ptr l o)=True:=rfl
@[simp]theorem zZT{l n o:Nat}:zJg (.rwp l n o)=True:=rfl
@[simp]theorem zZS{l n:Nat}:isRow (.row l n)=True:=rfl
@[simp]theorem qFK{U:St}:nK 6 U = U:=rfl
@[simp]theorem qGk{o:KOp}{l:List (Nat×Nat×KG)}:wpD P Qd K' ((k,fl,⟨none,o⟩)::l) env U = (dI fl o env/\jU P Qd fl (wpD P Qd K' l) o env U):=rfl
@[simp]theorem qAW{o:KOp}{l:List (Nat×Nat×KG)}:wpD P Qd K' ((k,fl,⟨some (s,want),o⟩)::l) env U = (dI fl o env/\zBJ (env s) want (jU P Qd fl (wpD P Qd K' l) o) (zEI o.dst (wpD P Qd K' l)) env U):=by
 simp only[wpD,zS1,zBJ];generalize env s=a;cases a<;>try rfl
 all_goals (rename_i v;cases v<;>rfl)
@[simp]theorem zZe:jU P Qd fl K' (.pick d x y z) env U = wpO P cO K' (.pick d x y z) env U:=by simp[jU,KOp.lite,KOp.keeps]
@[simp]theorem zZa{e sz n:Nat}:jU P Qd fl K' (.brow d e sz n zs ps) env U = wpO P cO K' (.brow d e sz n zs ps) env U:=by simp[jU,KOp.lite,KOp.keeps]
@[simp]theorem qBl{m:MOp}:jU P Qd fl K' (.mop d m xs) env U = (match zR0 m (xs.map (ev env)) U with
 |some (r,U')=>K' (env.put d r) U'
 |none=>False):=rfl
@[simp]theorem qBi:jU P Qd fl K' (.isp d ng x) env U = wpO P cO K' (.isp d ng x) env U:=by simp[jU,KOp.lite,KOp.keeps]
@[simp]theorem qBk{t:TypeId}:jU P Qd fl K' (.mki d t x) env U = wpO P cO K' (.mki d t x) env U:=by simp[jU,KOp.lite,KOp.keeps]
@[simp]theorem qBm:jU P Qd fl K' (.mov d x) env U = wpO P cO K' (.mov d x) env U:=by simp[jU,KOp.lite,KOp.keeps]
@[simp]theorem zUu{len sz:Nat}:jU P Qd fl K' (.idxarr d x y len sz) env U = wpO P cO K' (.idxarr d x y len sz) env U:=by simp[jU,KOp.lite,KOp.keeps]
@[simp]theorem qAZ:jU P Qd fl K' (.bin d op x y) env U = wpO P cO K' (.bin d op x y) env U:=by simp[jU,KOp.lite,KOp.keeps]
@[simp]theorem qBd{k:SK}:jU P Qd fl K' (.eqv d ng k x y) env U = wpO P cO K' (.eqv d ng k x y) env U:=by simp[jU,KOp.lite,KOp.keeps]
@[simp]theorem qBc{ks:List SK}:jU P Qd fl K' (.eqs d ng ks x y) env U = wpO P cO K' (.eqs d ng ks x y) env U:=by simp[jU,KOp.lite,KOp.keeps]
@[simp]theorem qBn:jU P Qd fl K' (.neg d x) env U = wpO P cO K' (.neg d x) env U:=by simp[jU,KOp.lite,KOp.keeps]
@[simp]theorem qBo:jU P Qd fl K' (.not d x) env U = wpO P cO K' (.not d x) env U:=by simp[jU,KOp.lite,KOp.keeps]
@[simp]theorem qGn:jU P Qd fl K' (.mm d mx xs) env U = wpO P cO K' (.mm d mx xs) env U:=by simp[jU,KOp.lite,KOp.keeps]
@[simp]theorem zZc:jU P Qd fl K' (.len d true x) env U = wpO P cO K' (.len d true x) env U:=by simp[jU,KOp.lite,KOp.keeps]
@[simp]theorem qBe:jU P Qd fl K' (.ext d x i) env U = wpO P cO K' (.ext d x i) env U:=by simp[jU,KOp.lite,KOp.keeps]
@[simp]theorem qBb{a b:List Operand}:jU P Qd fl K' (.clo d f a b) env U = wpO P cO K' (.clo d f a b) env U:=by simp[jU,KOp.lite,KOp.keeps]
@[simp]theorem qBp{lo hi mx:Option Operand}:jU P Qd fl K' (.slc d x sz lo hi mx) env U = wpO P cO K' (.slc d x sz lo hi mx) env U:=by simp[jU,KOp.lite,KOp.keeps]
@[simp]theorem zWw:jU P Qd fl K' (.build d zs ps) env U = wpO P cO K' (.build d zs ps) env U:=by simp[jU,KOp.lite,KOp.keeps]
@[simp]theorem zUt{sz n:Nat}:jU P Qd fl K' (.bslice d e sz n zs ps) env U = wpO P cO K' (.bslice d e sz n zs ps) env U:=by simp[jU,KOp.lite,KOp.keeps]
@[simp]theorem zWv:jU P Qd fl K' (.alloc d zs) env U = wpO P cO K' (.alloc d zs) env U:=by simp[jU,KOp.lite,KOp.keeps]
@[simp]theorem qBa:jU P Qd fl K' (.box d x) env U = wpO P cO K' (.box d x) env U:=by simp[jU,KOp.lite,KOp.keeps]
@[simp]theorem qGo{n:Nat}:jU P Qd fl K' (.st d x y n) env U = wpO P cO K' (.st d x y n) env U:=by simp[jU,KOp.lite,KOp.keeps]
@[simp]theorem qAY:jU P Qd fl K' (.app d e sz bytes x y) env U = wpO P cO K' (.app d e sz bytes x y) env U:=by simp[jU,KOp.lite,KOp.keeps]
@[simp]theorem qBf{off n:Nat}:jU P Qd fl K' (.fld d x off n agg) env U = wpO P cO K' (.fld d x off n agg) env U:=by simp[jU,KOp.lite,KOp.keeps]
@[simp]theorem qGl{len sz:Nat}:jU P Qd fl K' (.ix d x y len sz agg) env U = wpO P cO K' (.ix d x y len sz agg) env U:=by simp[jU,KOp.lite,KOp.keeps]
@[simp]theorem qBh:jU P Qd fl K' (.isn d ng x) env U = wpO P cO K' (.isn d ng x) env U:=by simp[jU,KOp.lite,KOp.keeps]
@[simp]theorem qGm{n:Nat}:jU P Qd fl K' (.ld d x n agg) env U = mH ((ldA (nK fl U) n (ev env x)).bind (fW agg)) fun r=>K' (env.put d r) U:=pL
@[simp]theorem zYZ:jU P Qd fl K' (.addr d x off) env U = mH (zCj (nK fl U) off (ev env x)) fun r=>K' (env.put d r) U:=by show jJ (zR env (nK fl U) (.addr d x off)) _=_;rw[zDg,pL];rfl
@[simp]theorem qBg:jU P Qd fl K' (.idx d x y sz) env U = uC (nK fl U) sz (ev env x) (ev env y) fun r=>K' (env.put d r) U:=zGb (d:=d)
def zFp(U:St)(a:A)(J:A->Prop):Prop:=match a with
 | .nil=>J (.lit (.int .i64 0))
 | .sl n _=>J (.lit (.int .i64 n))
 | .fsl n _=>J (.lit (.int .i64 n))
 | .row l n=>match U[l]? with
  |some (.row _ _ _ m _)=>if n=m then J (.lit (.int .i64 n))else False
  |_=>False
 | .win l n _ k _=>match U[l]? with
  |some (.row _ _ _ m _)=>if n=m then J (.lit (.int .i64 k))else False
  |_=>False
 |_=>False
@[simp]theorem qEA:zFp U .nil J=J (.lit (.int .i64 0)):=rfl
@[simp]theorem qHL{n:Nat}:zFp U (.sl n cs) J=J (.lit (.int .i64 n)):=rfl
@[simp]theorem qE9{n:Nat}:zFp U (.fsl n cs) J=J (.lit (.int .i64 n)):=rfl
def zLj(o:Option AObj)(n:Nat)(J:A->Prop):Prop:=match o with
 |some (.row _ _ _ m _)=>if n=m then J (.lit (.int .i64 n))else False
 |_=>False
@[simp]theorem zVQ{s m n:Nat}:zLj (some (.row fz e s m cs)) n J=if n=m then J (.lit (.int .i64 n))else False:=rfl
@[simp]theorem qEB{l n:Nat}:zFp U (.row l n) J=zLj U[l]? n J:=by simp only[zFp,zLj]
theorem zO1:jJ (zR env τ (.len d false x)) J=zFp τ (ev env x) J:=by
 simp only[zFp,zR];generalize ev env x=a;cases a<;>simp only[jJ,true_and]
 .rename_i l n;cases τ[l]? with
  |none=>rfl
  |some ob =>
   cases ob<;>try rfl
   rename_i fz e s m cs;by_cases h:n=m<;>simp[h]
 .rename_i l n _ k _;cases τ[l]? with
  |none=>rfl
  |some ob =>
   cases ob<;>try rfl
   rename_i fz e s m cs;by_cases h:n=m<;>simp[h]
@[simp]theorem qBj:jU P Qd fl K' (.len d false x) env U = zFp (nK fl U) (ev env x) fun r=>K' (env.put d r) U:=by show jJ (zR env (nK fl U) (.len d false x)) _=_;exact zO1
def tG(P:Program)(Qd:Value->St->Prop)(fl:Nat) (U:St)(d:wC)(K':wJ)(f:A)(args:wE)(env:Env):Prop:=zUs P Qd fl U d K' f args env
@[simp]theorem zZb{args:List Operand}:jU P Qd fl K' (.call d x args) env U = tG P Qd fl U d K' (ev env x) (args.map (ev env)) env:=rfl
@[simp]theorem qHw{first cap args:wE}:tG P Qd 0 U d K' (.clo g first cap) args env=(zC P g=true/\sO P U d (fun e=>K' e U) g (first++args++cap) env):=rfl
@[simp]theorem qHx{first cap args:wE}:tG P Qd 1 U d K' (.clo g first cap) args env=(zC P g=true/\zBm P U d (fun e=>K' e U) g (first++args++cap) env):=rfl
@[simp]theorem qHy{first cap args:wE}:tG P Qd 3 U d K' (.clo g first cap) args env=(zC P g=true/\zBn P U d K' g (first++args++cap) env):=rfl
@[simp]theorem qH0{first cap args:wE}:tG P Qd 7 U d K' (.clo g first cap) args env=(zC P g=true/\zEV P U d K' g (first++args++cap) env):=rfl
@[simp]theorem qH1{first cap args:wE}:tG P Qd 8 U d K' (.clo g first cap) args env=(zC P g=true/\zKb P U d K' g (first++args++cap) env):=rfl
@[simp]theorem qD8{first cap args:wE}:tG P Qd 10 U d K' (.clo g first cap) args env=(zC P g=true/\zBo P Qd U d K' g (first++args++cap) env):=rfl
@[simp]theorem qD9{first cap args:wE}:tG P Qd 11 U d K' (.clo g first cap) args env=(zC P g=true/\zEX P U d K' g (first++args++cap) env):=rfl
@[simp]theorem qH2{n:Nat}{first cap args:wE}(h1:11<n):tG P Qd n U d K' (.clo g first cap) args env=(zC P g=true/\(if 1000<=n/\n<2000 then zEW P (n-1000) U d K' g (first++args++cap) env else if 3000<=n/\n<4000 then zEU P (n-3000) U d K' g (first++args++cap) env else zBp P U d K' g (first++args++cap) env)):=by obtain⟨m,rfl⟩:∃m,n=m+12:=⟨n-12,by omega⟩;rfl
@[simp]theorem qHz{first cap args:wE}:tG P Qd 4 U d K' (.clo g first cap) args env=(zC P g=true/\zBp P U d K' g (first++args++cap) env):=rfl
@[simp]theorem qDA{b:Nat}{args:wE}:tG P Qd 4 U d K' (yv b) args env = ∃r U',(gZ P b args U fun o τ=>o=.ret r/\τ = U')/\K' (env.put d r) U':=by show (4=4/\_)=_;simp
theorem qY{t:Bool}{A B:wJ}(h1:t=true->A env U)(h2:t=false->B env U):sQ t A B env U:=⟨h1,h2⟩
theorem zTB{S:Type}{W:(Ex->wJ)->wJ}(E:S->List (Nat×A))(T:S->St)(I:S->Prop) (μ:S->Nat)(s0:S)(h0:I s0)(start:bQ n0 (qK (E s0)) (T s0) env U)
 (round:∀s,I s->W (rnd n0 (fun n e t=>∃s,I s/\μ s=n/\e=qK (E s)/\t=T s) (μ s) Q) (qK (E s)) (T s)):zHQ n0 W Q env U:=by
 refine⟨fun n e t=>∃s,I s/\μ s=n/\e=qK (E s)/\t=T s,⟨μ s0,_,_,start,s0,h0,rfl,rfl,rfl⟩,?_⟩;rintro n e t ⟨s,hs,rfl,rfl,rfl⟩;exact round s hs
theorem zY2{S:Type}{E:S->List (Nat×A)}{T:S->St}{I:S->Prop} {μ:S->Nat}{n:Nat}(s:S)(hs:I s)(hm : μ s<n)(hw:bQ n0 (qK (E s)) (T s) env U) :
 rnd n0 (fun n e t=>∃s,I s/\μ s=n/\e=qK (E s)/\t=T s) n Q .norm env U:=⟨μ s,hm,_,_,hw,s,hs,rfl,rfl,rfl⟩
theorem zB6{l:List (Nat×A)} {U':St}(he : U = U'++τ)(hn:n0<=U'.length)(hl:∀p∈l,env p.1=p.2)(hb:∀p∈l,p.2.bnd U'.length=true)(ho:∀o∈U',o.bnd U'.length=true) :
 bQ n0 (qK l) U' env U:=by
 subst he;exact bQ.cut l hn hl hb ho
@[simp]theorem zYd{l:List (Nat×A)}:qK ((i,a)::l) t=if t=i then a else qK l t:=rfl
@[simp]theorem zZX:qK [] t=.any:=rfl
end
end Go.Abs
namespace Go.Abs
def zNE(o k c:Nat):A->A
 | .sl _ cs=>if k=0 then .sl 0 []else .sl k ((cs.drop o).take (k*c))
 |_=>.any
mutual
def vw(rf:Bool->Nat->Nat->A)(g:Nat->wC):A->A
 | .ptr l o=>match g l with
  |some i=>.ptr i o
  |none=>rf true l o
 | .row l n=>match g l with
  |some i=>.row i n
  |none=>rf false l n
 | .rwp l n o=>match g l with
  |some i=>.rwp i n o
  |none=>.any
 | .map l=>match g l with
  |some i=>.map i
  |none=>.any
 | .win l n o k c=>match g l with
  |some i=>.win i n o k c
  |none=>zNE o k c (rf false l n)
 | .agg cs=>.agg (vwL rf g cs)
 | .tup cs=>.tup (vwL rf g cs)
 | .sl n cs=>.sl n (vwL rf g cs)
 | .fsl n cs=>.fsl n (vwL rf g cs)
 | .rptr cs=>.rptr (vwL rf g cs)
 | .clo f a b=>.clo f (vwL rf g a) (vwL rf g b)
 | .any=>.any
 | .nil=>.nil
 | .lit v=>.lit v
def vwL(rf:Bool->Nat->Nat->A)(g:Nat->wC):List A->wE
 |[]=>[]
 |c::cs=>vw rf g c::vwL rf g cs
end
def seen(U:St)(g:Nat->wC):Nat->Bool->Nat->Nat->A
 | 0,_,_,_=>.any
 |k+1,false,l,n=>match U[l]? with
  |some (.row _ _ _ m cs)=>if n=m then .sl n (vwL (seen U g k) g cs)else .any
  |_=>.any
 |k+1,true,l,o=>match U[l]? with
  |some (.box cs)=>.rptr ((vwL (seen U g k) g cs).drop o)
  |_=>.any
def vwO(rf:Bool->Nat->Nat->A)(g:Nat->wC):AObj->AObj
 | .dead=>.dead
 | .box cs=>.box (vwL rf g cs)
 | .row fz e sz n cs=>.row fz e sz n (vwL rf g cs)
 | .lp b r M es=>.lp b r M (es.map fun p=>(p.1,vw rf g p.2))
 | .mp fr nk es=>.mp fr nk (es.map fun p=>(p.1,vw rf g p.2))
 | .it m n met=>match g m with
  |some i=>.it i n met
  |none=>.dead
 | .rsv=>.rsv
def vR:AObj->AObj
 | .dead=>.dead
 | .box cs=>.box (jH cs)
 | .row fz e sz n cs=>.row fz e sz n (jH cs)
 | .lp b r M es=>.lp b r M (es.map fun p=>(p.1,nrm0 p.2))
 | .mp fr nk es=>.mp fr nk (es.map fun p=>(p.1,nrm0 p.2))
 | .it m n met=>.it m n met
 | .rsv=>.rsv
def qH:List Nat->Nat->wC
 |[],_=>none
 |k::ks,l=>if l=k then some 0 else (qH ks l).map (· + 1)
theorem zBX:∀{ks:wA} {l i:Nat},qH ks l=some i->ks[i]?=some l
 |[],l,i,h=>by simp[qH]at h
 |k::ks,l,i,h=>by
  simp only[qH]at h;split at h
  .cases h;rename_i h;simp[h]
  .simp only[jAf]at h;obtain⟨j,hj,rfl⟩:=h
   simpa using zBX hj
theorem zEs:∀{ks:wA} {l:Nat},qH ks l=none->l∉ks
 |[],l,_=>by simp
 |k::ks,l,h=>by
  simp only[qH]at h;split at h
  .cases h
  .rename_i hne;simp only[Option.map_eq_none_iff]at h;simp[hne,zEs h]
section
variable{P:Program}{H H':Mem}{L L':wL} {U:St}{w:World}
theorem zBQ:∀{ks:wA} {i j x:Nat},ks.Nodup->ks[i]?=some x->ks[j]?=some x->i=j
 |[],i,j,x,_,h,_=>by simp at h
 |k::ks,i,j,x,hd,h1,h2=>by
  rw[jD3]at hd;cases i with
  |zero =>
   cases j with
   |zero=>rfl
   |succ j =>
    simp only[jB,jBo,jA2]at h1 h2;subst h1;exact(hd.1 (jC2 h2)).elim
  |succ i =>
   cases j with
   |zero =>
    simp only[jB,jBo,jA2]at h1 h2;subst h2;exact(hd.1 (jC2 h1)).elim
   |succ j =>
    simp only[jBo]at h1 h2;rw[zBQ hd.2 h1 h2]
mutual
theorem Rel.vw{rf:Bool->Nat->Nat->A}{g:Nat->wC}(hh:HLe H H')(hg:∀l i,g l=some i->L'[i]?=L[l]?)(hr:∀l n v,g l=none->Rel H L (.row l n) v->Rel H' L' (rf false l n) v)(hp:∀l n v,g l=none->Rel H L (.ptr l n) v->Rel H' L' (rf true l n) v) :
 ∀(a:A) {v:Value},Rel H L a v->Rel H' L' (vw rf g a) v
 | .ptr l o,v,h=>by
  simp only[Abs.vw];split
  .rename_i i hi;simp only[Rel]at h⊢;rw[hg l i hi];exact h
  .rename_i hi;exact hp l o v hi h
 | .row l n,v,h=>by
  simp only[Abs.vw];split
  .rename_i i hi;simp only[Rel]at h⊢;rw[hg l i hi];exact h
  .rename_i hi;exact hr l n v hi h
 | .rwp l n o,v,h=>by
  simp only[Abs.vw];split
  .rename_i i hi;simp only[Rel]at h⊢;rw[hg l i hi];exact h
  .simp[Rel]
 | .map l,v,h=>by
  simp only[Abs.vw];split
  .rename_i i hi;simp only[Rel]at h⊢;rw[hg l i hi];exact h
  .simp[Rel]
 | .win l n o k c,v,h=>by
  simp only[Abs.vw];split
  .rename_i i hi;simp only[Rel]at h⊢;rw[hg l i hi];exact h
  .rename_i hi;simp only[Rel]at h;obtain⟨h0,li,e,h1,h2,h3⟩:=h;by_cases hn:n=li.len
   .obtain⟨g0,ad,cap,rfl,g1,g2,g3⟩:=h3 hn;have h4:=hr l n (match li.block with|none=>.slice none 0 0|some b=>.slice (some ⟨b,0,none⟩) n li.cap) hi (by
     simp only[Rel];exact⟨by split<;>rfl,li,e,h1,h2,fun _=>rfl⟩)
    generalize rf false l n=x at h4;cases x<;>simp only[zNE]<;>try(simp only[Rel];done)
    rename_i n' cs;split
    .rename_i hk;subst hk;simp only[Rel];exact⟨ad,cap,rfl,jB3 _,g2,.inl (by simp)⟩
    .rename_i hk;replace g3:=zNu g1 g3;rcases g3 with g3|⟨b,g3,rfl⟩
     .exact(hk g3).elim
     .simp only[g3,Rel]at h4 ⊢;obtain⟨a',cap',k1,k2,k3,k4⟩:=h4;simp only[Value.slice.injEq]at k1;obtain⟨rfl,rfl,rfl⟩:=k1;refine⟨_,cap,rfl,g1,g2,?_⟩;rcases k4 with ⟨rfl,rfl⟩|⟨b',o',us,k5,k6,k7,k8⟩
      .omega
      .cases k5;refine .inr ⟨b,o,_,rfl,(k6.drop o).take (k*c),cX k7,?_⟩;have:=(k8.drop o).take (k*c)
       rwa[jAz]at this
   .have h4:=hr l n (.bool true) hi (by
     simp only[Rel];exact⟨rfl,li,e,h1,h2,fun e=>(hn e).elim⟩)
    generalize rf false l n=x at h4;cases x<;>simp only[zNE]<;>try(simp only[Rel];done)
    simp only[Rel]at h4;obtain⟨_,_,h4,_⟩:=h4;cases h4
 | .agg cs,v,h=>by simp only[Rel,Abs.vw]at h⊢;obtain⟨vs,rfl,h1,h2⟩:=h;exact⟨vs,rfl,z8.vw hh hg hr hp cs h1,h2⟩
 | .tup cs,v,h=>by simp only[Rel,Abs.vw]at h⊢;obtain⟨vs,rfl,h1⟩:=h;exact⟨vs,rfl,z8.vw hh hg hr hp cs h1⟩
 | .sl n cs,v,h=>by
  simp only[Rel,Abs.vw]at h⊢;obtain⟨a,cap,rfl,h1,h2,h3⟩:=h;refine⟨a,cap,rfl,h1,h2,?_⟩;rcases h3 with ⟨h3,rfl⟩|⟨b,o,us,rfl,h4,h5,h6⟩
  .exact .inl ⟨h3,by simp[vwL]⟩
  .exact .inr ⟨b,o,us,rfl,z8.vw hh hg hr hp cs h4,h5,h6.mono hh⟩
 | .fsl n cs,v,h=>by
  simp only[Rel,Abs.vw]at h⊢;obtain⟨a,rfl,h1,h3⟩:=h;refine⟨a,rfl,h1,?_⟩;rcases h3 with ⟨h3,rfl⟩|⟨b,o,us,rfl,h4,h5,h6⟩
  .exact .inl ⟨h3,by simp[vwL]⟩
  .exact .inr ⟨b,o,us,rfl,z8.vw hh hg hr hp cs h4,h5,h6.mono hh⟩
 | .rptr cs,v,h=>by simp only[Rel,Abs.vw]at h⊢;obtain⟨b,o,us,rfl,h4,h5,h6⟩:=h;exact⟨b,o,us,rfl,z8.vw hh hg hr hp cs h4,h5,h6.mono hh⟩
 | .clo f first cap,v,h=>by simp only[Rel,Abs.vw]at h⊢;obtain⟨fs,cs,rfl,h1,h2⟩:=h;exact⟨fs,cs,rfl,z8.vw hh hg hr hp first h1,z8.vw hh hg hr hp cap h2⟩
 | .any,_,_=>by simp[Rel,Abs.vw]
 | .nil,_,h=>by simpa[Rel,Abs.vw]using h
 | .lit _,_,h=>by simpa[Rel,Abs.vw]using h
theorem z8.vw{rf:Bool->Nat->Nat->A}{g:Nat->wC}(hh:HLe H H')(hg:∀l i,g l=some i->L'[i]?=L[l]?)(hr:∀l n v,g l=none->Rel H L (.row l n) v->Rel H' L' (rf false l n) v)(hp:∀l n v,g l=none->Rel H L (.ptr l n) v->Rel H' L' (rf true l n) v) :
 ∀(cs:wE) {vs:wK},z8 H L cs vs->z8 H' L' (vwL rf g cs) vs
 |[],vs,h=>by simpa[z8,vwL]using h
 |c::cs,vs,h=>by simp only[z8,vwL]at h⊢;obtain⟨u,us,rfl,h1,h2⟩:=h;exact⟨u,us,rfl,Rel.vw hh hg hr hp c h1,z8.vw hh hg hr hp cs h2⟩
end
def AObj.held:AObj->Nat
 | .row _ _ sz n _=>n*sz
 | .box cs=>cs.length
 |_=>0
def zHg(g:Nat->wC)(L:wL) (U:St)(b o:Nat):Prop :=
 ∃(i:Nat) (li:LI) (ob:AObj),g i=none/\L[i]?=some li/\U[i]?=some ob/\li.block=some b/\o<ob.held
open Classical in
noncomputable def zDO(g:Nat->wC) (H:Mem) (L:wL) (U:St) (w:World):Mem:=⟨fun b o=>match H b o with
 |some v=>some v
 |none=>if zHg g L U b o then w.cell? ⟨b,o,none⟩ else none,fun b o v h=>by simp only[H.2 b o v h]⟩
open Classical in
theorem r4(g:Nat->wC)(H:Mem)(L:wL) (U:St)(w:World)(b o:Nat):zDO g H L U w b o=match H b o with
 |some v=>some v
 |none=>if zHg g L U b o then w.cell? ⟨b,o,none⟩ else none:=rfl
variable{g:Nat->wC}
theorem r5:HLe H (zDO g H L U w):=fun b o v h=>by rw[r4,h]
theorem zIU{b o:Nat}{v:Value}(h:zDO g H L U w b o=some v):H b o=some v\/(zHg g L U b o/\w.cell? ⟨b,o,none⟩=some v):=by
 rw[r4]at h;split at h
 .rename_i u hu;cases h;exact .inl hu
 .split at h
  .rename_i hr;exact .inr ⟨hr,h⟩
  .cases h
theorem zIV(hs:RelSt H L U w){b o:Nat}{v:Value}(hx:zHg g L U b o)(hc:w.cell? ⟨b,o,none⟩=some v):zDO g H L U w b o=some v:=by
 rw[r4];split
 .rename_i x hx;have:=hs.pers b o x hx;rw[hc]at this;exact this.symm
 .rw[if_pos hx];exact hc
theorem Rel.seen{g:Nat->wC}(hs:RelSt H L U w)(hg:∀l i,g l=some i->L'[i]?=L[l]?) :
 ∀(k:Nat),(∀(l n:Nat) (v:Value),g l=none->Rel H L (.row l n) v->Rel (zDO g H L U w) L' (seen U g k false l n) v)/\∀(l n:Nat) (v:Value),g l=none->Rel H L (.ptr l n) v->Rel (zDO g H L U w) L' (seen U g k true l n) v
 | 0=>⟨fun l n v _ _=>by simp[Abs.seen,Rel],fun l n v _ _=>by simp[Abs.seen,Rel]⟩
 |k+1=>by
  obtain⟨ih1,ih2⟩:=Rel.seen hs hg k;refine⟨fun l n v hl h=>?_,fun l n v hl h=>?_⟩
  .simp only[Abs.seen];split
   .rename_i fz e sz m cs hU;split
    .rename_i hn;subst hn;simp only[Rel]at h⊢;obtain⟨_,li,e1,e2,e3,hv⟩:=h;have hob:=hs.obj l li _ e1 hU;simp only[zV]at hob;obtain⟨_,g1,g2,hob⟩:=hob;have hv:=hv g1.symm;rcases hob with ⟨hb,h0⟩|⟨b,cur,hb,k1,k2,k3,k4,k5,k6,k7⟩
     .rw[hb]at hv;subst h0;have hcs:cs=[]:=jC5 (by simpa using g2);exact⟨none,0,hv,jA _,jB3 _,.inl ⟨rfl,by simp[hcs,vwL]⟩⟩
     .rw[hb]at hv;refine⟨_,_,hv,k2,k3,.inr ⟨b,0,_,rfl,z8.vw r5 hg ih1 ih2 cs k5,k6,fun j u hu=>?_⟩⟩;have hj:j<n*sz:=by
       rw[jBg]at hu;split at hu
       .assumption
       .cases hu
      have hc:w.cell? ⟨b,j,none⟩=some u:=by
       rw[cell_of_row w b j cur e (0,0) k1];rw[jBg,if_pos hj]at hu
       simpa using hu
      simp only[jAz];exact zIV hs ⟨l,li,_,hl,e1,hU,hb,hj⟩ hc
    .simp[Rel]
   .simp[Rel]
  .simp only[Abs.seen];split
   .rename_i cs hU;simp only[Rel]at h⊢;obtain⟨li,b,e1,e2,e3,hv⟩:=h;have hob:=hs.obj l li _ e1 hU;simp only[zV]at hob;obtain⟨_,b',vs,e,hb',hh,hr,h1,_⟩:=hob;rw[e2]at hb';cases hb';refine⟨b,n,vs.drop n,hv,(z8.vw r5 hg ih1 ih2 cs hr).drop n,fun u hu=>h1 u (jC7 hu),fun j u hu=>?_⟩;rw[jDi]at hu;have hlt:n+j<cs.length:=by rw[<-hr.length];exact(jA4.1 hu).1
    refine zIV hs ⟨l,li,_,hl,e1,hU,e2,hlt⟩ ?_;rw[cell_of_row w b _ _ e (0,0) hh]
    simpa using hu
   .simp[Rel]
def yX(U:St)(rf:Bool->Nat->Nat->A)(g:Nat->wC):List Nat->St->Prop
 |[],[]=>True
 |j::js,o'::os=>(match U[j]? with
  |some o=>o'=vwO rf g o\/o'=vR (vwO rf g o)
  |none=>False)/\yX U rf g js os
 |_,_=>False
theorem pW{rf:Bool->Nat->Nat->A}{g:Nat->wC}:∀{ks:wA} {U':St},yX U rf g ks U'->U'.length=ks.length
 |[],[],_=>rfl
 |_::_,_::_,h=>by simp[pW h.2]
theorem pV{rf:Bool->Nat->Nat->A}{g:Nat->wC}:∀{ks:wA} {U':St},yX U rf g ks U'->∀{i j:Nat} {o':AObj},ks[i]?=some j->U'[i]?=some o'->∃o,U[j]?=some o/\(o'=vwO rf g o\/o'=vR (vwO rf g o))
 |[],[],_,i,j,o',h,_=>by simp at h
 |k::ks,p::U',h,i,j,o',h1,h2=>by
  cases i with
  |zero =>
   simp only[jB,jA2]at h1 h2;subst h1;subst h2;have:=h.1;split at this
   .rename_i o ho;exact⟨o,ho,this⟩
   .exact this.elim
  |succ i =>
   simp only[jBo]at h1 h2;exact pV h.2 h1 h2
theorem zV.nrm{li:LI}{o:AObj}(h:zV H L w li o):zV H L w li (vR o):=by
 cases o with
 |dead=>trivial
 |box cs =>
  simp only[zV,vR]at h⊢;obtain⟨h0,b,vs,e,h1,h2,h3,h4,h5⟩:=h;exact⟨h0,b,vs,e,h1,h2,z8.nrm0 _ h3,h4,h5⟩
 |row fz e sz n cs =>
  simp only[zV,vR]at h⊢;obtain⟨h0,h1,h2,h3⟩:=h;have hl:∀cs:wE,(jH cs).length=cs.length:=fun cs=>by induction cs with
   |nil=>rfl
   |cons c cs ih=>simp[jH,ih]
  refine⟨h0,h1,by rw[hl];exact h2,?_⟩;rcases h3 with h3|⟨b,cur,g1,g2,g3,g4,g5,g6,g7,g8⟩
  .exact .inl h3
  .exact .inr ⟨b,cur,g1,g2,g3,g4,g5,z8.nrm0 _ g6,g7,g8⟩
 |lp b r M es =>
  simp only[zV,vR]at h⊢;obtain⟨h0,h1,tmps,h2,h3,h4⟩:=h;exact⟨h0,h1,tmps,h2,h3,h4.map _ fun a v ha=>Rel.nrm0 a ha⟩
 |mp fr nk es =>
  simp only[zV,vR]at h⊢;obtain⟨h0,b,ents,ck,h1,h2,h3,h4⟩:=h;exact⟨h0,b,ents,ck,h1,h2,aV.map _ (fun p _ v hv=>Rel.nrm0 _ hv) h3,h4.1,zDU h4.2⟩
 |it m n met=>exact h
 |rsv=>exact h
theorem zAo{rf:Bool->Nat->Nat->A}{g:Nat->wC}:∀{cs:wE},(vwL rf g cs).length=cs.length
 |[]=>rfl
 |c::cs=>by simp[vwL,zAo]
theorem zNa{H0:Mem}{L0:wL}{w0:World}(ks:wA)(fuel:Nat) {U':St}(hk:∀i,i<L0.length->ks[i]?=some i)(hd:ks.Nodup)
 (ho:yX U (Abs.seen U (qH ks) fuel) (qH ks) ks U')(h:Nxt H0 L0 w0 H L U w) :
 ∃H' L',Nxt H0 L0 w0 H' L' U' w/\HLe H H'/\∀a v,Rel H L a v->Rel H' L' (Abs.vw (Abs.seen U (qH ks) fuel) (qH ks) a) v:=by
 have hs:=h.st;let g:=qH ks;let L':wL:=ks.map fun k=>L.getD k ⟨none,0,0,false⟩
 have hin:∀(i j:Nat),ks[i]?=some j->∃li,L[j]?=some li/\L'[i]?=some li:=by
  intro i j hij;have hi:i < U'.length:=by rw[pW ho];exact(jA4.1 hij).1
  obtain⟨o,hU,_⟩:=pV ho hij (jA0 hi);have hj:j<L.length:=by rw[hs.len];exact(jA4.1 hU).1
  refine⟨L[j],jA0 hj,?_⟩;simp[L',hij,hj]
 have hback:∀{i:Nat} {li:LI},L'[i]?=some li->∃j,ks[i]?=some j/\L[j]?=some li:=by
  intro i li hi;have hi':i<ks.length:=by simpa[L']using (jA4.1 hi).1
  obtain⟨li',h1,h2⟩:=hin i ks[i] (jA0 hi');rw[hi]at h2;cases h2;exact⟨_,jA0 hi',h1⟩
 have hg:∀l i,g l=some i->L'[i]?=L[l]?:=by intro l i hl;obtain⟨li,h1,h2⟩:=hin i l (zBX hl);rw[h1,h2]
 have hrel:∀a v,Rel H L a v->Rel (zDO g H L U w) L' (Abs.vw (Abs.seen U g fuel) g a) v:=fun a v ha=>Rel.vw r5 hg (Rel.seen hs hg fuel).1 (Rel.seen hs hg fuel).2 a ha
 have hrelL:∀cs vs,z8 H L cs vs->z8 (zDO g H L U w) L' (vwL (Abs.seen U g fuel) g cs) vs:=fun a v ha=>z8.vw r5 hg (Rel.seen hs hg fuel).1 (Rel.seen hs hg fuel).2 a ha
 have hkeep:∀(j:Nat) (li:LI) (b:Nat),j∈ks->L[j]?=some li->li.block=some b->∀o,zDO g H L U w b o=H b o:=by
  intro j li b hj hL hb o;rw[r4];cases hH:H b o with
  |some v=>rfl
  |none =>
   simp only;rw[if_neg];rintro⟨i,li',ob,g1,g2,g3,g4,g5⟩;have:=hs.inj i j li' li b g2 hL g4 hb;subst this;exact zEs g1 hj
 refine⟨zDO g H L U w,L',⟨⟨fun b o v hv=>(zIU hv).elim (hs.pers b o v) fun h=>h.2,by simp[L',pW ho],fun i li o hL hU=>?_,fun i j x y b hi hj hx hy=>?_,fun i li b hi hb=>?_⟩,
  ⟨h.step.os,h.step.tape,h.step.output,h.step.size,h.step.keep,h.step.hle.trans r5,fun b o v hv=>?_,h.step.drawn,h.step.dfr⟩,fun i x hx=>?_,fun b ⟨i,x,hi,hx⟩=>?_⟩,r5,hrel⟩
 .obtain⟨j,hj,hLj⟩:=hback hL;obtain⟨o0,hU0,heq⟩:=pV ho hj hU;have hob:=hs.obj j li o0 hLj hU0;have hjm:j∈ks:=jC2 hj;have key:zV (zDO g H L U w) L' w li (vwO (Abs.seen U g fuel) g o0):=by
   cases o0 with
   |dead=>trivial
   |box cs =>
    simp only[zV,vwO]at hob ⊢;obtain⟨h0,b,vs,e,h1,h2,h3,h4,h5⟩:=hob;exact⟨h0,b,vs,e,h1,h2,hrelL _ _ h3,h4,fun o=>by rw[hkeep j li b hjm hLj h1];exact h5 o⟩
   |row fz e sz n cs =>
    simp only[zV,vwO]at hob ⊢;obtain⟨h0,h1,h2,h3⟩:=hob;refine⟨h0,h1,by rw[zAo];exact h2,?_⟩;rcases h3 with h3|⟨b,cur,g1,g2,g3,g4,g5,g6,g7,g8⟩
    .exact .inl h3
    .refine .inr ⟨b,cur,g1,g2,g3,g4,g5,hrelL _ _ g6,g7,?_⟩;cases fz with
     |false=>exact fun o=>by rw[hkeep j li b hjm hLj g1];exact g8 o
     |true=>exact⟨g8.1.mono r5,fun o ho=>by rw[hkeep j li b hjm hLj g1];exact g8.2 o ho⟩
   |lp b r M es =>
    simp only[zV,vwO]at hob ⊢;obtain⟨h0,h1,tmps,h2,h3,h4⟩:=hob;exact⟨h0,h1,tmps,h2,h3,h4.map _ hrel⟩
   |mp fr nk es =>
    simp only[zV,vwO]at hob ⊢;obtain⟨h0,b,ents,ck,h1,h2,h3,h4⟩:=hob;exact⟨h0,b,ents,ck,h1,h2,aV.map _ (fun p _ v hv=>hrel _ _ hv) h3,h4.1,zDU h4.2⟩
   |it m n met =>
    simp only[vwO];split
    .rename_i i0 hi0;simp only[zV]at hob ⊢;obtain⟨h0,b,mb,lm,h1,h2,h3,h4,h5⟩:=hob;have hp:Rel H L (.ptr m 0) (.pointer (some ⟨mb,0,none⟩)):=by simp only[Rel];exact⟨lm,mb,h2,h3,h4,rfl⟩
     have hp:=hrel _ _ hp;simp only[Abs.vw,hi0,Rel]at hp;obtain⟨lm',mb',k2,k3,k4,k5⟩:=hp;cases k5;exact⟨h0,b,mb,lm',h1,k2,k3,k4,h5⟩
    .trivial
   |rsv=>exact hob
  rcases heq with rfl|rfl
  .exact key
  .exact key.nrm
 .obtain⟨i',hi',hLi⟩:=hback hi;obtain⟨j',hj',hLj⟩:=hback hj;have:=hs.inj i' j' x y b hLi hLj hx hy;subst this;have hi1:=(jA4.1 hi').1;have hj1:=(jA4.1 hj').1;exact zBQ hd hi' hj'
 .obtain⟨j,_,hLj⟩:=hback hi;exact hs.lt j li b hLj hb
 .rcases zIU hv with h1|⟨⟨i,li,_,_,hL,_,hb,_⟩,_⟩
  .exact h.step.hnew b o v h1
  .exact .inr (h.own b ⟨i,li,hL,hb⟩)
 .obtain⟨x',hx',hr⟩:=h.lle i x hx;have hi:i<L0.length:=(jA4.1 hx).1;obtain⟨li,h1,h2⟩:=hin i i (hk i hi);rw[hx']at h1;cases h1;exact⟨_,h2,hr⟩
 .obtain⟨j,_,hLj⟩:=hback hi;exact h.own b ⟨j,x,hLj,hx⟩
theorem bQ.sel{n0:Nat}{env:Env}(ks:wA)(fuel:Nat)(l:List (Nat×A)) {U':St}(hk:∀i,i<n0->ks[i]?=some i)(hd:ks.Nodup)(ho:yX U (Abs.seen U (qH ks) fuel) (qH ks) ks U')
 (hl:∀p∈l,p.2=Abs.vw (Abs.seen U (qH ks) fuel) (qH ks) (env p.1)\/p.2=nrm0 (Abs.vw (Abs.seen U (qH ks) fuel) (qH ks) (env p.1))):bQ n0 (qK l) U' env U:=by
 intro H0 L0 w0 H L w N tmps h0 h1 h2;subst h0;obtain⟨H',L',g1,_,g3⟩:=zNa ks fuel hk hd ho h1;refine⟨H',L',g1,h2.1,fun t=>?_⟩;rcases mR l t with h|h
 .rw[h];simp[Rel]
 .have:=g3 _ _ (h2.2 t);rcases hl _ h with e|e
  .simp only at e;rw[e];exact this
  .simp only at e;rw[e];exact Rel.nrm0 _ this
end
end Go.Abs
