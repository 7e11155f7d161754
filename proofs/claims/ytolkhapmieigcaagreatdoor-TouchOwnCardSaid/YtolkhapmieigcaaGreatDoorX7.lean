/- The rules by which a walk over abstract states goes on, for simp. -/
import Derived.Test.YtolkhapmieigcaaGreatDoorX6
set_option linter.unusedVariables false
set_option maxHeartbeats 8000000
set_option maxRecDepth 100000
set_option linter.unusedSimpArgs false
namespace Go.Abs
def qNU(o:Option A)(d:wD)(K:wK)(env:Env) (U:St):Prop:=match o with
 |some r=>K (env.put d r) U
 |none=>False
def qNT(o:Option A)(d:wD)(K:Env->Prop)(env:Env):Prop:=match o with
 |some r=>K (env.put d r)
 |none=>False
def zQn(o:Option wF)(J:List A->Prop):Prop:=match o with
 |some r=>J r
 |none=>False
def zZG(o:Option St)(J:St->Prop):Prop:=match o with
 |some r=>J r
 |none=>False
section
variable{P:Program}{n0:Nat}{Qp:Value->wK}{Qd:Value->St->Prop}{K':wK}{KD:Env->Prop}{Q:Ex->wK}{env:Env} {U:St}{d d':wD}{x y z:Operand}
variable{r:A}
@[simp]theorem qBC:qNU (some r) d K' env U = K' (env.put d r) U:=rfl
@[simp]theorem qBA:qNT (some r) d KD env=KD (env.put d r):=rfl
@[simp]theorem qB9{r:wF}{J:List A->Prop}:zQn (some r) J=J r:=rfl
@[simp]theorem qBD{r:St}{J:St->Prop}:zZG (some r) J=J r:=rfl
@[simp]theorem qHk:env.put none r=env:=rfl
variable{i t:Nat}
@[simp]theorem qJR:(env.put (some i) r) t=if t=i then r else env t:=rfl
@[simp]theorem qNJ:ev env (.tmp t)=env t:=rfl
variable{f:FuncId}
@[simp]theorem qJ0:ev env (.func f)=.clo f [] []:=rfl
@[simp]theorem qNH{k:IntKind}{n:Int}:ev env (.const (.int k n))=.lit (.int k n):=rfl
variable{b:Bool}
@[simp]theorem qJz:ev env (.const (.bool b))=.lit (.bool b):=rfl
@[simp]theorem qBc{s:ByteArray}:ev env (.const (.string s))=.lit (.string s):=rfl
@[simp]theorem qNI:ev env (.const (.slice none 0 0))=.nil:=rfl
@[simp]theorem zZa:ev env (.const .nilFunc)=.lit .nilFunc:=rfl
@[simp]theorem qBb:ev env (.const (.pointer none))=.lit (.pointer none):=rfl
@[simp]theorem qNG{l:wM}:ev env (.const (.agg ⟨l⟩))=if aY l then .agg (l.map jP)else .any:=rfl
@[simp]theorem zX1:aY []=true:=rfl
variable{v:Value}
@[simp]theorem zV6{l:wM}:aY (v::l)=(v.oneCell'&&aY l):=rfl
@[simp]theorem qJP{k:IntKind}{n:Int}:(Value.int k n).oneCell'=true:=rfl
@[simp]theorem qGS:(Value.bool b).oneCell'=true:=rfl
@[simp]theorem zZD{s:ByteArray}:(Value.string s).oneCell'=true:=rfl
@[simp]theorem qB8{a:Option Addr}{n c:Nat}:(Value.slice a n c).oneCell'=true:=rfl
@[simp]theorem zX3{a:Option Addr}:(Value.pointer a).oneCell'=true:=rfl
@[simp]theorem zX2:(Value.nilFunc).oneCell'=true:=rfl
@[simp]theorem qJQ{r:wD}:(Value.map r).oneCell'=true:=rfl
@[simp]theorem zZ9{k:IntKind}{n:Int}:jP (.int k n)=.lit (.int k n):=rfl
@[simp]theorem zX0:jP (.bool b)=.lit (.bool b):=rfl
@[simp]theorem zTV{s:ByteArray}:jP (.string s)=.lit (.string s):=rfl
@[simp]theorem zZA:jP (.slice none 0 0)=.nil:=rfl
@[simp]theorem zTa:jP .nilFunc=.lit .nilFunc:=rfl
@[simp]theorem zTU:jP (.pointer none)=.lit (.pointer none):=rfl
@[simp]theorem zTT:jP (.map none)=.lit (.map none):=rfl
@[simp]theorem zWJ:cellsOf .nil=some [.nil]:=rfl
variable{cs:wF}
@[simp]theorem zWE:cellsOf (.agg cs)=some cs:=rfl
@[simp]theorem zWH:cellsOf (.lit v)=if v.oneCell' then some [.lit v]else none:=rfl
@[simp]theorem zYG{n:Nat}:cellsOf (.sl n cs)=some [.sl n cs]:=rfl
@[simp]theorem zWG{n:Nat}:cellsOf (.fsl n cs)=some [.fsl n cs]:=rfl
@[simp]theorem zWL{l n:Nat}:cellsOf (.row l n)=some [.row l n]:=rfl
@[simp]theorem zWK{l n:Nat}:cellsOf (.ptr l n)=some [.ptr l n]:=rfl
variable{l:Nat}
@[simp]theorem zWI:cellsOf (.map l)=some [.map l]:=rfl
@[simp]theorem zWO{l n o k c:Nat}:cellsOf (.win l n o k c)=some [.win l n o k c]:=rfl
@[simp]theorem zWM{l n o:Nat}:cellsOf (.rwp l n o)=some [.rwp l n o]:=rfl
@[simp]theorem zUq:cellsOf (.rptr cs)=some [.rptr cs]:=rfl
@[simp]theorem zWF{a b:wF}:cellsOf (.clo f a b)=some [.clo f a b]:=rfl
@[simp]theorem zZH:gO true cs=some (.agg cs):=rfl
@[simp]theorem zX5{c:A}:gO false [c]=some c:=rfl
@[simp]theorem qGj{n:Nat}:ldA U n (.rptr cs)=sub cs 0 n:=rfl
def zXh:Option AObj->Nat->Nat->Option wF
 |some (.box cs),off,n=>sub cs off n
 |_,_,_=>none
def zXi:Option AObj->Nat->Nat->Nat->Option wF
 |some (.row _ _ _ k cs),m,off,n=>if m=k then sub cs off n else none
 |_,_,_,_=>none
@[simp]theorem zZs{off n:Nat}:zXh (some (.box cs)) off n=sub cs off n:=rfl
variable{fz:Bool}{e:TypeId}
@[simp]theorem zZt{s k:Nat}{m off n:Nat}:zXi (some (.row fz e s k cs)) m off n=if m=k then sub cs off n else none:=rfl
@[simp]theorem qJA{l off n:Nat}:ldA U n (.ptr l off)=zXh U[l]? off n:=by
 simp only[ldA];cases U[l]? with
 |none=>rfl
 |some o=>cases o<;>rfl
@[simp]theorem qJB{l m off n:Nat}:ldA U n (.rwp l m off)=zXi U[l]? m off n:=by
 simp only[ldA];cases U[l]? with
 |none=>rfl
 |some o=>cases o<;>rfl
@[simp]theorem qOa{off n:Nat}:sub cs off n=if off+n<=cs.length then some ((cs.drop off).take n)else none:=rfl
def zXE:Option AObj->St->List A->Nat->Nat->Option St
 |some (.box ds),U,cs,l,off=>if off+cs.length<=ds.length then some (U.set l (.box (ds.take off++cs++ds.drop (off+cs.length))))else none
 |_,_,_,_,_=>none
def zXF:Option AObj->St->List A->Nat->Nat->Nat->Option St
 |some (.row false e sz k ds),U,cs,l,m,off=>if m=k/\off+cs.length<=ds.length then some (U.set l (.row false e sz k (ds.take off++cs++ds.drop (off+cs.length))))else none
 |_,_,_,_,_,_=>none
variable{off:Nat}
@[simp]theorem qAd{ds:wF}:zXE (some (.box ds)) U cs l off=if off+cs.length<=ds.length then some (U.set l (.box (ds.take off++cs++ds.drop (off+cs.length))))else none:=rfl
@[simp]theorem qAe{sz k:Nat}{ds:wF}{m:Nat}:zXF (some (.row false e sz k ds)) U cs l m off=if m=k/\off+cs.length<=ds.length then some (U.set l (.row false e sz k (ds.take off++cs++ds.drop (off+cs.length))))else none:=rfl
@[simp]theorem qKf:stA U cs (.ptr l off)=zXE U[l]? U cs l off:=by
 simp only[stA];cases U[l]? with
 |none=>rfl
 |some o=>cases o<;>rfl
@[simp]theorem qKg{m:Nat}:stA U cs (.rwp l m off)=zXF U[l]? U cs l m off:=by
 simp only[stA];cases U[l]? with
 |none=>rfl
 |some o =>
  cases o<;>try rfl
  rename_i fz e s n ds;cases fz<;>rfl
def zXB:Option AObj->Nat->Nat->(List A->Prop)->Prop
 |some (.row _ _ s m cs),n,sz,J=>n=m/\s=sz/\J cs
 |_,_,_,_=>False
@[simp]theorem zNr{s m n sz:Nat}{J:List A->Prop}:zXB (some (.row fz e s m cs)) n sz J=(n=m/\s=sz/\J cs):=rfl
@[simp]theorem qAB:(b==true)=b:=by cases b<;>rfl
@[simp]theorem zYS{A B:wK}:uJ true A B env U = A env U:=by simp[uJ]
@[simp]theorem zWU{A B:wK}:uJ false A B env U = B env U:=by simp[uJ]
@[simp]theorem qH1:zGx d K' env U = K' (env.put d (.lit undef)) U:=rfl
@[simp]theorem qGW:outK d env K' Qp (.ret r) U = K' (env.put d r) U:=rfl
@[simp]theorem qGV:outK d env K' Qp (.pan v) U = Qp v env U:=rfl
@[simp]theorem qHB{J:wK}:thn J Q .norm=J:=rfl
@[simp]theorem qKj{J:wK}:thn J Q .ret=Q .ret:=rfl
@[simp]theorem qHA{J:wK}:thn J Q (.exit i)=Q (.exit i):=rfl
@[simp]theorem qKi{J:wK}:thn J Q (.pan v)=Q (.pan v):=rfl
@[simp]theorem qDW{id:Nat}:blk id Q .norm=Q .norm:=rfl
@[simp]theorem qIg{id:Nat}:blk id Q .ret=Q .ret:=rfl
@[simp]theorem qDV{id i:Nat}:blk id Q (.exit i)=if i=id then Q .norm else Q (.exit i):=rfl
@[simp]theorem qIf{id:Nat}:blk id Q (.pan v)=Q (.pan v):=rfl
variable{I:Nat->wK}
@[simp]theorem qJZ{n:Nat}:rnd n0 I n Q .ret=Q .ret:=rfl
@[simp]theorem qHr{n i:Nat}:rnd n0 I n Q (.exit i)=Q (.exit i):=rfl
@[simp]theorem qJY{n:Nat}:rnd n0 I n Q (.pan v)=Q (.pan v):=rfl
variable{rs:List RS}
@[simp]theorem qF9{R:Out->St->Prop}:fin rs R .norm=zGo rs R:=rfl
@[simp]theorem qJ2{R:Out->St->Prop}:fin rs R .ret=zGo rs R:=rfl
@[simp]theorem qJ1{R:Out->St->Prop}:fin rs R (.pan v) env U = R (.pan v) U:=rfl
@[simp]theorem qBK{R:Out->St->Prop}:zGo [.slot t] R env U = R (.ret (env t)) U:=rfl
@[simp]theorem qHq{u:Nat}{R:Out->St->Prop}:zGo [.slot t,.slot u] R env U = R (.ret (.tup [env t,env u])) U:=rfl
@[simp]theorem zZP{u v:Nat}{R:Out->St->Prop}:zGo [.slot t,.slot u,.slot v] R env U = R (.ret (.tup [env t,env u,env v])) U:=rfl
variable{a:A}
@[simp]theorem zUg{l:wF}:mB (a::l) 0=a:=rfl
@[simp]theorem zUf{l:wF}{n:Nat}:mB (a::l) (n+1)=mB l n:=by simp[mB]
@[simp]theorem zW5{n:Nat}:mB [] n=.lit undef:=by simp[mB]
@[simp]theorem qOu{k:K}{args:wF}{R:Out->St->Prop}:wpF P k rs args U R=wpK P U.length k (fin rs R) (mB args) U:=rfl
@[simp]theorem qHX:wpK P n0 .skip Q env U = Q .norm env U:=rfl
@[simp]theorem qK4:wpK P n0 .ret Q env U = Q .ret env U:=rfl
@[simp]theorem qHV:wpK P n0 (.exit i) Q env U = Q (.exit i) env U:=rfl
@[simp]theorem qK6{a b:K}:wpK P n0 (.seq a b) Q env U = wpK P n0 a (thn (wpK P n0 b Q) Q) env U:=rfl
@[simp]theorem qCB{a:K}:wpK P n0 (.block i a) Q env U = wpK P n0 a (blk i Q) env U:=rfl
@[simp]theorem qHW{a:K}:wpK P n0 (.loop a) Q env U = zJD n0 (wpK P n0 a) Q env U:=rfl
@[simp]theorem qOv{a:K}:wpK P n0 (.wk a) Q env U = Wk n0 (wpK P n0 a Q) env U:=rfl
@[simp]theorem qK3{l:List KG}:wpK P n0 (.ops l) Q env U = lI P (fun v=>Q (.pan v)) (Q .norm) l env U:=rfl
@[simp]theorem qHU{l:List (Nat×Nat×KG)}:wpK P n0 (.dops l) Q env U = wpD P (zGb Q) (Q .norm) l env U:=rfl
@[simp]theorem qK5{ps:wA}{a b:K}:wpK P n0 (.rng x ps a b) Q env U = zXW P n0 x ps (fun n=>wpK P n a) (fun n=>wpK P n b) Q env U:=rfl
@[simp]theorem qA8{S:St}{J:wK}:zUh S J .norm env U = (U = S/\J env U):=rfl
@[simp]theorem qAZ{S:St}:zU5 n0 S .norm env U = Wk n0 (fun _ U'=>U'=S) env U:=rfl
@[simp]theorem qBF{xs:wF}:v8 env [] xs=env:=by cases xs<;>rfl
@[simp]theorem zZL{p:Nat}{ps:wA}{xs:wF}:v8 env (p::ps) (a::xs)=v8 (env.put (some p) a) ps xs:=rfl
@[simp]theorem zYH{b:Nat}:cellsOf (yv b)=some [yv b]:=rfl
def zWV(a:A)(A B:wK)(env:Env) (U:St):Prop:=match a with
 | .lit (.bool t)=>uJ t A B env U
 |_=>False
@[simp]theorem zYT{t:Bool}{A B:wK}:zWV (.lit (.bool t)) A B env U = uJ t A B env U:=rfl
@[simp]theorem qHT{a b:K}:wpK P n0 (.cond x a b) Q env U = zWV (ev env x) (wpK P n0 a Q) (wpK P n0 b Q) env U:=rfl
@[simp]theorem qCE:lI P Qp K' [] env U = K' env U:=rfl
@[simp]theorem qA2{o:KOp}{l:List KG}:lI P Qp K' (⟨none,o⟩::l) env U = wpO P Qp (lI P Qp K' l) o env U:=rfl
def zDa(a:A)(want:Bool)(A B:wK)(env:Env) (U:St):Prop:=match a with
 | .lit (.bool b)=>uJ (b==want) A B env U
 | .lit (.tuple _)=>B env U
 |_=>False
variable{want:Bool}
@[simp]theorem zXa{A B:wK}:zDa (.lit (.bool b)) want A B env U = uJ (b==want) A B env U:=rfl
@[simp]theorem zUQ{A B:wK}:zDa (.lit undef) want A B env U = B env U:=rfl
variable{s:Nat}
@[simp]theorem zXK{o:KOp}{l:List KG}:lI P Qp K' (⟨some (s,want),o⟩::l) env U = zDa (env s) want (wpO P Qp (lI P Qp K' l) o) (zGx o.dst (lI P Qp K' l)) env U:=by
 simp only[lI,wpG,zDa];generalize env s=a;cases a<;>try rfl
 all_goals (rename_i v;cases v<;>rfl)
def zO5(a:A)(x y:A)(J:A->Prop):Prop:=match a with
 | .lit (.bool t)=>J (if t then x else y)
 |_=>False
variable{J:A->Prop}
@[simp]theorem zZI{t:Bool}{b:A}:zO5 (.lit (.bool t)) a b J=J (if t then a else b):=rfl
def nO(o:Option A)(J:A->Prop):Prop:=match o with
 |some r=>J r
 |none=>False
@[simp]theorem qBB:nO (some r) J=J r:=rfl
theorem r9{o:Option A}:jQ (o.map fun r=>(True,r)) J=nO o J:=by cases o<;>simp[jQ,nO]
@[simp]theorem qKN:wpO P Qp K' (.mov d x) env U = K' (env.put d (ev env x)) U:=by simp[wpO,jQ,zW,KOp.dst]
theorem zQo:jQ (zW env U (.pick d x y z)) J=zO5 (ev env x) (ev env y) (ev env z) J:=by
 simp only[zW,zO5,jQ];generalize ev env x=a;cases a<;>try rfl
 rename_i v;cases v<;>simp
@[simp]theorem qId:wpO P Qp K' (.pick d x y z) env U = zO5 (ev env x) (ev env y) (ev env z) fun r=>K' (env.put d r) U:=zQo (d:=d)
variable{zs:wM}
@[simp]theorem qCC:wpO P Qp K' (.alloc d zs) env U = K' (env.put d (.ptr U.length 0)) (U++[.box (zs.map jP)]):=rfl
@[simp]theorem qKB:wpO P Qp K' (.box d x) env U = zQn (cellsOf (ev env x)) fun cs=>K' (env.put d (.ptr U.length 0)) (U++[.box cs]):=rfl
variable{agg:Bool}
@[simp]theorem qOw{n:Nat}:wpO P Qp K' (.ld d x n agg) env U = nO ((ldA U n (ev env x)).bind (gO agg)) fun r=>K' (env.put d r) U:=r9
@[simp]theorem qOy{n:Nat}:wpO P Qp K' (.st d x y n) env U = zQn (cellsOf (ev env y)) fun cs=>cs.length=n/\zZG (stA U cs (ev env x)) fun U'=>K' (env.put d (.lit undef)) U':=by
 simp only[wpO,zQn,zZG];cases cellsOf (ev env y)with
 |none=>rfl
 |some cs =>
  simp only;by_cases h:cs.length=n
  .simp only[h,if_true,true_and];cases stA U cs (ev env x)<;>rfl
  .simp[h]
def zD9(U:St)(off:Nat):A->Option A
 | .ptr l o=>some (.ptr l (o+off))
 | .rptr cs=>some (.rptr (cs.drop off))
 | .rwp l n o=>match U[l]? with
  |some (.row _ _ _ m _)=>if n=m then some (.rwp l n (o+off))else none
  |_=>none
 |_=>none
variable{o:Nat}
@[simp]theorem qA3:zD9 U off (.ptr l o)=some (.ptr l (o+off)):=rfl
@[simp]theorem zXY:zD9 U off (.rptr cs)=some (.rptr (cs.drop off)):=rfl
theorem zEO:zW env U (.addr d x off)=(zD9 U off (ev env x)).map fun r=>(True,r):=by
 simp only[zW];generalize ev env x=a;cases a<;>simp only[zD9]<;>try rfl
 rename_i l n o;cases U[l]? with
 |none=>rfl
 |some ob =>
  cases ob<;>try rfl
  simp only;split<;>rfl
@[simp]theorem qHY:wpO P Qp K' (.addr d x off) env U = nO (zD9 U off (ev env x)) fun r=>K' (env.put d r) U:=by show jQ (zW env U (.addr d x off)) _=_;rw[zEO,r9];rfl
def vR(U:St)(sz:Nat)(a i:A)(J:A->Prop):Prop:=match a,i with
 | .sl n cs,.lit (.int _ j)=>((0<=j/\j<n)/\j.toNat*sz<cs.length)/\J (.rptr (cs.drop (j.toNat*sz)))
 | .fsl n cs,.lit (.int _ j)=>((0<=j/\j<n)/\j.toNat*sz<cs.length)/\J (.rptr (cs.drop (j.toNat*sz)))
 | .row l n,.lit (.int _ j)=>match U[l]? with
  |some (.row _ _ s m _)=>if n=m/\s=sz then (0<=j/\j<n)/\J (.rwp l n (j.toNat*sz))else False
  |_=>False
 | .win l n o k' _,.lit (.int _ j)=>match U[l]? with
  |some (.row _ _ s m _)=>if n=m/\s=sz then (0<=j/\j<k')/\J (.rwp l n (o+j.toNat*sz))else False
  |_=>False
 |_,_=>False
variable{sz:Nat}
theorem zHI:jQ (zW env U (.idx d x y sz)) J=vR U sz (ev env x) (ev env y) J:=by
 simp only[zW,vR,jQ];generalize ev env x=a;generalize ev env y=b;cases a<;>cases b<;>try rfl
 all_goals (rename_i v;cases v<;>try rfl)
 .rename_i l n k j;simp only;cases U[l]? with
  |none=>rfl
  |some ob =>
   cases ob<;>try rfl
   rename_i fz e s m cs;by_cases h:n=m/\s=sz<;>simp[h]
 .rename_i l n o k' c k j;simp only;cases U[l]? with
  |none=>rfl
  |some ob =>
   cases ob<;>try rfl
   rename_i fz e s m cs;by_cases h:n=m/\s=sz<;>simp[h]
@[simp]theorem qKG:wpO P Qp K' (.idx d x y sz) env U = vR U sz (ev env x) (ev env y) fun r=>K' (env.put d r) U:=zHI (d:=d)
variable{j:Int}
@[simp]theorem qJ6{sz n:Nat}{k:IntKind}:vR U sz (.sl n cs) (.lit (.int k j)) J=(((0<=j/\j<n)/\j.toNat*sz<cs.length)/\J (.rptr (cs.drop (j.toNat*sz)))):=rfl
@[simp]theorem qFQ{sz n:Nat}{k:IntKind}:vR U sz (.fsl n cs) (.lit (.int k j)) J=(((0<=j/\j<n)/\j.toNat*sz<cs.length)/\J (.rptr (cs.drop (j.toNat*sz)))):=rfl
def zBW(len sz:Nat)(a i:A)(J:A->Prop):Prop:=match a,i with
 | .ptr l o,.lit (.int _ j)=>(0<=j/\j<len)/\J (.ptr l (o+j.toNat*sz))
 | .rptr cs,.lit (.int _ j)=>((0<=j/\j<len)/\j.toNat*sz<cs.length)/\J (.rptr (cs.drop (j.toNat*sz)))
 |_,_=>False
@[simp]theorem zUW{len sz:Nat}{k:IntKind}:zBW len sz (.rptr cs) (.lit (.int k j)) J=(((0<=j/\j<len)/\j.toNat*sz<cs.length)/\J (.rptr (cs.drop (j.toNat*sz)))):=rfl
@[simp]theorem zXe{len sz l o:Nat}{k:IntKind}:zBW len sz (.ptr l o) (.lit (.int k j)) J=((0<=j/\j<len)/\J (.ptr l (o+j.toNat*sz))):=rfl
theorem zIT{len sz:Nat}:jQ (zW env U (.idxarr d x y len sz)) J=zBW len sz (ev env x) (ev env y) J:=by
 simp only[zW,zBW,jQ];generalize ev env x=a;generalize ev env y=b;cases a<;>first
  |rfl
  |(cases b<;>first
   |rfl
   |(rename_i v;cases v<;>rfl))
@[simp]theorem qA1{len sz:Nat}:wpO P Qp K' (.idxarr d x y len sz) env U = zBW len sz (ev env x) (ev env y) fun r=>K' (env.put d r) U:=zIT (d:=d)
def o7(op:BinOp)(a b:A)(J:A->Prop):Prop:=match a,b with
 | .lit (.int k m),.lit (.int k' n)=>if k=k' then (match rU op k m n with|some (p,r)=>p/\J r|none=>False)else False
 | .lit (.string s),.lit (.string t)=>(match zT7 op s t with|some (p,r)=>p/\J r|none=>False)
 |_,_=>False
variable{op:BinOp}
theorem zPa:jQ (zW env U (.bin d op x y)) J=o7 op (ev env x) (ev env y) J:=by
 simp only[zW,o7,jQ];generalize ev env x=a;generalize ev env y=b;cases a<;>try rfl
 rename_i u;cases b<;>try(cases u<;>rfl)
 rename_i v;cases u<;>cases v<;>try rfl
 case lit.lit.int.int k m k' n =>
  by_cases h:k=k'
  .simp only[h,if_true];cases rU op k' m n<;>rfl
  .simp[h]
@[simp]theorem qKA:wpO P Qp K' (.bin d op x y) env U = o7 op (ev env x) (ev env y) fun r=>K' (env.put d r) U:=zPa (d:=d)
@[simp]theorem qDT{s t:ByteArray}:o7 .add (.lit (.string s)) (.lit (.string t)) J=(s.size+t.size<=1000000/\J (.lit (.string (s++t)))):=rfl
@[simp]theorem qDL{k:IntKind}{m n:Int}:o7 .add (.lit (.int k m)) (.lit (.int k n)) J=J (.lit (.int k (k.wrap (m+n)))):=by simp[o7,rU]
@[simp]theorem qDU{k:IntKind}{m n:Int}:o7 .sub (.lit (.int k m)) (.lit (.int k n)) J=J (.lit (.int k (k.wrap (m-n)))):=by simp[o7,rU]
@[simp]theorem qDQ{k:IntKind}{m n:Int}:o7 .mul (.lit (.int k m)) (.lit (.int k n)) J=J (.lit (.int k (k.wrap (m*n)))):=by simp[o7,rU]
@[simp]theorem qDR{k:IntKind}{m n:Int}:o7 .quo (.lit (.int k m)) (.lit (.int k n)) J=(n≠0/\J (.lit (.int k (k.wrap (m.tdiv n))))):=by simp[o7,rU]
@[simp]theorem qDS{k:IntKind}{m n:Int}:o7 .rem (.lit (.int k m)) (.lit (.int k n)) J=(n≠0/\J (.lit (.int k (m.tmod n)))):=by simp[o7,rU]
@[simp]theorem qDP{k:IntKind}{m n:Int}:o7 .lss (.lit (.int k m)) (.lit (.int k n)) J=J (.lit (.bool (decide (m<n)))):=by simp[o7,rU]
@[simp]theorem qDO{k:IntKind}{m n:Int}:o7 .leq (.lit (.int k m)) (.lit (.int k n)) J=J (.lit (.bool (decide (m<=n)))):=by simp[o7,rU]
@[simp]theorem qDN{k:IntKind}{m n:Int}:o7 .gtr (.lit (.int k m)) (.lit (.int k n)) J=J (.lit (.bool (decide (n<m)))):=by simp[o7,rU]
@[simp]theorem qDM{k:IntKind}{m n:Int}:o7 .geq (.lit (.int k m)) (.lit (.int k n)) J=J (.lit (.bool (decide (n<=m)))):=by simp[o7,rU]
noncomputable def eqA(k:SK) (ng:Bool) (a b:A):Option A:=(fX k a b).map (dE ng)
noncomputable def zCW(ks:List SK) (ng:Bool) (a b:A):Option A:=match a,b with
 | .agg xs,.agg ys=>(yP ks xs ys).map (dE ng)
 |_,_=>none
variable{ng:Bool}
theorem zSg{k:SK}:jQ (zW env U (.eqv d ng k x y)) J=nO (eqA k ng (ev env x) (ev env y)) J:=by simp only[zW,eqA];cases fX k (ev env x) (ev env y)<;>simp[jQ,nO]
theorem zSf{ks:List SK}:jQ (zW env U (.eqs d ng ks x y)) J=nO (zCW ks ng (ev env x) (ev env y)) J:=by
 simp only[zW,zCW];generalize ev env x=a;generalize ev env y=b;cases a<;>cases b<;>try rfl
 rename_i xs ys;simp only;cases yP ks xs ys<;>simp[jQ,nO]
@[simp]theorem qKE{k:SK}:wpO P Qp K' (.eqv d ng k x y) env U = nO (eqA k ng (ev env x) (ev env y)) fun r=>K' (env.put d r) U:=zSg (d:=d)
@[simp]theorem qKD{ks:List SK}:wpO P Qp K' (.eqs d ng ks x y) env U = nO (zCW ks ng (ev env x) (ev env y)) fun r=>K' (env.put d r) U:=zSf (d:=d)
@[simp]theorem qJw{k:IntKind}{m n:Int}:eqA .i false (.lit (.int k m)) (.lit (.int k n))=some (.lit (.bool (decide (m=n)))):=by simp[eqA,fX,dE]
@[simp]theorem qF3{k:IntKind}{m n:Int}:eqA .i true (.lit (.int k m)) (.lit (.int k n))=some (.lit (.bool (decide (m≠n)))):=by simp[eqA,fX,dE]
@[simp]theorem qF2{m n:Bool}:eqA .b false (.lit (.bool m)) (.lit (.bool n))=some (.lit (.bool (decide (m=n)))):=by simp[eqA,fX,dE]
@[simp]theorem qBa{m n:Bool}:eqA .b true (.lit (.bool m)) (.lit (.bool n))=some (.lit (.bool (decide (m≠n)))):=by simp[eqA,fX,dE]
def zVv(a:A)(J:A->Prop):Prop:=match a with | .lit (.int k m)=>J (.lit (.int k (k.wrap (0-m))))|_=>False
@[simp]theorem qGA{k:IntKind}{m:Int}:zVv (.lit (.int k m)) J=J (.lit (.int k (k.wrap (0-m)))):=rfl
theorem zSS:jQ (zW env U (.neg d x)) J=zVv (ev env x) J:=by
 simp only[zW,zVv];generalize ev env x=a;cases a<;>try rfl
 rename_i v;cases v<;>simp[jQ]
@[simp]theorem qKO:wpO P Qp K' (.neg d x) env U = zVv (ev env x) fun r=>K' (env.put d r) U:=zSS (d:=d)
def zVy(a:A)(J:A->Prop):Prop:=match a with | .lit (.bool b)=>J (.lit (.bool !b))|_=>False
@[simp]theorem qBv:zVy (.lit (.bool b)) J=J (.lit (.bool !b)):=rfl
theorem zSV:jQ (zW env U (.not d x)) J=zVy (ev env x) J:=by
 simp only[zW,zVy];generalize ev env x=a;cases a<;>try rfl
 rename_i v;cases v<;>simp[jQ]
@[simp]theorem qKP:wpO P Qp K' (.not d x) env U = zVy (ev env x) fun r=>K' (env.put d r) U:=zSV (d:=d)
def rY(U:St)(a:A)(J:A->Prop):Prop:=match a with
 | .nil=>J (.lit (.int .i64 0))
 | .sl n _=>n<=maxLen->J (.lit (.int .i64 n))
 | .fsl n _=>n<=maxLen->J (.lit (.int .i64 n))
 | .row l n=>match U[l]? with
  |some (.row _ _ _ m _)=>if n=m then J (.lit (.int .i64 n))else False
  |_=>False
 | .win l n _ k _=>match U[l]? with
  |some (.row _ _ _ m _)=>if n=m then J (.lit (.int .i64 k))else False
  |_=>False
 |_=>False
@[simp]theorem qGp:rY U .nil J=J (.lit (.int .i64 0)):=rfl
@[simp]theorem qJD{n:Nat}:rY U (.sl n cs) J=(n<=maxLen->J (.lit (.int .i64 n))):=rfl
@[simp]theorem qGo{n:Nat}:rY U (.fsl n cs) J=(n<=maxLen->J (.lit (.int .i64 n))):=rfl
@[simp]theorem qKK:wpO P Qp K' (.len d false x) env U = rY U (ev env x) fun r=>K' (env.put d r) U:=by
 simp only[wpO,rY,zW];generalize ev env x=a;cases a<;>simp only[jQ,true_and]
 .rename_i l n;cases U[l]? with
  |none=>rfl
  |some ob =>
   cases ob<;>try rfl
   rename_i fz e s m cs;by_cases h:n=m<;>simp[h]
 .rename_i l n _ k _;cases U[l]? with
  |none=>rfl
  |some ob =>
   cases ob<;>try rfl
   rename_i fz e s m cs;by_cases h:n=m<;>simp[h]
def zOt(a:A)(J:A->Prop):Prop:=match a with | .lit (.string s)=>J (.lit (.int .i64 s.size))|_=>False
@[simp]theorem zVf{s:ByteArray}:zOt (.lit (.string s)) J=J (.lit (.int .i64 s.size)):=rfl
theorem zPW:jQ (zW env U (.len d true x)) J=zOt (ev env x) J:=by
 simp only[zW,zOt];generalize ev env x=a;cases a<;>try rfl
 rename_i v;cases v<;>simp[jQ]
@[simp]theorem qIb:wpO P Qp K' (.len d true x) env U = zOt (ev env x) fun r=>K' (env.put d r) U:=zPW (d:=d)
def mmA(mx:Bool):List A->Option A
 | .lit (.int k a)::rest=>vY mx a rest k
 |_=>none
@[simp]theorem zXk{k:IntKind}{m n:Int}:mmA true [.lit (.int k m),.lit (.int k n)]=some (.lit (.int k (if m<n then n else m))):=by simp[mmA,vY]
@[simp]theorem zXl{k:IntKind}{m n:Int}:mmA false [.lit (.int k m),.lit (.int k n)]=some (.lit (.int k (if n<m then n else m))):=by simp[mmA,vY]
variable{xs:List Operand}
theorem zVs{mx:Bool}:jQ (zW env U (.mm d mx xs)) J=nO (mmA mx (xs.map (ev env))) J:=by
 simp only[zW];generalize xs.map (ev env)=l;cases l with
 |nil=>rfl
 |cons a l =>
  cases a<;>try rfl
  rename_i v;cases v<;>try rfl
  exact r9
@[simp]theorem qOx{mx:Bool}:wpO P Qp K' (.mm d mx xs) env U = nO (mmA mx (xs.map (ev env))) fun r=>K' (env.put d r) U:=zVs (d:=d)
def zUO(i:Nat)(a:A)(J:A->Prop):Prop:=match a with | .tup vs=>(match vs[i]? with|some r=>J r|none=>False)|_=>False
@[simp]theorem qF8{vs:wF}:zUO i (.tup vs) J=nO vs[i]? J:=rfl
theorem zSn:jQ (zW env U (.ext d x i)) J=zUO i (ev env x) J:=by
 simp only[zW,zUO];generalize ev env x=a;cases a<;>try rfl
 rename_i vs;simp only;cases vs[i]?<;>simp[jQ]
@[simp]theorem qKF:wpO P Qp K' (.ext d x i) env U = zUO i (ev env x) fun r=>K' (env.put d r) U:=zSn (d:=d)
@[simp]theorem qKC{a b:List Operand}:wpO P Qp K' (.clo d f a b) env U = K' (env.put d (.clo f (a.map (ev env)) (b.map (ev env)))) U:=by simp[wpO,zW,jQ,KOp.dst]
variable{ps:List (Nat×Nat×Operand)}
theorem zMe:jQ (zW env U (.build d zs ps)) J=nO ((fO (zs.map jP) (ps.map fun(o,s,x)=>(o,s,ev env x))).map .agg) J:=by simp only[zW];cases fO (zs.map jP) (ps.map fun(o,s,x)=>(o,s,ev env x))<;>simp[jQ,nO]
def zML(a:A)(neg:Bool)(J:A->Prop):Prop:=match a with
 | .lit (.pointer none)=>J (.lit (.bool !neg))
 | .rptr _=>J (.lit (.bool neg))
 | .ptr _ _=>J (.lit (.bool neg))
 |_=>False
@[simp]theorem qFY{neg:Bool}:zML (.lit (.pointer none)) neg J=J (.lit (.bool !neg)):=rfl
@[simp]theorem qBm{neg:Bool}:zML (.rptr cs) neg J=J (.lit (.bool neg)):=rfl
@[simp]theorem qFZ{neg:Bool}:zML (.ptr l o) neg J=J (.lit (.bool neg)):=rfl
@[simp]theorem qKI{neg:Bool}:wpO P Qp K' (.isp d neg x) env U = zML (ev env x) neg fun r=>K' (env.put d r) U:=by
 show jQ (zW env U (.isp d neg x)) _=_;simp only[zW];generalize ev env x=a;cases a with
 |lit v=>cases v with
  |pointer ad=>cases ad<;>simp[jQ,zML,KOp.dst]
  |_=>rfl
 |rptr cs=>simp[jQ,zML,KOp.dst]
 |ptr l o=>simp[jQ,zML,KOp.dst]
 |_=>rfl
def qGy(t:TypeId)(a:A):A:=match a with
 | .lit v=>.lit (.iface t v)
 |_=>.any
@[simp]theorem qGz{t:TypeId}:qGy t (.lit v)=.lit (.iface t v):=rfl
@[simp]theorem qKL{t:TypeId}:wpO P Qp K' (.mki d t x) env U = K' (env.put d (qGy t (ev env x))) U:=by simp only[wpO,zW,jQ,KOp.dst,true_and];generalize ev env x=a;cases a<;>rfl
def qGZ(Qp:Value->wK)(env:Env) (U:St)(a:A):Prop:=match a with
 | .lit (.iface t v)=>Qp (.iface t v) env U
 |_=>False
@[simp]theorem qHa{t:TypeId}:qGZ Qp env U (.lit (.iface t v))=Qp (.iface t v) env U:=rfl
@[simp]theorem qKQ:wpO P Qp K' (.pan d x) env U = qGZ Qp env U (ev env x):=rfl
@[simp]theorem qCD:wpO P Qp K' (.build d zs ps) env U = nO ((fO (zs.map jP) (ps.map fun(o,s,x)=>(o,s,ev env x))).map .agg) fun r=>K' (env.put d r) U:=zMe (d:=d)
@[simp]theorem qA0{sz n:Nat}:wpO P Qp K' (.bslice d e sz n zs ps) env U = nO ((fO (zs.map jP) (ps.map fun(o,s,x)=>(o,s,ev env x))).map (.fsl n)) fun r=>K' (env.put d r) U:=by simp only[wpO,nO];cases fO (zs.map jP) (ps.map fun(o,s,x)=>(o,s,ev env x))<;>simp
@[simp]theorem qHZ{sz n:Nat}:wpO P Qp K' (.brow d e sz n zs ps) env U = zQn (fO (zs.map jP) (ps.map fun(o,s,x)=>(o,s,ev env x))) fun cs=>K' (env.put d (.row U.length n)) (U++[.row false e sz n cs]):=by simp only[wpO,zQn];cases fO (zs.map jP) (ps.map fun(o,s,x)=>(o,s,ev env x))<;>simp
def zPS(a:A)(neg:Bool)(J:A->Prop):Prop:=match a with
 | .nil=>J (.lit (.bool !neg))
 | .sl n _=>n≠0/\J (.lit (.bool neg))
 | .fsl n _=>n≠0/\J (.lit (.bool neg))
 |_=>False
@[simp]theorem qFX{neg:Bool}:zPS .nil neg J=J (.lit (.bool !neg)):=rfl
@[simp]theorem qJ7{neg:Bool}{n:Nat}:zPS (.sl n cs) neg J=(n≠0/\J (.lit (.bool neg))):=rfl
@[simp]theorem qFW{neg:Bool}{n:Nat}:zPS (.fsl n cs) neg J=(n≠0/\J (.lit (.bool neg))):=rfl
theorem zS8{neg:Bool}:jQ (zW env U (.isn d neg x)) J=zPS (ev env x) neg J:=by simp only[zW,zPS,jQ];generalize ev env x=a;cases a<;>simp
def zVN(o:Option AObj) (U:St)(l n sz:Nat)(h:Int)(J:A->St->Prop):Prop:=match o with
 |some (.row false e s m cs)=>(n=m/\s=sz/\0<=h/\h<=n/\n≠0)/\J (.row U.length h.toNat) (U.set l .dead++[.row false e sz h.toNat (cs.take (h.toNat*sz))])
 |_=>False
@[simp]theorem qBW{e s m l n sz:Nat}{h:Int}{J:A->St->Prop}:zVN (some (.row false e s m cs)) U l n sz h J=((n=m/\s=sz/\0<=h/\h<=n/\n≠0)/\J (.row U.length h.toNat) (U.set l .dead++[.row false e sz h.toNat (cs.take (h.toNat*sz))])):=rfl
def zZZ(U:St)(sz:Nat)(a b:A)(J:A->St->Prop):Prop:=match a,b with
 | .row l n,.lit (.int _ h)=>zVN U[l]? U l n sz h J
 |_,_=>False
@[simp]theorem qH0{l n sz:Nat}{k:IntKind}{h:Int}{J:A->St->Prop}:zZZ U sz (.row l n) (.lit (.int k h)) J=zVN U[l]? U l n sz h J:=rfl
@[simp]theorem qKR:wpO P Qp K' (.shr d x sz y) env U = zZZ U sz (ev env x) (ev env y) fun r τ=>K' (env.put d r) τ:=by simp only[wpO,zZZ,zVN];generalize ev env x=a;generalize ev env y=b;cases a<;>cases b<;>first|rfl|(rename_i v;cases v<;>rfl)
def zUe(ob:Option AObj) (U:St)(e:TypeId)(sz bytes:Nat)(l n o k c m:Nat)(ys:wF)(J:A->St->Prop):Prop:=match ob with
 |some (.row false e' s n' cs)=>(ys.length=m*sz/\m≠0/\n=n'/\e'=e/\s=sz/\c=sz/\o+k*sz=n*sz/\n+m<=maxLen/\(n+m)*bytes<=140737488355328) /\
  J (.win l (n+m) o (k+m) sz) (U.set l (.row false e sz (n+m) (cs++ys)))/\J (.win U.length (k+m) 0 (k+m) sz) (U++[.row false e sz (k+m) (cs.drop o++ys)])
 |_=>False
variable{e':TypeId}{ys:wF}
@[simp]theorem qA6{n':Nat}{sz bytes l n o k c m:Nat}{J:A->St->Prop}:zUe (some (.row false e' s n' cs)) U e sz bytes l n o k c m ys J=((ys.length=m*sz/\m≠0/\n=n'/\e'=e/\s=sz/\c=sz/\o+k*sz=n*sz/\n+m<=maxLen/\(n+m)*bytes<=140737488355328) /\
 J (.win l (n+m) o (k+m) sz) (U.set l (.row false e sz (n+m) (cs++ys)))/\J (.win U.length (k+m) 0 (k+m) sz) (U++[.row false e sz (k+m) (cs.drop o++ys)])):=rfl
def zYa(U:St)(e:TypeId)(sz bytes:Nat)(el:Option (Nat×wF))(a:A)(J:A->St->Prop):Prop:=match el,a with
 |some (m,ys),.win l n o k c=>zUe U[l]? U e sz bytes l n o k c m ys J
 |_,_=>False
@[simp]theorem qDJ{sz bytes l n o k c m:Nat}{J:A->St->Prop}:zYa U e sz bytes (some (m,ys)) (.win l n o k c) J=zUe U[l]? U e sz bytes l n o k c m ys J:=rfl
variable{bytes:Nat}
@[simp]theorem qK9:wpO P Qp K' (.apq d e sz bytes x y) env U = zYa U e sz bytes (fJ U sz (ev env y)) (ev env x) fun r τ=>K' (env.put d r) τ:=by simp only[wpO,zYa,zUe];generalize fJ U sz (ev env y)=el;generalize ev env x=a;cases el<;>cases a<;>rfl
def zVa(U:St)(a:A)(neg:Bool)(J:A->Prop):Prop:=match a with
 | .nil=>J (.lit (.bool !neg))
 | .sl n _=>J (.lit (.bool neg))/\(n=0->J (.lit (.bool !neg)))
 | .row l n=>(match U[l]? with
  |some (.row _ _ _ m _)=>n=m/\J (.lit (.bool neg))/\(n=0->J (.lit (.bool !neg)))
  |_=>False)
 |_=>False
@[simp]theorem qGa{neg:Bool}:zVa U .nil neg J=J (.lit (.bool !neg)):=rfl
@[simp]theorem qJ8{neg:Bool}{n:Nat}:zVa U (.sl n cs) neg J=(J (.lit (.bool neg))/\(n=0->J (.lit (.bool !neg)))):=rfl
@[simp]theorem qKJ{neg:Bool}:wpO P Qp K' (.isz d neg x) env U = zVa U (ev env x) neg fun r=>K' (env.put d r) U:=by simp only[wpO,zVa];cases ev env x<;>rfl
@[simp]theorem qKH{neg:Bool}:wpO P Qp K' (.isn d neg x) env U = zPS (ev env x) neg fun r=>K' (env.put d r) U:=zS8 (d:=d)
@[simp]theorem qBd:fO cs []=some cs:=rfl
def zWY(c:Option wF)(o s:Nat)(cs:wF)(rest:List (Nat×Nat×A)):Option wF:=match c with
 |some l=>if l.length=s/\o+s<=cs.length then fO (cs.take o++l++cs.drop (o+s)) rest else none
 |none=>none
variable{rest:List (Nat×Nat×A)}
@[simp]theorem zZj{l:wF}:zWY (some l) o s cs rest=if l.length=s/\o+s<=cs.length then fO (cs.take o++l++cs.drop (o+s)) rest else none:=rfl
@[simp]theorem zZi:fO cs ((o,s,a)::rest)=zWY (cellsOf a) o s cs rest:=rfl
def elP(U:St)(sz:Nat)(a:A)(J:Nat->List A->Prop):Prop:=match fJ U sz a with
 |some (m,ys)=>ys.length=m*sz/\J m ys
 |none=>False
@[simp]theorem qJu{J:Nat->List A->Prop}:elP U sz .nil J=J 0 []:=by simp[elP,fJ]
@[simp]theorem qNF{sz n:Nat}{J:Nat->List A->Prop}:elP U sz (.sl n cs) J=(cs.length=n*sz/\J n cs):=rfl
@[simp]theorem qJt{sz n:Nat}{J:Nat->List A->Prop}:elP U sz (.fsl n cs) J=(cs.length=n*sz/\J n cs):=rfl
@[simp]theorem qJv{sz l n:Nat}{J:Nat->List A->Prop}:elP U sz (.row l n) J=zXB U[l]? n sz fun cs=>cs.length=n*sz/\J n cs:=by
 simp only[elP,fJ];cases U[l]? with
 |none=>rfl
 |some o =>
  cases o<;>try rfl
  rename_i fz e s m cs;by_cases h:n=m/\s=sz
  .simp[h]
  .simp only[h,if_false,zNr,eq_iff_iff,false_iff];rintro⟨h1,h2,_⟩;exact h ⟨h1,h2⟩
def zRz(d:wD)(K':wK)(env:Env) (U:St)(e:TypeId)(sz bytes m:Nat)(ys:wF):A->Prop
 | .nil=>(m<=maxLen/\m*bytes<=140737488355328)/\K' (env.put d (.row U.length m)) (U++[AObj.row false e sz m ys])
 | .row l n=>(match U[l]? with
  |some (.row fz e' s n' cs)=>if n=n'/\e'=e/\s=sz then (n+m<=maxLen/\(n+m)*bytes<=140737488355328)/\K' (env.put d (.row l (n+m))) (U.set l (.row fz e sz (n+m) (cs++ys)))else False
  |_=>False)
 | .fsl n cs=>cs.length=n*sz/\(m=0->K' (env.put d (.fsl n cs)) U)/\(m≠0->(n+m<=maxLen/\(n+m)*bytes<=140737488355328)/\K' (env.put d (.row U.length (n+m))) (U++[AObj.row false e sz (n+m) (cs++ys)]))
 |_=>False
@[simp]theorem qDH{m:Nat}:zRz d K' env U e sz bytes m ys .nil=((m<=maxLen/\m*bytes<=140737488355328)/\K' (env.put d (.row U.length m)) (U++[AObj.row false e sz m ys])):=rfl
@[simp]theorem qDG{sz bytes m n:Nat}:zRz d K' env U e sz bytes m ys (.fsl n cs)=(cs.length=n*sz/\(m=0->K' (env.put d (.fsl n cs)) U)/\(m≠0->(n+m<=maxLen/\(n+m)*bytes<=140737488355328)/\K' (env.put d (.row U.length (n+m))) (U++[AObj.row false e sz (n+m) (cs++ys)]))):=rfl
def zXC:Option AObj->Nat->TypeId->Nat->(Bool->List A->Prop)->Prop
 |some (.row fz e' s n' cs),n,e,sz,J=>(n=n'/\e'=e/\s=sz)/\J fz cs
 |_,_,_,_,_=>False
@[simp]theorem zZU{s n' n sz:Nat}{J:Bool->List A->Prop}:zXC (some (.row fz e' s n' cs)) n e sz J=((n=n'/\e'=e/\s=sz)/\J fz cs):=rfl
@[simp]theorem qDI{sz bytes m l n:Nat}:zRz d K' env U e sz bytes m ys (.row l n)=zXC U[l]? n e sz fun fz cs=>(n+m<=maxLen/\(n+m)*bytes<=140737488355328)/\K' (env.put d (.row l (n+m))) (U.set l (.row fz e sz (n+m) (cs++ys))):=by
 simp only[zRz];cases U[l]? with
 |none=>rfl
 |some o =>
  cases o<;>try rfl
  rename_i fz e' s n' cs;by_cases h:n=n'/\e'=e/\s=sz
  .simp[h]
  .simp[h]
@[simp]theorem qK8:wpO P Qp K' (.app d e sz bytes x y) env U = elP U sz (ev env y) fun m ys=>zRz d K' env U e sz bytes m ys (ev env x):=by
 simp only[wpO,elP];cases fJ U sz (ev env y)with
 |none=>rfl
 |some r =>
  obtain⟨m,ys⟩:=r;simp only;generalize ev env x=a;cases a<;>rfl
def zRE(P:Program)(Qp:Value->wK)(K':wK)(d:wD)(f:A)(args:wF)(env:Env) (U:St):Prop:=match f with
 | .clo g first cap=>zA P g=true/\aK P g (first++args++cap) U (outK d env K' Qp)
 | .lit (.func (.yield b) ⟨[]⟩ ⟨[]⟩)=>lG P b args U (outK d env K' Qp)
 |_=>False
@[simp]theorem qFl{b:Nat}{args:wF}:zRE P Qp K' d (yv b) args env U = lG P b args U (outK d env K' Qp):=rfl
variable{g:FuncId}
@[simp]theorem qAP{first cap args:wF}:zRE P Qp K' d (.clo g first cap) args env U = (zA P g=true/\aK P g (first++args++cap) U (outK d env K' Qp)):=rfl
@[simp]theorem qIa{args:List Operand}:wpO P Qp K' (.call d x args) env U = zRE P Qp K' d (ev env x) (args.map (ev env)) env U:=rfl
@[simp]theorem qAD:cC []=[]:=rfl
@[simp]theorem qAC:cC (.box cs::U)=.box cs::cC U:=rfl
@[simp]theorem qAE{sz n:Nat}:cC (.row fz e sz n cs::U)=.dead::cC U:=rfl
@[simp]theorem qEb{fr:Bool}{nk:Nat}{es:List (wC×A)}:cC (.mp fr nk es::U)=.dead::cC U:=rfl
@[simp]theorem qAF:cC (.rsv::U)=.dead::cC U:=rfl
@[simp]theorem qDZ{m n:Nat}{met:wA}:cC (.it m n met::U)=.dead::cC U:=rfl
@[simp]theorem qEa{b M:Nat}{r:Loop}{es:List (Nat×A)}:cC (.lp b r M es::U)=.dead::cC U:=rfl
variable{τ:St}
theorem zI3{U:St}:cC (U++τ)=cC U++cC τ:=by
 induction U with
 |nil=>rfl
 |cons o U ih=>cases o<;>simp[cC,ih]
@[simp]theorem zUk{U:St}:(cC U).length = U.length:=by
 induction U with
 |nil=>rfl
 |cons o U ih=>cases o<;>simp[cC,ih]
@[simp]theorem qBQ{U:St}:oW 0 U = U:=rfl
@[simp]theorem qHw{U:St}:oW 1 U = cC U:=rfl
@[simp]theorem qHy{U:St}:oW 2 U = []:=rfl
variable{fl k:Nat}
@[simp]theorem qHb:zGb Q v U = ∀e,Q (.pan v) e U:=rfl
@[simp]theorem qK2:wpD P Qd K' [] env U = K' env U:=by simp only[wpD]
@[simp]theorem qOb{o:KOp}:dD 0 o env=True:=rfl
@[simp]theorem qOc{o:KOp}:dD 1 o env=True:=rfl
@[simp]theorem qOd{o:KOp}:dD 2 o env=True:=rfl
@[simp]theorem qOe{o:KOp}:dD 3 o env=True:=rfl
@[simp]theorem qOf{o:KOp}:dD 4 o env=True:=rfl
@[simp]theorem qOg{n:Nat}:dD 5 (.st d x y n) env=zKB (ev env x):=rfl
@[simp]theorem qOh{n:Nat}:dD 6 (.st d x y n) env=zKC (ev env x):=rfl
@[simp]theorem qKh{n:Nat}:dD 6 (.idx d x y n) env=isRow (ev env x):=rfl
@[simp]theorem qBj:zKB (.ptr l o)=True:=rfl
@[simp]theorem qBl{l n o:Nat}:zKC (.rwp l n o)=True:=rfl
@[simp]theorem qBk{l n:Nat}:isRow (.row l n)=True:=rfl
@[simp]theorem qHx{U:St}:oW 6 U = U:=rfl
@[simp]theorem qHO{o:KOp}{l:List (Nat×Nat×KG)}:wpD P Qd K' ((k,fl,⟨none,o⟩)::l) env U = (dD fl o env/\jZ P Qd fl (wpD P Qd K' l) o env U):=rfl
@[simp]theorem qCr{o:KOp}{l:List (Nat×Nat×KG)}:wpD P Qd K' ((k,fl,⟨some (s,want),o⟩)::l) env U = (dD fl o env/\zDa (env s) want (jZ P Qd fl (wpD P Qd K' l) o) (zGx o.dst (wpD P Qd K' l)) env U):=by
 simp only[wpD,zTP,zDa];generalize env s=a;cases a<;>try rfl
 all_goals (rename_i v;cases v<;>rfl)
@[simp]theorem qAy:jZ P Qd fl K' (.pick d x y z) env U = wpO P c8 K' (.pick d x y z) env U:=by simp[jZ,KOp.lite,KOp.keeps]
@[simp]theorem qAu{e sz n:Nat}:jZ P Qd fl K' (.brow d e sz n zs ps) env U = wpO P c8 K' (.brow d e sz n zs ps) env U:=by simp[jZ,KOp.lite,KOp.keeps]
@[simp]theorem qC6{m:MOp}:jZ P Qd fl K' (.mop d m xs) env U = (match zQe m (xs.map (ev env)) U with
 |some (r,U')=>K' (env.put d r) U'
 |none=>False):=rfl
@[simp]theorem qC3:jZ P Qd fl K' (.isp d ng x) env U = wpO P c8 K' (.isp d ng x) env U:=by simp[jZ,KOp.lite,KOp.keeps]
@[simp]theorem qC5{t:TypeId}:jZ P Qd fl K' (.mki d t x) env U = wpO P c8 K' (.mki d t x) env U:=by simp[jZ,KOp.lite,KOp.keeps]
@[simp]theorem qC7:jZ P Qd fl K' (.mov d x) env U = wpO P c8 K' (.mov d x) env U:=by simp[jZ,KOp.lite,KOp.keeps]
@[simp]theorem zVX{len sz:Nat}:jZ P Qd fl K' (.idxarr d x y len sz) env U = wpO P c8 K' (.idxarr d x y len sz) env U:=by simp[jZ,KOp.lite,KOp.keeps]
@[simp]theorem qCu:jZ P Qd fl K' (.bin d op x y) env U = wpO P c8 K' (.bin d op x y) env U:=by simp[jZ,KOp.lite,KOp.keeps]
@[simp]theorem qCy{k:SK}:jZ P Qd fl K' (.eqv d ng k x y) env U = wpO P c8 K' (.eqv d ng k x y) env U:=by simp[jZ,KOp.lite,KOp.keeps]
@[simp]theorem qCx{ks:List SK}:jZ P Qd fl K' (.eqs d ng ks x y) env U = wpO P c8 K' (.eqs d ng ks x y) env U:=by simp[jZ,KOp.lite,KOp.keeps]
@[simp]theorem qC8:jZ P Qd fl K' (.neg d x) env U = wpO P c8 K' (.neg d x) env U:=by simp[jZ,KOp.lite,KOp.keeps]
@[simp]theorem qC9:jZ P Qd fl K' (.not d x) env U = wpO P c8 K' (.not d x) env U:=by simp[jZ,KOp.lite,KOp.keeps]
@[simp]theorem qHR{mx:Bool}:jZ P Qd fl K' (.mm d mx xs) env U = wpO P c8 K' (.mm d mx xs) env U:=by simp[jZ,KOp.lite,KOp.keeps]
@[simp]theorem qAw:jZ P Qd fl K' (.len d true x) env U = wpO P c8 K' (.len d true x) env U:=by simp[jZ,KOp.lite,KOp.keeps]
@[simp]theorem qCz:jZ P Qd fl K' (.ext d x i) env U = wpO P c8 K' (.ext d x i) env U:=by simp[jZ,KOp.lite,KOp.keeps]
@[simp]theorem qCw{a b:List Operand}:jZ P Qd fl K' (.clo d f a b) env U = wpO P c8 K' (.clo d f a b) env U:=by simp[jZ,KOp.lite,KOp.keeps]
@[simp]theorem qCA{lo hi mx:Option Operand}:jZ P Qd fl K' (.slc d x sz lo hi mx) env U = wpO P c8 K' (.slc d x sz lo hi mx) env U:=by simp[jZ,KOp.lite,KOp.keeps]
@[simp]theorem zXJ:jZ P Qd fl K' (.build d zs ps) env U = wpO P c8 K' (.build d zs ps) env U:=by simp[jZ,KOp.lite,KOp.keeps]
@[simp]theorem zVW{sz n:Nat}:jZ P Qd fl K' (.bslice d e sz n zs ps) env U = wpO P c8 K' (.bslice d e sz n zs ps) env U:=by simp[jZ,KOp.lite,KOp.keeps]
@[simp]theorem zXI:jZ P Qd fl K' (.alloc d zs) env U = wpO P c8 K' (.alloc d zs) env U:=by simp[jZ,KOp.lite,KOp.keeps]
@[simp]theorem qCv:jZ P Qd fl K' (.box d x) env U = wpO P c8 K' (.box d x) env U:=by simp[jZ,KOp.lite,KOp.keeps]
@[simp]theorem qHS{n:Nat}:jZ P Qd fl K' (.st d x y n) env U = wpO P c8 K' (.st d x y n) env U:=by simp[jZ,KOp.lite,KOp.keeps]
@[simp]theorem qCt:jZ P Qd fl K' (.app d e sz bytes x y) env U = wpO P c8 K' (.app d e sz bytes x y) env U:=by simp[jZ,KOp.lite,KOp.keeps]
@[simp]theorem qC0{off n:Nat}:jZ P Qd fl K' (.fld d x off n agg) env U = wpO P c8 K' (.fld d x off n agg) env U:=by simp[jZ,KOp.lite,KOp.keeps]
@[simp]theorem qHP{len sz:Nat}:jZ P Qd fl K' (.ix d x y len sz agg) env U = wpO P c8 K' (.ix d x y len sz agg) env U:=by simp[jZ,KOp.lite,KOp.keeps]
@[simp]theorem qC2:jZ P Qd fl K' (.isn d ng x) env U = wpO P c8 K' (.isn d ng x) env U:=by simp[jZ,KOp.lite,KOp.keeps]
@[simp]theorem qHQ{n:Nat}:jZ P Qd fl K' (.ld d x n agg) env U = nO ((ldA (oW fl U) n (ev env x)).bind (gO agg)) fun r=>K' (env.put d r) U:=r9
@[simp]theorem qAt:jZ P Qd fl K' (.addr d x off) env U = nO (zD9 (oW fl U) off (ev env x)) fun r=>K' (env.put d r) U:=by show jQ (zW env (oW fl U) (.addr d x off)) _=_;rw[zEO,r9];rfl
@[simp]theorem qC1:jZ P Qd fl K' (.idx d x y sz) env U = vR (oW fl U) sz (ev env x) (ev env y) fun r=>K' (env.put d r) U:=zHI (d:=d)
def zHb(U:St)(a:A)(J:A->Prop):Prop:=match a with
 | .nil=>J (.lit (.int .i64 0))
 | .sl n _=>J (.lit (.int .i64 n))
 | .fsl n _=>J (.lit (.int .i64 n))
 | .row l n=>match U[l]? with
  |some (.row _ _ _ m _)=>if n=m then J (.lit (.int .i64 n))else False
  |_=>False
 | .win l n _ k _=>match U[l]? with
  |some (.row _ _ _ m _)=>if n=m then J (.lit (.int .i64 k))else False
  |_=>False
 |_=>False
@[simp]theorem qGl:zHb U .nil J=J (.lit (.int .i64 0)):=rfl
@[simp]theorem qJC{n:Nat}:zHb U (.sl n cs) J=J (.lit (.int .i64 n)):=rfl
@[simp]theorem qGk{n:Nat}:zHb U (.fsl n cs) J=J (.lit (.int .i64 n)):=rfl
def zMP(o:Option AObj)(n:Nat)(J:A->Prop):Prop:=match o with
 |some (.row _ _ _ m _)=>if n=m then J (.lit (.int .i64 n))else False
 |_=>False
@[simp]theorem zXj{s m n:Nat}:zMP (some (.row fz e s m cs)) n J=if n=m then J (.lit (.int .i64 n))else False:=rfl
@[simp]theorem qGm{l n:Nat}:zHb U (.row l n) J=zMP U[l]? n J:=by simp only[zHb,zMP]
theorem zPV:jQ (zW env τ (.len d false x)) J=zHb τ (ev env x) J:=by
 simp only[zHb,zW];generalize ev env x=a;cases a<;>simp only[jQ,true_and]
 .rename_i l n;cases τ[l]? with
  |none=>rfl
  |some ob =>
   cases ob<;>try rfl
   rename_i fz e s m cs;by_cases h:n=m<;>simp[h]
 .rename_i l n _ k _;cases τ[l]? with
  |none=>rfl
  |some ob =>
   cases ob<;>try rfl
   rename_i fz e s m cs;by_cases h:n=m<;>simp[h]
@[simp]theorem qC4:jZ P Qd fl K' (.len d false x) env U = zHb (oW fl U) (ev env x) fun r=>K' (env.put d r) U:=by show jQ (zW env (oW fl U) (.len d false x)) _=_;exact zPV
def u6(P:Program)(Qd:Value->St->Prop)(fl:Nat) (U:St)(d:wD)(K':wK)(f:A)(args:wF)(env:Env):Prop:=zVV P Qd fl U d K' f args env
@[simp]theorem qAv{args:List Operand}:jZ P Qd fl K' (.call d x args) env U = u6 P Qd fl U d K' (ev env x) (args.map (ev env)) env:=rfl
@[simp]theorem qJk{first cap args:wF}:u6 P Qd 0 U d K' (.clo g first cap) args env=(zA P g=true/\zC3 P U d (fun e=>K' e U) g (first++args++cap) env):=rfl
@[simp]theorem qJl{first cap args:wF}:u6 P Qd 1 U d K' (.clo g first cap) args env=(zA P g=true/\xP P U d (fun e=>K' e U) g (first++args++cap) env):=rfl
@[simp]theorem qJm{first cap args:wF}:u6 P Qd 3 U d K' (.clo g first cap) args env=(zA P g=true/\zGH P U d K' g (first++args++cap) env):=rfl
@[simp]theorem qJo{first cap args:wF}:u6 P Qd 7 U d K' (.clo g first cap) args env=(zA P g=true/\zC4 P U d K' g (first++args++cap) env):=rfl
@[simp]theorem qJp{first cap args:wF}:u6 P Qd 8 U d K' (.clo g first cap) args env=(zA P g=true/\zGJ P U d K' g (first++args++cap) env):=rfl
@[simp]theorem qFi{first cap args:wF}:u6 P Qd 10 U d K' (.clo g first cap) args env=(zA P g=true/\zC5 P Qd U d K' g (first++args++cap) env):=rfl
@[simp]theorem qFj{first cap args:wF}:u6 P Qd 11 U d K' (.clo g first cap) args env=(zA P g=true/\zLN P U d K' g (first++args++cap) env):=rfl
@[simp]theorem qJq{n:Nat}{first cap args:wF}(h1:11<n):u6 P Qd n U d K' (.clo g first cap) args env=(zA P g=true/\(if 1000<=n/\n<2000 then zGI P (n-1000) U d K' g (first++args++cap) env else if 3000<=n/\n<4000 then zGG P (n-3000) U d K' g (first++args++cap) env else xQ P U d K' g (first++args++cap) env)):=by obtain⟨m,rfl⟩:∃m,n=m+12:=⟨n-12,by omega⟩;rfl
@[simp]theorem qJn{first cap args:wF}:u6 P Qd 4 U d K' (.clo g first cap) args env=(zA P g=true/\xQ P U d K' g (first++args++cap) env):=rfl
@[simp]theorem qFk{b:Nat}{args:wF}:u6 P Qd 4 U d K' (yv b) args env = ∃r U',(lG P b args U fun o τ=>o=.ret r/\τ = U')/\K' (env.put d r) U':=by show (4=4/\_)=_;simp
theorem jI{t:Bool}{A B:wK}(h1:t=true->A env U)(h2:t=false->B env U):uJ t A B env U:=⟨h1,h2⟩
theorem zVr{S:Type}{W:(Ex->wK)->wK}(E:S->List (Nat×A))(T:S->St)(I:S->Prop) (μ:S->Nat)(s0:S)(h0:I s0)(start:fU n0 (jO (E s0)) (T s0) env U)
 (round:∀s,I s->W (rnd n0 (fun n e t=>∃s,I s/\μ s=n/\e=jO (E s)/\t=T s) (μ s) Q) (jO (E s)) (T s)):zJD n0 W Q env U:=by
 refine⟨fun n e t=>∃s,I s/\μ s=n/\e=jO (E s)/\t=T s,⟨μ s0,_,_,start,s0,h0,rfl,rfl,rfl⟩,?_⟩;rintro n e t ⟨s,hs,rfl,rfl,rfl⟩;exact round s hs
theorem zZQ{S:Type}{E:S->List (Nat×A)}{T:S->St}{I:S->Prop} {μ:S->Nat}{n:Nat}(s:S)(hs:I s)(hm : μ s<n)(hw:fU n0 (jO (E s)) (T s) env U) :
 rnd n0 (fun n e t=>∃s,I s/\μ s=n/\e=jO (E s)/\t=T s) n Q .norm env U:=⟨μ s,hm,_,_,hw,s,hs,rfl,rfl,rfl⟩
theorem zAM{l:List (Nat×A)} {U':St}(he : U = U'++τ)(hn:n0<=U'.length)(hl:∀p∈l,env p.1=p.2)(hb:∀p∈l,p.2.bnd U'.length=true)(ho:∀o∈U',o.bnd U'.length=true) :
 fU n0 (jO l) U' env U:=by
 subst he;exact fU.cut l hn hl hb ho
@[simp]theorem zZ0{l:List (Nat×A)}:jO ((i,a)::l) t=if t=i then a else jO l t:=rfl
@[simp]theorem qBq:jO [] t=.any:=rfl
end
end Go.Abs
namespace Go.Abs
def zPo(o k c:Nat):A->A
 | .sl _ cs=>if k=0 then .sl 0 []else .sl k ((cs.drop o).take (k*c))
 |_=>.any
mutual
def vw(rf:Bool->Nat->Nat->A)(g:Nat->wD):A->A
 | .ptr l o=>match g l with
  |some i=>.ptr i o
  |none=>rf true l o
 | .row l n=>match g l with
  |some i=>.row i n
  |none=>rf false l n
 | .rwp l n o=>match g l with
  |some i=>.rwp i n o
  |none=>.any
 | .map l=>match g l with
  |some i=>.map i
  |none=>.any
 | .win l n o k c=>match g l with
  |some i=>.win i n o k c
  |none=>zPo o k c (rf false l n)
 | .agg cs=>.agg (vwL rf g cs)
 | .tup cs=>.tup (vwL rf g cs)
 | .sl n cs=>.sl n (vwL rf g cs)
 | .fsl n cs=>.fsl n (vwL rf g cs)
 | .rptr cs=>.rptr (vwL rf g cs)
 | .clo f a b=>.clo f (vwL rf g a) (vwL rf g b)
 | .any=>.any
 | .nil=>.nil
 | .lit v=>.lit v
def vwL(rf:Bool->Nat->Nat->A)(g:Nat->wD):List A->wF
 |[]=>[]
 |c::cs=>vw rf g c::vwL rf g cs
end
def seen(U:St)(g:Nat->wD):Nat->Bool->Nat->Nat->A
 | 0,_,_,_=>.any
 |k+1,false,l,n=>match U[l]? with
  |some (.row _ _ _ m cs)=>if n=m then .sl n (vwL (seen U g k) g cs)else .any
  |_=>.any
 |k+1,true,l,o=>match U[l]? with
  |some (.box cs)=>.rptr ((vwL (seen U g k) g cs).drop o)
  |_=>.any
def vwO(rf:Bool->Nat->Nat->A)(g:Nat->wD):AObj->AObj
 | .dead=>.dead
 | .box cs=>.box (vwL rf g cs)
 | .row fz e sz n cs=>.row fz e sz n (vwL rf g cs)
 | .lp b r M es=>.lp b r M (es.map fun p=>(p.1,vw rf g p.2))
 | .mp fr nk es=>.mp fr nk (es.map fun p=>(p.1,vw rf g p.2))
 | .it m n met=>match g m with
  |some i=>.it i n met
  |none=>.dead
 | .rsv=>.rsv
def zAv:AObj->AObj
 | .dead=>.dead
 | .box cs=>.box (jV cs)
 | .row fz e sz n cs=>.row fz e sz n (jV cs)
 | .lp b r M es=>.lp b r M (es.map fun p=>(p.1,nrm0 p.2))
 | .mp fr nk es=>.mp fr nk (es.map fun p=>(p.1,nrm0 p.2))
 | .it m n met=>.it m n met
 | .rsv=>.rsv
def q9:List Nat->Nat->wD
 |[],_=>none
 |k::ks,l=>if l=k then some 0 else (q9 ks l).map (· + 1)
theorem zDs:∀{ks:wA} {l i:Nat},q9 ks l=some i->ks[i]?=some l
 |[],l,i,h=>by simp[q9]at h
 |k::ks,l,i,h=>by
  simp only[q9]at h;split at h
  .cases h;rename_i h;simp[h]
  .simp only[jAf]at h;obtain⟨j,hj,rfl⟩:=h
   simpa using zDs hj
theorem zGe:∀{ks:wA} {l:Nat},q9 ks l=none->l∉ks
 |[],l,_=>by simp
 |k::ks,l,h=>by
  simp only[q9]at h;split at h
  .cases h
  .rename_i hne;simp only[Option.map_eq_none_iff]at h;simp[hne,zGe h]
section
variable{P:Program}{H H':Mem}{L L':wO} {U:St}{w:World}
theorem zDl:∀{ks:wA} {i j x:Nat},ks.Nodup->ks[i]?=some x->ks[j]?=some x->i=j
 |[],i,j,x,_,h,_=>by simp at h
 |k::ks,i,j,x,hd,h1,h2=>by
  rw[jD9]at hd;cases i with
  |zero =>
   cases j with
   |zero=>rfl
   |succ j =>
    simp only[jB8,jBj,jA3]at h1 h2;subst h1;exact(hd.1 (jBs h2)).elim
  |succ i =>
   cases j with
   |zero =>
    simp only[jB8,jBj,jA3]at h1 h2;subst h2;exact(hd.1 (jBs h1)).elim
   |succ j =>
    simp only[jBj]at h1 h2;rw[zDl hd.2 h1 h2]
mutual
theorem Rel.vw{rf:Bool->Nat->Nat->A}{g:Nat->wD}(hh:HLe H H')(hg:∀l i,g l=some i->L'[i]?=L[l]?)(hr:∀l n v,g l=none->Rel H L (.row l n) v->Rel H' L' (rf false l n) v)(hp:∀l n v,g l=none->Rel H L (.ptr l n) v->Rel H' L' (rf true l n) v) :
 ∀(a:A) {v:Value},Rel H L a v->Rel H' L' (vw rf g a) v
 | .ptr l o,v,h=>by
  simp only[Abs.vw];split
  .rename_i i hi;simp only[Rel]at h⊢;rw[hg l i hi];exact h
  .rename_i hi;exact hp l o v hi h
 | .row l n,v,h=>by
  simp only[Abs.vw];split
  .rename_i i hi;simp only[Rel]at h⊢;rw[hg l i hi];exact h
  .rename_i hi;exact hr l n v hi h
 | .rwp l n o,v,h=>by
  simp only[Abs.vw];split
  .rename_i i hi;simp only[Rel]at h⊢;rw[hg l i hi];exact h
  .simp[Rel]
 | .map l,v,h=>by
  simp only[Abs.vw];split
  .rename_i i hi;simp only[Rel]at h⊢;rw[hg l i hi];exact h
  .simp[Rel]
 | .win l n o k c,v,h=>by
  simp only[Abs.vw];split
  .rename_i i hi;simp only[Rel]at h⊢;rw[hg l i hi];exact h
  .rename_i hi;simp only[Rel]at h;obtain⟨h0,li,e,h1,h2,h3⟩:=h;by_cases hn:n=li.len
   .obtain⟨g0,ad,cap,rfl,g1,g2,g3⟩:=h3 hn;have h4:=hr l n (match li.block with|none=>.slice none 0 0|some b=>.slice (some ⟨b,0,none⟩) n li.cap) hi (by
     simp only[Rel];exact⟨by split<;>rfl,li,e,h1,h2,fun _=>rfl⟩)
    generalize rf false l n=x at h4;cases x<;>simp only[zPo]<;>try(simp only[Rel];done)
    rename_i n' cs;split
    .rename_i hk;subst hk;simp only[Rel];exact⟨ad,cap,rfl,jB0 _,g2,.inl (by simp)⟩
    .rename_i hk;replace g3:=zOS g1 g3;rcases g3 with g3|⟨b,g3,rfl⟩
     .exact(hk g3).elim
     .simp only[g3,Rel]at h4 ⊢;obtain⟨a',cap',k1,k2,k3,k4⟩:=h4;simp only[Value.slice.injEq]at k1;obtain⟨rfl,rfl,rfl⟩:=k1;refine⟨_,cap,rfl,g1,g2,?_⟩;rcases k4 with ⟨rfl,rfl⟩|⟨b',o',us,k5,k6,k7,k8⟩
      .omega
      .cases k5;refine .inr ⟨b,o,_,rfl,(k6.drop o).take (k*c),dL k7,?_⟩;have:=(k8.drop o).take (k*c)
       rwa[jB1]at this
   .have h4:=hr l n (.bool true) hi (by
     simp only[Rel];exact⟨rfl,li,e,h1,h2,fun e=>(hn e).elim⟩)
    generalize rf false l n=x at h4;cases x<;>simp only[zPo]<;>try(simp only[Rel];done)
    simp only[Rel]at h4;obtain⟨_,_,h4,_⟩:=h4;cases h4
 | .agg cs,v,h=>by simp only[Rel,Abs.vw]at h⊢;obtain⟨vs,rfl,h1,h2⟩:=h;exact⟨vs,rfl,qE.vw hh hg hr hp cs h1,h2⟩
 | .tup cs,v,h=>by simp only[Rel,Abs.vw]at h⊢;obtain⟨vs,rfl,h1⟩:=h;exact⟨vs,rfl,qE.vw hh hg hr hp cs h1⟩
 | .sl n cs,v,h=>by
  simp only[Rel,Abs.vw]at h⊢;obtain⟨a,cap,rfl,h1,h2,h3⟩:=h;refine⟨a,cap,rfl,h1,h2,?_⟩;rcases h3 with ⟨h3,rfl⟩|⟨b,o,us,rfl,h4,h5,h6⟩
  .exact .inl ⟨h3,by simp[vwL]⟩
  .exact .inr ⟨b,o,us,rfl,qE.vw hh hg hr hp cs h4,h5,h6.mono hh⟩
 | .fsl n cs,v,h=>by
  simp only[Rel,Abs.vw]at h⊢;obtain⟨a,rfl,h1,h3⟩:=h;refine⟨a,rfl,h1,?_⟩;rcases h3 with ⟨h3,rfl⟩|⟨b,o,us,rfl,h4,h5,h6⟩
  .exact .inl ⟨h3,by simp[vwL]⟩
  .exact .inr ⟨b,o,us,rfl,qE.vw hh hg hr hp cs h4,h5,h6.mono hh⟩
 | .rptr cs,v,h=>by simp only[Rel,Abs.vw]at h⊢;obtain⟨b,o,us,rfl,h4,h5,h6⟩:=h;exact⟨b,o,us,rfl,qE.vw hh hg hr hp cs h4,h5,h6.mono hh⟩
 | .clo f first cap,v,h=>by simp only[Rel,Abs.vw]at h⊢;obtain⟨fs,cs,rfl,h1,h2⟩:=h;exact⟨fs,cs,rfl,qE.vw hh hg hr hp first h1,qE.vw hh hg hr hp cap h2⟩
 | .any,_,_=>by simp[Rel,Abs.vw]
 | .nil,_,h=>by simpa[Rel,Abs.vw]using h
 | .lit _,_,h=>by simpa[Rel,Abs.vw]using h
theorem qE.vw{rf:Bool->Nat->Nat->A}{g:Nat->wD}(hh:HLe H H')(hg:∀l i,g l=some i->L'[i]?=L[l]?)(hr:∀l n v,g l=none->Rel H L (.row l n) v->Rel H' L' (rf false l n) v)(hp:∀l n v,g l=none->Rel H L (.ptr l n) v->Rel H' L' (rf true l n) v) :
 ∀(cs:wF) {vs:wM},qE H L cs vs->qE H' L' (vwL rf g cs) vs
 |[],vs,h=>by simpa[qE,vwL]using h
 |c::cs,vs,h=>by simp only[qE,vwL]at h⊢;obtain⟨u,us,rfl,h1,h2⟩:=h;exact⟨u,us,rfl,Rel.vw hh hg hr hp c h1,qE.vw hh hg hr hp cs h2⟩
end
def AObj.held:AObj->Nat
 | .row _ _ sz n _=>n*sz
 | .box cs=>cs.length
 |_=>0
def zIU(g:Nat->wD)(L:wO) (U:St)(b o:Nat):Prop :=
 ∃(i:Nat) (li:LI) (ob:AObj),g i=none/\L[i]?=some li/\U[i]?=some ob/\li.block=some b/\o<ob.held
open Classical in
noncomputable def zF8(g:Nat->wD) (H:Mem) (L:wO) (U:St) (w:World):Mem:=⟨fun b o=>match H b o with
 |some v=>some v
 |none=>if zIU g L U b o then w.cell? ⟨b,o,none⟩ else none,fun b o v h=>by simp only[H.2 b o v h]⟩
open Classical in
theorem tG(g:Nat->wD)(H:Mem)(L:wO) (U:St)(w:World)(b o:Nat):zF8 g H L U w b o=match H b o with
 |some v=>some v
 |none=>if zIU g L U b o then w.cell? ⟨b,o,none⟩ else none:=rfl
variable{g:Nat->wD}
theorem tH:HLe H (zF8 g H L U w):=fun b o v h=>by rw[tG,h]
theorem zKz{b o:Nat}{v:Value}(h:zF8 g H L U w b o=some v):H b o=some v\/(zIU g L U b o/\w.cell? ⟨b,o,none⟩=some v):=by
 rw[tG]at h;split at h
 .rename_i u hu;cases h;exact .inl hu
 .split at h
  .rename_i hr;exact .inr ⟨hr,h⟩
  .cases h
theorem zK0(hs:RelSt H L U w){b o:Nat}{v:Value}(hx:zIU g L U b o)(hc:w.cell? ⟨b,o,none⟩=some v):zF8 g H L U w b o=some v:=by
 rw[tG];split
 .rename_i x hx;have:=hs.pers b o x hx;rw[hc]at this;exact this.symm
 .rw[if_pos hx];exact hc
theorem Rel.seen{g:Nat->wD}(hs:RelSt H L U w)(hg:∀l i,g l=some i->L'[i]?=L[l]?) :
 ∀(k:Nat),(∀(l n:Nat) (v:Value),g l=none->Rel H L (.row l n) v->Rel (zF8 g H L U w) L' (seen U g k false l n) v)/\∀(l n:Nat) (v:Value),g l=none->Rel H L (.ptr l n) v->Rel (zF8 g H L U w) L' (seen U g k true l n) v
 | 0=>⟨fun l n v _ _=>by simp[Abs.seen,Rel],fun l n v _ _=>by simp[Abs.seen,Rel]⟩
 |k+1=>by
  obtain⟨ih1,ih2⟩:=Rel.seen hs hg k;refine⟨fun l n v hl h=>?_,fun l n v hl h=>?_⟩
  .simp only[Abs.seen];split
   .rename_i fz e sz m cs hU;split
    .rename_i hn;subst hn;simp only[Rel]at h⊢;obtain⟨_,li,e1,e2,e3,hv⟩:=h;have hob:=hs.obj l li _ e1 hU;simp only[qB]at hob;obtain⟨_,g1,g2,hob⟩:=hob;have hv:=hv g1.symm;rcases hob with ⟨hb,h0⟩|⟨b,cur,hb,k1,k2,k3,k4,k5,k6,k7⟩
     .rw[hb]at hv;subst h0;have hcs:cs=[]:=jBx (by simpa using g2);exact⟨none,0,hv,jA _,jB0 _,.inl ⟨rfl,by simp[hcs,vwL]⟩⟩
     .rw[hb]at hv;refine⟨_,_,hv,k2,k3,.inr ⟨b,0,_,rfl,qE.vw tH hg ih1 ih2 cs k5,k6,fun j u hu=>?_⟩⟩;have hj:j<n*sz:=by
       rw[jBg]at hu;split at hu
       .assumption
       .cases hu
      have hc:w.cell? ⟨b,j,none⟩=some u:=by
       rw[cell_of_row w b j cur e (0,0) k1];rw[jBg,if_pos hj]at hu
       simpa using hu
      simp only[jB1];exact zK0 hs ⟨l,li,_,hl,e1,hU,hb,hj⟩ hc
    .simp[Rel]
   .simp[Rel]
  .simp only[Abs.seen];split
   .rename_i cs hU;simp only[Rel]at h⊢;obtain⟨li,b,e1,e2,e3,hv⟩:=h;have hob:=hs.obj l li _ e1 hU;simp only[qB]at hob;obtain⟨_,b',vs,e,hb',hh,hr,h1,_⟩:=hob;rw[e2]at hb';cases hb';refine⟨b,n,vs.drop n,hv,(qE.vw tH hg ih1 ih2 cs hr).drop n,fun u hu=>h1 u (jC1 hu),fun j u hu=>?_⟩;rw[jCt]at hu;have hlt:n+j<cs.length:=by rw[<-hr.length];exact(jA5.1 hu).1
    refine zK0 hs ⟨l,li,_,hl,e1,hU,e2,hlt⟩ ?_;rw[cell_of_row w b _ _ e (0,0) hh]
    simpa using hu
   .simp[Rel]
def bK(U:St)(rf:Bool->Nat->Nat->A)(g:Nat->wD):List Nat->St->Prop
 |[],[]=>True
 |j::js,o'::os=>(match U[j]? with
  |some o=>o'=vwO rf g o\/o'=zAv (vwO rf g o)
  |none=>False)/\bK U rf g js os
 |_,_=>False
theorem sH{rf:Bool->Nat->Nat->A}{g:Nat->wD}:∀{ks:wA} {U':St},bK U rf g ks U'->U'.length=ks.length
 |[],[],_=>rfl
 |_::_,_::_,h=>by simp[sH h.2]
theorem sG{rf:Bool->Nat->Nat->A}{g:Nat->wD}:∀{ks:wA} {U':St},bK U rf g ks U'->∀{i j:Nat} {o':AObj},ks[i]?=some j->U'[i]?=some o'->∃o,U[j]?=some o/\(o'=vwO rf g o\/o'=zAv (vwO rf g o))
 |[],[],_,i,j,o',h,_=>by simp at h
 |k::ks,p::U',h,i,j,o',h1,h2=>by
  cases i with
  |zero =>
   simp only[jB8,jA3]at h1 h2;subst h1;subst h2;have:=h.1;split at this
   .rename_i o ho;exact⟨o,ho,this⟩
   .exact this.elim
  |succ i =>
   simp only[jBj]at h1 h2;exact sG h.2 h1 h2
theorem qB.nrm{li:LI}{o:AObj}(h:qB H L w li o):qB H L w li (zAv o):=by
 cases o with
 |dead=>trivial
 |box cs =>
  simp only[qB,zAv]at h⊢;obtain⟨h0,b,vs,e,h1,h2,h3,h4,h5⟩:=h;exact⟨h0,b,vs,e,h1,h2,qE.nrm0 _ h3,h4,h5⟩
 |row fz e sz n cs =>
  simp only[qB,zAv]at h⊢;obtain⟨h0,h1,h2,h3⟩:=h;have hl:∀cs:wF,(jV cs).length=cs.length:=fun cs=>by induction cs with
   |nil=>rfl
   |cons c cs ih=>simp[jV,ih]
  refine⟨h0,h1,by rw[hl];exact h2,?_⟩;rcases h3 with h3|⟨b,cur,g1,g2,g3,g4,g5,g6,g7,g8⟩
  .exact .inl h3
  .exact .inr ⟨b,cur,g1,g2,g3,g4,g5,qE.nrm0 _ g6,g7,g8⟩
 |lp b r M es =>
  simp only[qB,zAv]at h⊢;obtain⟨h0,h1,tmps,h2,h3,h4⟩:=h;exact⟨h0,h1,tmps,h2,h3,h4.map _ fun a v ha=>Rel.nrm0 a ha⟩
 |mp fr nk es =>
  simp only[qB,zAv]at h⊢;obtain⟨h0,b,ents,ck,h1,h2,h3,h4⟩:=h;exact⟨h0,b,ents,ck,h1,h2,aV.map _ (fun p _ v hv=>Rel.nrm0 _ hv) h3,h4.1,zFE h4.2⟩
 |it m n met=>exact h
 |rsv=>exact h
theorem zBz{rf:Bool->Nat->Nat->A}{g:Nat->wD}:∀{cs:wF},(vwL rf g cs).length=cs.length
 |[]=>rfl
 |c::cs=>by simp[vwL,zBz]
theorem zJk{H0:Mem}{L0:wO}{w0:World}(ks:wA)(fuel:Nat) {U':St}(hk:∀i,i<L0.length->ks[i]?=some i)(hd:ks.Nodup)
 (ho:bK U (Abs.seen U (q9 ks) fuel) (q9 ks) ks U')(h:Nxt H0 L0 w0 H L U w) :
 ∃H' L',Nxt H0 L0 w0 H' L' U' w/\HLe H H'/\∀a v,Rel H L a v->Rel H' L' (Abs.vw (Abs.seen U (q9 ks) fuel) (q9 ks) a) v:=by
 have hs:=h.st;let g:=q9 ks;let L':wO:=ks.map fun k=>L.getD k ⟨none,0,0,false⟩
 have hin:∀(i j:Nat),ks[i]?=some j->∃li,L[j]?=some li/\L'[i]?=some li:=by
  intro i j hij;have hi:i < U'.length:=by rw[sH ho];exact(jA5.1 hij).1
  obtain⟨o,hU,_⟩:=sG ho hij (jA2 hi);have hj:j<L.length:=by rw[hs.len];exact(jA5.1 hU).1
  refine⟨L[j],jA2 hj,?_⟩;simp[L',hij,hj]
 have hback:∀{i:Nat} {li:LI},L'[i]?=some li->∃j,ks[i]?=some j/\L[j]?=some li:=by
  intro i li hi;have hi':i<ks.length:=by simpa[L']using (jA5.1 hi).1
  obtain⟨li',h1,h2⟩:=hin i ks[i] (jA2 hi');rw[hi]at h2;cases h2;exact⟨_,jA2 hi',h1⟩
 have hg:∀l i,g l=some i->L'[i]?=L[l]?:=by intro l i hl;obtain⟨li,h1,h2⟩:=hin i l (zDs hl);rw[h1,h2]
 have hrel:∀a v,Rel H L a v->Rel (zF8 g H L U w) L' (Abs.vw (Abs.seen U g fuel) g a) v:=fun a v ha=>Rel.vw tH hg (Rel.seen hs hg fuel).1 (Rel.seen hs hg fuel).2 a ha
 have hrelL:∀cs vs,qE H L cs vs->qE (zF8 g H L U w) L' (vwL (Abs.seen U g fuel) g cs) vs:=fun a v ha=>qE.vw tH hg (Rel.seen hs hg fuel).1 (Rel.seen hs hg fuel).2 a ha
 have hkeep:∀(j:Nat) (li:LI) (b:Nat),j∈ks->L[j]?=some li->li.block=some b->∀o,zF8 g H L U w b o=H b o:=by
  intro j li b hj hL hb o;rw[tG];cases hH:H b o with
  |some v=>rfl
  |none =>
   simp only;rw[if_neg];rintro⟨i,li',ob,g1,g2,g3,g4,g5⟩;have:=hs.inj i j li' li b g2 hL g4 hb;subst this;exact zGe g1 hj
 refine⟨zF8 g H L U w,L',⟨⟨fun b o v hv=>(zKz hv).elim (hs.pers b o v) fun h=>h.2,by simp[L',sH ho],fun i li o hL hU=>?_,fun i j x y b hi hj hx hy=>?_,fun i li b hi hb=>?_⟩,
  ⟨h.step.os,h.step.tape,h.step.output,h.step.size,h.step.keep,h.step.hle.trans tH,fun b o v hv=>?_,h.step.drawn,h.step.dfr⟩,fun i x hx=>?_,fun b ⟨i,x,hi,hx⟩=>?_⟩,tH,hrel⟩
 .obtain⟨j,hj,hLj⟩:=hback hL;obtain⟨o0,hU0,heq⟩:=sG ho hj hU;have hob:=hs.obj j li o0 hLj hU0;have hjm:j∈ks:=jBs hj;have key:qB (zF8 g H L U w) L' w li (vwO (Abs.seen U g fuel) g o0):=by
   cases o0 with
   |dead=>trivial
   |box cs =>
    simp only[qB,vwO]at hob ⊢;obtain⟨h0,b,vs,e,h1,h2,h3,h4,h5⟩:=hob;exact⟨h0,b,vs,e,h1,h2,hrelL _ _ h3,h4,fun o=>by rw[hkeep j li b hjm hLj h1];exact h5 o⟩
   |row fz e sz n cs =>
    simp only[qB,vwO]at hob ⊢;obtain⟨h0,h1,h2,h3⟩:=hob;refine⟨h0,h1,by rw[zBz];exact h2,?_⟩;rcases h3 with h3|⟨b,cur,g1,g2,g3,g4,g5,g6,g7,g8⟩
    .exact .inl h3
    .refine .inr ⟨b,cur,g1,g2,g3,g4,g5,hrelL _ _ g6,g7,?_⟩;cases fz with
     |false=>exact fun o=>by rw[hkeep j li b hjm hLj g1];exact g8 o
     |true=>exact⟨g8.1.mono tH,fun o ho=>by rw[hkeep j li b hjm hLj g1];exact g8.2 o ho⟩
   |lp b r M es =>
    simp only[qB,vwO]at hob ⊢;obtain⟨h0,h1,tmps,h2,h3,h4⟩:=hob;exact⟨h0,h1,tmps,h2,h3,h4.map _ hrel⟩
   |mp fr nk es =>
    simp only[qB,vwO]at hob ⊢;obtain⟨h0,b,ents,ck,h1,h2,h3,h4⟩:=hob;exact⟨h0,b,ents,ck,h1,h2,aV.map _ (fun p _ v hv=>hrel _ _ hv) h3,h4.1,zFE h4.2⟩
   |it m n met =>
    simp only[vwO];split
    .rename_i i0 hi0;simp only[qB]at hob ⊢;obtain⟨h0,b,mb,lm,h1,h2,h3,h4,h5⟩:=hob;have hp:Rel H L (.ptr m 0) (.pointer (some ⟨mb,0,none⟩)):=by simp only[Rel];exact⟨lm,mb,h2,h3,h4,rfl⟩
     have hp:=hrel _ _ hp;simp only[Abs.vw,hi0,Rel]at hp;obtain⟨lm',mb',k2,k3,k4,k5⟩:=hp;cases k5;exact⟨h0,b,mb,lm',h1,k2,k3,k4,h5⟩
    .trivial
   |rsv=>exact hob
  rcases heq with rfl|rfl
  .exact key
  .exact key.nrm
 .obtain⟨i',hi',hLi⟩:=hback hi;obtain⟨j',hj',hLj⟩:=hback hj;have:=hs.inj i' j' x y b hLi hLj hx hy;subst this;have hi1:=(jA5.1 hi').1;have hj1:=(jA5.1 hj').1;exact zDl hd hi' hj'
 .obtain⟨j,_,hLj⟩:=hback hi;exact hs.lt j li b hLj hb
 .rcases zKz hv with h1|⟨⟨i,li,_,_,hL,_,hb,_⟩,_⟩
  .exact h.step.hnew b o v h1
  .exact .inr (h.own b ⟨i,li,hL,hb⟩)
 .obtain⟨x',hx',hr⟩:=h.lle i x hx;have hi:i<L0.length:=(jA5.1 hx).1;obtain⟨li,h1,h2⟩:=hin i i (hk i hi);rw[hx']at h1;cases h1;exact⟨_,h2,hr⟩
 .obtain⟨j,_,hLj⟩:=hback hi;exact h.own b ⟨j,x,hLj,hx⟩
theorem fU.sel{n0:Nat}{env:Env}(ks:wA)(fuel:Nat)(l:List (Nat×A)) {U':St}(hk:∀i,i<n0->ks[i]?=some i)(hd:ks.Nodup)(ho:bK U (Abs.seen U (q9 ks) fuel) (q9 ks) ks U')
 (hl:∀p∈l,p.2=Abs.vw (Abs.seen U (q9 ks) fuel) (q9 ks) (env p.1)\/p.2=nrm0 (Abs.vw (Abs.seen U (q9 ks) fuel) (q9 ks) (env p.1))):fU n0 (jO l) U' env U:=by
 intro H0 L0 w0 H L w N tmps h0 h1 h2;subst h0;obtain⟨H',L',g1,_,g3⟩:=zJk ks fuel hk hd ho h1;refine⟨H',L',g1,h2.1,fun t=>?_⟩;rcases oB l t with h|h
 .rw[h];simp[Rel]
 .have:=g3 _ _ (h2.2 t);rcases hl _ h with e|e
  .simp only at e;rw[e];exact this
  .simp only at e;rw[e];exact Rel.nrm0 _ this
end
end Go.Abs
namespace Go.Abs
def Ret(P:Program)(f:FuncId)(args:wF) (U0:St)(r:A) (U1:St):Prop:=aK P f args U0 fun o U'=>o=.ret r/\U' = U1
def j6:Bool->Nat->Nat->A:=fun _ _ _=>.any
def j7{α:Type}:List α->List Nat->List α->List α
 |s,[],t=>s++t
 |s,j::js,o::os=>j7 (s.set j o) js os
 |s,_::_,[]=>s
theorem mG{α:Type}:∀{js:wA} {s t:List α},js.length<=t.length->(j7 s js t).length=s.length+(t.length-js.length)
 |[],s,t,_=>by simp[j7]
 |j::js,s,[],h=>by simp at h
 |j::js,s,o::os,h=>by simp only[j7,jAc]at h⊢;rw[mG (by omega)];simp
theorem tU{α:Type}:∀{js:wA} {s t:List α} {x:Nat},js.length<=t.length->x<s.length->x∉js->(j7 s js t)[x]?=s[x]?
 |[],s,t,x,_,hx,_=>by simp[j7,jAp hx]
 |j::js,s,[],x,h,_,_=>by simp at h
 |j::js,s,o::os,x,h,hx,hn=>by simp only[j7,jAc,jA1,not_or]at h hn ⊢;rw[tU (by omega) (by simpa using hx) hn.2,jAh (Ne.symm hn.1)]
theorem oE{α:Type}:∀{js:wA} {s t:List α} {i x:Nat},js.length<=t.length->js.Nodup->(∀y∈js,y<s.length)->js[i]?=some x->(j7 s js t)[x]?=t[i]?
 |[],s,t,i,x,_,_,_,h=>by simp at h
 |j::js,s,[],i,x,h,_,_,_=>by simp at h
 |j::js,s,o::os,i,x,h,hd,hb,hi=>by
  rw[jD9]at hd;simp only[j7,jAc]at h⊢;cases i with
  |zero =>
   simp only[jB8,jA3]at hi;subst hi;have hj:=hb j (jAm ..);rw[tU (by omega) (by simpa using hj) hd.1,jAo hj];rfl
  |succ i =>
   simp only[jBj]at hi ⊢;exact oE (by omega) hd.2 (fun y hy=>by simpa using hb y (jAk _ hy)) hi
theorem zBj{α:Type}:∀{js:wA} {s t:List α} {k:Nat},js.length<=t.length->(j7 s js t)[s.length+k]?=t[js.length+k]?
 |[],s,t,k,_=>by simp only[j7,jB4,jB1];rw[jB9 (by omega),Nat.add_sub_cancel_left]
 |j::js,s,[],k,h=>by simp at h
 |j::js,s,o::os,k,h=>by
  simp only[j7,jAc]at h⊢;have:=zBj (js:=js) (s:=s.set j o) (t:=os) (k:=k) (by omega);rw[jD]at this;rw[this];have e:js.length+1+k=js.length+k+1:=by omega
  rw[e,jBj]
def gB(js:wA)(n l:Nat):Nat:=match js,l with
 |[],l=>n+l
 |j::_,0=>j
 |_::js,l+1=>gB js n l
theorem zE2:∀{js:wA} {n i x:Nat},js[i]?=some x->gB js n i=x
 |[],n,i,x,h=>by simp at h
 |j::js,n,0,x,h=>by simpa[gB]using h
 |j::js,n,i+1,x,h=>by simp only[gB];exact zE2 (by simpa using h)
theorem zB8:∀{js:wA} {n k:Nat},gB js n (js.length+k)=n+k
 |[],n,k=>by simp[gB]
 |j::js,n,k=>by
  have e:(j::js).length+k=js.length+k+1:=by simp;omega
  rw[e];simp only[gB];exact zB8
def ren(js:wA)(n:Nat)(a:A):A:=vw j6 (fun l=>some (gB js n l)) a
def zZO(js:wA)(n:Nat)(cs:wF):wF:=vwL j6 (fun l=>some (gB js n l)) cs
def fD(js:wA)(n:Nat)(o:AObj):AObj:=vwO j6 (fun l=>some (gB js n l)) o
def dT(js:wA):List A->List A->Prop
 |[],[]=>True
 |a'::aS',a::aS=>(a=vw j6 (q9 js) a'\/a=nrm0 (vw j6 (q9 js) a'))/\dT js aS' aS
 |_,_=>False
section
variable{P:Program}{H H':Mem}{L L':wO} {U:St}{w:World}
theorem qB.vw{H':Mem}{L':wO}{w':World}{rf:Bool->Nat->Nat->A}{g:Nat->wD}{li:LI}{o:AObj}(h:qB H L w li o)(hrel:∀cs vs,qE H L cs vs->qE H' L' (vwL rf g cs) vs)
 (hw:∀b,li.block=some b->w'.heap[b]?=w.heap[b]?)(hh:HLe H H')(hb:∀b,li.block=some b->∀o,H' b o=H b o):qB H' L' w' li (vwO rf g o):=by
 cases o with
 |dead=>trivial
 |box cs =>
  simp only[qB,vwO]at h⊢;obtain⟨h0,b,vs,e,h1,h2,h3,h4,h5⟩:=h;exact⟨h0,b,vs,e,h1,by rw[hw b h1];exact h2,hrel _ _ h3,h4,fun o=>by rw[hb b h1];exact h5 o⟩
 |row fz e sz n cs =>
  simp only[qB,vwO]at h⊢;obtain⟨h0,h1,h2,h3⟩:=h;refine⟨h0,h1,by rw[zBz];exact h2,?_⟩;rcases h3 with h3|⟨b,cur,g1,g2,g3,g4,g5,g6,g7,g8⟩
  .exact .inl h3
  .refine .inr ⟨b,cur,g1,by rw[hw b g1];exact g2,g3,g4,g5,hrel _ _ g6,g7,?_⟩;cases fz with
   |false=>exact fun o=>by rw[hb b g1];exact g8 o
   |true=>exact⟨g8.1.mono hh,fun o ho=>by rw[hb b g1];exact g8.2 o ho⟩
 |lp b r M es =>
  simp only[qB,vwO]at h⊢;obtain⟨h0,h1,tmps,h2,h3,h4⟩:=h;exact⟨h0,h1,tmps,by rw[hw b h1];exact h2,h3,h4.map _ fun a v ha=>by have:=hrel [a] [v] (qN ha jR);simp only[vwL]at this;obtain⟨u,us,k1,k2,_⟩:=z8 this;cases k1;exact k2⟩
 |mp fr nk es =>
  simp only[qB,vwO]at h⊢;obtain⟨h0,b,ents,ck,h1,h2,h3,h4⟩:=h;refine⟨h0,b,ents,ck,h1,by rw[hw b h1];exact h2,aV.map _ (fun p _ v ha=>?_) h3,h4.1,zFE h4.2⟩;have:=hrel [p.2] [v] (qN ha jR);simp only[vwL]at this;obtain⟨u,us,k1,k2,_⟩:=z8 this;cases k1;exact k2
 |it m n met =>
  simp only[vwO];split
  .rename_i i0 hi0;simp only[qB]at h⊢;obtain⟨h0,b,mb,lm,h1,h2,h3,h4,h5⟩:=h;have hp:Rel H L (.ptr m 0) (.pointer (some ⟨mb,0,none⟩)):=by simp only[Rel];exact⟨lm,mb,h2,h3,h4,rfl⟩
   have:=hrel [_] [_] (qN hp jR);simp only[vwL,Abs.vw,hi0]at this;obtain⟨u,us,k1,k2,_⟩:=z8 this;cases k1;simp only[Rel]at k2;obtain⟨lm',mb',g2,g3,g4,g5⟩:=k2;cases g5;exact⟨h0,b,mb,lm',h1,g2,g3,g4,by rw[hw b h1];exact h5⟩
  .trivial
 |rsv=>exact h
variable{U0:St}
theorem zVD{js:wA} (hs:RelSt H L U w)(hd:js.Nodup)(ho:bK U j6 (q9 js) js U0) :
 ∃L0:wO,L0.length=js.length/\(∀i j:Nat,js[i]?=some j->∃li,L[j]?=some li/\L0[i]?=some li)/\RelSt H L0 U0 w/\∀a v,Rel H L a v->Rel H L0 (Abs.vw j6 (q9 js) a) v:=by
 let L0:wO:=js.map fun k=>L.getD k ⟨none,0,0,false⟩
 have hin:∀(i j:Nat),js[i]?=some j->∃li,L[j]?=some li/\L0[i]?=some li:=by
  intro i j hij;have hi:i < U0.length:=by rw[sH ho];exact(jA5.1 hij).1
  obtain⟨o,hU,_⟩:=sG ho hij (jA2 hi);have hj:j<L.length:=by rw[hs.len];exact(jA5.1 hU).1
  refine⟨L[j],jA2 hj,?_⟩;simp[L0,hij,hj]
 have hback:∀{i:Nat} {li:LI},L0[i]?=some li->∃j,js[i]?=some j/\L[j]?=some li:=by
  intro i li hi;have hi':i<js.length:=by simpa[L0]using (jA5.1 hi).1
  obtain⟨li',h1,h2⟩:=hin i js[i] (jA2 hi');rw[hi]at h2;cases h2;exact⟨_,jA2 hi',h1⟩
 have hg:∀l i,q9 js l=some i->L0[i]?=L[l]?:=by intro l i hl;obtain⟨li,h1,h2⟩:=hin i l (zDs hl);rw[h1,h2]
 have hr0:∀(l n:Nat) (v:Value),q9 js l=none->Rel H L (.row l n) v->Rel H L0 (j6 false l n) v:=fun _ _ _ _ _=>by simp[j6,Rel]
 have hp0:∀(l n:Nat) (v:Value),q9 js l=none->Rel H L (.ptr l n) v->Rel H L0 (j6 true l n) v:=fun _ _ _ _ _=>by simp[j6,Rel]
 refine⟨L0,by simp[L0],hin,⟨hs.pers,by simp[L0,sH ho],fun i li o hL hU=>?_,fun i j x y b hi hj hx hy=>?_,fun i li b hi hb=>?_⟩,fun a v ha=>Rel.vw (HLe.refl _) hg hr0 hp0 a ha⟩
 .obtain⟨j,hj,hLj⟩:=hback hL;obtain⟨o0,hU0,heq⟩:=sG ho hj hU;have key:=(hs.obj j li o0 hLj hU0).vw (H':=H) (L':=L0) (w':=w) (rf:=j6) (g:=q9 js) (fun cs vs h=>qE.vw (HLe.refl _) hg hr0 hp0 cs h) (fun _ _=>rfl) (HLe.refl _) (fun _ _ _=>rfl);rcases heq with rfl|rfl
  .exact key
  .exact key.nrm
 .obtain⟨i',hi',hLi⟩:=hback hi;obtain⟨j',hj',hLj⟩:=hback hj;have:=hs.inj i' j' x y b hLi hLj hx hy;subst this;exact zDl hd hi' hj'
 .obtain⟨j,_,hLj⟩:=hback hi;exact hs.lt j li b hLj hb
def zND(C:List Value->World->(Ending->World->Prop)->Prop)(args:wF) (U:St)(Q:Out->St->Prop):Prop :=
 ∀(H:Mem) (L:wO) (w:World) (vs:wM),RelSt H L U w->qE H L args vs->C vs w fun e w'=>∃o U' H' L',zAC H' L' o e/\Nxt H L w H' L' U' w'/\Q o U'
def zNl(js:wA)(n:Nat):Out->Out
 | .ret r=>.ret (ren js n r)
 | .pan v=>.pan v
variable{C:List Value->World->(Ending->World->Prop)->Prop}{Q0 Q:Out->St->Prop}
theorem zCF(hmono:∀vs w R R',C vs w R->(∀e w',R e w'->R' e w')->C vs w R'){args args':wF} (h:zND C args U0 Q0)(js:wA)(hd:js.Nodup)(ho:bK U j6 (q9 js) js U0)(ha:dT js args' args)
 (hq:∀o U1,Q0 o U1->Q (zNl js U.length o) (j7 U js (U1.map (fD js U.length)))):zND C args' U Q:=by
 intro H L w vs hs hvs;obtain⟨L0,hL0,hin,hs0,hrel0⟩:=zVD hs hd ho;have hvs0:qE H L0 args vs:=by
  clear hq h;induction args' generalizing args vs with
  |nil=>cases args with
   |nil=>rw[jL hvs];exact jR
   |cons _ _=>exact ha.elim
  |cons a' aS' ih=>cases args with
   |nil=>exact ha.elim
   |cons a aS =>
    obtain⟨u,us,rfl,h1,h2⟩:=z8 hvs;refine qN ?_ (ih (vs:=us) ha.2 h2);rcases ha.1 with e|e
    .rw[e];exact hrel0 _ _ h1
    .rw[e];exact Rel.nrm0 _ (hrel0 _ _ h1)
 refine hmono _ _ _ _ (h H L0 w vs hs0 hvs0) fun e w' hh=>?_
 obtain⟨o,U',H1,L1,g1,g2,hq0⟩:=hh;have hq:=hq o U' hq0;have hjs:js.length<=L1.length:=by
  rcases jB2 L1.length js.length with hlt|hge
  .have hlt0:L1.length<L0.length:=by omega
   obtain⟨l',hl',_⟩:=g2.lle L1.length L0[L1.length] (jA2 hlt0);exact absurd (jA5.1 hl').1 (Nat.lt_irrefl _)
  .exact hge
 have hjs1:js.length<=(U'.map (fD js U.length)).length:=by rw[jAb,<-g2.st.len];exact hjs
 have hjb:∀y∈js,y<L.length:=by intro y hy;obtain⟨i,hi⟩:=jCv hy;obtain⟨li,h1,_⟩:=hin i y hi;exact(jA5.1 h1).1
 have hjb':∀y∈js,y < U.length:=fun y hy=>by rw[<-hs.len];exact hjb y hy
 let L':=j7 L js L1;have hlen':L'.length=(j7 U js (U'.map (fD js U.length))).length:=by rw[mG hjs,mG hjs1,jAb,hs.len,g2.st.len]
 have hgf:∀l,L'[gB js U.length l]?=L1[l]?:=by
  intro l;rcases jB2 l js.length with hl|hl
  .have:=jA2 hl;rw[zE2 this];exact oE hjs hd hjb this
  .obtain⟨k,rfl⟩:=Nat.le.dest hl;rw[zB8,<-hs.len];exact zBj hjs
 have hgs:∀l,(j7 U js (U'.map (fD js U.length)))[gB js U.length l]?=(U'[l]?).map (fD js U.length):=by
  intro l;rw[<-jBi];rcases jB2 l js.length with hl|hl
  .have:=jA2 hl;rw[zE2 this];exact oE hjs1 hd hjb' this
  .obtain⟨k,rfl⟩:=Nat.le.dest hl;rw[zB8];exact zBj hjs1
 have hg:∀l i,(fun l=>some (gB js U.length l)) l=some i->L'[i]?=L1[l]?:=by intro l i hl;simp only[jA3]at hl;subst hl;exact hgf l
 have hr0:∀(l n:Nat) (v:Value),(fun l=>some (gB js U.length l)) l=none->Rel H1 L1 (.row l n) v->Rel H1 L' (j6 false l n) v:=fun _ _ _ _ _=>by simp[j6,Rel]
 have hp0:∀(l n:Nat) (v:Value),(fun l=>some (gB js U.length l)) l=none->Rel H1 L1 (.ptr l n) v->Rel H1 L' (j6 true l n) v:=fun _ _ _ _ _=>by simp[j6,Rel]
 have hcase:∀x,x<L'.length->(∃l,l<L1.length/\gB js U.length l=x)\/(x<L.length/\x∉js):=by
  intro x hx;by_cases hm:x∈js
  .obtain⟨i,hi⟩:=jCv hm;exact .inl ⟨i,by have:=(jA5.1 hi).1;omega,zE2 hi⟩
  .rcases jB2 x L.length with h|h
   .exact .inr ⟨h,hm⟩
   .obtain⟨k,rfl⟩:=Nat.le.dest h;refine .inl ⟨js.length+k,?_,by rw[zB8,hs.len]⟩;rw[mG hjs]at hx;omega
 have hold:∀x,x<L.length->x∉js->L'[x]?=L[x]?:=fun x hx hm=>tU hjs hx hm
 have holds:∀x,x<L.length->x∉js->(j7 U js (U'.map (fD js U.length)))[x]? = U[x]?:=fun x hx hm=>tU hjs1 (by rw[<-hs.len];exact hx) hm
 have hown0:∀b,zTe L0 b->∃(j:Nat) (li:LI),j∈js/\L[j]?=some li/\li.block=some b:=by
  rintro b ⟨i,li,h1,h2⟩;have hi:i<js.length:=by rw[<-hL0];exact(jA5.1 h1).1
  obtain⟨li',h3,h4⟩:=hin i js[i] (jA2 hi);rw[h1]at h4;cases h4;exact⟨_,li,jA0 hi,h3,h2⟩
 have hnot:∀x li b,x∉js->L[x]?=some li->li.block=some b->¬zTe L0 b:=by intro x li b hx h1 h2 ho;obtain⟨j,li',hj,h3,h4⟩:=hown0 b ho;have:=hs.inj x j li li' b h1 h3 h2 h4;subst this;exact hx hj
 have hlle:LLe L L':=by
  intro x li hx;have hxl:x<L.length:=(jA5.1 hx).1;by_cases hm:x∈js
  .obtain⟨i,hi⟩:=jCv hm;obtain⟨li',h1,h2⟩:=hin i x hi;rw[hx]at h1;cases h1;obtain⟨l',h3,h4⟩:=g2.lle i li h2;exact⟨l',by rw[oE hjs hd hjb hi];exact h3,h4⟩
  .exact⟨li,by rw[hold x hxl hm];exact hx,.inl rfl⟩
 have hout:zAC H1 L' (zNl js U.length o) e:=by
  cases o with
  |ret r =>
   obtain⟨v,rfl,hv⟩:=g1;exact⟨v,rfl,Rel.vw (HLe.refl _) hg hr0 hp0 r hv⟩
  |pan v=>exact g1
 refine⟨zNl js U.length o,j7 U js (U'.map (fD js U.length)),H1,L',hout,⟨⟨g2.st.pers,hlen',fun x li o hL hU=>?_,fun x y lx ly b hx hy hbx hby=>?_,fun x li b hx hb=>?_⟩,
  ⟨g2.step.os,g2.step.tape,g2.step.output,g2.step.size,fun k hk hn=>g2.step.keep k hk fun ho=>hn (by obtain⟨j,li,_,h1,h2⟩:=hown0 k ho;exact⟨j,li,h1,h2⟩),g2.step.hle,fun b o v hv=>?_,g2.step.drawn,g2.step.dfr⟩,hlle,fun b ⟨x,li,hx,hb⟩=>?_⟩,hq⟩
 .rcases hcase x (jA5.1 hL).1 with ⟨l,hl,rfl⟩|⟨h1,h2⟩
  .rw[hgf]at hL;rw[hgs,jAf]at hU;obtain⟨o1,ho1,rfl⟩:=hU;exact(g2.st.obj l li o1 hL ho1).vw (fun cs vs h=>qE.vw (HLe.refl _) hg hr0 hp0 cs h) (fun _ _=>rfl) (HLe.refl _) (fun _ _ _=>rfl)
  .rw[hold x h1 h2]at hL;rw[holds x h1 h2]at hU;refine(hs.obj x li o hL hU).carry (fun b hb=>g2.step.keep b (hs.lt x li b hL hb) (hnot x li b h2 hL hb)) g2.step.hle hlle (fun b hb o'=>?_);cases hH:H b o' with
   |some u=>exact g2.step.hle _ _ _ hH
   |none =>
    cases hH1:H1 b o' with
    |none=>rfl
    |some u =>
     rcases g2.step.hnew b o' u hH1 with k1|k1|k1
     .rw[hH]at k1;cases k1
     .exact(hnot x li b h2 hL hb k1).elim
     .have:=hs.lt x li b hL hb;omega
 .have cross:∀(l y:Nat) (lx ly:LI),L1[l]?=some lx->lx.block=some b->y∉js->L[y]?=some ly->ly.block=some b->False:=by
   intro l y lx ly k1 k2 k3 k4 k5;rcases g2.own b ⟨l,lx,k1,k2⟩with k|k
   .exact hnot y ly b k3 k4 k5 k
   .have:=hs.lt y ly b k4 k5;omega
  rcases hcase x (jA5.1 hx).1 with ⟨l,hl,rfl⟩|⟨h1,h2⟩
  .rw[hgf]at hx;rcases hcase y (jA5.1 hy).1 with ⟨m,hm,rfl⟩|⟨h3,h4⟩
   .rw[hgf]at hy;rw[g2.st.inj l m lx ly b hx hy hbx hby]
   .rw[hold y h3 h4]at hy;exact(cross l y lx ly hx hbx h4 hy hby).elim
  .rw[hold x h1 h2]at hx;rcases hcase y (jA5.1 hy).1 with ⟨m,hm,rfl⟩|⟨h3,h4⟩
   .rw[hgf]at hy;exact(cross m x ly lx hy hby h2 hx hbx).elim
   .rw[hold y h3 h4]at hy;exact hs.inj x y lx ly b hx hy hbx hby
 .rcases hcase x (jA5.1 hx).1 with ⟨l,hl,rfl⟩|⟨h1,h2⟩
  .rw[hgf]at hx;exact g2.st.lt l li b hx hb
  .rw[hold x h1 h2]at hx;exact jCb (hs.lt x li b hx hb) g2.step.size
 .rcases g2.step.hnew b o v hv with k|k|k
  .exact .inl k
  .obtain⟨j,li,_,h1,h2⟩:=hown0 b k;exact .inr (.inl ⟨j,li,h1,h2⟩)
  .exact .inr (.inr k)
 .rcases hcase x (jA5.1 hx).1 with ⟨l,hl,rfl⟩|⟨h1,h2⟩
  .rw[hgf]at hx;rcases g2.own b ⟨l,li,hx,hb⟩with k|k
   .obtain⟨j,li',_,h1,h2⟩:=hown0 b k;exact .inl ⟨j,li',h1,h2⟩
   .exact .inr k
  .rw[hold x h1 h2]at hx;exact .inl ⟨x,li,hx,hb⟩
theorem zCE(hmono:∀vs w R R',C vs w R->(∀e w',R e w'->R' e w')->C vs w R'){args args':wF} (h:zND C args U0 Q0)(js:wA)(hd:js.Nodup)(ho:bK U j6 (q9 js) js U0)(ha:dT js args' args)
 (hnp:∀v U1,¬Q0 (.pan v) U1)(hq:∀r U1,Q0 (.ret r) U1->Q (.ret (ren js U.length r)) (j7 U js (U1.map (fD js U.length)))):zND C args' U Q :=
 zCF hmono h js hd ho ha fun o U1 h0=>by
  cases o with
  |ret r=>exact hq r U1 h0
  |pan v=>exact(hnp v U1 h0).elim
theorem sS(P:Program)(f:FuncId):∀(vs:wM) (w:World) (R R':Ending->World->Prop),Calls P f vs.toArray w R->(∀e w',R e w'->R' e w')->Calls P f vs.toArray w R':=fun _ _ _ _ h k=>h.mono k
variable{f:FuncId}{U1:St}{r:A}
theorem cZ{args args':wF} (h:Ret P f args U0 r U1)(js:wA)(hd:js.Nodup)(ho:bK U j6 (q9 js) js U0)(ha:dT js args' args)
 (hq:Q (.ret (ren js U.length r)) (j7 U js (U1.map (fD js U.length)))):aK P f args' U Q :=
 zCE (C:=fun vs w R=>Calls P f vs.toArray w R) (sS P f) (Q0:=fun o U'=>o=.ret r/\U' = U1) h js hd ho ha (fun v U1 h=>by cases h.1) (fun r' U' h=>by obtain⟨h1,rfl⟩:=h;cases h1;exact hq)
theorem zMh(P:Program)(b:Nat):∀(vs:wM) (w:World) (R R':Ending->World->Prop),(∃f tmps x y,(Instr.yield b vs.toArray).run P w=.ok (.round b f tmps x y) w/\RoundIn Fence.wide 0 P b f tmps x y w R)->(∀e w',R e w'->R' e w') ->
 ∃f tmps x y,(Instr.yield b vs.toArray).run P w=.ok (.round b f tmps x y) w/\RoundIn Fence.wide 0 P b f tmps x y w R':=fun _ _ _ _ ⟨f,tmps,x,y,h1,h2⟩ k=>⟨f,tmps,x,y,h1,h2.mono k⟩
theorem zPj{b:Nat}{args args':wF} (h:lG P b args U0 fun o τ=>o=.ret r/\τ = U1)(js:wA)(hd:js.Nodup)(ho:bK U j6 (q9 js) js U0)(ha:dT js args' args)
 (hq:Q (.ret (ren js U.length r)) (j7 U js (U1.map (fD js U.length)))):lG P b args' U Q :=
 zCE (C:=fun vs w R=>∃f tmps x y,(Instr.yield b vs.toArray).run P w=.ok (.round b f tmps x y) w/\RoundIn Fence.wide 0 P b f tmps x y w R) (zMh P b) (Q0:=fun o U'=>o=.ret r/\U' = U1) h js hd ho ha (fun v U1 h=>by cases h.1)
  (fun r' U' h=>by obtain⟨h1,rfl⟩:=h;cases h1;exact hq)
theorem tX{args:wF} 
 (h:aK P f args U0 fun o U'=>∃(r':A)(ks:wA)(fuel:Nat),o=.ret r'/\(∀i,i < U0.length->ks[i]?=some i)/\ks.Nodup/\bK U' (seen U' (q9 ks) fuel) (q9 ks) ks U1 /\
  (r=vw (seen U' (q9 ks) fuel) (q9 ks) r'\/r=nrm0 (vw (seen U' (q9 ks) fuel) (q9 ks) r'))):Ret P f args U0 r U1:=by
 intro H L w vs hs ha;refine(h H L w vs hs ha).mono fun e w' hh=>?_
 obtain⟨o,U',H',L',g1,g2,r',ks,fuel,rfl,hk,hd,ho,hr⟩:=hh;obtain⟨v,rfl,hv⟩:=g1;obtain⟨H2,L2,k1,_,k3⟩:=zJk ks fuel (by rw[hs.len];exact hk) hd ho g2;refine⟨.ret r,U1,H2,L2,⟨v,rfl,?_⟩,k1,rfl,rfl⟩;rcases hr with e|e
 .rw[e];exact k3 _ _ hv
 .rw[e];exact Rel.nrm0 _ (k3 _ _ hv)
end
end Go.Abs
