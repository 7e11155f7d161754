/- The rules by which a walk over abstract states goes on, for simp. -/
import Derived.Test.YtolkhapmieigcaaGreatDoorX6
set_option linter.unusedVariables false
set_option maxHeartbeats 8000000
set_option maxRecDepth 100000
set_option linter.unusedSimpArgs false
namespace Go.Abs
def qLb(o:Option A)(d:wD)(K:wK)(env:Env) (U:St):Prop:=match o with
 |some r=>K (env.put d r) U
 |none=>False
def qLa(o:Option A)(d:wD)(K:Env->Prop)(env:Env):Prop:=match o with
 |some r=>K (env.put d r)
 |none=>False
def zOG(o:Option wF)(J:List A->Prop):Prop:=match o with
 |some r=>J r
 |none=>False
def zXx(o:Option St)(J:St->Prop):Prop:=match o with
 |some r=>J r
 |none=>False
section
variable{P:Program}{n0:Nat}{Qp:Value->wK}{Qd:Value->St->Prop}{K':wK}{KD:Env->Prop}{Q:Ex->wK}{env:Env} {U:St}{d d':wD}{x y z:Operand}
variable{r:A}
@[simp]theorem zZt:qLb (some r) d K' env U = K' (env.put d r) U:=rfl
@[simp]theorem zZr:qLa (some r) d KD env=KD (env.put d r):=rfl
@[simp]theorem zZq{r:wF}{J:List A->Prop}:zOG (some r) J=J r:=rfl
@[simp]theorem zZu{r:St}{J:St->Prop}:zXx (some r) J=J r:=rfl
@[simp]theorem qEu:env.put none r=env:=rfl
variable{i t:Nat}
@[simp]theorem qGX:(env.put (some i) r) t=if t=i then r else env t:=rfl
@[simp]theorem qKG:ev env (.tmp t)=env t:=rfl
variable{f:FuncId}
@[simp]theorem qG7:ev env (.func f)=.clo f [] []:=rfl
@[simp]theorem qKE{k:IntKind}{n:Int}:ev env (.const (.int k n))=.lit (.int k n):=rfl
variable{b:Bool}
@[simp]theorem qG6:ev env (.const (.bool b))=.lit (.bool b):=rfl
@[simp]theorem zYJ{s:ByteArray}:ev env (.const (.string s))=.lit (.string s):=rfl
@[simp]theorem qKF:ev env (.const (.slice none 0 0))=.nil:=rfl
@[simp]theorem zWK:ev env (.const .nilFunc)=.lit .nilFunc:=rfl
@[simp]theorem zYI:ev env (.const (.pointer none))=.lit (.pointer none):=rfl
@[simp]theorem qKD{l:wM}:ev env (.const (.agg ⟨l⟩))=if aI l then .agg (l.map q9)else .any:=rfl
@[simp]theorem zVs:aI []=true:=rfl
variable{v:Value}
@[simp]theorem zT5{l:wM}:aI (v::l)=(v.oneCell'&&aI l):=rfl
@[simp]theorem qGV{k:IntKind}{n:Int}:(Value.int k n).oneCell'=true:=rfl
@[simp]theorem qEd:(Value.bool b).oneCell'=true:=rfl
@[simp]theorem zXu{s:ByteArray}:(Value.string s).oneCell'=true:=rfl
@[simp]theorem zZp{a:Option Addr}{n c:Nat}:(Value.slice a n c).oneCell'=true:=rfl
@[simp]theorem zVu{a:Option Addr}:(Value.pointer a).oneCell'=true:=rfl
@[simp]theorem zVt:(Value.nilFunc).oneCell'=true:=rfl
@[simp]theorem qGW{r:wD}:(Value.map r).oneCell'=true:=rfl
@[simp]theorem zXr{k:IntKind}{n:Int}:q9 (.int k n)=.lit (.int k n):=rfl
@[simp]theorem zVr:q9 (.bool b)=.lit (.bool b):=rfl
@[simp]theorem zSf{s:ByteArray}:q9 (.string s)=.lit (.string s):=rfl
@[simp]theorem zXs:q9 (.slice none 0 0)=.nil:=rfl
@[simp]theorem zRs:q9 .nilFunc=.lit .nilFunc:=rfl
@[simp]theorem zSe:q9 (.pointer none)=.lit (.pointer none):=rfl
@[simp]theorem zSd:q9 (.map none)=.lit (.map none):=rfl
@[simp]theorem zUC:cellsOf .nil=some [.nil]:=rfl
variable{cs:wF}
@[simp]theorem zU7:cellsOf (.agg cs)=some cs:=rfl
@[simp]theorem zUA:cellsOf (.lit v)=if v.oneCell' then some [.lit v]else none:=rfl
@[simp]theorem zW0{n:Nat}:cellsOf (.sl n cs)=some [.sl n cs]:=rfl
@[simp]theorem zU9{n:Nat}:cellsOf (.fsl n cs)=some [.fsl n cs]:=rfl
@[simp]theorem zUE{l n:Nat}:cellsOf (.row l n)=some [.row l n]:=rfl
@[simp]theorem zUD{l n:Nat}:cellsOf (.ptr l n)=some [.ptr l n]:=rfl
variable{l:Nat}
@[simp]theorem zUB:cellsOf (.map l)=some [.map l]:=rfl
@[simp]theorem zUH{l n o k c:Nat}:cellsOf (.win l n o k c)=some [.win l n o k c]:=rfl
@[simp]theorem zUF{l n o:Nat}:cellsOf (.rwp l n o)=some [.rwp l n o]:=rfl
@[simp]theorem zSx:cellsOf (.rptr cs)=some [.rptr cs]:=rfl
@[simp]theorem zU8{a b:wF}:cellsOf (.clo f a b)=some [.clo f a b]:=rfl
@[simp]theorem zXy:fH true cs=some (.agg cs):=rfl
@[simp]theorem zVv{c:A}:fH false [c]=some c:=rfl
@[simp]theorem qDv{n:Nat}:ldA U n (.rptr cs)=sub cs 0 n:=rfl
def zUY:Option AObj->Nat->Nat->Option wF
 |some (.box cs),off,n=>sub cs off n
 |_,_,_=>none
def zUZ:Option AObj->Nat->Nat->Nat->Option wF
 |some (.row _ _ _ k cs),m,off,n=>if m=k then sub cs off n else none
 |_,_,_,_=>none
@[simp]theorem zXd{off n:Nat}:zUY (some (.box cs)) off n=sub cs off n:=rfl
variable{fz:Bool}{e:TypeId}
@[simp]theorem zXe{s k:Nat}{m off n:Nat}:zUZ (some (.row fz e s k cs)) m off n=if m=k then sub cs off n else none:=rfl
@[simp]theorem qGG{l off n:Nat}:ldA U n (.ptr l off)=zUY U[l]? off n:=by
 simp only[ldA];cases U[l]? with
 |none=>rfl
 |some o=>cases o<;>rfl
@[simp]theorem qGH{l m off n:Nat}:ldA U n (.rwp l m off)=zUZ U[l]? m off n:=by
 simp only[ldA];cases U[l]? with
 |none=>rfl
 |some o=>cases o<;>rfl
@[simp]theorem qLh{off n:Nat}:sub cs off n=if off+n<=cs.length then some ((cs.drop off).take n)else none:=rfl
def zV3:Option AObj->St->List A->Nat->Nat->Option St
 |some (.box ds),U,cs,l,off=>if off+cs.length<=ds.length then some (U.set l (.box (ds.take off++cs++ds.drop (off+cs.length))))else none
 |_,_,_,_,_=>none
def zV4:Option AObj->St->List A->Nat->Nat->Nat->Option St
 |some (.row false e sz k ds),U,cs,l,m,off=>if m=k/\off+cs.length<=ds.length then some (U.set l (.row false e sz k (ds.take off++cs++ds.drop (off+cs.length))))else none
 |_,_,_,_,_,_=>none
variable{off:Nat}
@[simp]theorem zXJ{ds:wF}:zV3 (some (.box ds)) U cs l off=if off+cs.length<=ds.length then some (U.set l (.box (ds.take off++cs++ds.drop (off+cs.length))))else none:=rfl
@[simp]theorem zXK{sz k:Nat}{ds:wF}{m:Nat}:zV4 (some (.row false e sz k ds)) U cs l m off=if m=k/\off+cs.length<=ds.length then some (U.set l (.row false e sz k (ds.take off++cs++ds.drop (off+cs.length))))else none:=rfl
@[simp]theorem qHk:stA U cs (.ptr l off)=zV3 U[l]? U cs l off:=by
 simp only[stA];cases U[l]? with
 |none=>rfl
 |some o=>cases o<;>rfl
@[simp]theorem qHl{m:Nat}:stA U cs (.rwp l m off)=zV4 U[l]? U cs l m off:=by
 simp only[stA];cases U[l]? with
 |none=>rfl
 |some o =>
  cases o<;>try rfl
  rename_i fz e s n ds;cases fz<;>rfl
def zV0:Option AObj->Nat->Nat->(List A->Prop)->Prop
 |some (.row _ _ s m cs),n,sz,J=>n=m/\s=sz/\J cs
 |_,_,_,_=>False
@[simp]theorem zLO{s m n sz:Nat}{J:List A->Prop}:zV0 (some (.row fz e s m cs)) n sz J=(n=m/\s=sz/\J cs):=rfl
@[simp]theorem zYs:(b==true)=b:=by cases b<;>rfl
@[simp]theorem zWC{A B:wK}:sD true A B env U = A env U:=by simp[sD]
@[simp]theorem zUN{A B:wK}:sD false A B env U = B env U:=by simp[sD]
@[simp]theorem qEB:zES d K' env U = K' (env.put d (.lit undef)) U:=rfl
@[simp]theorem qEh:outK d env K' Qp (.ret r) U = K' (env.put d r) U:=rfl
@[simp]theorem qEg:outK d env K' Qp (.pan v) U = Qp v env U:=rfl
@[simp]theorem qEL{J:wK}:thn J Q .norm=J:=rfl
@[simp]theorem qHo{J:wK}:thn J Q .ret=Q .ret:=rfl
@[simp]theorem qEK{J:wK}:thn J Q (.exit i)=Q (.exit i):=rfl
@[simp]theorem qHn{J:wK}:thn J Q (.pan v)=Q (.pan v):=rfl
@[simp]theorem qB6{id:Nat}:blk id Q .norm=Q .norm:=rfl
@[simp]theorem qFp{id:Nat}:blk id Q .ret=Q .ret:=rfl
@[simp]theorem qB5{id i:Nat}:blk id Q (.exit i)=if i=id then Q .norm else Q (.exit i):=rfl
@[simp]theorem qFo{id:Nat}:blk id Q (.pan v)=Q (.pan v):=rfl
variable{I:Nat->wK}
@[simp]theorem qHe{n:Nat}:rnd n0 I n Q .ret=Q .ret:=rfl
@[simp]theorem qE1{n i:Nat}:rnd n0 I n Q (.exit i)=Q (.exit i):=rfl
@[simp]theorem qHd{n:Nat}:rnd n0 I n Q (.pan v)=Q (.pan v):=rfl
variable{rs:List RS}
@[simp]theorem qDd{R:Out->St->Prop}:fin rs R .norm=zEI rs R:=rfl
@[simp]theorem qG9{R:Out->St->Prop}:fin rs R .ret=zEI rs R:=rfl
@[simp]theorem qG8{R:Out->St->Prop}:fin rs R (.pan v) env U = R (.pan v) U:=rfl
@[simp]theorem zZ1{R:Out->St->Prop}:zEI [.slot t] R env U = R (.ret (env t)) U:=rfl
@[simp]theorem qE0{u:Nat}{R:Out->St->Prop}:zEI [.slot t,.slot u] R env U = R (.ret (.tup [env t,env u])) U:=rfl
@[simp]theorem zX5{u v:Nat}{R:Out->St->Prop}:zEI [.slot t,.slot u,.slot v] R env U = R (.ret (.tup [env t,env u,env v])) U:=rfl
variable{a:A}
@[simp]theorem zSq{l:wF}:iX (a::l) 0=a:=rfl
@[simp]theorem zSp{l:wF}{n:Nat}:iX (a::l) (n+1)=iX l n:=by simp[iX]
@[simp]theorem zU0{n:Nat}:iX [] n=.lit undef:=by simp[iX]
@[simp]theorem qL1{k:K}{args:wF}{R:Out->St->Prop}:wpF P k rs args U R=wpK P U.length k (fin rs R) (iX args) U:=rfl
@[simp]theorem qFg:wpK P n0 .skip Q env U = Q .norm env U:=rfl
@[simp]theorem qH9:wpK P n0 .ret Q env U = Q .ret env U:=rfl
@[simp]theorem qFe:wpK P n0 (.exit i) Q env U = Q (.exit i) env U:=rfl
@[simp]theorem qHB{a b:K}:wpK P n0 (.seq a b) Q env U = wpK P n0 a (thn (wpK P n0 b Q) Q) env U:=rfl
@[simp]theorem qAs{a:K}:wpK P n0 (.block i a) Q env U = wpK P n0 a (blk i Q) env U:=rfl
@[simp]theorem qFf{a:K}:wpK P n0 (.loop a) Q env U = zIa n0 (wpK P n0 a) Q env U:=rfl
@[simp]theorem qL2{a:K}:wpK P n0 (.wk a) Q env U = Wk n0 (wpK P n0 a Q) env U:=rfl
@[simp]theorem qH8{l:List KG}:wpK P n0 (.ops l) Q env U = oC P (fun v=>Q (.pan v)) (Q .norm) l env U:=rfl
@[simp]theorem qFd{l:List (Nat×Nat×KG)}:wpK P n0 (.dops l) Q env U = wpD P (zLC Q) (Q .norm) l env U:=rfl
@[simp]theorem qHA{ps:wA}{a b:K}:wpK P n0 (.rng x ps a b) Q env U = zVG P n0 x ps (fun n=>wpK P n a) (fun n=>wpK P n b) Q env U:=rfl
@[simp]theorem zYo{S:St}{J:wK}:zSr S J .norm env U = (U = S/\J env U):=rfl
@[simp]theorem zYG{S:St}:zS9 n0 S .norm env U = Wk n0 (fun _ U'=>U'=S) env U:=rfl
@[simp]theorem zZw{xs:wF}:tY env [] xs=env:=by cases xs<;>rfl
@[simp]theorem zX2{p:Nat}{ps:wA}{xs:wF}:tY env (p::ps) (a::xs)=tY (env.put (some p) a) ps xs:=rfl
@[simp]theorem zW1{b:Nat}:cellsOf (yv b)=some [yv b]:=rfl
def zUO(a:A)(A B:wK)(env:Env) (U:St):Prop:=match a with
 | .lit (.bool t)=>sD t A B env U
 |_=>False
@[simp]theorem zWD{t:Bool}{A B:wK}:zUO (.lit (.bool t)) A B env U = sD t A B env U:=rfl
@[simp]theorem qFc{a b:K}:wpK P n0 (.cond x a b) Q env U = zUO (ev env x) (wpK P n0 a Q) (wpK P n0 b Q) env U:=rfl
@[simp]theorem qAv:oC P Qp K' [] env U = K' env U:=rfl
@[simp]theorem zYi{o:KOp}{l:List KG}:oC P Qp K' (⟨none,o⟩::l) env U = wpO P Qp (oC P Qp K' l) o env U:=rfl
def zBM(a:A)(want:Bool)(A B:wK)(env:Env) (U:St):Prop:=match a with
 | .lit (.bool b)=>sD (b==want) A B env U
 | .lit (.tuple _)=>B env U
 |_=>False
variable{want:Bool}
@[simp]theorem zUT{A B:wK}:zBM (.lit (.bool b)) want A B env U = sD (b==want) A B env U:=rfl
@[simp]theorem zSR{A B:wK}:zBM (.lit undef) want A B env U = B env U:=rfl
variable{s:Nat}
@[simp]theorem zV9{o:KOp}{l:List KG}:oC P Qp K' (⟨some (s,want),o⟩::l) env U = zBM (env s) want (wpO P Qp (oC P Qp K' l) o) (zES o.dst (oC P Qp K' l)) env U:=by
 simp only[oC,wpG,zBM];generalize env s=a;cases a<;>try rfl
 all_goals (rename_i v;cases v<;>rfl)
def zMY(a:A)(x y:A)(J:A->Prop):Prop:=match a with
 | .lit (.bool t)=>J (if t then x else y)
 |_=>False
variable{J:A->Prop}
@[simp]theorem zXz{t:Bool}{b:A}:zMY (.lit (.bool t)) a b J=J (if t then a else b):=rfl
def mD(o:Option A)(J:A->Prop):Prop:=match o with
 |some r=>J r
 |none=>False
@[simp]theorem zZs:mD (some r) J=J r:=rfl
theorem o8{o:Option A}:qZ (o.map fun r=>(True,r)) J=mD o J:=by cases o<;>simp[qZ,mD]
@[simp]theorem qHS:wpO P Qp K' (.mov d x) env U = K' (env.put d (ev env x)) U:=by simp[wpO,qZ,zO,KOp.dst]
theorem zOH:qZ (zO env U (.pick d x y z)) J=zMY (ev env x) (ev env y) (ev env z) J:=by
 simp only[zO,zMY,qZ];generalize ev env x=a;cases a<;>try rfl
 rename_i v;cases v<;>simp
@[simp]theorem qFm:wpO P Qp K' (.pick d x y z) env U = zMY (ev env x) (ev env y) (ev env z) fun r=>K' (env.put d r) U:=zOH (d:=d)
variable{zs:wM}
@[simp]theorem qAt:wpO P Qp K' (.alloc d zs) env U = K' (env.put d (.ptr U.length 0)) (U++[.box (zs.map q9)]):=rfl
@[simp]theorem qHG:wpO P Qp K' (.box d x) env U = zOG (cellsOf (ev env x)) fun cs=>K' (env.put d (.ptr U.length 0)) (U++[.box cs]):=rfl
variable{agg:Bool}
@[simp]theorem qL3{n:Nat}:wpO P Qp K' (.ld d x n agg) env U = mD ((ldA U n (ev env x)).bind (fH agg)) fun r=>K' (env.put d r) U:=o8
@[simp]theorem qL5{n:Nat}:wpO P Qp K' (.st d x y n) env U = zOG (cellsOf (ev env y)) fun cs=>cs.length=n/\zXx (stA U cs (ev env x)) fun U'=>K' (env.put d (.lit undef)) U':=by
 simp only[wpO,zOG,zXx];cases cellsOf (ev env y)with
 |none=>rfl
 |some cs =>
  simp only;by_cases h:cs.length=n
  .simp only[h,if_true,true_and];cases stA U cs (ev env x)<;>rfl
  .simp[h]
def zCv(U:St)(off:Nat):A->Option A
 | .ptr l o=>some (.ptr l (o+off))
 | .rptr cs=>some (.rptr (cs.drop off))
 | .rwp l n o=>match U[l]? with
  |some (.row _ _ _ m _)=>if n=m then some (.rwp l n (o+off))else none
  |_=>none
 |_=>none
variable{o:Nat}
@[simp]theorem zYj:zCv U off (.ptr l o)=some (.ptr l (o+off)):=rfl
@[simp]theorem zVK:zCv U off (.rptr cs)=some (.rptr (cs.drop off)):=rfl
theorem zD1:zO env U (.addr d x off)=(zCv U off (ev env x)).map fun r=>(True,r):=by
 simp only[zO];generalize ev env x=a;cases a<;>simp only[zCv]<;>try rfl
 rename_i l n o;cases U[l]? with
 |none=>rfl
 |some ob =>
  cases ob<;>try rfl
  simp only;split<;>rfl
@[simp]theorem qFh:wpO P Qp K' (.addr d x off) env U = mD (zCv U off (ev env x)) fun r=>K' (env.put d r) U:=by show qZ (zO env U (.addr d x off)) _=_;rw[zD1,o8];rfl
def tN(U:St)(sz:Nat)(a i:A)(J:A->Prop):Prop:=match a,i with
 | .sl n cs,.lit (.int _ j)=>((0<=j/\j<n)/\j.toNat*sz<cs.length)/\J (.rptr (cs.drop (j.toNat*sz)))
 | .fsl n cs,.lit (.int _ j)=>((0<=j/\j<n)/\j.toNat*sz<cs.length)/\J (.rptr (cs.drop (j.toNat*sz)))
 | .row l n,.lit (.int _ j)=>match U[l]? with
  |some (.row _ _ s m _)=>if n=m/\s=sz then (0<=j/\j<n)/\J (.rwp l n (j.toNat*sz))else False
  |_=>False
 | .win l n o k' _,.lit (.int _ j)=>match U[l]? with
  |some (.row _ _ s m _)=>if n=m/\s=sz then (0<=j/\j<k')/\J (.rwp l n (o+j.toNat*sz))else False
  |_=>False
 |_,_=>False
variable{sz:Nat}
theorem zGm:qZ (zO env U (.idx d x y sz)) J=tN U sz (ev env x) (ev env y) J:=by
 simp only[zO,tN,qZ];generalize ev env x=a;generalize ev env y=b;cases a<;>cases b<;>try rfl
 all_goals (rename_i v;cases v<;>try rfl)
 .rename_i l n k j;simp only;cases U[l]? with
  |none=>rfl
  |some ob =>
   cases ob<;>try rfl
   rename_i fz e s m cs;by_cases h:n=m/\s=sz<;>simp[h]
 .rename_i l n o k' c k j;simp only;cases U[l]? with
  |none=>rfl
  |some ob =>
   cases ob<;>try rfl
   rename_i fz e s m cs;by_cases h:n=m/\s=sz<;>simp[h]
@[simp]theorem qHL:wpO P Qp K' (.idx d x y sz) env U = tN U sz (ev env x) (ev env y) fun r=>K' (env.put d r) U:=zGm (d:=d)
variable{j:Int}
@[simp]theorem qGD{sz n:Nat}{k:IntKind}:tN U sz (.sl n cs) (.lit (.int k j)) J=(((0<=j/\j<n)/\j.toNat*sz<cs.length)/\J (.rptr (cs.drop (j.toNat*sz)))):=rfl
@[simp]theorem qDh{sz n:Nat}{k:IntKind}:tN U sz (.fsl n cs) (.lit (.int k j)) J=(((0<=j/\j<n)/\j.toNat*sz<cs.length)/\J (.rptr (cs.drop (j.toNat*sz)))):=rfl
def zAR(len sz:Nat)(a i:A)(J:A->Prop):Prop:=match a,i with
 | .ptr l o,.lit (.int _ j)=>(0<=j/\j<len)/\J (.ptr l (o+j.toNat*sz))
 | .rptr cs,.lit (.int _ j)=>((0<=j/\j<len)/\j.toNat*sz<cs.length)/\J (.rptr (cs.drop (j.toNat*sz)))
 |_,_=>False
@[simp]theorem zSX{len sz:Nat}{k:IntKind}:zAR len sz (.rptr cs) (.lit (.int k j)) J=(((0<=j/\j<len)/\j.toNat*sz<cs.length)/\J (.rptr (cs.drop (j.toNat*sz)))):=rfl
@[simp]theorem zUV{len sz l o:Nat}{k:IntKind}:zAR len sz (.ptr l o) (.lit (.int k j)) J=((0<=j/\j<len)/\J (.ptr l (o+j.toNat*sz))):=rfl
theorem zHq{len sz:Nat}:qZ (zO env U (.idxarr d x y len sz)) J=zAR len sz (ev env x) (ev env y) J:=by
 simp only[zO,zAR,qZ];generalize ev env x=a;generalize ev env y=b;cases a<;>first
  |rfl
  |(cases b<;>first
   |rfl
   |(rename_i v;cases v<;>rfl))
@[simp]theorem zYh{len sz:Nat}:wpO P Qp K' (.idxarr d x y len sz) env U = zAR len sz (ev env x) (ev env y) fun r=>K' (env.put d r) U:=zHq (d:=d)
def nF(op:BinOp)(a b:A)(J:A->Prop):Prop:=match a,b with
 | .lit (.int k m),.lit (.int k' n)=>if k=k' then (match oU op k m n with|some (p,r)=>p/\J r|none=>False)else False
 | .lit (.string s),.lit (.string t)=>(match zRG op s t with|some (p,r)=>p/\J r|none=>False)
 |_,_=>False
variable{op:BinOp}
theorem zN3:qZ (zO env U (.bin d op x y)) J=nF op (ev env x) (ev env y) J:=by
 simp only[zO,nF,qZ];generalize ev env x=a;generalize ev env y=b;cases a<;>try rfl
 rename_i u;cases b<;>try(cases u<;>rfl)
 rename_i v;cases u<;>cases v<;>try rfl
 case lit.lit.int.int k m k' n =>
  by_cases h:k=k'
  .simp only[h,if_true];cases oU op k' m n<;>rfl
  .simp[h]
@[simp]theorem qHF:wpO P Qp K' (.bin d op x y) env U = nF op (ev env x) (ev env y) fun r=>K' (env.put d r) U:=zN3 (d:=d)
@[simp]theorem qB3{s t:ByteArray}:nF .add (.lit (.string s)) (.lit (.string t)) J=(s.size+t.size<=1000000/\J (.lit (.string (s++t)))):=rfl
@[simp]theorem qBv{k:IntKind}{m n:Int}:nF .add (.lit (.int k m)) (.lit (.int k n)) J=J (.lit (.int k (k.wrap (m+n)))):=by simp[nF,oU]
@[simp]theorem qB4{k:IntKind}{m n:Int}:nF .sub (.lit (.int k m)) (.lit (.int k n)) J=J (.lit (.int k (k.wrap (m-n)))):=by simp[nF,oU]
@[simp]theorem qB0{k:IntKind}{m n:Int}:nF .mul (.lit (.int k m)) (.lit (.int k n)) J=J (.lit (.int k (k.wrap (m*n)))):=by simp[nF,oU]
@[simp]theorem qB1{k:IntKind}{m n:Int}:nF .quo (.lit (.int k m)) (.lit (.int k n)) J=(n≠0/\J (.lit (.int k (k.wrap (m.tdiv n))))):=by simp[nF,oU]
@[simp]theorem qB2{k:IntKind}{m n:Int}:nF .rem (.lit (.int k m)) (.lit (.int k n)) J=(n≠0/\J (.lit (.int k (m.tmod n)))):=by simp[nF,oU]
@[simp]theorem qBz{k:IntKind}{m n:Int}:nF .lss (.lit (.int k m)) (.lit (.int k n)) J=J (.lit (.bool (decide (m<n)))):=by simp[nF,oU]
@[simp]theorem qBy{k:IntKind}{m n:Int}:nF .leq (.lit (.int k m)) (.lit (.int k n)) J=J (.lit (.bool (decide (m<=n)))):=by simp[nF,oU]
@[simp]theorem qBx{k:IntKind}{m n:Int}:nF .gtr (.lit (.int k m)) (.lit (.int k n)) J=J (.lit (.bool (decide (n<m)))):=by simp[nF,oU]
@[simp]theorem qBw{k:IntKind}{m n:Int}:nF .geq (.lit (.int k m)) (.lit (.int k n)) J=J (.lit (.bool (decide (n<=m)))):=by simp[nF,oU]
noncomputable def eqA(k:SK) (ng:Bool) (a b:A):Option A:=(eM k a b).map (cK ng)
noncomputable def zBJ(ks:List SK) (ng:Bool) (a b:A):Option A:=match a,b with
 | .agg xs,.agg ys=>(yE ks xs ys).map (cK ng)
 |_,_=>none
variable{ng:Bool}
theorem zQz{k:SK}:qZ (zO env U (.eqv d ng k x y)) J=mD (eqA k ng (ev env x) (ev env y)) J:=by simp only[zO,eqA];cases eM k (ev env x) (ev env y)<;>simp[qZ,mD]
theorem zQy{ks:List SK}:qZ (zO env U (.eqs d ng ks x y)) J=mD (zBJ ks ng (ev env x) (ev env y)) J:=by
 simp only[zO,zBJ];generalize ev env x=a;generalize ev env y=b;cases a<;>cases b<;>try rfl
 rename_i xs ys;simp only;cases yE ks xs ys<;>simp[qZ,mD]
@[simp]theorem qHJ{k:SK}:wpO P Qp K' (.eqv d ng k x y) env U = mD (eqA k ng (ev env x) (ev env y)) fun r=>K' (env.put d r) U:=zQz (d:=d)
@[simp]theorem qHI{ks:List SK}:wpO P Qp K' (.eqs d ng ks x y) env U = mD (zBJ ks ng (ev env x) (ev env y)) fun r=>K' (env.put d r) U:=zQy (d:=d)
@[simp]theorem qG3{k:IntKind}{m n:Int}:eqA .i false (.lit (.int k m)) (.lit (.int k n))=some (.lit (.bool (decide (m=n)))):=by simp[eqA,eM,cK]
@[simp]theorem qCX{k:IntKind}{m n:Int}:eqA .i true (.lit (.int k m)) (.lit (.int k n))=some (.lit (.bool (decide (m≠n)))):=by simp[eqA,eM,cK]
@[simp]theorem qCW{m n:Bool}:eqA .b false (.lit (.bool m)) (.lit (.bool n))=some (.lit (.bool (decide (m=n)))):=by simp[eqA,eM,cK]
@[simp]theorem zYH{m n:Bool}:eqA .b true (.lit (.bool m)) (.lit (.bool n))=some (.lit (.bool (decide (m≠n)))):=by simp[eqA,eM,cK]
def zTu(a:A)(J:A->Prop):Prop:=match a with | .lit (.int k m)=>J (.lit (.int k (k.wrap (0-m))))|_=>False
@[simp]theorem qDL{k:IntKind}{m:Int}:zTu (.lit (.int k m)) J=J (.lit (.int k (k.wrap (0-m)))):=rfl
theorem zRl:qZ (zO env U (.neg d x)) J=zTu (ev env x) J:=by
 simp only[zO,zTu];generalize ev env x=a;cases a<;>try rfl
 rename_i v;cases v<;>simp[qZ]
@[simp]theorem qHT:wpO P Qp K' (.neg d x) env U = zTu (ev env x) fun r=>K' (env.put d r) U:=zRl (d:=d)
def zTx(a:A)(J:A->Prop):Prop:=match a with | .lit (.bool b)=>J (.lit (.bool !b))|_=>False
@[simp]theorem zZc:zTx (.lit (.bool b)) J=J (.lit (.bool !b)):=rfl
theorem zRn:qZ (zO env U (.not d x)) J=zTx (ev env x) J:=by
 simp only[zO,zTx];generalize ev env x=a;cases a<;>try rfl
 rename_i v;cases v<;>simp[qZ]
@[simp]theorem qHU:wpO P Qp K' (.not d x) env U = zTx (ev env x) fun r=>K' (env.put d r) U:=zRn (d:=d)
def oY(U:St)(a:A)(J:A->Prop):Prop:=match a with
 | .nil=>J (.lit (.int .i64 0))
 | .sl n _=>n<=maxLen->J (.lit (.int .i64 n))
 | .fsl n _=>n<=maxLen->J (.lit (.int .i64 n))
 | .row l n=>match U[l]? with
  |some (.row _ _ _ m _)=>if n=m then J (.lit (.int .i64 n))else False
  |_=>False
 | .win l n _ k _=>match U[l]? with
  |some (.row _ _ _ m _)=>if n=m then J (.lit (.int .i64 k))else False
  |_=>False
 |_=>False
@[simp]theorem qD1:oY U .nil J=J (.lit (.int .i64 0)):=rfl
@[simp]theorem qGJ{n:Nat}:oY U (.sl n cs) J=(n<=maxLen->J (.lit (.int .i64 n))):=rfl
@[simp]theorem qD0{n:Nat}:oY U (.fsl n cs) J=(n<=maxLen->J (.lit (.int .i64 n))):=rfl
@[simp]theorem qHP:wpO P Qp K' (.len d false x) env U = oY U (ev env x) fun r=>K' (env.put d r) U:=by
 simp only[wpO,oY,zO];generalize ev env x=a;cases a<;>simp only[qZ,true_and]
 .rename_i l n;cases U[l]? with
  |none=>rfl
  |some ob =>
   cases ob<;>try rfl
   rename_i fz e s m cs;by_cases h:n=m<;>simp[h]
 .rename_i l n _ k _;cases U[l]? with
  |none=>rfl
  |some ob =>
   cases ob<;>try rfl
   rename_i fz e s m cs;by_cases h:n=m<;>simp[h]
def zMJ(a:A)(J:A->Prop):Prop:=match a with | .lit (.string s)=>J (.lit (.int .i64 s.size))|_=>False
@[simp]theorem zTe{s:ByteArray}:zMJ (.lit (.string s)) J=J (.lit (.int .i64 s.size)):=rfl
theorem zO0:qZ (zO env U (.len d true x)) J=zMJ (ev env x) J:=by
 simp only[zO,zMJ];generalize ev env x=a;cases a<;>try rfl
 rename_i v;cases v<;>simp[qZ]
@[simp]theorem qFk:wpO P Qp K' (.len d true x) env U = zMJ (ev env x) fun r=>K' (env.put d r) U:=zO0 (d:=d)
def mmA(mx:Bool):List A->Option A
 | .lit (.int k a)::rest=>tU mx a rest k
 |_=>none
@[simp]theorem zVb{k:IntKind}{m n:Int}:mmA true [.lit (.int k m),.lit (.int k n)]=some (.lit (.int k (if m<n then n else m))):=by simp[mmA,tU]
@[simp]theorem zVc{k:IntKind}{m n:Int}:mmA false [.lit (.int k m),.lit (.int k n)]=some (.lit (.int k (if n<m then n else m))):=by simp[mmA,tU]
variable{xs:List Operand}{mx:Bool}
theorem zTr:qZ (zO env U (.mm d mx xs)) J=mD (mmA mx (xs.map (ev env))) J:=by
 simp only[zO];generalize xs.map (ev env)=l;cases l with
 |nil=>rfl
 |cons a l =>
  cases a<;>try rfl
  rename_i v;cases v<;>try rfl
  exact o8
@[simp]theorem qL4:wpO P Qp K' (.mm d mx xs) env U = mD (mmA mx (xs.map (ev env))) fun r=>K' (env.put d r) U:=zTr (d:=d)
def zSO(i:Nat)(a:A)(J:A->Prop):Prop:=match a with | .tup vs=>(match vs[i]? with|some r=>J r|none=>False)|_=>False
@[simp]theorem qDc{vs:wF}:zSO i (.tup vs) J=mD vs[i]? J:=rfl
theorem zQ2:qZ (zO env U (.ext d x i)) J=zSO i (ev env x) J:=by
 simp only[zO,zSO];generalize ev env x=a;cases a<;>try rfl
 rename_i vs;simp only;cases vs[i]?<;>simp[qZ]
@[simp]theorem qHK:wpO P Qp K' (.ext d x i) env U = zSO i (ev env x) fun r=>K' (env.put d r) U:=zQ2 (d:=d)
@[simp]theorem qHH{a b:List Operand}:wpO P Qp K' (.clo d f a b) env U = K' (env.put d (.clo f (a.map (ev env)) (b.map (ev env)))) U:=by simp[wpO,zO,qZ,KOp.dst]
variable{ps:List (Nat×Nat×Operand)}
theorem zKE:qZ (zO env U (.build d zs ps)) J=mD ((eD (zs.map q9) (ps.map fun(o,s,x)=>(o,s,ev env x))).map .agg) J:=by simp only[zO];cases eD (zs.map q9) (ps.map fun(o,s,x)=>(o,s,ev env x))<;>simp[qZ,mD]
def zLp(a:A)(neg:Bool)(J:A->Prop):Prop:=match a with
 | .lit (.pointer none)=>J (.lit (.bool !neg))
 | .rptr _=>J (.lit (.bool neg))
 | .ptr _ _=>J (.lit (.bool neg))
 |_=>False
variable{neg:Bool}
@[simp]theorem qDo:zLp (.lit (.pointer none)) neg J=J (.lit (.bool !neg)):=rfl
@[simp]theorem zYT:zLp (.rptr cs) neg J=J (.lit (.bool neg)):=rfl
@[simp]theorem qDp:zLp (.ptr l o) neg J=J (.lit (.bool neg)):=rfl
@[simp]theorem qHN:wpO P Qp K' (.isp d neg x) env U = zLp (ev env x) neg fun r=>K' (env.put d r) U:=by
 show qZ (zO env U (.isp d neg x)) _=_;simp only[zO];generalize ev env x=a;cases a with
 |lit v=>cases v with
  |pointer ad=>cases ad<;>simp[qZ,zLp,KOp.dst]
  |_=>rfl
 |rptr cs=>simp[qZ,zLp,KOp.dst]
 |ptr l o=>simp[qZ,zLp,KOp.dst]
 |_=>rfl
def qDA(t:TypeId)(a:A):A:=match a with
 | .lit v=>.lit (.iface t v)
 |_=>.any
@[simp]theorem qDB{t:TypeId}:qDA t (.lit v)=.lit (.iface t v):=rfl
@[simp]theorem qHQ{t:TypeId}:wpO P Qp K' (.mki d t x) env U = K' (env.put d (qDA t (ev env x))) U:=by simp only[wpO,zO,qZ,KOp.dst,true_and];generalize ev env x=a;cases a<;>rfl
def qEj(Qp:Value->wK)(env:Env) (U:St)(a:A):Prop:=match a with
 | .lit (.iface t v)=>Qp (.iface t v) env U
 |_=>False
@[simp]theorem qEk{t:TypeId}:qEj Qp env U (.lit (.iface t v))=Qp (.iface t v) env U:=rfl
@[simp]theorem qHV:wpO P Qp K' (.pan d x) env U = qEj Qp env U (ev env x):=rfl
@[simp]theorem qAu:wpO P Qp K' (.build d zs ps) env U = mD ((eD (zs.map q9) (ps.map fun(o,s,x)=>(o,s,ev env x))).map .agg) fun r=>K' (env.put d r) U:=zKE (d:=d)
@[simp]theorem zYg{sz n:Nat}:wpO P Qp K' (.bslice d e sz n zs ps) env U = mD ((eD (zs.map q9) (ps.map fun(o,s,x)=>(o,s,ev env x))).map (.fsl n)) fun r=>K' (env.put d r) U:=by simp only[wpO,mD];cases eD (zs.map q9) (ps.map fun(o,s,x)=>(o,s,ev env x))<;>simp
@[simp]theorem qFi{sz n:Nat}:wpO P Qp K' (.brow d e sz n zs ps) env U = zOG (eD (zs.map q9) (ps.map fun(o,s,x)=>(o,s,ev env x))) fun cs=>K' (env.put d (.row U.length n)) (U++[.row false e sz n cs]):=by simp only[wpO,zOG];cases eD (zs.map q9) (ps.map fun(o,s,x)=>(o,s,ev env x))<;>simp
def zOw(a:A)(neg:Bool)(J:A->Prop):Prop:=match a with
 | .nil=>J (.lit (.bool !neg))
 | .sl n _=>n≠0/\J (.lit (.bool neg))
 | .fsl n _=>n≠0/\J (.lit (.bool neg))
 |_=>False
@[simp]theorem qDn:zOw .nil neg J=J (.lit (.bool !neg)):=rfl
@[simp]theorem qGE{n:Nat}:zOw (.sl n cs) neg J=(n≠0/\J (.lit (.bool neg))):=rfl
@[simp]theorem qDm{n:Nat}:zOw (.fsl n cs) neg J=(n≠0/\J (.lit (.bool neg))):=rfl
theorem zQP:qZ (zO env U (.isn d neg x)) J=zOw (ev env x) neg J:=by simp only[zO,zOw,qZ];generalize ev env x=a;cases a<;>simp
def zTI(o:Option AObj) (U:St)(l n sz:Nat)(h:Int)(J:A->St->Prop):Prop:=match o with
 |some (.row false e s m cs)=>(n=m/\s=sz/\0<=h/\h<=n/\n≠0)/\J (.row U.length h.toNat) (U.set l .dead++[.row false e sz h.toNat (cs.take (h.toNat*sz))])
 |_=>False
@[simp]theorem zZD{e s m l n sz:Nat}{h:Int}{J:A->St->Prop}:zTI (some (.row false e s m cs)) U l n sz h J=((n=m/\s=sz/\0<=h/\h<=n/\n≠0)/\J (.row U.length h.toNat) (U.set l .dead++[.row false e sz h.toNat (cs.take (h.toNat*sz))])):=rfl
def zXF(U:St)(sz:Nat)(a b:A)(J:A->St->Prop):Prop:=match a,b with
 | .row l n,.lit (.int _ h)=>zTI U[l]? U l n sz h J
 |_,_=>False
@[simp]theorem qEA{l n sz:Nat}{k:IntKind}{h:Int}{J:A->St->Prop}:zXF U sz (.row l n) (.lit (.int k h)) J=zTI U[l]? U l n sz h J:=rfl
@[simp]theorem qHW:wpO P Qp K' (.shr d x sz y) env U = zXF U sz (ev env x) (ev env y) fun r τ=>K' (env.put d r) τ:=by simp only[wpO,zXF,zTI];generalize ev env x=a;generalize ev env y=b;cases a<;>cases b<;>first|rfl|(rename_i v;cases v<;>rfl)
def zSn(ob:Option AObj) (U:St)(e:TypeId)(sz bytes:Nat)(l n o k c m:Nat)(ys:wF)(J:A->St->Prop):Prop:=match ob with
 |some (.row false e' s n' cs)=>(ys.length=m*sz/\m≠0/\n=n'/\e'=e/\s=sz/\c=sz/\o+k*sz=n*sz/\n+m<=maxLen/\(n+m)*bytes<=140737488355328) /\
  J (.win l (n+m) o (k+m) sz) (U.set l (.row false e sz (n+m) (cs++ys)))/\J (.win U.length (k+m) 0 (k+m) sz) (U++[.row false e sz (k+m) (cs.drop o++ys)])
 |_=>False
variable{e':TypeId}{ys:wF}
@[simp]theorem zYm{n':Nat}{sz bytes l n o k c m:Nat}{J:A->St->Prop}:zSn (some (.row false e' s n' cs)) U e sz bytes l n o k c m ys J=((ys.length=m*sz/\m≠0/\n=n'/\e'=e/\s=sz/\c=sz/\o+k*sz=n*sz/\n+m<=maxLen/\(n+m)*bytes<=140737488355328) /\
 J (.win l (n+m) o (k+m) sz) (U.set l (.row false e sz (n+m) (cs++ys)))/\J (.win U.length (k+m) 0 (k+m) sz) (U++[.row false e sz (k+m) (cs.drop o++ys)])):=rfl
def zVM(U:St)(e:TypeId)(sz bytes:Nat)(el:Option (Nat×wF))(a:A)(J:A->St->Prop):Prop:=match el,a with
 |some (m,ys),.win l n o k c=>zSn U[l]? U e sz bytes l n o k c m ys J
 |_,_=>False
@[simp]theorem qBt{sz bytes l n o k c m:Nat}{J:A->St->Prop}:zVM U e sz bytes (some (m,ys)) (.win l n o k c) J=zSn U[l]? U e sz bytes l n o k c m ys J:=rfl
variable{bytes:Nat}
@[simp]theorem qHE:wpO P Qp K' (.apq d e sz bytes x y) env U = zVM U e sz bytes (eB U sz (ev env y)) (ev env x) fun r τ=>K' (env.put d r) τ:=by simp only[wpO,zVM,zSn];generalize eB U sz (ev env y)=el;generalize ev env x=a;cases el<;>cases a<;>rfl
def zTb(U:St)(a:A)(neg:Bool)(J:A->Prop):Prop:=match a with
 | .nil=>J (.lit (.bool !neg))
 | .sl n _=>J (.lit (.bool neg))/\(n=0->J (.lit (.bool !neg)))
 | .row l n=>(match U[l]? with
  |some (.row _ _ _ m _)=>n=m/\J (.lit (.bool neg))/\(n=0->J (.lit (.bool !neg)))
  |_=>False)
 |_=>False
@[simp]theorem qDq:zTb U .nil neg J=J (.lit (.bool !neg)):=rfl
@[simp]theorem qGF{n:Nat}:zTb U (.sl n cs) neg J=(J (.lit (.bool neg))/\(n=0->J (.lit (.bool !neg)))):=rfl
@[simp]theorem qHO:wpO P Qp K' (.isz d neg x) env U = zTb U (ev env x) neg fun r=>K' (env.put d r) U:=by simp only[wpO,zTb];cases ev env x<;>rfl
@[simp]theorem qHM:wpO P Qp K' (.isn d neg x) env U = zOw (ev env x) neg fun r=>K' (env.put d r) U:=zQP (d:=d)
@[simp]theorem zYK:eD cs []=some cs:=rfl
def zUR(c:Option wF)(o s:Nat)(cs:wF)(rest:List (Nat×Nat×A)):Option wF:=match c with
 |some l=>if l.length=s/\o+s<=cs.length then eD (cs.take o++l++cs.drop (o+s)) rest else none
 |none=>none
variable{rest:List (Nat×Nat×A)}
@[simp]theorem zWR{l:wF}:zUR (some l) o s cs rest=if l.length=s/\o+s<=cs.length then eD (cs.take o++l++cs.drop (o+s)) rest else none:=rfl
@[simp]theorem zWQ:eD cs ((o,s,a)::rest)=zUR (cellsOf a) o s cs rest:=rfl
def elP(U:St)(sz:Nat)(a:A)(J:Nat->List A->Prop):Prop:=match eB U sz a with
 |some (m,ys)=>ys.length=m*sz/\J m ys
 |none=>False
@[simp]theorem qG0{J:Nat->List A->Prop}:elP U sz .nil J=J 0 []:=by simp[elP,eB]
@[simp]theorem qKB{sz n:Nat}{J:Nat->List A->Prop}:elP U sz (.sl n cs) J=(cs.length=n*sz/\J n cs):=rfl
@[simp]theorem qGz{sz n:Nat}{J:Nat->List A->Prop}:elP U sz (.fsl n cs) J=(cs.length=n*sz/\J n cs):=rfl
@[simp]theorem qG1{sz l n:Nat}{J:Nat->List A->Prop}:elP U sz (.row l n) J=zV0 U[l]? n sz fun cs=>cs.length=n*sz/\J n cs:=by
 simp only[elP,eB];cases U[l]? with
 |none=>rfl
 |some o =>
  cases o<;>try rfl
  rename_i fz e s m cs;by_cases h:n=m/\s=sz
  .simp[h]
  .simp only[h,if_false,zLO,eq_iff_iff,false_iff];rintro⟨h1,h2,_⟩;exact h ⟨h1,h2⟩
def zPN(d:wD)(K':wK)(env:Env) (U:St)(e:TypeId)(sz bytes m:Nat)(ys:wF):A->Prop
 | .nil=>(m<=maxLen/\m*bytes<=140737488355328)/\K' (env.put d (.row U.length m)) (U++[AObj.row false e sz m ys])
 | .row l n=>(match U[l]? with
  |some (.row fz e' s n' cs)=>if n=n'/\e'=e/\s=sz then (n+m<=maxLen/\(n+m)*bytes<=140737488355328)/\K' (env.put d (.row l (n+m))) (U.set l (.row fz e sz (n+m) (cs++ys)))else False
  |_=>False)
 | .fsl n cs=>cs.length=n*sz/\(m=0->K' (env.put d (.fsl n cs)) U)/\(m≠0->(n+m<=maxLen/\(n+m)*bytes<=140737488355328)/\K' (env.put d (.row U.length (n+m))) (U++[AObj.row false e sz (n+m) (cs++ys)]))
 |_=>False
@[simp]theorem qBr{m:Nat}:zPN d K' env U e sz bytes m ys .nil=((m<=maxLen/\m*bytes<=140737488355328)/\K' (env.put d (.row U.length m)) (U++[AObj.row false e sz m ys])):=rfl
@[simp]theorem qBq{sz bytes m n:Nat}:zPN d K' env U e sz bytes m ys (.fsl n cs)=(cs.length=n*sz/\(m=0->K' (env.put d (.fsl n cs)) U)/\(m≠0->(n+m<=maxLen/\(n+m)*bytes<=140737488355328)/\K' (env.put d (.row U.length (n+m))) (U++[AObj.row false e sz (n+m) (cs++ys)]))):=rfl
def zV1:Option AObj->Nat->TypeId->Nat->(Bool->List A->Prop)->Prop
 |some (.row fz e' s n' cs),n,e,sz,J=>(n=n'/\e'=e/\s=sz)/\J fz cs
 |_,_,_,_,_=>False
@[simp]theorem zXA{s n' n sz:Nat}{J:Bool->List A->Prop}:zV1 (some (.row fz e' s n' cs)) n e sz J=((n=n'/\e'=e/\s=sz)/\J fz cs):=rfl
@[simp]theorem qBs{sz bytes m l n:Nat}:zPN d K' env U e sz bytes m ys (.row l n)=zV1 U[l]? n e sz fun fz cs=>(n+m<=maxLen/\(n+m)*bytes<=140737488355328)/\K' (env.put d (.row l (n+m))) (U.set l (.row fz e sz (n+m) (cs++ys))):=by
 simp only[zPN];cases U[l]? with
 |none=>rfl
 |some o =>
  cases o<;>try rfl
  rename_i fz e' s n' cs;by_cases h:n=n'/\e'=e/\s=sz
  .simp[h]
  .simp[h]
@[simp]theorem qHD:wpO P Qp K' (.app d e sz bytes x y) env U = elP U sz (ev env y) fun m ys=>zPN d K' env U e sz bytes m ys (ev env x):=by
 simp only[wpO,elP];cases eB U sz (ev env y)with
 |none=>rfl
 |some r =>
  obtain⟨m,ys⟩:=r;simp only;generalize ev env x=a;cases a<;>rfl
def zQc(P:Program)(Qp:Value->wK)(K':wK)(d:wD)(f:A)(args:wF)(env:Env) (U:St):Prop:=match f with
 | .clo g first cap=>zA P g=true/\y6 P g (first++args++cap) U (outK d env K' Qp)
 | .lit (.func (.yield b) ⟨[]⟩ ⟨[]⟩)=>iB P b args U (outK d env K' Qp)
 |_=>False
@[simp]theorem qCF{b:Nat}{args:wF}:zQc P Qp K' d (yv b) args env U = iB P b args U (outK d env K' Qp):=rfl
variable{g:FuncId}
@[simp]theorem zY6{first cap args:wF}:zQc P Qp K' d (.clo g first cap) args env U = (zA P g=true/\y6 P g (first++args++cap) U (outK d env K' Qp)):=rfl
@[simp]theorem qFj{args:List Operand}:wpO P Qp K' (.call d x args) env U = zQc P Qp K' d (ev env x) (args.map (ev env)) env U:=rfl
@[simp]theorem zYu:bM []=[]:=rfl
@[simp]theorem zYt:bM (.box cs::U)=.box cs::bM U:=rfl
@[simp]theorem zYv{sz n:Nat}:bM (.row fz e sz n cs::U)=.dead::bM U:=rfl
@[simp]theorem qBB{fr:Bool}{nk:Nat}{es:List (wC×A)}:bM (.mp fr nk es::U)=.dead::bM U:=rfl
@[simp]theorem zYw:bM (.rsv::U)=.dead::bM U:=rfl
@[simp]theorem qB9{m n:Nat}{met:wA}:bM (.it m n met::U)=.dead::bM U:=rfl
@[simp]theorem qBA{b M:Nat}{r:Loop}{es:List (Nat×A)}:bM (.lp b r M es::U)=.dead::bM U:=rfl
variable{τ:St}
theorem zGT{U:St}:bM (U++τ)=bM U++bM τ:=by
 induction U with
 |nil=>rfl
 |cons o U ih=>cases o<;>simp[bM,ih]
@[simp]theorem zSt{U:St}:(bM U).length = U.length:=by
 induction U with
 |nil=>rfl
 |cons o U ih=>cases o<;>simp[bM,ih]
@[simp]theorem zZ7{U:St}:m9 0 U = U:=rfl
@[simp]theorem qE6{U:St}:m9 1 U = bM U:=rfl
@[simp]theorem qE8{U:St}:m9 2 U = []:=rfl
variable{fl k:Nat}
@[simp]theorem qEl:zLC Q v U = ∀e,Q (.pan v) e U:=rfl
@[simp]theorem qH7:wpD P Qd K' [] env U = K' env U:=by simp only[wpD]
@[simp]theorem qLi{o:KOp}:cJ 0 o env=True:=rfl
@[simp]theorem qLj{o:KOp}:cJ 1 o env=True:=rfl
@[simp]theorem qLk{o:KOp}:cJ 2 o env=True:=rfl
@[simp]theorem qLl{o:KOp}:cJ 3 o env=True:=rfl
@[simp]theorem qLm{o:KOp}:cJ 4 o env=True:=rfl
@[simp]theorem qLn{n:Nat}:cJ 5 (.st d x y n) env=zJi (ev env x):=rfl
@[simp]theorem qLo{n:Nat}:cJ 6 (.st d x y n) env=zJj (ev env x):=rfl
@[simp]theorem qHm{n:Nat}:cJ 6 (.idx d x y n) env=isRow (ev env x):=rfl
@[simp]theorem zYQ:zJi (.ptr l o)=True:=rfl
@[simp]theorem zYS{l n o:Nat}:zJj (.rwp l n o)=True:=rfl
@[simp]theorem zYR{l n:Nat}:isRow (.row l n)=True:=rfl
@[simp]theorem qE7{U:St}:m9 6 U = U:=rfl
@[simp]theorem qEX{o:KOp}{l:List (Nat×Nat×KG)}:wpD P Qd K' ((k,fl,⟨none,o⟩)::l) env U = (cJ fl o env/\jJ P Qd fl (wpD P Qd K' l) o env U):=rfl
@[simp]theorem zZY{o:KOp}{l:List (Nat×Nat×KG)}:wpD P Qd K' ((k,fl,⟨some (s,want),o⟩)::l) env U = (cJ fl o env/\zBM (env s) want (jJ P Qd fl (wpD P Qd K' l) o) (zES o.dst (wpD P Qd K' l)) env U):=by
 simp only[wpD,zRZ,zBM];generalize env s=a;cases a<;>try rfl
 all_goals (rename_i v;cases v<;>rfl)
@[simp]theorem zYe:jJ P Qd fl K' (.pick d x y z) env U = wpO P cF K' (.pick d x y z) env U:=by simp[jJ,KOp.lite,KOp.keeps]
@[simp]theorem zYa{e sz n:Nat}:jJ P Qd fl K' (.brow d e sz n zs ps) env U = wpO P cF K' (.brow d e sz n zs ps) env U:=by simp[jJ,KOp.lite,KOp.keeps]
@[simp]theorem qAn{m:MOp}:jJ P Qd fl K' (.mop d m xs) env U = (match zO7 m (xs.map (ev env)) U with
 |some (r,U')=>K' (env.put d r) U'
 |none=>False):=rfl
@[simp]theorem qAk:jJ P Qd fl K' (.isp d ng x) env U = wpO P cF K' (.isp d ng x) env U:=by simp[jJ,KOp.lite,KOp.keeps]
@[simp]theorem qAm{t:TypeId}:jJ P Qd fl K' (.mki d t x) env U = wpO P cF K' (.mki d t x) env U:=by simp[jJ,KOp.lite,KOp.keeps]
@[simp]theorem qAo:jJ P Qd fl K' (.mov d x) env U = wpO P cF K' (.mov d x) env U:=by simp[jJ,KOp.lite,KOp.keeps]
@[simp]theorem zTS{len sz:Nat}:jJ P Qd fl K' (.idxarr d x y len sz) env U = wpO P cF K' (.idxarr d x y len sz) env U:=by simp[jJ,KOp.lite,KOp.keeps]
@[simp]theorem qAb:jJ P Qd fl K' (.bin d op x y) env U = wpO P cF K' (.bin d op x y) env U:=by simp[jJ,KOp.lite,KOp.keeps]
@[simp]theorem qAf{k:SK}:jJ P Qd fl K' (.eqv d ng k x y) env U = wpO P cF K' (.eqv d ng k x y) env U:=by simp[jJ,KOp.lite,KOp.keeps]
@[simp]theorem qAe{ks:List SK}:jJ P Qd fl K' (.eqs d ng ks x y) env U = wpO P cF K' (.eqs d ng ks x y) env U:=by simp[jJ,KOp.lite,KOp.keeps]
@[simp]theorem qAp:jJ P Qd fl K' (.neg d x) env U = wpO P cF K' (.neg d x) env U:=by simp[jJ,KOp.lite,KOp.keeps]
@[simp]theorem qAq:jJ P Qd fl K' (.not d x) env U = wpO P cF K' (.not d x) env U:=by simp[jJ,KOp.lite,KOp.keeps]
@[simp]theorem qFa:jJ P Qd fl K' (.mm d mx xs) env U = wpO P cF K' (.mm d mx xs) env U:=by simp[jJ,KOp.lite,KOp.keeps]
@[simp]theorem zYc:jJ P Qd fl K' (.len d true x) env U = wpO P cF K' (.len d true x) env U:=by simp[jJ,KOp.lite,KOp.keeps]
@[simp]theorem qAg:jJ P Qd fl K' (.ext d x i) env U = wpO P cF K' (.ext d x i) env U:=by simp[jJ,KOp.lite,KOp.keeps]
@[simp]theorem qAd{a b:List Operand}:jJ P Qd fl K' (.clo d f a b) env U = wpO P cF K' (.clo d f a b) env U:=by simp[jJ,KOp.lite,KOp.keeps]
@[simp]theorem qAr{lo hi mx:Option Operand}:jJ P Qd fl K' (.slc d x sz lo hi mx) env U = wpO P cF K' (.slc d x sz lo hi mx) env U:=by simp[jJ,KOp.lite,KOp.keeps]
@[simp]theorem zV8:jJ P Qd fl K' (.build d zs ps) env U = wpO P cF K' (.build d zs ps) env U:=by simp[jJ,KOp.lite,KOp.keeps]
@[simp]theorem zTR{sz n:Nat}:jJ P Qd fl K' (.bslice d e sz n zs ps) env U = wpO P cF K' (.bslice d e sz n zs ps) env U:=by simp[jJ,KOp.lite,KOp.keeps]
@[simp]theorem zV7:jJ P Qd fl K' (.alloc d zs) env U = wpO P cF K' (.alloc d zs) env U:=by simp[jJ,KOp.lite,KOp.keeps]
@[simp]theorem qAc:jJ P Qd fl K' (.box d x) env U = wpO P cF K' (.box d x) env U:=by simp[jJ,KOp.lite,KOp.keeps]
@[simp]theorem qFb{n:Nat}:jJ P Qd fl K' (.st d x y n) env U = wpO P cF K' (.st d x y n) env U:=by simp[jJ,KOp.lite,KOp.keeps]
@[simp]theorem qAa:jJ P Qd fl K' (.app d e sz bytes x y) env U = wpO P cF K' (.app d e sz bytes x y) env U:=by simp[jJ,KOp.lite,KOp.keeps]
@[simp]theorem qAh{off n:Nat}:jJ P Qd fl K' (.fld d x off n agg) env U = wpO P cF K' (.fld d x off n agg) env U:=by simp[jJ,KOp.lite,KOp.keeps]
@[simp]theorem qEY{len sz:Nat}:jJ P Qd fl K' (.ix d x y len sz agg) env U = wpO P cF K' (.ix d x y len sz agg) env U:=by simp[jJ,KOp.lite,KOp.keeps]
@[simp]theorem qAj:jJ P Qd fl K' (.isn d ng x) env U = wpO P cF K' (.isn d ng x) env U:=by simp[jJ,KOp.lite,KOp.keeps]
@[simp]theorem qEZ{n:Nat}:jJ P Qd fl K' (.ld d x n agg) env U = mD ((ldA (m9 fl U) n (ev env x)).bind (fH agg)) fun r=>K' (env.put d r) U:=o8
@[simp]theorem zXZ:jJ P Qd fl K' (.addr d x off) env U = mD (zCv (m9 fl U) off (ev env x)) fun r=>K' (env.put d r) U:=by show qZ (zO env (m9 fl U) (.addr d x off)) _=_;rw[zD1,o8];rfl
@[simp]theorem qAi:jJ P Qd fl K' (.idx d x y sz) env U = tN (m9 fl U) sz (ev env x) (ev env y) fun r=>K' (env.put d r) U:=zGm (d:=d)
def zF6(U:St)(a:A)(J:A->Prop):Prop:=match a with
 | .nil=>J (.lit (.int .i64 0))
 | .sl n _=>J (.lit (.int .i64 n))
 | .fsl n _=>J (.lit (.int .i64 n))
 | .row l n=>match U[l]? with
  |some (.row _ _ _ m _)=>if n=m then J (.lit (.int .i64 n))else False
  |_=>False
 | .win l n _ k _=>match U[l]? with
  |some (.row _ _ _ m _)=>if n=m then J (.lit (.int .i64 k))else False
  |_=>False
 |_=>False
@[simp]theorem qDx:zF6 U .nil J=J (.lit (.int .i64 0)):=rfl
@[simp]theorem qGI{n:Nat}:zF6 U (.sl n cs) J=J (.lit (.int .i64 n)):=rfl
@[simp]theorem qDw{n:Nat}:zF6 U (.fsl n cs) J=J (.lit (.int .i64 n)):=rfl
def zLt(o:Option AObj)(n:Nat)(J:A->Prop):Prop:=match o with
 |some (.row _ _ _ m _)=>if n=m then J (.lit (.int .i64 n))else False
 |_=>False
@[simp]theorem zVa{s m n:Nat}:zLt (some (.row fz e s m cs)) n J=if n=m then J (.lit (.int .i64 n))else False:=rfl
@[simp]theorem qDy{l n:Nat}:zF6 U (.row l n) J=zLt U[l]? n J:=by simp only[zF6,zLt]
theorem zOz:qZ (zO env τ (.len d false x)) J=zF6 τ (ev env x) J:=by
 simp only[zF6,zO];generalize ev env x=a;cases a<;>simp only[qZ,true_and]
 .rename_i l n;cases τ[l]? with
  |none=>rfl
  |some ob =>
   cases ob<;>try rfl
   rename_i fz e s m cs;by_cases h:n=m<;>simp[h]
 .rename_i l n _ k _;cases τ[l]? with
  |none=>rfl
  |some ob =>
   cases ob<;>try rfl
   rename_i fz e s m cs;by_cases h:n=m<;>simp[h]
@[simp]theorem qAl:jJ P Qd fl K' (.len d false x) env U = zF6 (m9 fl U) (ev env x) fun r=>K' (env.put d r) U:=by show qZ (zO env (m9 fl U) (.len d false x)) _=_;exact zOz
def sQ(P:Program)(Qd:Value->St->Prop)(fl:Nat) (U:St)(d:wD)(K':wK)(f:A)(args:wF)(env:Env):Prop:=zTQ P Qd fl U d K' f args env
@[simp]theorem zYb{args:List Operand}:jJ P Qd fl K' (.call d x args) env U = sQ P Qd fl U d K' (ev env x) (args.map (ev env)) env:=rfl
@[simp]theorem qGr{first cap args:wF}:sQ P Qd 0 U d K' (.clo g first cap) args env=(zA P g=true/\zBw P U d (fun e=>K' e U) g (first++args++cap) env):=rfl
@[simp]theorem qGs{first cap args:wF}:sQ P Qd 1 U d K' (.clo g first cap) args env=(zA P g=true/\uK P U d (fun e=>K' e U) g (first++args++cap) env):=rfl
@[simp]theorem qGt{first cap args:wF}:sQ P Qd 3 U d K' (.clo g first cap) args env=(zA P g=true/\zFo P U d K' g (first++args++cap) env):=rfl
@[simp]theorem qGv{first cap args:wF}:sQ P Qd 7 U d K' (.clo g first cap) args env=(zA P g=true/\zBx P U d K' g (first++args++cap) env):=rfl
@[simp]theorem qGw{first cap args:wF}:sQ P Qd 8 U d K' (.clo g first cap) args env=(zA P g=true/\zFq P U d K' g (first++args++cap) env):=rfl
@[simp]theorem qCC{first cap args:wF}:sQ P Qd 10 U d K' (.clo g first cap) args env=(zA P g=true/\zKx P Qd U d K' g (first++args++cap) env):=rfl
@[simp]theorem qCD{first cap args:wF}:sQ P Qd 11 U d K' (.clo g first cap) args env=(zA P g=true/\zKy P U d K' g (first++args++cap) env):=rfl
@[simp]theorem qGx{n:Nat}{first cap args:wF}(h1:11<n):sQ P Qd n U d K' (.clo g first cap) args env=(zA P g=true/\(if 1000<=n/\n<2000 then zFp P (n-1000) U d K' g (first++args++cap) env else if 3000<=n/\n<4000 then zFn P (n-3000) U d K' g (first++args++cap) env else uL P U d K' g (first++args++cap) env)):=by obtain⟨m,rfl⟩:∃m,n=m+12:=⟨n-12,by omega⟩;rfl
@[simp]theorem qGu{first cap args:wF}:sQ P Qd 4 U d K' (.clo g first cap) args env=(zA P g=true/\uL P U d K' g (first++args++cap) env):=rfl
@[simp]theorem qCE{b:Nat}{args:wF}:sQ P Qd 4 U d K' (yv b) args env = ∃r U',(iB P b args U fun o τ=>o=.ret r/\τ = U')/\K' (env.put d r) U':=by show (4=4/\_)=_;simp
theorem jY{t:Bool}{A B:wK}(h1:t=true->A env U)(h2:t=false->B env U):sD t A B env U:=⟨h1,h2⟩
theorem zTq{S:Type}{W:(Ex->wK)->wK}(E:S->List (Nat×A))(T:S->St)(I:S->Prop) (μ:S->Nat)(s0:S)(h0:I s0)(start:fI n0 (jR (E s0)) (T s0) env U)
 (round:∀s,I s->W (rnd n0 (fun n e t=>∃s,I s/\μ s=n/\e=jR (E s)/\t=T s) (μ s) Q) (jR (E s)) (T s)):zIa n0 W Q env U:=by
 refine⟨fun n e t=>∃s,I s/\μ s=n/\e=jR (E s)/\t=T s,⟨μ s0,_,_,start,s0,h0,rfl,rfl,rfl⟩,?_⟩;rintro n e t ⟨s,hs,rfl,rfl,rfl⟩;exact round s hs
theorem zX6{S:Type}{E:S->List (Nat×A)}{T:S->St}{I:S->Prop} {μ:S->Nat}{n:Nat}(s:S)(hs:I s)(hm : μ s<n)(hw:fI n0 (jR (E s)) (T s) env U) :
 rnd n0 (fun n e t=>∃s,I s/\μ s=n/\e=jR (E s)/\t=T s) n Q .norm env U:=⟨μ s,hm,_,_,hw,s,hs,rfl,rfl,rfl⟩
theorem xL{l:List (Nat×A)} {U':St}(he : U = U'++τ)(hn:n0<=U'.length)(hl:∀p∈l,env p.1=p.2)(hb:∀p∈l,p.2.bnd U'.length=true)(ho:∀o∈U',o.bnd U'.length=true) :
 fI n0 (jR l) U' env U:=by
 subst he;exact fI.cut l hn hl hb ho
@[simp]theorem zXj{l:List (Nat×A)}:jR ((i,a)::l) t=if t=i then a else jR l t:=rfl
@[simp]theorem zYX:jR [] t=.any:=rfl
end
end Go.Abs
namespace Go.Abs
def zNJ(o k c:Nat):A->A
 | .sl _ cs=>if k=0 then .sl 0 []else .sl k ((cs.drop o).take (k*c))
 |_=>.any
mutual
def vw(rf:Bool->Nat->Nat->A)(g:Nat->wD):A->A
 | .ptr l o=>match g l with
  |some i=>.ptr i o
  |none=>rf true l o
 | .row l n=>match g l with
  |some i=>.row i n
  |none=>rf false l n
 | .rwp l n o=>match g l with
  |some i=>.rwp i n o
  |none=>.any
 | .map l=>match g l with
  |some i=>.map i
  |none=>.any
 | .win l n o k c=>match g l with
  |some i=>.win i n o k c
  |none=>zNJ o k c (rf false l n)
 | .agg cs=>.agg (vwL rf g cs)
 | .tup cs=>.tup (vwL rf g cs)
 | .sl n cs=>.sl n (vwL rf g cs)
 | .fsl n cs=>.fsl n (vwL rf g cs)
 | .rptr cs=>.rptr (vwL rf g cs)
 | .clo f a b=>.clo f (vwL rf g a) (vwL rf g b)
 | .any=>.any
 | .nil=>.nil
 | .lit v=>.lit v
def vwL(rf:Bool->Nat->Nat->A)(g:Nat->wD):List A->wF
 |[]=>[]
 |c::cs=>vw rf g c::vwL rf g cs
end
def seen(U:St)(g:Nat->wD):Nat->Bool->Nat->Nat->A
 | 0,_,_,_=>.any
 |k+1,false,l,n=>match U[l]? with
  |some (.row _ _ _ m cs)=>if n=m then .sl n (vwL (seen U g k) g cs)else .any
  |_=>.any
 |k+1,true,l,o=>match U[l]? with
  |some (.box cs)=>.rptr ((vwL (seen U g k) g cs).drop o)
  |_=>.any
def vwO(rf:Bool->Nat->Nat->A)(g:Nat->wD):AObj->AObj
 | .dead=>.dead
 | .box cs=>.box (vwL rf g cs)
 | .row fz e sz n cs=>.row fz e sz n (vwL rf g cs)
 | .lp b r M es=>.lp b r M (es.map fun p=>(p.1,vw rf g p.2))
 | .mp fr nk es=>.mp fr nk (es.map fun p=>(p.1,vw rf g p.2))
 | .it m n met=>match g m with
  |some i=>.it i n met
  |none=>.dead
 | .rsv=>.rsv
def vJ:AObj->AObj
 | .dead=>.dead
 | .box cs=>.box (jE cs)
 | .row fz e sz n cs=>.row fz e sz n (jE cs)
 | .lp b r M es=>.lp b r M (es.map fun p=>(p.1,nrm0 p.2))
 | .mp fr nk es=>.mp fr nk (es.map fun p=>(p.1,nrm0 p.2))
 | .it m n met=>.it m n met
 | .rsv=>.rsv
def qR:List Nat->Nat->wD
 |[],_=>none
 |k::ks,l=>if l=k then some 0 else (qR ks l).map (· + 1)
theorem zCe:∀{ks:wA} {l i:Nat},qR ks l=some i->ks[i]?=some l
 |[],l,i,h=>by simp[qR]at h
 |k::ks,l,i,h=>by
  simp only[qR]at h;split at h
  .cases h;rename_i h;simp[h]
  .simp only[jAe]at h;obtain⟨j,hj,rfl⟩:=h
   simpa using zCe hj
theorem zEA:∀{ks:wA} {l:Nat},qR ks l=none->l∉ks
 |[],l,_=>by simp
 |k::ks,l,h=>by
  simp only[qR]at h;split at h
  .cases h
  .rename_i hne;simp only[Option.map_eq_none_iff]at h;simp[hne,zEA h]
section
variable{P:Program}{H H':Mem}{L L':wO} {U:St}{w:World}
theorem zBX:∀{ks:wA} {i j x:Nat},ks.Nodup->ks[i]?=some x->ks[j]?=some x->i=j
 |[],i,j,x,_,h,_=>by simp at h
 |k::ks,i,j,x,hd,h1,h2=>by
  rw[jD2]at hd;cases i with
  |zero =>
   cases j with
   |zero=>rfl
   |succ j =>
    simp only[jB7,jBi,jA1]at h1 h2;subst h1;exact(hd.1 (jBu h2)).elim
  |succ i =>
   cases j with
   |zero =>
    simp only[jB7,jBi,jA1]at h1 h2;subst h2;exact(hd.1 (jBu h1)).elim
   |succ j =>
    simp only[jBi]at h1 h2;rw[zBX hd.2 h1 h2]
mutual
theorem Rel.vw{rf:Bool->Nat->Nat->A}{g:Nat->wD}(hh:HLe H H')(hg:∀l i,g l=some i->L'[i]?=L[l]?)(hr:∀l n v,g l=none->Rel H L (.row l n) v->Rel H' L' (rf false l n) v)(hp:∀l n v,g l=none->Rel H L (.ptr l n) v->Rel H' L' (rf true l n) v) :
 ∀(a:A) {v:Value},Rel H L a v->Rel H' L' (vw rf g a) v
 | .ptr l o,v,h=>by
  simp only[Abs.vw];split
  .rename_i i hi;simp only[Rel]at h⊢;rw[hg l i hi];exact h
  .rename_i hi;exact hp l o v hi h
 | .row l n,v,h=>by
  simp only[Abs.vw];split
  .rename_i i hi;simp only[Rel]at h⊢;rw[hg l i hi];exact h
  .rename_i hi;exact hr l n v hi h
 | .rwp l n o,v,h=>by
  simp only[Abs.vw];split
  .rename_i i hi;simp only[Rel]at h⊢;rw[hg l i hi];exact h
  .simp[Rel]
 | .map l,v,h=>by
  simp only[Abs.vw];split
  .rename_i i hi;simp only[Rel]at h⊢;rw[hg l i hi];exact h
  .simp[Rel]
 | .win l n o k c,v,h=>by
  simp only[Abs.vw];split
  .rename_i i hi;simp only[Rel]at h⊢;rw[hg l i hi];exact h
  .rename_i hi;simp only[Rel]at h;obtain⟨h0,li,e,h1,h2,h3⟩:=h;by_cases hn:n=li.len
   .obtain⟨g0,ad,cap,rfl,g1,g2,g3⟩:=h3 hn;have h4:=hr l n (match li.block with|none=>.slice none 0 0|some b=>.slice (some ⟨b,0,none⟩) n li.cap) hi (by
     simp only[Rel];exact⟨by split<;>rfl,li,e,h1,h2,fun _=>rfl⟩)
    generalize rf false l n=x at h4;cases x<;>simp only[zNJ]<;>try(simp only[Rel];done)
    rename_i n' cs;split
    .rename_i hk;subst hk;simp only[Rel];exact⟨ad,cap,rfl,jB _,g2,.inl (by simp)⟩
    .rename_i hk;replace g3:=zNv g1 g3;rcases g3 with g3|⟨b,g3,rfl⟩
     .exact(hk g3).elim
     .simp only[g3,Rel]at h4 ⊢;obtain⟨a',cap',k1,k2,k3,k4⟩:=h4;simp only[Value.slice.injEq]at k1;obtain⟨rfl,rfl,rfl⟩:=k1;refine⟨_,cap,rfl,g1,g2,?_⟩;rcases k4 with ⟨rfl,rfl⟩|⟨b',o',us,k5,k6,k7,k8⟩
      .omega
      .cases k5;refine .inr ⟨b,o,_,rfl,(k6.drop o).take (k*c),cO k7,?_⟩;have:=(k8.drop o).take (k*c)
       rwa[jAx]at this
   .have h4:=hr l n (.bool true) hi (by
     simp only[Rel];exact⟨rfl,li,e,h1,h2,fun e=>(hn e).elim⟩)
    generalize rf false l n=x at h4;cases x<;>simp only[zNJ]<;>try(simp only[Rel];done)
    simp only[Rel]at h4;obtain⟨_,_,h4,_⟩:=h4;cases h4
 | .agg cs,v,h=>by simp only[Rel,Abs.vw]at h⊢;obtain⟨vs,rfl,h1,h2⟩:=h;exact⟨vs,rfl,z6.vw hh hg hr hp cs h1,h2⟩
 | .tup cs,v,h=>by simp only[Rel,Abs.vw]at h⊢;obtain⟨vs,rfl,h1⟩:=h;exact⟨vs,rfl,z6.vw hh hg hr hp cs h1⟩
 | .sl n cs,v,h=>by
  simp only[Rel,Abs.vw]at h⊢;obtain⟨a,cap,rfl,h1,h2,h3⟩:=h;refine⟨a,cap,rfl,h1,h2,?_⟩;rcases h3 with ⟨h3,rfl⟩|⟨b,o,us,rfl,h4,h5,h6⟩
  .exact .inl ⟨h3,by simp[vwL]⟩
  .exact .inr ⟨b,o,us,rfl,z6.vw hh hg hr hp cs h4,h5,h6.mono hh⟩
 | .fsl n cs,v,h=>by
  simp only[Rel,Abs.vw]at h⊢;obtain⟨a,rfl,h1,h3⟩:=h;refine⟨a,rfl,h1,?_⟩;rcases h3 with ⟨h3,rfl⟩|⟨b,o,us,rfl,h4,h5,h6⟩
  .exact .inl ⟨h3,by simp[vwL]⟩
  .exact .inr ⟨b,o,us,rfl,z6.vw hh hg hr hp cs h4,h5,h6.mono hh⟩
 | .rptr cs,v,h=>by simp only[Rel,Abs.vw]at h⊢;obtain⟨b,o,us,rfl,h4,h5,h6⟩:=h;exact⟨b,o,us,rfl,z6.vw hh hg hr hp cs h4,h5,h6.mono hh⟩
 | .clo f first cap,v,h=>by simp only[Rel,Abs.vw]at h⊢;obtain⟨fs,cs,rfl,h1,h2⟩:=h;exact⟨fs,cs,rfl,z6.vw hh hg hr hp first h1,z6.vw hh hg hr hp cap h2⟩
 | .any,_,_=>by simp[Rel,Abs.vw]
 | .nil,_,h=>by simpa[Rel,Abs.vw]using h
 | .lit _,_,h=>by simpa[Rel,Abs.vw]using h
theorem z6.vw{rf:Bool->Nat->Nat->A}{g:Nat->wD}(hh:HLe H H')(hg:∀l i,g l=some i->L'[i]?=L[l]?)(hr:∀l n v,g l=none->Rel H L (.row l n) v->Rel H' L' (rf false l n) v)(hp:∀l n v,g l=none->Rel H L (.ptr l n) v->Rel H' L' (rf true l n) v) :
 ∀(cs:wF) {vs:wM},z6 H L cs vs->z6 H' L' (vwL rf g cs) vs
 |[],vs,h=>by simpa[z6,vwL]using h
 |c::cs,vs,h=>by simp only[z6,vwL]at h⊢;obtain⟨u,us,rfl,h1,h2⟩:=h;exact⟨u,us,rfl,Rel.vw hh hg hr hp c h1,z6.vw hh hg hr hp cs h2⟩
end
def AObj.held:AObj->Nat
 | .row _ _ sz n _=>n*sz
 | .box cs=>cs.length
 |_=>0
def zHr(g:Nat->wD)(L:wO) (U:St)(b o:Nat):Prop :=
 ∃(i:Nat) (li:LI) (ob:AObj),g i=none/\L[i]?=some li/\U[i]?=some ob/\li.block=some b/\o<ob.held
open Classical in
noncomputable def zEg(g:Nat->wD) (H:Mem) (L:wO) (U:St) (w:World):Mem:=⟨fun b o=>match H b o with
 |some v=>some v
 |none=>if zHr g L U b o then w.cell? ⟨b,o,none⟩ else none,fun b o v h=>by simp only[H.2 b o v h]⟩
open Classical in
theorem rE(g:Nat->wD)(H:Mem)(L:wO) (U:St)(w:World)(b o:Nat):zEg g H L U w b o=match H b o with
 |some v=>some v
 |none=>if zHr g L U b o then w.cell? ⟨b,o,none⟩ else none:=rfl
variable{g:Nat->wD}
theorem rF:HLe H (zEg g H L U w):=fun b o v h=>by rw[rE,h]
theorem zIW{b o:Nat}{v:Value}(h:zEg g H L U w b o=some v):H b o=some v\/(zHr g L U b o/\w.cell? ⟨b,o,none⟩=some v):=by
 rw[rE]at h;split at h
 .rename_i u hu;cases h;exact .inl hu
 .split at h
  .rename_i hr;exact .inr ⟨hr,h⟩
  .cases h
theorem zIX(hs:RelSt H L U w){b o:Nat}{v:Value}(hx:zHr g L U b o)(hc:w.cell? ⟨b,o,none⟩=some v):zEg g H L U w b o=some v:=by
 rw[rE];split
 .rename_i x hx;have:=hs.pers b o x hx;rw[hc]at this;exact this.symm
 .rw[if_pos hx];exact hc
theorem Rel.seen{g:Nat->wD}(hs:RelSt H L U w)(hg:∀l i,g l=some i->L'[i]?=L[l]?) :
 ∀(k:Nat),(∀(l n:Nat) (v:Value),g l=none->Rel H L (.row l n) v->Rel (zEg g H L U w) L' (seen U g k false l n) v)/\∀(l n:Nat) (v:Value),g l=none->Rel H L (.ptr l n) v->Rel (zEg g H L U w) L' (seen U g k true l n) v
 | 0=>⟨fun l n v _ _=>by simp[Abs.seen,Rel],fun l n v _ _=>by simp[Abs.seen,Rel]⟩
 |k+1=>by
  obtain⟨ih1,ih2⟩:=Rel.seen hs hg k;refine⟨fun l n v hl h=>?_,fun l n v hl h=>?_⟩
  .simp only[Abs.seen];split
   .rename_i fz e sz m cs hU;split
    .rename_i hn;subst hn;simp only[Rel]at h⊢;obtain⟨_,li,e1,e2,e3,hv⟩:=h;have hob:=hs.obj l li _ e1 hU;simp only[zW]at hob;obtain⟨_,g1,g2,hob⟩:=hob;have hv:=hv g1.symm;rcases hob with ⟨hb,h0⟩|⟨b,cur,hb,k1,k2,k3,k4,k5,k6,k7⟩
     .rw[hb]at hv;subst h0;have hcs:cs=[]:=jBt (by simpa using g2);exact⟨none,0,hv,jA _,jB _,.inl ⟨rfl,by simp[hcs,vwL]⟩⟩
     .rw[hb]at hv;refine⟨_,_,hv,k2,k3,.inr ⟨b,0,_,rfl,z6.vw rF hg ih1 ih2 cs k5,k6,fun j u hu=>?_⟩⟩;have hj:j<n*sz:=by
       rw[jBc]at hu;split at hu
       .assumption
       .cases hu
      have hc:w.cell? ⟨b,j,none⟩=some u:=by
       rw[cell_of_row w b j cur e (0,0) k1];rw[jBc,if_pos hj]at hu
       simpa using hu
      simp only[jAx];exact zIX hs ⟨l,li,_,hl,e1,hU,hb,hj⟩ hc
    .simp[Rel]
   .simp[Rel]
  .simp only[Abs.seen];split
   .rename_i cs hU;simp only[Rel]at h⊢;obtain⟨li,b,e1,e2,e3,hv⟩:=h;have hob:=hs.obj l li _ e1 hU;simp only[zW]at hob;obtain⟨_,b',vs,e,hb',hh,hr,h1,_⟩:=hob;rw[e2]at hb';cases hb';refine⟨b,n,vs.drop n,hv,(z6.vw rF hg ih1 ih2 cs hr).drop n,fun u hu=>h1 u (jBv hu),fun j u hu=>?_⟩;rw[jCq]at hu;have hlt:n+j<cs.length:=by rw[<-hr.length];exact(jA5.1 hu).1
    refine zIX hs ⟨l,li,_,hl,e1,hU,e2,hlt⟩ ?_;rw[cell_of_row w b _ _ e (0,0) hh]
    simpa using hu
   .simp[Rel]
def bT(U:St)(rf:Bool->Nat->Nat->A)(g:Nat->wD):List Nat->St->Prop
 |[],[]=>True
 |j::js,o'::os=>(match U[j]? with
  |some o=>o'=vwO rf g o\/o'=vJ (vwO rf g o)
  |none=>False)/\bT U rf g js os
 |_,_=>False
theorem pI{rf:Bool->Nat->Nat->A}{g:Nat->wD}:∀{ks:wA} {U':St},bT U rf g ks U'->U'.length=ks.length
 |[],[],_=>rfl
 |_::_,_::_,h=>by simp[pI h.2]
theorem pH{rf:Bool->Nat->Nat->A}{g:Nat->wD}:∀{ks:wA} {U':St},bT U rf g ks U'->∀{i j:Nat} {o':AObj},ks[i]?=some j->U'[i]?=some o'->∃o,U[j]?=some o/\(o'=vwO rf g o\/o'=vJ (vwO rf g o))
 |[],[],_,i,j,o',h,_=>by simp at h
 |k::ks,p::U',h,i,j,o',h1,h2=>by
  cases i with
  |zero =>
   simp only[jB7,jA1]at h1 h2;subst h1;subst h2;have:=h.1;split at this
   .rename_i o ho;exact⟨o,ho,this⟩
   .exact this.elim
  |succ i =>
   simp only[jBi]at h1 h2;exact pH h.2 h1 h2
theorem zW.nrm{li:LI}{o:AObj}(h:zW H L w li o):zW H L w li (vJ o):=by
 cases o with
 |dead=>trivial
 |box cs =>
  simp only[zW,vJ]at h⊢;obtain⟨h0,b,vs,e,h1,h2,h3,h4,h5⟩:=h;exact⟨h0,b,vs,e,h1,h2,z6.nrm0 _ h3,h4,h5⟩
 |row fz e sz n cs =>
  simp only[zW,vJ]at h⊢;obtain⟨h0,h1,h2,h3⟩:=h;have hl:∀cs:wF,(jE cs).length=cs.length:=fun cs=>by induction cs with
   |nil=>rfl
   |cons c cs ih=>simp[jE,ih]
  refine⟨h0,h1,by rw[hl];exact h2,?_⟩;rcases h3 with h3|⟨b,cur,g1,g2,g3,g4,g5,g6,g7,g8⟩
  .exact .inl h3
  .exact .inr ⟨b,cur,g1,g2,g3,g4,g5,z6.nrm0 _ g6,g7,g8⟩
 |lp b r M es =>
  simp only[zW,vJ]at h⊢;obtain⟨h0,h1,tmps,h2,h3,h4⟩:=h;exact⟨h0,h1,tmps,h2,h3,h4.map _ fun a v ha=>Rel.nrm0 a ha⟩
 |mp fr nk es =>
  simp only[zW,vJ]at h⊢;obtain⟨h0,b,ents,ck,h1,h2,h3,h4⟩:=h;exact⟨h0,b,ents,ck,h1,h2,aF.map _ (fun p _ v hv=>Rel.nrm0 _ hv) h3,h4.1,zEj h4.2⟩
 |it m n met=>exact h
 |rsv=>exact h
theorem zAu{rf:Bool->Nat->Nat->A}{g:Nat->wD}:∀{cs:wF},(vwL rf g cs).length=cs.length
 |[]=>rfl
 |c::cs=>by simp[vwL,zAu]
theorem zH6{H0:Mem}{L0:wO}{w0:World}(ks:wA)(fuel:Nat) {U':St}(hk:∀i,i<L0.length->ks[i]?=some i)(hd:ks.Nodup)
 (ho:bT U (Abs.seen U (qR ks) fuel) (qR ks) ks U')(h:Nxt H0 L0 w0 H L U w) :
 ∃H' L',Nxt H0 L0 w0 H' L' U' w/\HLe H H'/\∀a v,Rel H L a v->Rel H' L' (Abs.vw (Abs.seen U (qR ks) fuel) (qR ks) a) v:=by
 have hs:=h.st;let g:=qR ks;let L':wO:=ks.map fun k=>L.getD k ⟨none,0,0,false⟩
 have hin:∀(i j:Nat),ks[i]?=some j->∃li,L[j]?=some li/\L'[i]?=some li:=by
  intro i j hij;have hi:i < U'.length:=by rw[pI ho];exact(jA5.1 hij).1
  obtain⟨o,hU,_⟩:=pH ho hij (jA2 hi);have hj:j<L.length:=by rw[hs.len];exact(jA5.1 hU).1
  refine⟨L[j],jA2 hj,?_⟩;simp[L',hij,hj]
 have hback:∀{i:Nat} {li:LI},L'[i]?=some li->∃j,ks[i]?=some j/\L[j]?=some li:=by
  intro i li hi;have hi':i<ks.length:=by simpa[L']using (jA5.1 hi).1
  obtain⟨li',h1,h2⟩:=hin i ks[i] (jA2 hi');rw[hi]at h2;cases h2;exact⟨_,jA2 hi',h1⟩
 have hg:∀l i,g l=some i->L'[i]?=L[l]?:=by intro l i hl;obtain⟨li,h1,h2⟩:=hin i l (zCe hl);rw[h1,h2]
 have hrel:∀a v,Rel H L a v->Rel (zEg g H L U w) L' (Abs.vw (Abs.seen U g fuel) g a) v:=fun a v ha=>Rel.vw rF hg (Rel.seen hs hg fuel).1 (Rel.seen hs hg fuel).2 a ha
 have hrelL:∀cs vs,z6 H L cs vs->z6 (zEg g H L U w) L' (vwL (Abs.seen U g fuel) g cs) vs:=fun a v ha=>z6.vw rF hg (Rel.seen hs hg fuel).1 (Rel.seen hs hg fuel).2 a ha
 have hkeep:∀(j:Nat) (li:LI) (b:Nat),j∈ks->L[j]?=some li->li.block=some b->∀o,zEg g H L U w b o=H b o:=by
  intro j li b hj hL hb o;rw[rE];cases hH:H b o with
  |some v=>rfl
  |none =>
   simp only;rw[if_neg];rintro⟨i,li',ob,g1,g2,g3,g4,g5⟩;have:=hs.inj i j li' li b g2 hL g4 hb;subst this;exact zEA g1 hj
 refine⟨zEg g H L U w,L',⟨⟨fun b o v hv=>(zIW hv).elim (hs.pers b o v) fun h=>h.2,by simp[L',pI ho],fun i li o hL hU=>?_,fun i j x y b hi hj hx hy=>?_,fun i li b hi hb=>?_⟩,
  ⟨h.step.os,h.step.tape,h.step.output,h.step.size,h.step.keep,h.step.hle.trans rF,fun b o v hv=>?_,h.step.drawn,h.step.dfr⟩,fun i x hx=>?_,fun b ⟨i,x,hi,hx⟩=>?_⟩,rF,hrel⟩
 .obtain⟨j,hj,hLj⟩:=hback hL;obtain⟨o0,hU0,heq⟩:=pH ho hj hU;have hob:=hs.obj j li o0 hLj hU0;have hjm:j∈ks:=jBu hj;have key:zW (zEg g H L U w) L' w li (vwO (Abs.seen U g fuel) g o0):=by
   cases o0 with
   |dead=>trivial
   |box cs =>
    simp only[zW,vwO]at hob ⊢;obtain⟨h0,b,vs,e,h1,h2,h3,h4,h5⟩:=hob;exact⟨h0,b,vs,e,h1,h2,hrelL _ _ h3,h4,fun o=>by rw[hkeep j li b hjm hLj h1];exact h5 o⟩
   |row fz e sz n cs =>
    simp only[zW,vwO]at hob ⊢;obtain⟨h0,h1,h2,h3⟩:=hob;refine⟨h0,h1,by rw[zAu];exact h2,?_⟩;rcases h3 with h3|⟨b,cur,g1,g2,g3,g4,g5,g6,g7,g8⟩
    .exact .inl h3
    .refine .inr ⟨b,cur,g1,g2,g3,g4,g5,hrelL _ _ g6,g7,?_⟩;cases fz with
     |false=>exact fun o=>by rw[hkeep j li b hjm hLj g1];exact g8 o
     |true=>exact⟨g8.1.mono rF,fun o ho=>by rw[hkeep j li b hjm hLj g1];exact g8.2 o ho⟩
   |lp b r M es =>
    simp only[zW,vwO]at hob ⊢;obtain⟨h0,h1,tmps,h2,h3,h4⟩:=hob;exact⟨h0,h1,tmps,h2,h3,h4.map _ hrel⟩
   |mp fr nk es =>
    simp only[zW,vwO]at hob ⊢;obtain⟨h0,b,ents,ck,h1,h2,h3,h4⟩:=hob;exact⟨h0,b,ents,ck,h1,h2,aF.map _ (fun p _ v hv=>hrel _ _ hv) h3,h4.1,zEj h4.2⟩
   |it m n met =>
    simp only[vwO];split
    .rename_i i0 hi0;simp only[zW]at hob ⊢;obtain⟨h0,b,mb,lm,h1,h2,h3,h4,h5⟩:=hob;have hp:Rel H L (.ptr m 0) (.pointer (some ⟨mb,0,none⟩)):=by simp only[Rel];exact⟨lm,mb,h2,h3,h4,rfl⟩
     have hp:=hrel _ _ hp;simp only[Abs.vw,hi0,Rel]at hp;obtain⟨lm',mb',k2,k3,k4,k5⟩:=hp;cases k5;exact⟨h0,b,mb,lm',h1,k2,k3,k4,h5⟩
    .trivial
   |rsv=>exact hob
  rcases heq with rfl|rfl
  .exact key
  .exact key.nrm
 .obtain⟨i',hi',hLi⟩:=hback hi;obtain⟨j',hj',hLj⟩:=hback hj;have:=hs.inj i' j' x y b hLi hLj hx hy;subst this;have hi1:=(jA5.1 hi').1;have hj1:=(jA5.1 hj').1;exact zBX hd hi' hj'
 .obtain⟨j,_,hLj⟩:=hback hi;exact hs.lt j li b hLj hb
 .rcases zIW hv with h1|⟨⟨i,li,_,_,hL,_,hb,_⟩,_⟩
  .exact h.step.hnew b o v h1
  .exact .inr (h.own b ⟨i,li,hL,hb⟩)
 .obtain⟨x',hx',hr⟩:=h.lle i x hx;have hi:i<L0.length:=(jA5.1 hx).1;obtain⟨li,h1,h2⟩:=hin i i (hk i hi);rw[hx']at h1;cases h1;exact⟨_,h2,hr⟩
 .obtain⟨j,_,hLj⟩:=hback hi;exact h.own b ⟨j,x,hLj,hx⟩
theorem fI.sel{n0:Nat}{env:Env}(ks:wA)(fuel:Nat)(l:List (Nat×A)) {U':St}(hk:∀i,i<n0->ks[i]?=some i)(hd:ks.Nodup)(ho:bT U (Abs.seen U (qR ks) fuel) (qR ks) ks U')
 (hl:∀p∈l,p.2=Abs.vw (Abs.seen U (qR ks) fuel) (qR ks) (env p.1)\/p.2=nrm0 (Abs.vw (Abs.seen U (qR ks) fuel) (qR ks) (env p.1))):fI n0 (jR l) U' env U:=by
 intro H0 L0 w0 H L w N tmps h0 h1 h2;subst h0;obtain⟨H',L',g1,_,g3⟩:=zH6 ks fuel hk hd ho h1;refine⟨H',L',g1,h2.1,fun t=>?_⟩;rcases o6 l t with h|h
 .rw[h];simp[Rel]
 .have:=g3 _ _ (h2.2 t);rcases hl _ h with e|e
  .simp only at e;rw[e];exact this
  .simp only at e;rw[e];exact Rel.nrm0 _ this
end
end Go.Abs
namespace Go.Abs
def Ret(P:Program)(f:FuncId)(args:wF) (U0:St)(r:A) (U1:St):Prop:=y6 P f args U0 fun o U'=>o=.ret r/\U' = U1
def jW:Bool->Nat->Nat->A:=fun _ _ _=>.any
def j9{α:Type}:List α->List Nat->List α->List α
 |s,[],t=>s++t
 |s,j::js,o::os=>j9 (s.set j o) js os
 |s,_::_,[]=>s
theorem i6{α:Type}:∀{js:wA} {s t:List α},js.length<=t.length->(j9 s js t).length=s.length+(t.length-js.length)
 |[],s,t,_=>by simp[j9]
 |j::js,s,[],h=>by simp at h
 |j::js,s,o::os,h=>by simp only[j9,jAb]at h⊢;rw[i6 (by omega)];simp
theorem rT{α:Type}:∀{js:wA} {s t:List α} {x:Nat},js.length<=t.length->x<s.length->x∉js->(j9 s js t)[x]?=s[x]?
 |[],s,t,x,_,hx,_=>by simp[j9,jAo hx]
 |j::js,s,[],x,h,_,_=>by simp at h
 |j::js,s,o::os,x,h,hx,hn=>by simp only[j9,jAb,jA3,not_or]at h hn ⊢;rw[rT (by omega) (by simpa using hx) hn.2,jAd (Ne.symm hn.1)]
theorem vA{α:Type}:∀{js:wA} {s t:List α} {i x:Nat},js.length<=t.length->js.Nodup->(∀y∈js,y<s.length)->js[i]?=some x->(j9 s js t)[x]?=t[i]?
 |[],s,t,i,x,_,_,_,h=>by simp at h
 |j::js,s,[],i,x,h,_,_,_=>by simp at h
 |j::js,s,o::os,i,x,h,hd,hb,hi=>by
  rw[jD2]at hd;simp only[j9,jAb]at h⊢;cases i with
  |zero =>
   simp only[jB7,jA1]at hi;subst hi;have hj:=hb j (jAp ..);rw[rT (by omega) (by simpa using hj) hd.1,jAm hj];rfl
  |succ i =>
   simp only[jBi]at hi ⊢;exact vA (by omega) hd.2 (fun y hy=>by simpa using hb y (jAi _ hy)) hi
theorem zAe{α:Type}:∀{js:wA} {s t:List α} {k:Nat},js.length<=t.length->(j9 s js t)[s.length+k]?=t[js.length+k]?
 |[],s,t,k,_=>by simp only[j9,jB4,jAx];rw[jB8 (by omega),Nat.add_sub_cancel_left]
 |j::js,s,[],k,h=>by simp at h
 |j::js,s,o::os,k,h=>by
  simp only[j9,jAb]at h⊢;have:=zAe (js:=js) (s:=s.set j o) (t:=os) (k:=k) (by omega);rw[jCx]at this;rw[this];have e:js.length+1+k=js.length+k+1:=by omega
  rw[e,jBi]
def eT(js:wA)(n l:Nat):Nat:=match js,l with
 |[],l=>n+l
 |j::_,0=>j
 |_::js,l+1=>eT js n l
theorem zDi:∀{js:wA} {n i x:Nat},js[i]?=some x->eT js n i=x
 |[],n,i,x,h=>by simp at h
 |j::js,n,0,x,h=>by simpa[eT]using h
 |j::js,n,i+1,x,h=>by simp only[eT];exact zDi (by simpa using h)
theorem zA3:∀{js:wA} {n k:Nat},eT js n (js.length+k)=n+k
 |[],n,k=>by simp[eT]
 |j::js,n,k=>by
  have e:(j::js).length+k=js.length+k+1:=by simp;omega
  rw[e];simp only[eT];exact zA3
def ren(js:wA)(n:Nat)(a:A):A:=vw jW (fun l=>some (eT js n l)) a
def zX4(js:wA)(n:Nat)(cs:wF):wF:=vwL jW (fun l=>some (eT js n l)) cs
def fE(js:wA)(n:Nat)(o:AObj):AObj:=vwO jW (fun l=>some (eT js n l)) o
def eJ(js:wA):List A->List A->Prop
 |[],[]=>True
 |a'::aS',a::aS=>(a=vw jW (qR js) a'\/a=nrm0 (vw jW (qR js) a'))/\eJ js aS' aS
 |_,_=>False
section
variable{P:Program}{H H':Mem}{L L':wO} {U:St}{w:World}
theorem zW.vw{H':Mem}{L':wO}{w':World}{rf:Bool->Nat->Nat->A}{g:Nat->wD}{li:LI}{o:AObj}(h:zW H L w li o)(hrel:∀cs vs,z6 H L cs vs->z6 H' L' (vwL rf g cs) vs)
 (hw:∀b,li.block=some b->w'.heap[b]?=w.heap[b]?)(hh:HLe H H')(hb:∀b,li.block=some b->∀o,H' b o=H b o):zW H' L' w' li (vwO rf g o):=by
 cases o with
 |dead=>trivial
 |box cs =>
  simp only[zW,vwO]at h⊢;obtain⟨h0,b,vs,e,h1,h2,h3,h4,h5⟩:=h;exact⟨h0,b,vs,e,h1,by rw[hw b h1];exact h2,hrel _ _ h3,h4,fun o=>by rw[hb b h1];exact h5 o⟩
 |row fz e sz n cs =>
  simp only[zW,vwO]at h⊢;obtain⟨h0,h1,h2,h3⟩:=h;refine⟨h0,h1,by rw[zAu];exact h2,?_⟩;rcases h3 with h3|⟨b,cur,g1,g2,g3,g4,g5,g6,g7,g8⟩
  .exact .inl h3
  .refine .inr ⟨b,cur,g1,by rw[hw b g1];exact g2,g3,g4,g5,hrel _ _ g6,g7,?_⟩;cases fz with
   |false=>exact fun o=>by rw[hb b g1];exact g8 o
   |true=>exact⟨g8.1.mono hh,fun o ho=>by rw[hb b g1];exact g8.2 o ho⟩
 |lp b r M es =>
  simp only[zW,vwO]at h⊢;obtain⟨h0,h1,tmps,h2,h3,h4⟩:=h;exact⟨h0,h1,tmps,by rw[hw b h1];exact h2,h3,h4.map _ fun a v ha=>by have:=hrel [a] [v] (qF ha jF);simp only[vwL]at this;obtain⟨u,us,k1,k2,_⟩:=zZ this;cases k1;exact k2⟩
 |mp fr nk es =>
  simp only[zW,vwO]at h⊢;obtain⟨h0,b,ents,ck,h1,h2,h3,h4⟩:=h;refine⟨h0,b,ents,ck,h1,by rw[hw b h1];exact h2,aF.map _ (fun p _ v ha=>?_) h3,h4.1,zEj h4.2⟩;have:=hrel [p.2] [v] (qF ha jF);simp only[vwL]at this;obtain⟨u,us,k1,k2,_⟩:=zZ this;cases k1;exact k2
 |it m n met =>
  simp only[vwO];split
  .rename_i i0 hi0;simp only[zW]at h⊢;obtain⟨h0,b,mb,lm,h1,h2,h3,h4,h5⟩:=h;have hp:Rel H L (.ptr m 0) (.pointer (some ⟨mb,0,none⟩)):=by simp only[Rel];exact⟨lm,mb,h2,h3,h4,rfl⟩
   have:=hrel [_] [_] (qF hp jF);simp only[vwL,Abs.vw,hi0]at this;obtain⟨u,us,k1,k2,_⟩:=zZ this;cases k1;simp only[Rel]at k2;obtain⟨lm',mb',g2,g3,g4,g5⟩:=k2;cases g5;exact⟨h0,b,mb,lm',h1,g2,g3,g4,by rw[hw b h1];exact h5⟩
  .trivial
 |rsv=>exact h
variable{U0:St}
theorem zTB{js:wA} (hs:RelSt H L U w)(hd:js.Nodup)(ho:bT U jW (qR js) js U0) :
 ∃L0:wO,L0.length=js.length/\(∀i j:Nat,js[i]?=some j->∃li,L[j]?=some li/\L0[i]?=some li)/\RelSt H L0 U0 w/\∀a v,Rel H L a v->Rel H L0 (Abs.vw jW (qR js) a) v:=by
 let L0:wO:=js.map fun k=>L.getD k ⟨none,0,0,false⟩
 have hin:∀(i j:Nat),js[i]?=some j->∃li,L[j]?=some li/\L0[i]?=some li:=by
  intro i j hij;have hi:i < U0.length:=by rw[pI ho];exact(jA5.1 hij).1
  obtain⟨o,hU,_⟩:=pH ho hij (jA2 hi);have hj:j<L.length:=by rw[hs.len];exact(jA5.1 hU).1
  refine⟨L[j],jA2 hj,?_⟩;simp[L0,hij,hj]
 have hback:∀{i:Nat} {li:LI},L0[i]?=some li->∃j,js[i]?=some j/\L[j]?=some li:=by
  intro i li hi;have hi':i<js.length:=by simpa[L0]using (jA5.1 hi).1
  obtain⟨li',h1,h2⟩:=hin i js[i] (jA2 hi');rw[hi]at h2;cases h2;exact⟨_,jA2 hi',h1⟩
 have hg:∀l i,qR js l=some i->L0[i]?=L[l]?:=by intro l i hl;obtain⟨li,h1,h2⟩:=hin i l (zCe hl);rw[h1,h2]
 have hr0:∀(l n:Nat) (v:Value),qR js l=none->Rel H L (.row l n) v->Rel H L0 (jW false l n) v:=fun _ _ _ _ _=>by simp[jW,Rel]
 have hp0:∀(l n:Nat) (v:Value),qR js l=none->Rel H L (.ptr l n) v->Rel H L0 (jW true l n) v:=fun _ _ _ _ _=>by simp[jW,Rel]
 refine⟨L0,by simp[L0],hin,⟨hs.pers,by simp[L0,pI ho],fun i li o hL hU=>?_,fun i j x y b hi hj hx hy=>?_,fun i li b hi hb=>?_⟩,fun a v ha=>Rel.vw (HLe.refl _) hg hr0 hp0 a ha⟩
 .obtain⟨j,hj,hLj⟩:=hback hL;obtain⟨o0,hU0,heq⟩:=pH ho hj hU;have key:=(hs.obj j li o0 hLj hU0).vw (H':=H) (L':=L0) (w':=w) (rf:=jW) (g:=qR js) (fun cs vs h=>z6.vw (HLe.refl _) hg hr0 hp0 cs h) (fun _ _=>rfl) (HLe.refl _) (fun _ _ _=>rfl);rcases heq with rfl|rfl
  .exact key
  .exact key.nrm
 .obtain⟨i',hi',hLi⟩:=hback hi;obtain⟨j',hj',hLj⟩:=hback hj;have:=hs.inj i' j' x y b hLi hLj hx hy;subst this;exact zBX hd hi' hj'
 .obtain⟨j,_,hLj⟩:=hback hi;exact hs.lt j li b hLj hb
def zMk(C:List Value->World->(Ending->World->Prop)->Prop)(args:wF) (U:St)(Q:Out->St->Prop):Prop :=
 ∀(H:Mem) (L:wO) (w:World) (vs:wM),RelSt H L U w->z6 H L args vs->C vs w fun e w'=>∃o U' H' L',v7 H' L' o e/\Nxt H L w H' L' U' w'/\Q o U'
def zLI(js:wA)(n:Nat):Out->Out
 | .ret r=>.ret (ren js n r)
 | .pan v=>.pan v
variable{C:List Value->World->(Ending->World->Prop)->Prop}{Q0 Q:Out->St->Prop}
theorem zNE(hmono:∀vs w R R',C vs w R->(∀e w',R e w'->R' e w')->C vs w R'){args args':wF} (h:zMk C args U0 Q0)(js:wA)(hd:js.Nodup)(ho:bT U jW (qR js) js U0)(ha:eJ js args' args)
 (hq:∀o U1,Q0 o U1->Q (zLI js U.length o) (j9 U js (U1.map (fE js U.length)))):zMk C args' U Q:=by
 intro H L w vs hs hvs;obtain⟨L0,hL0,hin,hs0,hrel0⟩:=zTB hs hd ho;have hvs0:z6 H L0 args vs:=by
  clear hq h;induction args' generalizing args vs with
  |nil=>cases args with
   |nil=>rw[qY hvs];exact jF
   |cons _ _=>exact ha.elim
  |cons a' aS' ih=>cases args with
   |nil=>exact ha.elim
   |cons a aS =>
    obtain⟨u,us,rfl,h1,h2⟩:=zZ hvs;refine qF ?_ (ih (vs:=us) ha.2 h2);rcases ha.1 with e|e
    .rw[e];exact hrel0 _ _ h1
    .rw[e];exact Rel.nrm0 _ (hrel0 _ _ h1)
 refine hmono _ _ _ _ (h H L0 w vs hs0 hvs0) fun e w' hh=>?_
 obtain⟨o,U',H1,L1,g1,g2,hq0⟩:=hh;have hq:=hq o U' hq0;have hjs:js.length<=L1.length:=by
  rcases jAz L1.length js.length with hlt|hge
  .have hlt0:L1.length<L0.length:=by omega
   obtain⟨l',hl',_⟩:=g2.lle L1.length L0[L1.length] (jA2 hlt0);exact absurd (jA5.1 hl').1 (Nat.lt_irrefl _)
  .exact hge
 have hjs1:js.length<=(U'.map (fE js U.length)).length:=by rw[jAa,<-g2.st.len];exact hjs
 have hjb:∀y∈js,y<L.length:=by intro y hy;obtain⟨i,hi⟩:=jDg hy;obtain⟨li,h1,_⟩:=hin i y hi;exact(jA5.1 h1).1
 have hjb':∀y∈js,y < U.length:=fun y hy=>by rw[<-hs.len];exact hjb y hy
 let L':=j9 L js L1;have hlen':L'.length=(j9 U js (U'.map (fE js U.length))).length:=by rw[i6 hjs,i6 hjs1,jAa,hs.len,g2.st.len]
 have hgf:∀l,L'[eT js U.length l]?=L1[l]?:=by
  intro l;rcases jAz l js.length with hl|hl
  .have:=jA2 hl;rw[zDi this];exact vA hjs hd hjb this
  .obtain⟨k,rfl⟩:=Nat.le.dest hl;rw[zA3,<-hs.len];exact zAe hjs
 have hgs:∀l,(j9 U js (U'.map (fE js U.length)))[eT js U.length l]?=(U'[l]?).map (fE js U.length):=by
  intro l;rw[<-jBn];rcases jAz l js.length with hl|hl
  .have:=jA2 hl;rw[zDi this];exact vA hjs1 hd hjb' this
  .obtain⟨k,rfl⟩:=Nat.le.dest hl;rw[zA3];exact zAe hjs1
 have hg:∀l i,(fun l=>some (eT js U.length l)) l=some i->L'[i]?=L1[l]?:=by intro l i hl;simp only[jA1]at hl;subst hl;exact hgf l
 have hr0:∀(l n:Nat) (v:Value),(fun l=>some (eT js U.length l)) l=none->Rel H1 L1 (.row l n) v->Rel H1 L' (jW false l n) v:=fun _ _ _ _ _=>by simp[jW,Rel]
 have hp0:∀(l n:Nat) (v:Value),(fun l=>some (eT js U.length l)) l=none->Rel H1 L1 (.ptr l n) v->Rel H1 L' (jW true l n) v:=fun _ _ _ _ _=>by simp[jW,Rel]
 have hcase:∀x,x<L'.length->(∃l,l<L1.length/\eT js U.length l=x)\/(x<L.length/\x∉js):=by
  intro x hx;by_cases hm:x∈js
  .obtain⟨i,hi⟩:=jDg hm;exact .inl ⟨i,by have:=(jA5.1 hi).1;omega,zDi hi⟩
  .rcases jAz x L.length with h|h
   .exact .inr ⟨h,hm⟩
   .obtain⟨k,rfl⟩:=Nat.le.dest h;refine .inl ⟨js.length+k,?_,by rw[zA3,hs.len]⟩;rw[i6 hjs]at hx;omega
 have hold:∀x,x<L.length->x∉js->L'[x]?=L[x]?:=fun x hx hm=>rT hjs hx hm
 have holds:∀x,x<L.length->x∉js->(j9 U js (U'.map (fE js U.length)))[x]? = U[x]?:=fun x hx hm=>rT hjs1 (by rw[<-hs.len];exact hx) hm
 have hown0:∀b,zJD L0 b->∃(j:Nat) (li:LI),j∈js/\L[j]?=some li/\li.block=some b:=by
  rintro b ⟨i,li,h1,h2⟩;have hi:i<js.length:=by rw[<-hL0];exact(jA5.1 h1).1
  obtain⟨li',h3,h4⟩:=hin i js[i] (jA2 hi);rw[h1]at h4;cases h4;exact⟨_,li,jA0 hi,h3,h2⟩
 have hnot:∀x li b,x∉js->L[x]?=some li->li.block=some b->¬zJD L0 b:=by intro x li b hx h1 h2 ho;obtain⟨j,li',hj,h3,h4⟩:=hown0 b ho;have:=hs.inj x j li li' b h1 h3 h2 h4;subst this;exact hx hj
 have hlle:LLe L L':=by
  intro x li hx;have hxl:x<L.length:=(jA5.1 hx).1;by_cases hm:x∈js
  .obtain⟨i,hi⟩:=jDg hm;obtain⟨li',h1,h2⟩:=hin i x hi;rw[hx]at h1;cases h1;obtain⟨l',h3,h4⟩:=g2.lle i li h2;exact⟨l',by rw[vA hjs hd hjb hi];exact h3,h4⟩
  .exact⟨li,by rw[hold x hxl hm];exact hx,.inl rfl⟩
 have hout:v7 H1 L' (zLI js U.length o) e:=by
  cases o with
  |ret r =>
   obtain⟨v,rfl,hv⟩:=g1;exact⟨v,rfl,Rel.vw (HLe.refl _) hg hr0 hp0 r hv⟩
  |pan v=>exact g1
 refine⟨zLI js U.length o,j9 U js (U'.map (fE js U.length)),H1,L',hout,⟨⟨g2.st.pers,hlen',fun x li o hL hU=>?_,fun x y lx ly b hx hy hbx hby=>?_,fun x li b hx hb=>?_⟩,
  ⟨g2.step.os,g2.step.tape,g2.step.output,g2.step.size,fun k hk hn=>g2.step.keep k hk fun ho=>hn (by obtain⟨j,li,_,h1,h2⟩:=hown0 k ho;exact⟨j,li,h1,h2⟩),g2.step.hle,fun b o v hv=>?_,g2.step.drawn,g2.step.dfr⟩,hlle,fun b ⟨x,li,hx,hb⟩=>?_⟩,hq⟩
 .rcases hcase x (jA5.1 hL).1 with ⟨l,hl,rfl⟩|⟨h1,h2⟩
  .rw[hgf]at hL;rw[hgs,jAe]at hU;obtain⟨o1,ho1,rfl⟩:=hU;exact(g2.st.obj l li o1 hL ho1).vw (fun cs vs h=>z6.vw (HLe.refl _) hg hr0 hp0 cs h) (fun _ _=>rfl) (HLe.refl _) (fun _ _ _=>rfl)
  .rw[hold x h1 h2]at hL;rw[holds x h1 h2]at hU;refine(hs.obj x li o hL hU).carry (fun b hb=>g2.step.keep b (hs.lt x li b hL hb) (hnot x li b h2 hL hb)) g2.step.hle hlle (fun b hb o'=>?_);cases hH:H b o' with
   |some u=>exact g2.step.hle _ _ _ hH
   |none =>
    cases hH1:H1 b o' with
    |none=>rfl
    |some u =>
     rcases g2.step.hnew b o' u hH1 with k1|k1|k1
     .rw[hH]at k1;cases k1
     .exact(hnot x li b h2 hL hb k1).elim
     .have:=hs.lt x li b hL hb;omega
 .have cross:∀(l y:Nat) (lx ly:LI),L1[l]?=some lx->lx.block=some b->y∉js->L[y]?=some ly->ly.block=some b->False:=by
   intro l y lx ly k1 k2 k3 k4 k5;rcases g2.own b ⟨l,lx,k1,k2⟩with k|k
   .exact hnot y ly b k3 k4 k5 k
   .have:=hs.lt y ly b k4 k5;omega
  rcases hcase x (jA5.1 hx).1 with ⟨l,hl,rfl⟩|⟨h1,h2⟩
  .rw[hgf]at hx;rcases hcase y (jA5.1 hy).1 with ⟨m,hm,rfl⟩|⟨h3,h4⟩
   .rw[hgf]at hy;rw[g2.st.inj l m lx ly b hx hy hbx hby]
   .rw[hold y h3 h4]at hy;exact(cross l y lx ly hx hbx h4 hy hby).elim
  .rw[hold x h1 h2]at hx;rcases hcase y (jA5.1 hy).1 with ⟨m,hm,rfl⟩|⟨h3,h4⟩
   .rw[hgf]at hy;exact(cross m x ly lx hy hby h2 hx hbx).elim
   .rw[hold y h3 h4]at hy;exact hs.inj x y lx ly b hx hy hbx hby
 .rcases hcase x (jA5.1 hx).1 with ⟨l,hl,rfl⟩|⟨h1,h2⟩
  .rw[hgf]at hx;exact g2.st.lt l li b hx hb
  .rw[hold x h1 h2]at hx;exact jCe (hs.lt x li b hx hb) g2.step.size
 .rcases g2.step.hnew b o v hv with k|k|k
  .exact .inl k
  .obtain⟨j,li,_,h1,h2⟩:=hown0 b k;exact .inr (.inl ⟨j,li,h1,h2⟩)
  .exact .inr (.inr k)
 .rcases hcase x (jA5.1 hx).1 with ⟨l,hl,rfl⟩|⟨h1,h2⟩
  .rw[hgf]at hx;rcases g2.own b ⟨l,li,hx,hb⟩with k|k
   .obtain⟨j,li',_,h1,h2⟩:=hown0 b k;exact .inl ⟨j,li',h1,h2⟩
   .exact .inr k
  .rw[hold x h1 h2]at hx;exact .inl ⟨x,li,hx,hb⟩
theorem zB5(hmono:∀vs w R R',C vs w R->(∀e w',R e w'->R' e w')->C vs w R'){args args':wF} (h:zMk C args U0 Q0)(js:wA)(hd:js.Nodup)(ho:bT U jW (qR js) js U0)(ha:eJ js args' args)
 (hnp:∀v U1,¬Q0 (.pan v) U1)(hq:∀r U1,Q0 (.ret r) U1->Q (.ret (ren js U.length r)) (j9 U js (U1.map (fE js U.length)))):zMk C args' U Q :=
 zNE hmono h js hd ho ha fun o U1 h0=>by
  cases o with
  |ret r=>exact hq r U1 h0
  |pan v=>exact(hnp v U1 h0).elim
theorem zDB(P:Program)(f:FuncId):∀(vs:wM) (w:World) (R R':Ending->World->Prop),Calls P f vs.toArray w R->(∀e w',R e w'->R' e w')->Calls P f vs.toArray w R':=fun _ _ _ _ h k=>h.mono k
variable{f:FuncId}{U1:St}{r:A}
theorem cV{args args':wF} (h:Ret P f args U0 r U1)(js:wA)(hd:js.Nodup)(ho:bT U jW (qR js) js U0)(ha:eJ js args' args)
 (hq:Q (.ret (ren js U.length r)) (j9 U js (U1.map (fE js U.length)))):y6 P f args' U Q :=
 zB5 (C:=fun vs w R=>Calls P f vs.toArray w R) (zDB P f) (Q0:=fun o U'=>o=.ret r/\U' = U1) h js hd ho ha (fun v U1 h=>by cases h.1) (fun r' U' h=>by obtain⟨h1,rfl⟩:=h;cases h1;exact hq)
theorem zKG(P:Program)(b:Nat):∀(vs:wM) (w:World) (R R':Ending->World->Prop),(∃f tmps x y,(Instr.yield b vs.toArray).run P w=.ok (.round b f tmps x y) w/\RoundIn Fence.wide 0 P b f tmps x y w R)->(∀e w',R e w'->R' e w') ->
 ∃f tmps x y,(Instr.yield b vs.toArray).run P w=.ok (.round b f tmps x y) w/\RoundIn Fence.wide 0 P b f tmps x y w R':=fun _ _ _ _ ⟨f,tmps,x,y,h1,h2⟩ k=>⟨f,tmps,x,y,h1,h2.mono k⟩
theorem zNC{b:Nat}{args args':wF} (h:iB P b args U0 fun o τ=>o=.ret r/\τ = U1)(js:wA)(hd:js.Nodup)(ho:bT U jW (qR js) js U0)(ha:eJ js args' args)
 (hq:Q (.ret (ren js U.length r)) (j9 U js (U1.map (fE js U.length)))):iB P b args' U Q :=
 zB5 (C:=fun vs w R=>∃f tmps x y,(Instr.yield b vs.toArray).run P w=.ok (.round b f tmps x y) w/\RoundIn Fence.wide 0 P b f tmps x y w R) (zKG P b) (Q0:=fun o U'=>o=.ret r/\U' = U1) h js hd ho ha (fun v U1 h=>by cases h.1)
  (fun r' U' h=>by obtain⟨h1,rfl⟩:=h;cases h1;exact hq)
theorem zEJ{args:wF} 
 (h:y6 P f args U0 fun o U'=>∃(r':A)(ks:wA)(fuel:Nat),o=.ret r'/\(∀i,i < U0.length->ks[i]?=some i)/\ks.Nodup/\bT U' (seen U' (qR ks) fuel) (qR ks) ks U1 /\
  (r=vw (seen U' (qR ks) fuel) (qR ks) r'\/r=nrm0 (vw (seen U' (qR ks) fuel) (qR ks) r'))):Ret P f args U0 r U1:=by
 intro H L w vs hs ha;refine(h H L w vs hs ha).mono fun e w' hh=>?_
 obtain⟨o,U',H',L',g1,g2,r',ks,fuel,rfl,hk,hd,ho,hr⟩:=hh;obtain⟨v,rfl,hv⟩:=g1;obtain⟨H2,L2,k1,_,k3⟩:=zH6 ks fuel (by rw[hs.len];exact hk) hd ho g2;refine⟨.ret r,U1,H2,L2,⟨v,rfl,?_⟩,k1,rfl,rfl⟩;rcases hr with e|e
 .rw[e];exact k3 _ _ hv
 .rw[e];exact Rel.nrm0 _ (k3 _ _ hv)
end
end Go.Abs
