/-
  The rules by which a walk over abstract states goes on, for simp.
-/
import Derived.Test.YthglhccibdlccaaGreatDoorX11
set_option linter.unusedVariables false
set_option linter.unusedSimpArgs false
namespace Go.Abs
def qMe (o:Option A)(d:Option Nat)(K:Env→St→Prop)(env:Env) (σ : St):Prop:=match o with
 | some r=>K (env.put d r) σ
 | none=>False
def qNq (o:Option A)(d:Option Nat)(K:Env→Prop)(env:Env):Prop:=match o with
 | some r=>K (env.put d r)
 | none=>False
def zSE (o:Option (List A))(J:List A→Prop):Prop:=match o with
 | some r=>J r
 | none=>False
def qA3 (o:Option St)(J:St→Prop):Prop:=match o with
 | some r=>J r
 | none=>False
section
variable {P:Program}{n0:Nat}{Qp:Value→Env→St→Prop}{K':Env→St→Prop}{KD:Env→Prop}{Q:Ex→Env→St→Prop}{env:Env} {σ : St}{d d':Option Nat}{x y z:Operand}
@[simp] theorem qDp {r:A}:qMe (some r) d K' env σ = K' (env.put d r) σ:=rfl
@[simp] theorem qDr {r:A}:qNq (some r) d KD env=KD (env.put d r):=rfl
@[simp] theorem qDH {r:List A}{J:List A→Prop}:zSE (some r) J=J r:=rfl
@[simp] theorem qDK {r:St}{J:St→Prop}:qA3 (some r) J=J r:=rfl
@[simp] theorem qHX {r:A}:env.put none r=env:=rfl
@[simp] theorem qJR {i t:Nat}{r:A}:(env.put (some i) r) t=if t=i then r else env t:=rfl
@[simp] theorem qNN {t:Nat}:ev env (.tmp t)=env t:=rfl
@[simp] theorem qKF {f:FuncId}:ev env (.func f)=.clo f [] []:=rfl
@[simp] theorem qLw {k:IntKind}{n:Int}:ev env (.const (.int k n))=.lit (.int k n):=rfl
@[simp] theorem qKP {b:Bool}:ev env (.const (.bool b))=.lit (.bool b):=rfl
@[simp] theorem qDW {s:ByteArray}:ev env (.const (.string s))=.lit (.string s):=rfl
@[simp] theorem qMD:ev env (.const (.slice none 0 0))=.nil:=rfl
@[simp] theorem qCn:ev env (.const .nilFunc)=.lit .nilFunc:=rfl
@[simp] theorem qEz:ev env (.const (.pointer none))=.lit (.pointer none):=rfl
@[simp] theorem qOT {l:List Value}:ev env (.const (.agg ⟨l⟩))=if zAi l then .agg (l.map jE) else .any:=rfl
@[simp] theorem zZ2:zAi []=true:=rfl
@[simp] theorem zWJ {v:Value}{l:List Value}:zAi (v::l)=(v.oneCell'&&zAi l):=rfl
@[simp] theorem qKK {k:IntKind}{n:Int}:(Value.int k n).oneCell'=true:=rfl
@[simp] theorem qGM {b:Bool}:(Value.bool b).oneCell'=true:=rfl
@[simp] theorem qCd {s:ByteArray}:(Value.string s).oneCell'=true:=rfl
@[simp] theorem qEd {a:Option Addr}{n c:Nat}:(Value.slice a n c).oneCell'=true:=rfl
@[simp] theorem zYQ {a:Option Addr}:(Value.pointer a).oneCell'=true:=rfl
@[simp] theorem zZx:(Value.nilFunc).oneCell'=true:=rfl
@[simp] theorem qKo {r:Option Nat}:(Value.map r).oneCell'=true:=rfl
@[simp] theorem qAU {k:IntKind}{n:Int}:jE (.int k n)=.lit (.int k n):=rfl
@[simp] theorem qAu {b:Bool}:jE (.bool b)=.lit (.bool b):=rfl
@[simp] theorem zWz {s:ByteArray}:jE (.string s)=.lit (.string s):=rfl
@[simp] theorem qBV:jE (.slice none 0 0)=.nil:=rfl
@[simp] theorem zTm:jE .nilFunc=.lit .nilFunc:=rfl
@[simp] theorem zWx:jE (.pointer none)=.lit (.pointer none):=rfl
@[simp] theorem zWy:jE (.map none)=.lit (.map none):=rfl
@[simp] theorem zZo:cellsOf .nil=some [.nil]:=rfl
@[simp] theorem zYH {cs:List A}:cellsOf (.agg cs)=some cs:=rfl
@[simp] theorem qAk {v:Value}:cellsOf (.lit v)=if v.oneCell' then some [.lit v] else none:=rfl
@[simp] theorem qCG {n:Nat}{cs:List A}:cellsOf (.sl n cs)=some [.sl n cs]:=rfl
@[simp] theorem zZk {n:Nat}{cs:List A}:cellsOf (.fsl n cs)=some [.fsl n cs]:=rfl
@[simp] theorem zYT {l n:Nat}:cellsOf (.row l n)=some [.row l n]:=rfl
@[simp] theorem zY9 {l n:Nat}:cellsOf (.ptr l n)=some [.ptr l n]:=rfl
@[simp] theorem zZA {l:Nat}:cellsOf (.map l)=some [.map l]:=rfl
@[simp] theorem zZG {l n o k c:Nat}:cellsOf (.win l n o k c)=some [.win l n o k c]:=rfl
@[simp] theorem zZJ {l n o:Nat}:cellsOf (.rwp l n o)=some [.rwp l n o]:=rfl
@[simp] theorem zW6 {cs:List A}:cellsOf (.rptr cs)=some [.rptr cs]:=rfl
@[simp] theorem zZB {f:FuncId}{a b:List A}:cellsOf (.clo f a b)=some [.clo f a b]:=rfl
@[simp] theorem qAL {cs:List A}:zBv true cs=some (.agg cs):=rfl
@[simp] theorem zZL {c:A}:zBv false [c]=some c:=rfl
@[simp] theorem qFl {cs:List A}{n:Nat}:ldA σ n (.rptr cs)=sub cs 0 n:=rfl
def zYD:Option AObj→Nat→Nat→Option (List A)
 | some (.box cs),off,n=>sub cs off n
 | _,_,_=>none
def zZX:Option AObj→Nat→Nat→Nat→Option (List A)
 | some (.row _ _ _ k cs),m,off,n=>if m=k then sub cs off n else none
 | _,_,_,_=>none
@[simp] theorem qCD {cs:List A}{off n:Nat}:zYD (some (.box cs)) off n=sub cs off n:=rfl
@[simp] theorem qC4 {fz:Bool}{e:TypeId}{s k:Nat}{cs:List A}{m off n:Nat}:zZX (some (.row fz e s k cs)) m off n=if m=k then sub cs off n else none:=rfl
@[simp] theorem qLl {l off n:Nat}:ldA σ n (.ptr l off)=zYD σ[l]? off n:=by
 simp only[ldA];cases σ[l]? with
 | none=>rfl
 | some o=>cases o<;>rfl
@[simp] theorem qKb {l m off n:Nat}:ldA σ n (.rwp l m off)=zZX σ[l]? m off n:=by
 simp only[ldA];cases σ[l]? with
 | none=>rfl
 | some o=>cases o<;>rfl
@[simp] theorem qN4 {cs:List A}{off n:Nat}:sub cs off n=if off+n≤cs.length then some ((cs.drop off).take n) else none:=rfl
def zZV:Option AObj→St→List A→Nat→Nat→Option St
 | some (.box ds),σ,cs,l,off=>if off+cs.length≤ds.length then some (σ.set l (.box (ds.take off++cs++ds.drop (off+cs.length)))) else none
 | _,_,_,_,_=>none
def qAv:Option AObj→St→List A→Nat→Nat→Nat→Option St
 | some (.row false e sz k ds),σ,cs,l,m,off=>if m=k∧off+cs.length≤ds.length then some (σ.set l (.row false e sz k (ds.take off++cs++ds.drop (off+cs.length)))) else none
 | _,_,_,_,_,_=>none
@[simp] theorem qBu {ds cs:List A}{l off:Nat}:zZV (some (.box ds)) σ cs l off=if off+cs.length≤ds.length then some (σ.set l (.box (ds.take off++cs++ds.drop (off+cs.length)))) else none:=rfl
@[simp] theorem qBl {e:TypeId}{sz k:Nat}{ds cs:List A}{l m off:Nat}:qAv (some (.row false e sz k ds)) σ cs l m off=if m=k∧off+cs.length≤ds.length then some (σ.set l (.row false e sz k (ds.take off++cs++ds.drop (off+cs.length)))) else none:=rfl
@[simp] theorem qJW {cs:List A}{l off:Nat}:stA σ cs (.ptr l off)=zZV σ[l]? σ cs l off:=by
 simp only[stA];cases σ[l]? with
 | none=>rfl
 | some o=>cases o<;>rfl
@[simp] theorem qJ9 {cs:List A}{l m off:Nat}:stA σ cs (.rwp l m off)=qAv σ[l]? σ cs l m off:=by
 simp only[stA];cases σ[l]? with
 | none=>rfl
 | some o =>
  cases o<;>try rfl
  rename_i fz e s n ds;cases fz<;>rfl
def zYG:Option AObj→Nat→Nat→(List A→Prop)→Prop
 | some (.row _ _ s m cs),n,sz,J=>n=m∧s=sz∧J cs
 | _,_,_,_=>False
@[simp] theorem zQ4 {fz:Bool}{e:TypeId}{s m n sz:Nat}{cs:List A}{J:List A→Prop}:zYG (some (.row fz e s m cs)) n sz J=(n=m∧s=sz∧J cs):=rfl
@[simp] theorem qEm {b:Bool}:(b==true)=b:=by cases b<;>rfl
@[simp] theorem qCL {A B:Env→St→Prop}:zEV true A B env σ = A env σ:=by simp[zEV]
@[simp] theorem zZa {A B:Env→St→Prop}:zEV false A B env σ = B env σ:=by simp[zEV]
@[simp] theorem qI3:zFv d K' env σ = K' (env.put d (.lit undef)) σ:=rfl
@[simp] theorem qET {r:A}:zIi d env K' Qp (.ret r) σ = K' (env.put d r) σ:=rfl
@[simp] theorem qEX {v:Value}:zIi d env K' Qp (.pan v) σ = Qp v env σ:=rfl
@[simp] theorem qJi {J:Env→St→Prop}:thn J Q .norm=J:=rfl
@[simp] theorem qKd {J:Env→St→Prop}:thn J Q .ret=Q .ret:=rfl
@[simp] theorem qHY {J:Env→St→Prop}{i:Nat}:thn J Q (.exit i)=Q (.exit i):=rfl
@[simp] theorem qJ4 {J:Env→St→Prop}{v:Value}:thn J Q (.pan v)=Q (.pan v):=rfl
@[simp] theorem qIB {id:Nat}:blk id Q .norm=Q .norm:=rfl
@[simp] theorem qKT {id:Nat}:blk id Q .ret=Q .ret:=rfl
@[simp] theorem qJw {id i:Nat}:blk id Q (.exit i)=if i=id then Q .norm else Q (.exit i):=rfl
@[simp] theorem qKA {id:Nat}{v:Value}:blk id Q (.pan v)=Q (.pan v):=rfl
@[simp] theorem qKC {I:Nat→Env→St→Prop}{n:Nat}:rnd n0 I n Q .ret=Q .ret:=rfl
@[simp] theorem qI4 {I:Nat→Env→St→Prop}{n i:Nat}:rnd n0 I n Q (.exit i)=Q (.exit i):=rfl
@[simp] theorem qJ3 {I:Nat→Env→St→Prop}{n:Nat}{v:Value}:rnd n0 I n Q (.pan v)=Q (.pan v):=rfl
@[simp] theorem qIM {rs:List RS}{R:Out→St→Prop}:fin rs R .norm=zJk rs R:=rfl
@[simp] theorem qLu {rs:List RS}{R:Out→St→Prop}:fin rs R .ret=zJk rs R:=rfl
@[simp] theorem qKf {rs:List RS}{R:Out→St→Prop}{v:Value}:fin rs R (.pan v) env σ = R (.pan v) σ:=rfl
@[simp] theorem qD3 {t:Nat}{R:Out→St→Prop}:zJk [.slot t] R env σ = R (.ret (env t)) σ:=rfl
@[simp] theorem qFe {t u:Nat}{R:Out→St→Prop}:zJk [.slot t,.slot u] R env σ = R (.ret (.tup [env t,env u])) σ:=rfl
@[simp] theorem qCJ {t u v:Nat}{R:Out→St→Prop}:zJk [.slot t,.slot u,.slot v] R env σ = R (.ret (.tup [env t,env u,env v])) σ:=rfl
@[simp] theorem zYu {a:A}{l:List A}:zCo (a::l) 0=a:=rfl
@[simp] theorem zYz {a:A}{l:List A}{n:Nat}:zCo (a::l) (n+1)=zCo l n:=by simp[zCo]
@[simp] theorem qAt {n:Nat}:zCo [] n=.lit undef:=by simp[zCo]
@[simp] theorem qNP {k:K}{rs:List RS}{args:List A}{R:Out→St→Prop}:wpF P k rs args σ R=wpK P σ.length k (fin rs R) (zCo args) σ:=rfl
@[simp] theorem qGB:wpK P n0 .skip Q env σ = Q .norm env σ:=rfl
@[simp] theorem qKm:wpK P n0 .ret Q env σ = Q .ret env σ:=rfl
@[simp] theorem qIu {i:Nat}:wpK P n0 (.exit i) Q env σ = Q (.exit i) env σ:=rfl
@[simp] theorem qKQ {a b:K}:wpK P n0 (.seq a b) Q env σ = wpK P n0 a (thn (wpK P n0 b Q) Q) env σ:=rfl
@[simp] theorem qEg {i:Nat}{a:K}:wpK P n0 (.block i a) Q env σ = wpK P n0 a (blk i Q) env σ:=rfl
@[simp] theorem qG9 {a:K}:wpK P n0 (.loop a) Q env σ = zN1 n0 (wpK P n0 a) Q env σ:=rfl
@[simp] theorem qM5 {a:K}:wpK P n0 (.wk a) Q env σ = Wk n0 (wpK P n0 a Q) env σ:=rfl
@[simp] theorem qJX {l:List KG}:wpK P n0 (.ops l) Q env σ = zD5 P (fun v=>Q (.pan v)) (Q .norm) l env σ:=rfl
@[simp] theorem qFU {l:List (Nat×Nat×KG)}:wpK P n0 (.dops l) Q env σ = wpD P (Q .norm) l env σ:=rfl
@[simp] theorem qKS {ps:List Nat}{a b:K}:wpK P n0 (.rng x ps a b) Q env σ = qBG P n0 x ps (fun n=>wpK P n a) (fun n=>wpK P n b) Q env σ:=rfl
@[simp] theorem qEA {S:St}{J:Env→St→Prop}:zWN S J .norm env σ = (σ = S∧J env σ):=rfl
@[simp] theorem qEE {S:St}:zWF n0 S .norm env σ = Wk n0 (fun _ σ'=>σ'=S) env σ:=rfl
@[simp] theorem qDf {xs:List A}:zFd env [] xs=env:=by cases xs<;>rfl
@[simp] theorem qAX {p:Nat}{ps:List Nat}{a:A}{xs:List A}:zFd env (p::ps) (a::xs)=zFd (env.put (some p) a) ps xs:=rfl
@[simp] theorem qCO {b:Nat}:cellsOf (yv b)=some [yv b]:=rfl
def zZ4 (a:A)(A B:Env→St→Prop)(env:Env) (σ : St):Prop:=match a with
 | .lit (.bool t)=>zEV t A B env σ
 | _=>False
@[simp] theorem qBO {t:Bool}{A B:Env→St→Prop}:zZ4 (.lit (.bool t)) A B env σ = zEV t A B env σ:=rfl
@[simp] theorem qJl {a b:K}:wpK P n0 (.cond x a b) Q env σ = zZ4 (ev env x) (wpK P n0 a Q) (wpK P n0 b Q) env σ:=rfl
@[simp] theorem qDs:zD5 P Qp K' [] env σ = K' env σ:=rfl
@[simp] theorem qAK {o:KOp}{l:List KG}:zD5 P Qp K' (⟨none,o⟩::l) env σ = wpO P Qp (zD5 P Qp K' l) o env σ:=rfl
def zIm (a:A)(want:Bool)(A B:Env→St→Prop)(env:Env) (σ : St):Prop:=match a with
 | .lit (.bool b)=>zEV (b==want) A B env σ
 | .lit (.tuple _)=>B env σ
 | _=>False
@[simp] theorem qAr {b want:Bool}{A B:Env→St→Prop}:zIm (.lit (.bool b)) want A B env σ = zEV (b==want) A B env σ:=rfl
@[simp] theorem zYq {want:Bool}{A B:Env→St→Prop}:zIm (.lit undef) want A B env σ = B env σ:=rfl
@[simp] theorem zZW {s:Nat}{want:Bool}{o:KOp}{l:List KG}:zD5 P Qp K' (⟨some (s,want),o⟩::l) env σ = zIm (env s) want (wpO P Qp (zD5 P Qp K' l) o) (zFv o.dst (zD5 P Qp K' l)) env σ:=by
 simp only[zD5,wpG,zIm];generalize env s=a;cases a<;>try rfl
 all_goals (rename_i v; cases v<;>rfl)
def zQM (a:A)(x y:A)(J:A→Prop):Prop:=match a with
 | .lit (.bool t)=>J (if t then x else y)
 | _=>False
@[simp] theorem qCC {t:Bool}{a b:A}{J:A→Prop}:zQM (.lit (.bool t)) a b J=J (if t then a else b):=rfl
def zDg (o:Option A)(J:A→Prop):Prop:=match o with
 | some r=>J r
 | none=>False
@[simp] theorem qD9 {r:A}{J:A→Prop}:zDg (some r) J=J r:=rfl
theorem zEq {o:Option A}{J:A→Prop}:jC (o.map fun r=>(True,r)) J=zDg o J:=by cases o<;>simp[jC,zDg]
@[simp] theorem qLd:wpO P Qp K' (.mov d x) env σ = K' (env.put d (ev env x)) σ:=by simp[wpO,jC,zT,KOp.dst]
theorem zL4 {J:A→Prop}:jC (zT env σ (.pick d x y z)) J=zQM (ev env x) (ev env y) (ev env z) J:=by
 simp only[zT,zQM,jC];generalize ev env x=a;cases a<;>try rfl
 rename_i v;cases v<;>simp
@[simp] theorem qFE:wpO P Qp K' (.pick d x y z) env σ = zQM (ev env x) (ev env y) (ev env z) fun r=>K' (env.put d r) σ:=zL4 (d:=d)
@[simp] theorem qDZ {zs:List Value}:wpO P Qp K' (.alloc d zs) env σ = K' (env.put d (.ptr σ.length 0)) (σ++[.box (zs.map jE)]):=rfl
@[simp] theorem qLp:wpO P Qp K' (.box d x) env σ = zSE (cellsOf (ev env x)) fun cs=>K' (env.put d (.ptr σ.length 0)) (σ++[.box cs]):=rfl
@[simp] theorem qLR {n:Nat}{agg:Bool}:wpO P Qp K' (.ld d x n agg) env σ = zDg ((ldA σ n (ev env x)).bind (zBv agg)) fun r=>K' (env.put d r) σ:=zEq
@[simp] theorem qOx {n:Nat}:wpO P Qp K' (.st d x y n) env σ = zSE (cellsOf (ev env y)) fun cs=>cs.length=n∧qA3 (stA σ cs (ev env x)) fun σ'=>K' (env.put d (.lit undef)) σ':=by
 simp only[wpO,zSE,qA3];cases cellsOf (ev env y)with
 | none=>rfl
 | some cs =>
  simp only;by_cases h:cs.length=n
  ·simp only[h,if_true,true_and];cases stA σ cs (ev env x)<;>rfl
  ·simp[h]
def zGW (σ : St)(off:Nat):A→Option A
 | .ptr l o=>some (.ptr l (o+off))
 | .rptr cs=>some (.rptr (cs.drop off))
 | .rwp l n o=>match σ[l]? with
  | some (.row _ _ _ m _)=>if n=m then some (.rwp l n (o+off)) else none
  | _=>none
 | _=>none
@[simp] theorem qD7 {l o off:Nat}:zGW σ off (.ptr l o)=some (.ptr l (o+off)):=rfl
@[simp] theorem qCK {cs:List A}{off:Nat}:zGW σ off (.rptr cs)=some (.rptr (cs.drop off)):=rfl
theorem zGp {off:Nat}:zT env σ (.addr d x off)=(zGW σ off (ev env x)).map fun r=>(True,r):=by
 simp only[zT];generalize ev env x=a;cases a<;>simp only[zGW]<;>try rfl
 rename_i l n o;cases σ[l]? with
 | none=>rfl
 | some ob =>
  cases ob<;>try rfl
  simp only;split<;>rfl
@[simp] theorem qIj {off:Nat}:wpO P Qp K' (.addr d x off) env σ = zDg (zGW σ off (ev env x)) fun r=>K' (env.put d r) σ:=by show jC (zT env σ (.addr d x off)) _=_;rw[zGp,zEq];rfl
def zLd (σ : St)(sz:Nat)(a i:A)(J:A→Prop):Prop:=match a,i with
 | .sl n cs,.lit (.int _ j)=>((0≤j∧j<n)∧j.toNat*sz<cs.length)∧J (.rptr (cs.drop (j.toNat*sz)))
 | .fsl n cs,.lit (.int _ j)=>((0≤j∧j<n)∧j.toNat*sz<cs.length)∧J (.rptr (cs.drop (j.toNat*sz)))
 | .row l n,.lit (.int _ j)=>match σ[l]? with
  | some (.row _ _ s m _)=>if n=m∧s=sz then (0≤j∧j<n)∧J (.rwp l n (j.toNat*sz)) else False
  | _=>False
 | .win l n o k' _,.lit (.int _ j)=>match σ[l]? with
  | some (.row _ _ s m _)=>if n=m∧s=sz then (0≤j∧j<k')∧J (.rwp l n (o+j.toNat*sz)) else False
  | _=>False
 | _,_=>False
theorem zLq {sz:Nat}{J:A→Prop}:jC (zT env σ (.idx d x y sz)) J=zLd σ sz (ev env x) (ev env y) J:=by
 simp only[zT,zLd,jC];generalize ev env x=a;generalize ev env y=b;cases a<;>cases b<;>try rfl
 all_goals (rename_i v; cases v<;>try rfl)
 ·rename_i l n k j;simp only;cases σ[l]? with
  | none=>rfl
  | some ob =>
   cases ob<;>try rfl
   rename_i fz e s m cs;by_cases h:n=m∧s=sz<;>simp[h]
 ·rename_i l n o k' c k j;simp only;cases σ[l]? with
  | none=>rfl
  | some ob =>
   cases ob<;>try rfl
   rename_i fz e s m cs;by_cases h:n=m∧s=sz<;>simp[h]
@[simp] theorem qKv {sz:Nat}:wpO P Qp K' (.idx d x y sz) env σ = zLd σ sz (ev env x) (ev env y) fun r=>K' (env.put d r) σ:=zLq (d:=d)
@[simp] theorem qK2 {sz n:Nat}{cs:List A}{k:IntKind}{j:Int}{J:A→Prop}:zLd σ sz (.sl n cs) (.lit (.int k j)) J=(((0≤j∧j<n)∧j.toNat*sz<cs.length)∧J (.rptr (cs.drop (j.toNat*sz)))):=rfl
@[simp] theorem qG6 {sz n:Nat}{cs:List A}{k:IntKind}{j:Int}{J:A→Prop}:zLd σ sz (.fsl n cs) (.lit (.int k j)) J=(((0≤j∧j<n)∧j.toNat*sz<cs.length)∧J (.rptr (cs.drop (j.toNat*sz)))):=rfl
def zGN (len sz:Nat)(a i:A)(J:A→Prop):Prop:=match a,i with
 | .ptr l o,.lit (.int _ j)=>(0≤j∧j<len)∧J (.ptr l (o+j.toNat*sz))
 | .rptr cs,.lit (.int _ j)=>((0≤j∧j<len)∧j.toNat*sz<cs.length)∧J (.rptr (cs.drop (j.toNat*sz)))
 | _,_=>False
@[simp] theorem zWG {len sz:Nat}{cs:List A}{k:IntKind}{j:Int}{J:A→Prop}:zGN len sz (.rptr cs) (.lit (.int k j)) J=(((0≤j∧j<len)∧j.toNat*sz<cs.length)∧J (.rptr (cs.drop (j.toNat*sz)))):=rfl
@[simp] theorem zZH {len sz l o:Nat}{k:IntKind}{j:Int}{J:A→Prop}:zGN len sz (.ptr l o) (.lit (.int k j)) J=((0≤j∧j<len)∧J (.ptr l (o+j.toNat*sz))):=rfl
theorem zMA {len sz:Nat}{J:A→Prop}:jC (zT env σ (.idxarr d x y len sz)) J=zGN len sz (ev env x) (ev env y) J:=by
 simp only[zT,zGN,jC];generalize ev env x=a;generalize ev env y=b;cases a<;>first
  | rfl
  | (cases b<;>first
   | rfl
   | (rename_i v; cases v<;>rfl))
@[simp] theorem qCj {len sz:Nat}:wpO P Qp K' (.idxarr d x y len sz) env σ = zGN len sz (ev env x) (ev env y) fun r=>K' (env.put d r) σ:=zMA (d:=d)
def zD9 (op:BinOp)(a b:A)(J:A→Prop):Prop:=match a,b with
 | .lit (.int k m),.lit (.int k' n)=>if k=k' then (match zDK op k m n with | some (p,r)=>p∧J r | none=>False) else False
 | .lit (.string s),.lit (.string t)=>(match zUw op s t with | some (p,r)=>p∧J r | none=>False)
 | _,_=>False
theorem zSo {op:BinOp}{J:A→Prop}:jC (zT env σ (.bin d op x y)) J=zD9 op (ev env x) (ev env y) J:=by
 simp only[zT,zD9,jC];generalize ev env x=a;generalize ev env y=b;cases a<;>try rfl
 rename_i u;cases b<;>try (cases u<;>rfl)
 rename_i v;cases u<;>cases v<;>try rfl
 case lit.lit.int.int k m k' n =>
  by_cases h:k=k'
  ·simp only[h,if_true];cases zDK op k' m n<;>rfl
  ·simp[h]
@[simp] theorem qLj {op:BinOp}:wpO P Qp K' (.bin d op x y) env σ = zD9 op (ev env x) (ev env y) fun r=>K' (env.put d r) σ:=zSo (d:=d)
@[simp] theorem qEQ {s t:ByteArray}{J:A→Prop}:zD9 .add (.lit (.string s)) (.lit (.string t)) J=(s.size+t.size≤1000000∧J (.lit (.string (s++t)))):=rfl
@[simp] theorem qH2 {k:IntKind}{m n:Int}{J:A→Prop}:zD9 .add (.lit (.int k m)) (.lit (.int k n)) J=J (.lit (.int k (k.wrap (m+n)))):=by simp[zD9,zDK]
@[simp] theorem qIQ {k:IntKind}{m n:Int}{J:A→Prop}:zD9 .sub (.lit (.int k m)) (.lit (.int k n)) J=J (.lit (.int k (k.wrap (m-n)))):=by simp[zD9,zDK]
@[simp] theorem qH4 {k:IntKind}{m n:Int}{J:A→Prop}:zD9 .mul (.lit (.int k m)) (.lit (.int k n)) J=J (.lit (.int k (k.wrap (m*n)))):=by simp[zD9,zDK]
@[simp] theorem qFy {k:IntKind}{m n:Int}{J:A→Prop}:zD9 .quo (.lit (.int k m)) (.lit (.int k n)) J=(n≠0∧J (.lit (.int k (k.wrap (m.tdiv n))))):=by simp[zD9,zDK]
@[simp] theorem qFm {k:IntKind}{m n:Int}{J:A→Prop}:zD9 .rem (.lit (.int k m)) (.lit (.int k n)) J=(n≠0∧J (.lit (.int k (m.tmod n)))):=by simp[zD9,zDK]
@[simp] theorem qIE {k:IntKind}{m n:Int}{J:A→Prop}:zD9 .lss (.lit (.int k m)) (.lit (.int k n)) J=J (.lit (.bool (decide (m<n)))):=by simp[zD9,zDK]
@[simp] theorem qHy {k:IntKind}{m n:Int}{J:A→Prop}:zD9 .leq (.lit (.int k m)) (.lit (.int k n)) J=J (.lit (.bool (decide (m≤n)))):=by simp[zD9,zDK]
@[simp] theorem qHU {k:IntKind}{m n:Int}{J:A→Prop}:zD9 .gtr (.lit (.int k m)) (.lit (.int k n)) J=J (.lit (.bool (decide (n<m)))):=by simp[zD9,zDK]
@[simp] theorem qHl {k:IntKind}{m n:Int}{J:A→Prop}:zD9 .geq (.lit (.int k m)) (.lit (.int k n)) J=J (.lit (.bool (decide (n≤m)))):=by simp[zD9,zDK]
noncomputable def eqA (k:SK) (ng:Bool) (a b:A):Option A:=(zBP k a b).map (zAR ng)
noncomputable def zQ1 (ks:List SK) (ng:Bool) (a b:A):Option A:=match a,b with
 | .agg xs,.agg ys=>(zBH ks xs ys).map (zAR ng)
 | _,_=>none
theorem zU3 {k:SK}{ng:Bool}{J:A→Prop}:jC (zT env σ (.eqv d ng k x y)) J=zDg (eqA k ng (ev env x) (ev env y)) J:=by simp only[zT,eqA];cases zBP k (ev env x) (ev env y)<;>simp[jC,zDg]
theorem zUI {ks:List SK}{ng:Bool}{J:A→Prop}:jC (zT env σ (.eqs d ng ks x y)) J=zDg (zQ1 ks ng (ev env x) (ev env y)) J:=by
 simp only[zT,zQ1];generalize ev env x=a;generalize ev env y=b;cases a<;>cases b<;>try rfl
 rename_i xs ys;simp only;cases zBH ks xs ys<;>simp[jC,zDg]
@[simp] theorem qKw {k:SK}{ng:Bool}:wpO P Qp K' (.eqv d ng k x y) env σ = zDg (eqA k ng (ev env x) (ev env y)) fun r=>K' (env.put d r) σ:=zU3 (d:=d)
@[simp] theorem qJ5 {ks:List SK}{ng:Bool}:wpO P Qp K' (.eqs d ng ks x y) env σ = zDg (zQ1 ks ng (ev env x) (ev env y)) fun r=>K' (env.put d r) σ:=zUI (d:=d)
@[simp] theorem qLf {k:IntKind}{m n:Int}:eqA .i false (.lit (.int k m)) (.lit (.int k n))=some (.lit (.bool (decide (m=n)))):=by simp[eqA,zBP,zAR]
@[simp] theorem qGc {k:IntKind}{m n:Int}:eqA .i true (.lit (.int k m)) (.lit (.int k n))=some (.lit (.bool (decide (m≠n)))):=by simp[eqA,zBP,zAR]
@[simp] theorem qGH {m n:Bool}:eqA .b false (.lit (.bool m)) (.lit (.bool n))=some (.lit (.bool (decide (m=n)))):=by simp[eqA,zBP,zAR]
@[simp] theorem qDM {m n:Bool}:eqA .b true (.lit (.bool m)) (.lit (.bool n))=some (.lit (.bool (decide (m≠n)))):=by simp[eqA,zBP,zAR]
def zW8 (a:A)(J:A→Prop):Prop:=match a with | .lit (.int k m)=>J (.lit (.int k (k.wrap (0-m)))) | _=>False
@[simp] theorem qGe {k:IntKind}{m:Int}{J:A→Prop}:zW8 (.lit (.int k m)) J=J (.lit (.int k (k.wrap (0-m)))):=rfl
theorem zVz {J:A→Prop}:jC (zT env σ (.neg d x)) J=zW8 (ev env x) J:=by
 simp only[zT,zW8];generalize ev env x=a;cases a<;>try rfl
 rename_i v; cases v<;>simp[jC]
@[simp] theorem qKN:wpO P Qp K' (.neg d x) env σ = zW8 (ev env x) fun r=>K' (env.put d r) σ:=zVz (d:=d)
def zYl (a:A)(J:A→Prop):Prop:=match a with | .lit (.bool b)=>J (.lit (.bool !b)) | _=>False
@[simp] theorem qEC {b:Bool}{J:A→Prop}:zYl (.lit (.bool b)) J=J (.lit (.bool !b)):=rfl
theorem zVW {J:A→Prop}:jC (zT env σ (.not d x)) J=zYl (ev env x) J:=by
 simp only[zT,zYl];generalize ev env x=a;cases a<;>try rfl
 rename_i v; cases v<;>simp[jC]
@[simp] theorem qJL:wpO P Qp K' (.not d x) env σ = zYl (ev env x) fun r=>K' (env.put d r) σ:=zVW (d:=d)
def zHY (σ : St)(a:A)(J:A→Prop):Prop:=match a with
 | .nil=>J (.lit (.int .i64 0))
 | .sl n _=>n≤maxLen→J (.lit (.int .i64 n))
 | .fsl n _=>n≤maxLen→J (.lit (.int .i64 n))
 | .row l n=>match σ[l]? with
  | some (.row _ _ _ m _)=>if n=m then J (.lit (.int .i64 n)) else False
  | _=>False
 | .win l n _ k _=>match σ[l]? with
  | some (.row _ _ _ m _)=>if n=m then J (.lit (.int .i64 k)) else False
  | _=>False
 | _=>False
@[simp] theorem qIg {J:A→Prop}:zHY σ .nil J=J (.lit (.int .i64 0)):=rfl
@[simp] theorem qJD {n:Nat}{cs:List A}{J:A→Prop}:zHY σ (.sl n cs) J=(n≤maxLen→J (.lit (.int .i64 n))):=rfl
@[simp] theorem qIN {n:Nat}{cs:List A}{J:A→Prop}:zHY σ (.fsl n cs) J=(n≤maxLen→J (.lit (.int .i64 n))):=rfl
@[simp] theorem qLk:wpO P Qp K' (.len d false x) env σ = zHY σ (ev env x) fun r=>K' (env.put d r) σ:=by
 simp only[wpO,zHY,zT];generalize ev env x=a;cases a<;>simp only[jC,true_and]
 ·rename_i l n;cases σ[l]? with
  | none=>rfl
  | some ob =>
   cases ob<;>try rfl
   rename_i fz e s m cs;by_cases h:n=m<;>simp[h]
 ·rename_i l n _ k _;cases σ[l]? with
  | none=>rfl
  | some ob =>
   cases ob<;>try rfl
   rename_i fz e s m cs;by_cases h:n=m<;>simp[h]
def zQP (a:A)(J:A→Prop):Prop:=match a with | .lit (.string s)=>J (.lit (.int .i64 s.size)) | _=>False
@[simp] theorem zXS {s:ByteArray}{J:A→Prop}:zQP (.lit (.string s)) J=J (.lit (.int .i64 s.size)):=rfl
theorem zS3 {J:A→Prop}:jC (zT env σ (.len d true x)) J=zQP (ev env x) J:=by
 simp only[zT,zQP];generalize ev env x=a;cases a<;>try rfl
 rename_i v; cases v<;>simp[jC]
@[simp] theorem qFC:wpO P Qp K' (.len d true x) env σ = zQP (ev env x) fun r=>K' (env.put d r) σ:=zS3 (d:=d)
def mmA (mx:Bool):List A→Option A
 | .lit (.int k a)::rest=>zFk mx a rest k
 | _=>none
@[simp] theorem zZh {k:IntKind}{m n:Int}:mmA true [.lit (.int k m),.lit (.int k n)]=some (.lit (.int k (if m<n then n else m))):=by simp[mmA,zFk]
@[simp] theorem zYW {k:IntKind}{m n:Int}:mmA false [.lit (.int k m),.lit (.int k n)]=some (.lit (.int k (if n<m then n else m))):=by simp[mmA,zFk]
theorem zRE {mx:Bool}{xs:List Operand}{J:A→Prop}:jC (zT env σ (.mm d mx xs)) J=zDg (mmA mx (xs.map (ev env))) J:=by
 simp only[zT];generalize xs.map (ev env)=l;cases l with
 | nil=>rfl
 | cons a l =>
  cases a<;>try rfl
  rename_i v;cases v<;>try rfl
  exact zEq
@[simp] theorem qOo {mx:Bool}{xs:List Operand}:wpO P Qp K' (.mm d mx xs) env σ = zDg (mmA mx (xs.map (ev env))) fun r=>K' (env.put d r) σ:=zRE (d:=d)
def zXV (i:Nat)(a:A)(J:A→Prop):Prop:=match a with | .tup vs=>(match vs[i]? with | some r=>J r | none=>False) | _=>False
@[simp] theorem qGb {i:Nat}{vs:List A}{J:A→Prop}:zXV i (.tup vs) J=zDg vs[i]? J:=rfl
theorem zUf {i:Nat}{J:A→Prop}:jC (zT env σ (.ext d x i)) J=zXV i (ev env x) J:=by
 simp only[zT,zXV];generalize ev env x=a;cases a<;>try rfl
 rename_i vs;simp only;cases vs[i]?<;>simp[jC]
@[simp] theorem qKt {i:Nat}:wpO P Qp K' (.ext d x i) env σ = zXV i (ev env x) fun r=>K' (env.put d r) σ:=zUf (d:=d)
@[simp] theorem qKY {f:FuncId}{a b:List Operand}:wpO P Qp K' (.clo d f a b) env σ = K' (env.put d (.clo f (a.map (ev env)) (b.map (ev env)))) σ:=by simp[wpO,zT,jC,KOp.dst]
theorem zJD {zs:List Value}{ps:List (Nat×Nat×Operand)}{J:A→Prop}:jC (zT env σ (.build d zs ps)) J=zDg ((zAY (zs.map jE) (ps.map fun(o,s,x)=>(o,s,ev env x))).map .agg) J:=by simp only[zT];cases zAY (zs.map jE) (ps.map fun(o,s,x)=>(o,s,ev env x))<;>simp[jC,zDg]
@[simp] theorem qE6 {zs:List Value}{ps:List (Nat×Nat×Operand)}:wpO P Qp K' (.build d zs ps) env σ = zDg ((zAY (zs.map jE) (ps.map fun(o,s,x)=>(o,s,ev env x))).map .agg) fun r=>K' (env.put d r) σ:=zJD (d:=d)
@[simp] theorem qAV {e:TypeId}{sz n:Nat}{zs:List Value}{ps:List (Nat×Nat×Operand)}:wpO P Qp K' (.bslice d e sz n zs ps) env σ = zDg ((zAY (zs.map jE) (ps.map fun(o,s,x)=>(o,s,ev env x))).map (.fsl n)) fun r=>K' (env.put d r) σ:=by simp only[wpO,zDg];cases zAY (zs.map jE) (ps.map fun(o,s,x)=>(o,s,ev env x))<;>simp
@[simp] theorem qGL {e:TypeId}{sz n:Nat}{zs:List Value}{ps:List (Nat×Nat×Operand)}:wpO P Qp K' (.brow d e sz n zs ps) env σ = zSE (zAY (zs.map jE) (ps.map fun(o,s,x)=>(o,s,ev env x))) fun cs=>K' (env.put d (.row σ.length n)) (σ++[.row false e sz n cs]):=by simp only[wpO,zSE];cases zAY (zs.map jE) (ps.map fun(o,s,x)=>(o,s,ev env x))<;>simp
def zSG (a:A)(neg:Bool)(J:A→Prop):Prop:=match a with
 | .nil=>J (.lit (.bool !neg))
 | .sl n _=>n≠0∧J (.lit (.bool neg))
 | .fsl n _=>n≠0∧J (.lit (.bool neg))
 | _=>False
@[simp] theorem qGI {neg:Bool}{J:A→Prop}:zSG .nil neg J=J (.lit (.bool !neg)):=rfl
@[simp] theorem qLt {neg:Bool}{n:Nat}{cs:List A}{J:A→Prop}:zSG (.sl n cs) neg J=(n≠0∧J (.lit (.bool neg))):=rfl
@[simp] theorem qIR {neg:Bool}{n:Nat}{cs:List A}{J:A→Prop}:zSG (.fsl n cs) neg J=(n≠0∧J (.lit (.bool neg))):=rfl
theorem zWn {neg:Bool}{J:A→Prop}:jC (zT env σ (.isn d neg x)) J=zSG (ev env x) neg J:=by simp only[zT,zSG,jC];generalize ev env x=a;cases a<;>simp
def zX5 (σ : St)(a:A)(neg:Bool)(J:A→Prop):Prop:=match a with
 | .nil=>J (.lit (.bool !neg))
 | .sl n _=>J (.lit (.bool neg))∧(n=0→J (.lit (.bool !neg)))
 | .row l n=>(match σ[l]? with
  | some (.row _ _ _ m _)=>n=m∧J (.lit (.bool neg))∧(n=0→J (.lit (.bool !neg)))
  | _=>False)
 | _=>False
@[simp] theorem qFP {neg:Bool}{J:A→Prop}:zX5 σ .nil neg J=J (.lit (.bool !neg)):=rfl
@[simp] theorem qKk {neg:Bool}{n:Nat}{cs:List A}{J:A→Prop}:zX5 σ (.sl n cs) neg J=(J (.lit (.bool neg))∧(n=0→J (.lit (.bool !neg)))):=rfl
@[simp] theorem qKg {neg:Bool}:wpO P Qp K' (.isz d neg x) env σ = zX5 σ (ev env x) neg fun r=>K' (env.put d r) σ:=by simp only[wpO,zX5];cases ev env x<;>rfl
@[simp] theorem qJO {neg:Bool}:wpO P Qp K' (.isn d neg x) env σ = zSG (ev env x) neg fun r=>K' (env.put d r) σ:=zWn (d:=d)
@[simp] theorem qDh {cs:List A}:zAY cs []=some cs:=rfl
def zZn (c:Option (List A))(o s:Nat)(cs:List A)(rest:List (Nat×Nat×A)):Option (List A):=match c with
 | some l=>if l.length=s∧o+s≤cs.length then zAY (cs.take o++l++cs.drop (o+s)) rest else none
 | none=>none
@[simp] theorem qBz {l:List A}{o s:Nat}{cs:List A}{rest:List (Nat×Nat×A)}:zZn (some l) o s cs rest=if l.length=s∧o+s≤cs.length then zAY (cs.take o++l++cs.drop (o+s)) rest else none:=rfl
@[simp] theorem qAD {cs:List A}{o s:Nat}{a:A}{rest:List (Nat×Nat×A)}:zAY cs ((o,s,a)::rest)=zZn (cellsOf a) o s cs rest:=rfl
def elP (σ : St)(sz:Nat)(a:A)(J:Nat→List A→Prop):Prop:=match zBW σ sz a with
 | some (m,ys)=>ys.length=m*sz∧J m ys
 | none=>False
@[simp] theorem qJY {sz:Nat}{J:Nat→List A→Prop}:elP σ sz .nil J=J 0 []:=by simp[elP,zBW]
@[simp] theorem qN9 {sz n:Nat}{cs:List A}{J:Nat→List A→Prop}:elP σ sz (.sl n cs) J=(cs.length=n*sz∧J n cs):=rfl
@[simp] theorem qLi {sz n:Nat}{cs:List A}{J:Nat→List A→Prop}:elP σ sz (.fsl n cs) J=(cs.length=n*sz∧J n cs):=rfl
@[simp] theorem qKj {sz l n:Nat}{J:Nat→List A→Prop}:elP σ sz (.row l n) J=zYG σ[l]? n sz fun cs=>cs.length=n*sz∧J n cs:=by
 simp only[elP,zBW];cases σ[l]? with
 | none=>rfl
 | some o =>
  cases o<;>try rfl
  rename_i fz e s m cs;by_cases h:n=m∧s=sz
  ·simp[h]
  ·simp only[h,if_false,zQ4,eq_iff_iff,false_iff];rintro⟨h1,h2,_⟩;exact h ⟨h1,h2⟩
def zTR (d:Option Nat)(K':Env→St→Prop)(env:Env) (σ : St)(e:TypeId)(sz bytes m:Nat)(ys:List A):A→Prop
 | .nil=>(m≤maxLen∧m*bytes≤140737488355328)∧K' (env.put d (.row σ.length m)) (σ++[AObj.row false e sz m ys])
 | .row l n=>(match σ[l]? with
  | some (.row fz e' s n' cs)=>if n=n'∧e'=e∧s=sz then (n+m≤maxLen∧(n+m)*bytes≤140737488355328)∧K' (env.put d (.row l (n+m))) (σ.set l (.row fz e sz (n+m) (cs++ys))) else False
  | _=>False)
 | .fsl n cs=>cs.length=n*sz∧(m=0→K' (env.put d (.fsl n cs)) σ)∧(m≠0→(n+m≤maxLen∧(n+m)*bytes≤140737488355328)∧K' (env.put d (.row σ.length (n+m))) (σ++[AObj.row false e sz (n+m) (cs++ys)]))
 | _=>False
@[simp] theorem qHm {e:TypeId}{sz bytes m:Nat}{ys:List A}:zTR d K' env σ e sz bytes m ys .nil=((m≤maxLen∧m*bytes≤140737488355328)∧K' (env.put d (.row σ.length m)) (σ++[AObj.row false e sz m ys])):=rfl
@[simp] theorem qGS {e:TypeId}{sz bytes m n:Nat}{ys cs:List A}:zTR d K' env σ e sz bytes m ys (.fsl n cs)=(cs.length=n*sz∧(m=0→K' (env.put d (.fsl n cs)) σ)∧(m≠0→(n+m≤maxLen∧(n+m)*bytes≤140737488355328)∧K' (env.put d (.row σ.length (n+m))) (σ++[AObj.row false e sz (n+m) (cs++ys)]))):=rfl
def zZc:Option AObj→Nat→TypeId→Nat→(Bool→List A→Prop)→Prop
 | some (.row fz e' s n' cs),n,e,sz,J=>(n=n'∧e'=e∧s=sz)∧J fz cs
 | _,_,_,_,_=>False
@[simp] theorem qB8 {fz:Bool}{e' e:TypeId}{s n' n sz:Nat}{cs:List A}{J:Bool→List A→Prop}:zZc (some (.row fz e' s n' cs)) n e sz J=((n=n'∧e'=e∧s=sz)∧J fz cs):=rfl
@[simp] theorem qHn {e:TypeId}{sz bytes m l n:Nat}{ys:List A}:zTR d K' env σ e sz bytes m ys (.row l n)=zZc σ[l]? n e sz fun fz cs=>(n+m≤maxLen∧(n+m)*bytes≤140737488355328)∧K' (env.put d (.row l (n+m))) (σ.set l (.row fz e sz (n+m) (cs++ys))):=by
 simp only[zTR];cases σ[l]? with
 | none=>rfl
 | some o =>
  cases o<;>try rfl
  rename_i fz e' s n' cs;by_cases h:n=n'∧e'=e∧s=sz
  ·simp[h]
  ·simp[h]
@[simp] theorem qLq {e:TypeId}{sz bytes:Nat}:wpO P Qp K' (.app d e sz bytes x y) env σ = elP σ sz (ev env y) fun m ys=>zTR d K' env σ e sz bytes m ys (ev env x):=by
 simp only[wpO,elP];cases zBW σ sz (ev env y)with
 | none=>rfl
 | some r =>
  obtain⟨m,ys⟩:=r;simp only;generalize ev env x=a;cases a<;>rfl
def zUu (P:Program)(Qp:Value→Env→St→Prop)(K':Env→St→Prop)(d:Option Nat)(f:A)(args:List A)(env:Env) (σ : St):Prop:=match f with
 | .clo g first cap=>zC P g=true∧zAd P g (first++args++cap) σ (zIi d env K' Qp)
 | .lit (.func (.yield b) ⟨[]⟩ ⟨[]⟩)=>zIT P b args σ (zIi d env K' Qp)
 | _=>False
@[simp] theorem qGw {b:Nat}{args:List A}:zUu P Qp K' d (yv b) args env σ = zIT P b args σ (zIi d env K' Qp):=rfl
@[simp] theorem qDl {g:FuncId}{first cap args:List A}:zUu P Qp K' d (.clo g first cap) args env σ = (zC P g=true∧zAd P g (first++args++cap) σ (zIi d env K' Qp)):=rfl
@[simp] theorem qGv {args:List Operand}:wpO P Qp K' (.call d x args) env σ = zUu P Qp K' d (ev env x) (args.map (ev env)) env σ:=rfl
@[simp] theorem qEs:zBa []=[]:=rfl
@[simp] theorem qDJ {cs:List A}:zBa (.box cs::σ)=.box cs::zBa σ:=rfl
@[simp] theorem qDw {fz:Bool}{e:TypeId}{sz n:Nat}{cs:List A}:zBa (.row fz e sz n cs::σ)=.dead::zBa σ:=rfl
@[simp] theorem qHD {fr:Bool}{nk:Nat}{es:List (List Int×A)}:zBa (.mp fr nk es::σ)=.dead::zBa σ:=rfl
@[simp] theorem qD0:zBa (.rsv::σ)=.dead::zBa σ:=rfl
@[simp] theorem qFZ {m n:Nat}{met:List Nat}:zBa (.it m n met::σ)=.dead::zBa σ:=rfl
@[simp] theorem qFj {b M:Nat}{r:Loop}{es:List (Nat×A)}:zBa (.lp b r M es::σ)=.dead::zBa σ:=rfl
@[simp] theorem zWO {σ : St}:(zBa σ).length = σ.length:=by
 induction σ with
 | nil=>rfl
 | cons o σ ih=>cases o<;>simp[zBa,ih]
@[simp] theorem qD1 {σ : St}:zDs 0 σ = σ:=rfl
@[simp] theorem qFB {σ : St}:zDs 1 σ = zBa σ:=rfl
@[simp] theorem qGC {σ : St}:zDs 2 σ = []:=rfl
variable {fl k:Nat}
@[simp] theorem qKL:wpD P K' [] env σ = K' env σ:=by simp only[wpD]
@[simp] theorem qMb {o:KOp}:zAr 0 o env=True:=rfl
@[simp] theorem qNZ {o:KOp}:zAr 1 o env=True:=rfl
@[simp] theorem qN3 {o:KOp}:zAr 2 o env=True:=rfl
@[simp] theorem qM1 {o:KOp}:zAr 3 o env=True:=rfl
@[simp] theorem qLz {o:KOp}:zAr 4 o env=True:=rfl
@[simp] theorem qNa {n:Nat}:zAr 5 (.st d x y n) env=zLf (ev env x):=rfl
@[simp] theorem qMp {n:Nat}:zAr 6 (.st d x y n) env=zMe (ev env x):=rfl
@[simp] theorem qKx {n:Nat}:zAr 6 (.idx d x y n) env=isRow (ev env x):=rfl
@[simp] theorem qEu {l o:Nat}:zLf (.ptr l o)=True:=rfl
@[simp] theorem qDq {l n o:Nat}:zMe (.rwp l n o)=True:=rfl
@[simp] theorem qEy {l n:Nat}:isRow (.row l n)=True:=rfl
@[simp] theorem qFa {σ : St}:zDs 6 σ = σ:=rfl
@[simp] theorem qHt {o:KOp}{l:List (Nat×Nat×KG)}:wpD P K' ((k,fl,⟨none,o⟩)::l) env σ = (zAr fl o env∧jI P fl (wpD P K' l) o env σ):=rfl
@[simp] theorem qEJ {s:Nat}{want:Bool}{o:KOp}{l:List (Nat×Nat×KG)}:wpD P K' ((k,fl,⟨some (s,want),o⟩)::l) env σ = (zAr fl o env∧zIm (env s) want (jI P fl (wpD P K' l) o) (zFv o.dst (wpD P K' l)) env σ):=by
 simp only[wpD,zPP,zIm];generalize env s=a;cases a<;>try rfl
 all_goals (rename_i v; cases v<;>rfl)
@[simp] theorem qC6:jI P fl K' (.pick d x y z) env σ = wpO P zAO K' (.pick d x y z) env σ:=by simp[jI,KOp.lite,KOp.keeps]
@[simp] theorem qAI {e sz n:Nat}{zs:List Value}{ps:List (Nat×Nat×Operand)}:jI P fl K' (.brow d e sz n zs ps) env σ = wpO P zAO K' (.brow d e sz n zs ps) env σ:=by simp[jI,KOp.lite,KOp.keeps]
@[simp] theorem qCY {m:MOp}{xs:List Operand}:jI P fl K' (.mop d m xs) env σ = (match zOI m (xs.map (ev env)) σ with
 | some (r,σ')=>K' (env.put d r) σ'
 | none=>False):=rfl
@[simp] theorem qDX:jI P fl K' (.mov d x) env σ = wpO P zAO K' (.mov d x) env σ:=by simp[jI,KOp.lite,KOp.keeps]
@[simp] theorem zYn {len sz:Nat}:jI P fl K' (.idxarr d x y len sz) env σ = wpO P zAO K' (.idxarr d x y len sz) env σ:=by simp[jI,KOp.lite,KOp.keeps]
@[simp] theorem qDC {op:BinOp}:jI P fl K' (.bin d op x y) env σ = wpO P zAO K' (.bin d op x y) env σ:=by simp[jI,KOp.lite,KOp.keeps]
@[simp] theorem qDj {k:SK}{ng:Bool}:jI P fl K' (.eqv d ng k x y) env σ = wpO P zAO K' (.eqv d ng k x y) env σ:=by simp[jI,KOp.lite,KOp.keeps]
@[simp] theorem qE8 {ks:List SK}{ng:Bool}:jI P fl K' (.eqs d ng ks x y) env σ = wpO P zAO K' (.eqs d ng ks x y) env σ:=by simp[jI,KOp.lite,KOp.keeps]
@[simp] theorem qDE:jI P fl K' (.neg d x) env σ = wpO P zAO K' (.neg d x) env σ:=by simp[jI,KOp.lite,KOp.keeps]
@[simp] theorem qDN:jI P fl K' (.not d x) env σ = wpO P zAO K' (.not d x) env σ:=by simp[jI,KOp.lite,KOp.keeps]
@[simp] theorem qIz {mx:Bool}{xs:List Operand}:jI P fl K' (.mm d mx xs) env σ = wpO P zAO K' (.mm d mx xs) env σ:=by simp[jI,KOp.lite,KOp.keeps]
@[simp] theorem qCk:jI P fl K' (.len d true x) env σ = wpO P zAO K' (.len d true x) env σ:=by simp[jI,KOp.lite,KOp.keeps]
@[simp] theorem qDi {i:Nat}:jI P fl K' (.ext d x i) env σ = wpO P zAO K' (.ext d x i) env σ:=by simp[jI,KOp.lite,KOp.keeps]
@[simp] theorem qDI {f:FuncId}{a b:List Operand}:jI P fl K' (.clo d f a b) env σ = wpO P zAO K' (.clo d f a b) env σ:=by simp[jI,KOp.lite,KOp.keeps]
@[simp] theorem qE3 {sz:Nat}{lo hi mx:Option Operand}:jI P fl K' (.slc d x sz lo hi mx) env σ = wpO P zAO K' (.slc d x sz lo hi mx) env σ:=by simp[jI,KOp.lite,KOp.keeps]
@[simp] theorem zZe {zs:List Value}{ps:List (Nat×Nat×Operand)}:jI P fl K' (.build d zs ps) env σ = wpO P zAO K' (.build d zs ps) env σ:=by simp[jI,KOp.lite,KOp.keeps]
@[simp] theorem zXC {e:TypeId}{sz n:Nat}{zs:List Value}{ps:List (Nat×Nat×Operand)}:jI P fl K' (.bslice d e sz n zs ps) env σ = wpO P zAO K' (.bslice d e sz n zs ps) env σ:=by simp[jI,KOp.lite,KOp.keeps]
@[simp] theorem zY5 {zs:List Value}:jI P fl K' (.alloc d zs) env σ = wpO P zAO K' (.alloc d zs) env σ:=by simp[jI,KOp.lite,KOp.keeps]
@[simp] theorem qDD:jI P fl K' (.box d x) env σ = wpO P zAO K' (.box d x) env σ:=by simp[jI,KOp.lite,KOp.keeps]
@[simp] theorem qHd {n:Nat}:jI P fl K' (.st d x y n) env σ = wpO P zAO K' (.st d x y n) env σ:=by simp[jI,KOp.lite,KOp.keeps]
@[simp] theorem qE0 {e:TypeId}{sz bytes:Nat}:jI P fl K' (.app d e sz bytes x y) env σ = wpO P zAO K' (.app d e sz bytes x y) env σ:=by simp[jI,KOp.lite,KOp.keeps]
@[simp] theorem qEc {off n:Nat}{agg:Bool}:jI P fl K' (.fld d x off n agg) env σ = wpO P zAO K' (.fld d x off n agg) env σ:=by simp[jI,KOp.lite,KOp.keeps]
@[simp] theorem qGg {len sz:Nat}{agg:Bool}:jI P fl K' (.ix d x y len sz agg) env σ = wpO P zAO K' (.ix d x y len sz agg) env σ:=by simp[jI,KOp.lite,KOp.keeps]
@[simp] theorem qEw {ng:Bool}:jI P fl K' (.isn d ng x) env σ = wpO P zAO K' (.isn d ng x) env σ:=by simp[jI,KOp.lite,KOp.keeps]
@[simp] theorem qFn {n:Nat}{agg:Bool}:jI P fl K' (.ld d x n agg) env σ = zDg ((ldA (zDs fl σ) n (ev env x)).bind (zBv agg)) fun r=>K' (env.put d r) σ:=zEq
@[simp] theorem qAF {off:Nat}:jI P fl K' (.addr d x off) env σ = zDg (zGW (zDs fl σ) off (ev env x)) fun r=>K' (env.put d r) σ:=by show jC (zT env (zDs fl σ) (.addr d x off)) _=_;rw[zGp,zEq]; rfl
@[simp] theorem qDU {sz:Nat}:jI P fl K' (.idx d x y sz) env σ = zLd (zDs fl σ) sz (ev env x) (ev env y) fun r=>K' (env.put d r) σ:=zLq (d:=d)
def zKZ (σ : St)(a:A)(J:A→Prop):Prop:=match a with
 | .nil=>J (.lit (.int .i64 0))
 | .sl n _=>J (.lit (.int .i64 n))
 | .fsl n _=>J (.lit (.int .i64 n))
 | .row l n=>match σ[l]? with
  | some (.row _ _ _ m _)=>if n=m then J (.lit (.int .i64 n)) else False
  | _=>False
 | .win l n _ k _=>match σ[l]? with
  | some (.row _ _ _ m _)=>if n=m then J (.lit (.int .i64 k)) else False
  | _=>False
 | _=>False
@[simp] theorem qHj {J:A→Prop}:zKZ σ .nil J=J (.lit (.int .i64 0)):=rfl
@[simp] theorem qKn {n:Nat}{cs:List A}{J:A→Prop}:zKZ σ (.sl n cs) J=J (.lit (.int .i64 n)):=rfl
@[simp] theorem qHx {n:Nat}{cs:List A}{J:A→Prop}:zKZ σ (.fsl n cs) J=J (.lit (.int .i64 n)):=rfl
def zPV (o:Option AObj)(n:Nat)(J:A→Prop):Prop:=match o with
 | some (.row _ _ _ m _)=>if n=m then J (.lit (.int .i64 n)) else False
 | _=>False
@[simp] theorem zYM {fz:Bool}{e:TypeId}{s m n:Nat}{cs:List A}{J:A→Prop}:zPV (some (.row fz e s m cs)) n J=if n=m then J (.lit (.int .i64 n)) else False:=rfl
@[simp] theorem qHa {l n:Nat}{J:A→Prop}:zKZ σ (.row l n) J=zPV σ[l]? n J:=by simp only[zKZ,zPV]
theorem zSu {τ : St}{J:A→Prop}:jC (zT env τ (.len d false x)) J=zKZ τ (ev env x) J:=by
 simp only[zKZ,zT];generalize ev env x=a;cases a<;>simp only[jC,true_and]
 ·rename_i l n;cases τ[l]? with
  | none=>rfl
  | some ob =>
   cases ob<;>try rfl
   rename_i fz e s m cs;by_cases h:n=m<;>simp[h]
 ·rename_i l n _ k _;cases τ[l]? with
  | none=>rfl
  | some ob =>
   cases ob<;>try rfl
   rename_i fz e s m cs;by_cases h:n=m<;>simp[h]
@[simp] theorem qDL:jI P fl K' (.len d false x) env σ = zKZ (zDs fl σ) (ev env x) fun r=>K' (env.put d r) σ:=by show jC (zT env (zDs fl σ) (.len d false x)) _=_;exact zSu
def zHt (P:Program)(fl:Nat) (σ : St)(d:Option Nat)(K':Env→St→Prop)(f:A)(args:List A)(env:Env):Prop:=zTV P fl σ d K' f args env
@[simp] theorem qBN {args:List Operand}:jI P fl K' (.call d x args) env σ = zHt P fl σ d K' (ev env x) (args.map (ev env)) env:=rfl
@[simp] theorem qJy {g:FuncId}{first cap args:List A}:zHt P 0 σ d K' (.clo g first cap) args env=(zC P g=true∧zJo P σ d (fun e=>K' e σ) g (first++args++cap) env):=rfl
@[simp] theorem qKa {g:FuncId}{first cap args:List A}:zHt P 1 σ d K' (.clo g first cap) args env=(zC P g=true∧zHC P σ d (fun e=>K' e σ) g (first++args++cap) env):=rfl
@[simp] theorem qKe {g:FuncId}{first cap args:List A}:zHt P 3 σ d K' (.clo g first cap) args env=(zC P g=true∧zO4 P σ d K' g (first++args++cap) env):=rfl
@[simp] theorem qKz {g:FuncId}{first cap args:List A}:zHt P 7 σ d K' (.clo g first cap) args env=(zC P g=true∧zHw P σ d K' g (first++args++cap) env):=rfl
@[simp] theorem qJ6 {g:FuncId}{first cap args:List A}:zHt P 8 σ d K' (.clo g first cap) args env=(zC P g=true∧zK1 P σ d K' g (first++args++cap) env):=rfl
@[simp] theorem qK3 {n:Nat}{g:FuncId}{first cap args:List A}(h1:8<n):zHt P n σ d K' (.clo g first cap) args env=(zC P g=true∧(if 1000≤n∧n<2000 then zKm P (n-1000) σ d K' g (first++args++cap) env else if 3000≤n∧n<4000 then zKH P (n-3000) σ d K' g (first++args++cap) env else zF5 P σ d K' g (first++args++cap) env)):=by obtain⟨m,rfl⟩:∃m,n=m+9:=⟨n-9,by omega⟩;rfl
@[simp] theorem qLs {g:FuncId}{first cap args:List A}:zHt P 4 σ d K' (.clo g first cap) args env=(zC P g=true∧zF5 P σ d K' g (first++args++cap) env):=rfl
@[simp] theorem qHM {b:Nat}{args:List A}:zHt P 4 σ d K' (yv b) args env = ∃r σ',(zIT P b args σ fun o τ=>o=.ret r∧τ = σ')∧K' (env.put d r) σ':=by show (4=4∧_)=_;simp
theorem jT {t:Bool}{A B:Env→St→Prop}(h1:t=true→A env σ)(h2:t=false→B env σ):zEV t A B env σ:=⟨h1,h2⟩
theorem zXk {S:Type}{W:(Ex→Env→St→Prop)→Env→St→Prop}(E:S→List (Nat×A))(T:S→St)(I:S→Prop) (μ : S→Nat)(s0:S)(h0:I s0)(start:zBY n0 (jB (E s0)) (T s0) env σ)
 (round:∀s,I s→W (rnd n0 (fun n e t=>∃s,I s∧μ s=n∧e=jB (E s)∧t=T s) (μ s) Q) (jB (E s)) (T s)):zN1 n0 W Q env σ:=by
 refine⟨fun n e t=>∃s,I s∧μ s=n∧e=jB (E s)∧t=T s,⟨μ s0,_,_,start,s0,h0,rfl,rfl,rfl⟩,?_⟩;rintro n e t ⟨s,hs,rfl,rfl,rfl⟩;exact round s hs
theorem qCB {S:Type}{E:S→List (Nat×A)}{T:S→St}{I:S→Prop} {μ : S→Nat}{n:Nat}(s:S)(hs:I s)(hm : μ s<n)(hw:zBY n0 (jB (E s)) (T s) env σ) :
 rnd n0 (fun n e t=>∃s,I s∧μ s=n∧e=jB (E s)∧t=T s) n Q .norm env σ:=⟨μ s,hm,_,_,hw,s,hs,rfl,rfl,rfl⟩
@[simp] theorem qC5 {i t:Nat}{a:A}{l:List (Nat×A)}:jB ((i,a)::l) t=if t=i then a else jB l t:=rfl
@[simp] theorem qDe {t:Nat}:jB [] t=.any:=rfl
end
end Go.Abs
