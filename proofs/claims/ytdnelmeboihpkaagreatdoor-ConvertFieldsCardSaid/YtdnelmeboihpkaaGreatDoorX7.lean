/-
  The rules by which a walk over abstract states goes on, for simp.
  A choice of levels is kept; rows that are not kept become persistent.
-/
import Derived.Test.YtdnelmeboihpkaaGreatDoorX6
set_option linter.unusedVariables false
set_option maxHeartbeats 8000000
set_option maxRecDepth 100000
set_option linter.unusedSimpArgs false
namespace Go.Abs
def qQh (o:Option A)(d:Option Nat)(K:Env→St→Prop)(env:Env) (σ : St):Prop:=match o with
 | some r=>K (env.put d r) σ
 | none=>False
def qQg (o:Option A)(d:Option Nat)(K:Env→Prop)(env:Env):Prop:=match o with
 | some r=>K (env.put d r)
 | none=>False
def zUG (o:Option (List A))(J:List A→Prop):Prop:=match o with
 | some r=>J r
 | none=>False
def qDD (o:Option St)(J:St→Prop):Prop:=match o with
 | some r=>J r
 | none=>False
section
variable {P:Program}{n0:Nat}{Qp:Value→Env→St→Prop}{Qd:Value→St→Prop}{K':Env→St→Prop}{KD:Env→Prop}{Q:Ex→Env→St→Prop}{env:Env} {σ : St}{d d':Option Nat}{x y z:Operand}
@[simp] theorem qFF {r:A}:qQh (some r) d K' env σ = K' (env.put d r) σ:=rfl
@[simp] theorem qFD {r:A}:qQg (some r) d KD env=KD (env.put d r):=rfl
@[simp] theorem qFC {r:List A}{J:List A→Prop}:zUG (some r) J=J r:=rfl
@[simp] theorem qFG {r:St}{J:St→Prop}:qDD (some r) J=J r:=rfl
@[simp] theorem qK0 {r:A}:env.put none r=env:=rfl
@[simp] theorem zZ5 {i t:Nat}{r:A}:(env.put (some i) r) t=if t=i then r else env t:=rfl
@[simp] theorem qPT {t:Nat}:ev env (.tmp t)=env t:=rfl
@[simp] theorem qM1 {f:FuncId}:ev env (.func f)=.clo f [] []:=rfl
@[simp] theorem qPR {k:IntKind}{n:Int}:ev env (.const (.int k n))=.lit (.int k n):=rfl
@[simp] theorem qM0 {b:Bool}:ev env (.const (.bool b))=.lit (.bool b):=rfl
@[simp] theorem qFg {s:ByteArray}:ev env (.const (.string s))=.lit (.string s):=rfl
@[simp] theorem qPS:ev env (.const (.slice none 0 0))=.nil:=rfl
@[simp] theorem qCT:ev env (.const .nilFunc)=.lit .nilFunc:=rfl
@[simp] theorem qFf:ev env (.const (.pointer none))=.lit (.pointer none):=rfl
@[simp] theorem qPQ {l:List Value}:ev env (.const (.agg ⟨l⟩))=if zAu l then .agg (l.map qR) else .any:=rfl
@[simp] theorem qB8:zAu []=true:=rfl
@[simp] theorem zZz {v:Value}{l:List Value}:zAu (v::l)=(v.oneCell'&&zAu l):=rfl
@[simp] theorem qMP {k:IntKind}{n:Int}:(Value.int k n).oneCell'=true:=rfl
@[simp] theorem qKt {b:Bool}:(Value.bool b).oneCell'=true:=rfl
@[simp] theorem qDC {s:ByteArray}:(Value.string s).oneCell'=true:=rfl
@[simp] theorem qFB {a:Option Addr}{n c:Nat}:(Value.slice a n c).oneCell'=true:=rfl
@[simp] theorem qBA {a:Option Addr}:(Value.pointer a).oneCell'=true:=rfl
@[simp] theorem qB9:(Value.nilFunc).oneCell'=true:=rfl
@[simp] theorem qMQ {r:Option Nat}:(Value.map r).oneCell'=true:=rfl
@[simp] theorem qDA {k:IntKind}{n:Int}:qR (.int k n)=.lit (.int k n):=rfl
@[simp] theorem qB6 {b:Bool}:qR (.bool b)=.lit (.bool b):=rfl
@[simp] theorem zYi {s:ByteArray}:qR (.string s)=.lit (.string s):=rfl
@[simp] theorem qDB:qR (.slice none 0 0)=.nil:=rfl
@[simp] theorem zXs:qR .nilFunc=.lit .nilFunc:=rfl
@[simp] theorem zYh:qR (.pointer none)=.lit (.pointer none):=rfl
@[simp] theorem zYg:qR (.map none)=.lit (.map none):=rfl
@[simp] theorem qAN:cellsOf .nil=some [.nil]:=rfl
@[simp] theorem qAI {cs:List A}:cellsOf (.agg cs)=some cs:=rfl
@[simp] theorem qAL {v:Value}:cellsOf (.lit v)=if v.oneCell' then some [.lit v] else none:=rfl
@[simp] theorem qCA {n:Nat}{cs:List A}:cellsOf (.sl n cs)=some [.sl n cs]:=rfl
@[simp] theorem qAK {n:Nat}{cs:List A}:cellsOf (.fsl n cs)=some [.fsl n cs]:=rfl
@[simp] theorem qAP {l n:Nat}:cellsOf (.row l n)=some [.row l n]:=rfl
@[simp] theorem qAO {l n:Nat}:cellsOf (.ptr l n)=some [.ptr l n]:=rfl
@[simp] theorem qAM {l:Nat}:cellsOf (.map l)=some [.map l]:=rfl
@[simp] theorem qAS {l n o k c:Nat}:cellsOf (.win l n o k c)=some [.win l n o k c]:=rfl
@[simp] theorem qAQ {l n o:Nat}:cellsOf (.rwp l n o)=some [.rwp l n o]:=rfl
@[simp] theorem zY1 {cs:List A}:cellsOf (.rptr cs)=some [.rptr cs]:=rfl
@[simp] theorem qAJ {f:FuncId}{a b:List A}:cellsOf (.clo f a b)=some [.clo f a b]:=rfl
@[simp] theorem qDE {cs:List A}:zBG true cs=some (.agg cs):=rfl
@[simp] theorem qBB {c:A}:zBG false [c]=some c:=rfl
@[simp] theorem qJA {cs:List A}{n:Nat}:ldA σ n (.rptr cs)=sub cs 0 n:=rfl
def qBn:Option AObj→Nat→Nat→Option (List A)
 | some (.box cs),off,n=>sub cs off n
 | _,_,_=>none
def qBo:Option AObj→Nat→Nat→Nat→Option (List A)
 | some (.row _ _ _ k cs),m,off,n=>if m=k then sub cs off n else none
 | _,_,_,_=>none
@[simp] theorem qDn {cs:List A}{off n:Nat}:qBn (some (.box cs)) off n=sub cs off n:=rfl
@[simp] theorem qDo {fz:Bool}{e:TypeId}{s k:Nat}{cs:List A}{m off n:Nat}:qBo (some (.row fz e s k cs)) m off n=if m=k then sub cs off n else none:=rfl
@[simp] theorem qMA {l off n:Nat}:ldA σ n (.ptr l off)=qBn σ[l]? off n:=by
 simp only[ldA];cases σ[l]? with
 | none=>rfl
 | some o=>cases o<;>rfl
@[simp] theorem qMB {l m off n:Nat}:ldA σ n (.rwp l m off)=qBo σ[l]? m off n:=by
 simp only[ldA];cases σ[l]? with
 | none=>rfl
 | some o=>cases o<;>rfl
@[simp] theorem qQn {cs:List A}{off n:Nat}:sub cs off n=if off+n≤cs.length then some ((cs.drop off).take n) else none:=rfl
def qBH:Option AObj→St→List A→Nat→Nat→Option St
 | some (.box ds),σ,cs,l,off=>if off+cs.length≤ds.length then some (σ.set l (.box (ds.take off++cs++ds.drop (off+cs.length)))) else none
 | _,_,_,_,_=>none
def qBI:Option AObj→St→List A→Nat→Nat→Nat→Option St
 | some (.row false e sz k ds),σ,cs,l,m,off=>if m=k∧off+cs.length≤ds.length then some (σ.set l (.row false e sz k (ds.take off++cs++ds.drop (off+cs.length)))) else none
 | _,_,_,_,_,_=>none
@[simp] theorem qEc {ds cs:List A}{l off:Nat}:qBH (some (.box ds)) σ cs l off=if off+cs.length≤ds.length then some (σ.set l (.box (ds.take off++cs++ds.drop (off+cs.length)))) else none:=rfl
@[simp] theorem qEd {e:TypeId}{sz k:Nat}{ds cs:List A}{l m off:Nat}:qBI (some (.row false e sz k ds)) σ cs l m off=if m=k∧off+cs.length≤ds.length then some (σ.set l (.row false e sz k (ds.take off++cs++ds.drop (off+cs.length)))) else none:=rfl
@[simp] theorem qNc {cs:List A}{l off:Nat}:stA σ cs (.ptr l off)=qBH σ[l]? σ cs l off:=by
 simp only[stA];cases σ[l]? with
 | none=>rfl
 | some o=>cases o<;>rfl
@[simp] theorem qNd {cs:List A}{l m off:Nat}:stA σ cs (.rwp l m off)=qBI σ[l]? σ cs l m off:=by
 simp only[stA];cases σ[l]? with
 | none=>rfl
 | some o =>
  cases o<;>try rfl
  rename_i fz e s n ds;cases fz<;>rfl
def qBD:Option AObj→Nat→Nat→(List A→Prop)→Prop
 | some (.row _ _ s m cs),n,sz,J=>n=m∧s=sz∧J cs
 | _,_,_,_=>False
@[simp] theorem zSh {fz:Bool}{e:TypeId}{s m n sz:Nat}{cs:List A}{J:List A→Prop}:qBD (some (.row fz e s m cs)) n sz J=(n=m∧s=sz∧J cs):=rfl
@[simp] theorem qEI {b:Bool}:(b==true)=b:=by cases b<;>rfl
@[simp] theorem qCK {A B:Env→St→Prop}:zFB true A B env σ = A env σ:=by simp[zFB]
@[simp] theorem qAZ {A B:Env→St→Prop}:zFB false A B env σ = B env σ:=by simp[zFB]
@[simp] theorem qKJ:zGy d K' env σ = K' (env.put d (.lit undef)) σ:=rfl
@[simp] theorem qKw {r:A}:zH1 d env K' Qp (.ret r) σ = K' (env.put d r) σ:=rfl
@[simp] theorem qKv {v:Value}:zH1 d env K' Qp (.pan v) σ = Qp v env σ:=rfl
@[simp] theorem qKX {J:Env→St→Prop}:thn J Q .norm=J:=rfl
@[simp] theorem qNg {J:Env→St→Prop}:thn J Q .ret=Q .ret:=rfl
@[simp] theorem qKW {J:Env→St→Prop}{i:Nat}:thn J Q (.exit i)=Q (.exit i):=rfl
@[simp] theorem qNf {J:Env→St→Prop}{v:Value}:thn J Q (.pan v)=Q (.pan v):=rfl
@[simp] theorem qHC {id:Nat}:blk id Q .norm=Q .norm:=rfl
@[simp] theorem qLz {id:Nat}:blk id Q .ret=Q .ret:=rfl
@[simp] theorem qHB {id i:Nat}:blk id Q (.exit i)=if i=id then Q .norm else Q (.exit i):=rfl
@[simp] theorem qLy {id:Nat}{v:Value}:blk id Q (.pan v)=Q (.pan v):=rfl
@[simp] theorem qMX {I:Nat→Env→St→Prop}{n:Nat}:rnd n0 I n Q .ret=Q .ret:=rfl
@[simp] theorem qK9 {I:Nat→Env→St→Prop}{n i:Nat}:rnd n0 I n Q (.exit i)=Q (.exit i):=rfl
@[simp] theorem qMW {I:Nat→Env→St→Prop}{n:Nat}{v:Value}:rnd n0 I n Q (.pan v)=Q (.pan v):=rfl
@[simp] theorem qJd {rs:List RS}{R:Out→St→Prop}:fin rs R .norm=zKj rs R:=rfl
@[simp] theorem qM3 {rs:List RS}{R:Out→St→Prop}:fin rs R .ret=zKj rs R:=rfl
@[simp] theorem qM2 {rs:List RS}{R:Out→St→Prop}{v:Value}:fin rs R (.pan v) env σ = R (.pan v) σ:=rfl
@[simp] theorem qFM {t:Nat}{R:Out→St→Prop}:zKj [.slot t] R env σ = R (.ret (env t)) σ:=rfl
@[simp] theorem qK8 {t u:Nat}{R:Out→St→Prop}:zKj [.slot t,.slot u] R env σ = R (.ret (.tup [env t,env u])) σ:=rfl
@[simp] theorem qDM {t u v:Nat}{R:Out→St→Prop}:zKj [.slot t,.slot u,.slot v] R env σ = R (.ret (.tup [env t,env u,env v])) σ:=rfl
@[simp] theorem zYq {a:A}{l:List A}:zCz (a::l) 0=a:=rfl
@[simp] theorem zYp {a:A}{l:List A}{n:Nat}:zCz (a::l) (n+1)=zCz l n:=by simp[zCz]
@[simp] theorem qA8 {n:Nat}:zCz [] n=.lit undef:=by simp[zCz]
@[simp] theorem qE3 {k:K}{rs:List RS}{args:List A}{R:Out→St→Prop}:wpF P k rs args σ R=wpK P σ.length k (fin rs R) (zCz args) σ:=rfl
@[simp] theorem qLq:wpK P n0 .skip Q env σ = Q .norm env σ:=rfl
@[simp] theorem qN0:wpK P n0 .ret Q env σ = Q .ret env σ:=rfl
@[simp] theorem qLo {i:Nat}:wpK P n0 (.exit i) Q env σ = Q (.exit i) env σ:=rfl
@[simp] theorem qN2 {a b:K}:wpK P n0 (.seq a b) Q env σ = wpK P n0 a (thn (wpK P n0 b Q) Q) env σ:=rfl
@[simp] theorem qGC {i:Nat}{a:K}:wpK P n0 (.block i a) Q env σ = wpK P n0 a (blk i Q) env σ:=rfl
@[simp] theorem qLp {a:K}:wpK P n0 (.loop a) Q env σ = zOF n0 (wpK P n0 a) Q env σ:=rfl
@[simp] theorem qE4 {a:K}:wpK P n0 (.wk a) Q env σ = Wk n0 (wpK P n0 a Q) env σ:=rfl
@[simp] theorem qNz {l:List KG}:wpK P n0 (.ops l) Q env σ = zCC P (fun v=>Q (.pan v)) (Q .norm) l env σ:=rfl
@[simp] theorem qLn {l:List (Nat×Nat×KG)}:wpK P n0 (.dops l) Q env σ = wpD P (zL7 Q) (Q .norm) l env σ:=rfl
@[simp] theorem qN1 {ps:List Nat}{a b:K}:wpK P n0 (.rng x ps a b) Q env σ = qBY P n0 x ps (fun n=>wpK P n a) (fun n=>wpK P n b) Q env σ:=rfl
@[simp] theorem qEF {S:St}{J:Env→St→Prop}:zYr S J .norm env σ = (σ = S∧J env σ):=rfl
@[simp] theorem qFd {S:St}:zYB n0 S .norm env σ = Wk n0 (fun _ σ'=>σ'=S) env σ:=rfl
@[simp] theorem qFI {xs:List A}:zGp env [] xs=env:=by cases xs<;>rfl
@[simp] theorem qDK {p:Nat}{ps:List Nat}{a:A}{xs:List A}:zGp env (p::ps) (a::xs)=zGp (env.put (some p) a) ps xs:=rfl
@[simp] theorem qCB {b:Nat}:cellsOf (yv b)=some [yv b]:=rfl
def qBa (a:A)(A B:Env→St→Prop)(env:Env) (σ : St):Prop:=match a with
 | .lit (.bool t)=>zFB t A B env σ
 | _=>False
@[simp] theorem qCL {t:Bool}{A B:Env→St→Prop}:qBa (.lit (.bool t)) A B env σ = zFB t A B env σ:=rfl
@[simp] theorem qLm {a b:K}:wpK P n0 (.cond x a b) Q env σ = qBa (ev env x) (wpK P n0 a Q) (wpK P n0 b Q) env σ:=rfl
@[simp] theorem qGF:zCC P Qp K' [] env σ = K' env σ:=rfl
@[simp] theorem qE7 {o:KOp}{l:List KG}:zCC P Qp K' (⟨none,o⟩::l) env σ = wpO P Qp (zCC P Qp K' l) o env σ:=rfl
def zJa (a:A)(want:Bool)(A B:Env→St→Prop)(env:Env) (σ : St):Prop:=match a with
 | .lit (.bool b)=>zFB (b==want) A B env σ
 | .lit (.tuple _)=>B env σ
 | _=>False
@[simp] theorem qBi {b want:Bool}{A B:Env→St→Prop}:zJa (.lit (.bool b)) want A B env σ = zFB (b==want) A B env σ:=rfl
@[simp] theorem zZa {want:Bool}{A B:Env→St→Prop}:zJa (.lit undef) want A B env σ = B env σ:=rfl
@[simp] theorem qBN {s:Nat}{want:Bool}{o:KOp}{l:List KG}:zCC P Qp K' (⟨some (s,want),o⟩::l) env σ = zJa (env s) want (wpO P Qp (zCC P Qp K' l) o) (zGy o.dst (zCC P Qp K' l)) env σ:=by
 simp only[zCC,wpG,zJa];generalize env s=a;cases a<;>try rfl
 all_goals (rename_i v; cases v<;>rfl)
def zTp (a:A)(x y:A)(J:A→Prop):Prop:=match a with
 | .lit (.bool t)=>J (if t then x else y)
 | _=>False
@[simp] theorem qDF {t:Bool}{a b:A}{J:A→Prop}:zTp (.lit (.bool t)) a b J=J (if t then a else b):=rfl
def zDx (o:Option A)(J:A→Prop):Prop:=match o with
 | some r=>J r
 | none=>False
@[simp] theorem qFE {r:A}{J:A→Prop}:zDx (some r) J=J r:=rfl
theorem zED {o:Option A}{J:A→Prop}:qW (o.map fun r=>(True,r)) J=zDx o J:=by cases o<;>simp[qW,zDx]
@[simp] theorem qNJ:wpO P Qp K' (.mov d x) env σ = K' (env.put d (ev env x)) σ:=by simp[wpO,qW,zI,KOp.dst]
theorem zNm {J:A→Prop}:qW (zI env σ (.pick d x y z)) J=zTp (ev env x) (ev env y) (ev env z) J:=by
 simp only[zI,zTp,qW];generalize ev env x=a;cases a<;>try rfl
 rename_i v;cases v<;>simp
@[simp] theorem qLw:wpO P Qp K' (.pick d x y z) env σ = zTp (ev env x) (ev env y) (ev env z) fun r=>K' (env.put d r) σ:=zNm (d:=d)
@[simp] theorem qGD {zs:List Value}:wpO P Qp K' (.alloc d zs) env σ = K' (env.put d (.ptr σ.length 0)) (σ++[.box (zs.map qR)]):=rfl
@[simp] theorem qN7:wpO P Qp K' (.box d x) env σ = zUG (cellsOf (ev env x)) fun cs=>K' (env.put d (.ptr σ.length 0)) (σ++[.box cs]):=rfl
@[simp] theorem qQ7 {n:Nat}{agg:Bool}:wpO P Qp K' (.ld d x n agg) env σ = zDx ((ldA σ n (ev env x)).bind (zBG agg)) fun r=>K' (env.put d r) σ:=zED
@[simp] theorem qQ9 {n:Nat}:wpO P Qp K' (.st d x y n) env σ = zUG (cellsOf (ev env y)) fun cs=>cs.length=n∧qDD (stA σ cs (ev env x)) fun σ'=>K' (env.put d (.lit undef)) σ':=by
 simp only[wpO,zUG,qDD];cases cellsOf (ev env y)with
 | none=>rfl
 | some cs =>
  simp only;by_cases h:cs.length=n
  ·simp only[h,if_true,true_and];cases stA σ cs (ev env x)<;>rfl
  ·simp[h]
def zHE (σ : St)(off:Nat):A→Option A
 | .ptr l o=>some (.ptr l (o+off))
 | .rptr cs=>some (.rptr (cs.drop off))
 | .rwp l n o=>match σ[l]? with
  | some (.row _ _ _ m _)=>if n=m then some (.rwp l n (o+off)) else none
  | _=>none
 | _=>none
@[simp] theorem qEA {l o off:Nat}:zHE σ off (.ptr l o)=some (.ptr l (o+off)):=rfl
@[simp] theorem qCc {cs:List A}{off:Nat}:zHE σ off (.rptr cs)=some (.rptr (cs.drop off)):=rfl
theorem zHf {off:Nat}:zI env σ (.addr d x off)=(zHE σ off (ev env x)).map fun r=>(True,r):=by
 simp only[zI];generalize ev env x=a;cases a<;>simp only[zHE]<;>try rfl
 rename_i l n o;cases σ[l]? with
 | none=>rfl
 | some ob =>
  cases ob<;>try rfl
  simp only;split<;>rfl
@[simp] theorem qLr {off:Nat}:wpO P Qp K' (.addr d x off) env σ = zDx (zHE σ off (ev env x)) fun r=>K' (env.put d r) σ:=by show qW (zI env σ (.addr d x off)) _=_;rw[zHf,zED];rfl
def zGf (σ : St)(sz:Nat)(a i:A)(J:A→Prop):Prop:=match a,i with
 | .sl n cs,.lit (.int _ j)=>((0≤j∧j<n)∧j.toNat*sz<cs.length)∧J (.rptr (cs.drop (j.toNat*sz)))
 | .fsl n cs,.lit (.int _ j)=>((0≤j∧j<n)∧j.toNat*sz<cs.length)∧J (.rptr (cs.drop (j.toNat*sz)))
 | .row l n,.lit (.int _ j)=>match σ[l]? with
  | some (.row _ _ s m _)=>if n=m∧s=sz then (0≤j∧j<n)∧J (.rwp l n (j.toNat*sz)) else False
  | _=>False
 | .win l n o k' _,.lit (.int _ j)=>match σ[l]? with
  | some (.row _ _ s m _)=>if n=m∧s=sz then (0≤j∧j<k')∧J (.rwp l n (o+j.toNat*sz)) else False
  | _=>False
 | _,_=>False
theorem zNa {sz:Nat}{J:A→Prop}:qW (zI env σ (.idx d x y sz)) J=zGf σ sz (ev env x) (ev env y) J:=by
 simp only[zI,zGf,qW];generalize ev env x=a;generalize ev env y=b;cases a<;>cases b<;>try rfl
 all_goals (rename_i v; cases v<;>try rfl)
 ·rename_i l n k j;simp only;cases σ[l]? with
  | none=>rfl
  | some ob =>
   cases ob<;>try rfl
   rename_i fz e s m cs;by_cases h:n=m∧s=sz<;>simp[h]
 ·rename_i l n o k' c k j;simp only;cases σ[l]? with
  | none=>rfl
  | some ob =>
   cases ob<;>try rfl
   rename_i fz e s m cs;by_cases h:n=m∧s=sz<;>simp[h]
@[simp] theorem qNC {sz:Nat}:wpO P Qp K' (.idx d x y sz) env σ = zGf σ sz (ev env x) (ev env y) fun r=>K' (env.put d r) σ:=zNa (d:=d)
@[simp] theorem qM7 {sz n:Nat}{cs:List A}{k:IntKind}{j:Int}{J:A→Prop}:zGf σ sz (.sl n cs) (.lit (.int k j)) J=(((0≤j∧j<n)∧j.toNat*sz<cs.length)∧J (.rptr (cs.drop (j.toNat*sz)))):=rfl
@[simp] theorem qJr {sz n:Nat}{cs:List A}{k:IntKind}{j:Int}{J:A→Prop}:zGf σ sz (.fsl n cs) (.lit (.int k j)) J=(((0≤j∧j<n)∧j.toNat*sz<cs.length)∧J (.rptr (cs.drop (j.toNat*sz)))):=rfl
def zIh (len sz:Nat)(a i:A)(J:A→Prop):Prop:=match a,i with
 | .ptr l o,.lit (.int _ j)=>(0≤j∧j<len)∧J (.ptr l (o+j.toNat*sz))
 | .rptr cs,.lit (.int _ j)=>((0≤j∧j<len)∧j.toNat*sz<cs.length)∧J (.rptr (cs.drop (j.toNat*sz)))
 | _,_=>False
@[simp] theorem zZe {len sz:Nat}{cs:List A}{k:IntKind}{j:Int}{J:A→Prop}:zIh len sz (.rptr cs) (.lit (.int k j)) J=(((0≤j∧j<len)∧j.toNat*sz<cs.length)∧J (.rptr (cs.drop (j.toNat*sz)))):=rfl
@[simp] theorem qBj {len sz l o:Nat}{k:IntKind}{j:Int}{J:A→Prop}:zIh len sz (.ptr l o) (.lit (.int k j)) J=((0≤j∧j<len)∧J (.ptr l (o+j.toNat*sz))):=rfl
theorem zOa {len sz:Nat}{J:A→Prop}:qW (zI env σ (.idxarr d x y len sz)) J=zIh len sz (ev env x) (ev env y) J:=by
 simp only[zI,zIh,qW];generalize ev env x=a;generalize ev env y=b;cases a<;>first
  | rfl
  | (cases b<;>first
   | rfl
   | (rename_i v; cases v<;>rfl))
@[simp] theorem qE6 {len sz:Nat}:wpO P Qp K' (.idxarr d x y len sz) env σ = zIh len sz (ev env x) (ev env y) fun r=>K' (env.put d r) σ:=zOa (d:=d)
def zDT (op:BinOp)(a b:A)(J:A→Prop):Prop:=match a,b with
 | .lit (.int k m),.lit (.int k' n)=>if k=k' then (match zEf op k m n with | some (p,r)=>p∧J r | none=>False) else False
 | .lit (.string s),.lit (.string t)=>(match zXO op s t with | some (p,r)=>p∧J r | none=>False)
 | _,_=>False
theorem zTA {op:BinOp}{J:A→Prop}:qW (zI env σ (.bin d op x y)) J=zDT op (ev env x) (ev env y) J:=by
 simp only[zI,zDT,qW];generalize ev env x=a;generalize ev env y=b;cases a<;>try rfl
 rename_i u;cases b<;>try (cases u<;>rfl)
 rename_i v;cases u<;>cases v<;>try rfl
 case lit.lit.int.int k m k' n =>
  by_cases h:k=k'
  ·simp only[h,if_true];cases zEf op k' m n<;>rfl
  ·simp[h]
@[simp] theorem qN6 {op:BinOp}:wpO P Qp K' (.bin d op x y) env σ = zDT op (ev env x) (ev env y) fun r=>K' (env.put d r) σ:=zTA (d:=d)
@[simp] theorem qH9 {s t:ByteArray}{J:A→Prop}:zDT .add (.lit (.string s)) (.lit (.string t)) J=(s.size+t.size≤1000000∧J (.lit (.string (s++t)))):=rfl
@[simp] theorem qH1 {k:IntKind}{m n:Int}{J:A→Prop}:zDT .add (.lit (.int k m)) (.lit (.int k n)) J=J (.lit (.int k (k.wrap (m+n)))):=by simp[zDT,zEf]
@[simp] theorem qHA {k:IntKind}{m n:Int}{J:A→Prop}:zDT .sub (.lit (.int k m)) (.lit (.int k n)) J=J (.lit (.int k (k.wrap (m-n)))):=by simp[zDT,zEf]
@[simp] theorem qH6 {k:IntKind}{m n:Int}{J:A→Prop}:zDT .mul (.lit (.int k m)) (.lit (.int k n)) J=J (.lit (.int k (k.wrap (m*n)))):=by simp[zDT,zEf]
@[simp] theorem qH7 {k:IntKind}{m n:Int}{J:A→Prop}:zDT .quo (.lit (.int k m)) (.lit (.int k n)) J=(n≠0∧J (.lit (.int k (k.wrap (m.tdiv n))))):=by simp[zDT,zEf]
@[simp] theorem qH8 {k:IntKind}{m n:Int}{J:A→Prop}:zDT .rem (.lit (.int k m)) (.lit (.int k n)) J=(n≠0∧J (.lit (.int k (m.tmod n)))):=by simp[zDT,zEf]
@[simp] theorem qH5 {k:IntKind}{m n:Int}{J:A→Prop}:zDT .lss (.lit (.int k m)) (.lit (.int k n)) J=J (.lit (.bool (decide (m<n)))):=by simp[zDT,zEf]
@[simp] theorem qH4 {k:IntKind}{m n:Int}{J:A→Prop}:zDT .leq (.lit (.int k m)) (.lit (.int k n)) J=J (.lit (.bool (decide (m≤n)))):=by simp[zDT,zEf]
@[simp] theorem qH3 {k:IntKind}{m n:Int}{J:A→Prop}:zDT .gtr (.lit (.int k m)) (.lit (.int k n)) J=J (.lit (.bool (decide (n<m)))):=by simp[zDT,zEf]
@[simp] theorem qH2 {k:IntKind}{m n:Int}{J:A→Prop}:zDT .geq (.lit (.int k m)) (.lit (.int k n)) J=J (.lit (.bool (decide (n≤m)))):=by simp[zDT,zEf]
noncomputable def eqA (k:SK) (ng:Bool) (a b:A):Option A:=(zBT k a b).map (zBh ng)
noncomputable def zNO (ks:List SK) (ng:Bool) (a b:A):Option A:=match a,b with
 | .agg xs,.agg ys=>(zAa ks xs ys).map (zBh ng)
 | _,_=>none
theorem zWv {k:SK}{ng:Bool}{J:A→Prop}:qW (zI env σ (.eqv d ng k x y)) J=zDx (eqA k ng (ev env x) (ev env y)) J:=by simp only[zI,eqA];cases zBT k (ev env x) (ev env y)<;>simp[qW,zDx]
theorem zWu {ks:List SK}{ng:Bool}{J:A→Prop}:qW (zI env σ (.eqs d ng ks x y)) J=zDx (zNO ks ng (ev env x) (ev env y)) J:=by
 simp only[zI,zNO];generalize ev env x=a;generalize ev env y=b;cases a<;>cases b<;>try rfl
 rename_i xs ys;simp only;cases zAa ks xs ys<;>simp[qW,zDx]
@[simp] theorem qNA {k:SK}{ng:Bool}:wpO P Qp K' (.eqv d ng k x y) env σ = zDx (eqA k ng (ev env x) (ev env y)) fun r=>K' (env.put d r) σ:=zWv (d:=d)
@[simp] theorem qN9 {ks:List SK}{ng:Bool}:wpO P Qp K' (.eqs d ng ks x y) env σ = zDx (zNO ks ng (ev env x) (ev env y)) fun r=>K' (env.put d r) σ:=zWu (d:=d)
@[simp] theorem qMz {k:IntKind}{m n:Int}:eqA .i false (.lit (.int k m)) (.lit (.int k n))=some (.lit (.bool (decide (m=n)))):=by simp[eqA,zBT,zBh]
@[simp] theorem qIW {k:IntKind}{m n:Int}:eqA .i true (.lit (.int k m)) (.lit (.int k n))=some (.lit (.bool (decide (m≠n)))):=by simp[eqA,zBT,zBh]
@[simp] theorem qIV {m n:Bool}:eqA .b false (.lit (.bool m)) (.lit (.bool n))=some (.lit (.bool (decide (m=n)))):=by simp[eqA,zBT,zBh]
@[simp] theorem qFe {m n:Bool}:eqA .b true (.lit (.bool m)) (.lit (.bool n))=some (.lit (.bool (decide (m≠n)))):=by simp[eqA,zBT,zBh]
def zZo (a:A)(J:A→Prop):Prop:=match a with | .lit (.int k m)=>J (.lit (.int k (k.wrap (0-m)))) | _=>False
@[simp] theorem qKb {k:IntKind}{m:Int}{J:A→Prop}:zZo (.lit (.int k m)) J=J (.lit (.int k (k.wrap (0-m)))):=rfl
theorem zXn {J:A→Prop}:qW (zI env σ (.neg d x)) J=zZo (ev env x) J:=by
 simp only[zI,zZo];generalize ev env x=a;cases a<;>try rfl
 rename_i v; cases v<;>simp[qW]
@[simp] theorem qNK:wpO P Qp K' (.neg d x) env σ = zZo (ev env x) fun r=>K' (env.put d r) σ:=zXn (d:=d)
def zZq (a:A)(J:A→Prop):Prop:=match a with | .lit (.bool b)=>J (.lit (.bool !b)) | _=>False
@[simp] theorem qFy {b:Bool}{J:A→Prop}:zZq (.lit (.bool b)) J=J (.lit (.bool !b)):=rfl
theorem zXo {J:A→Prop}:qW (zI env σ (.not d x)) J=zZq (ev env x) J:=by
 simp only[zI,zZq];generalize ev env x=a;cases a<;>try rfl
 rename_i v; cases v<;>simp[qW]
@[simp] theorem qNL:wpO P Qp K' (.not d x) env σ = zZq (ev env x) fun r=>K' (env.put d r) σ:=zXo (d:=d)
def zDU (σ : St)(a:A)(J:A→Prop):Prop:=match a with
 | .nil=>J (.lit (.int .i64 0))
 | .sl n _=>n≤maxLen→J (.lit (.int .i64 n))
 | .fsl n _=>n≤maxLen→J (.lit (.int .i64 n))
 | .row l n=>match σ[l]? with
  | some (.row _ _ _ m _)=>if n=m then J (.lit (.int .i64 n)) else False
  | _=>False
 | .win l n _ k _=>match σ[l]? with
  | some (.row _ _ _ m _)=>if n=m then J (.lit (.int .i64 k)) else False
  | _=>False
 | _=>False
@[simp] theorem qJG {J:A→Prop}:zDU σ .nil J=J (.lit (.int .i64 0)):=rfl
@[simp] theorem qMD {n:Nat}{cs:List A}{J:A→Prop}:zDU σ (.sl n cs) J=(n≤maxLen→J (.lit (.int .i64 n))):=rfl
@[simp] theorem qJF {n:Nat}{cs:List A}{J:A→Prop}:zDU σ (.fsl n cs) J=(n≤maxLen→J (.lit (.int .i64 n))):=rfl
@[simp] theorem qNG:wpO P Qp K' (.len d false x) env σ = zDU σ (ev env x) fun r=>K' (env.put d r) σ:=by
 simp only[wpO,zDU,zI];generalize ev env x=a;cases a<;>simp only[qW,true_and]
 ·rename_i l n;cases σ[l]? with
  | none=>rfl
  | some ob =>
   cases ob<;>try rfl
   rename_i fz e s m cs;by_cases h:n=m<;>simp[h]
 ·rename_i l n _ k _;cases σ[l]? with
  | none=>rfl
  | some ob =>
   cases ob<;>try rfl
   rename_i fz e s m cs;by_cases h:n=m<;>simp[h]
def zTe (a:A)(J:A→Prop):Prop:=match a with | .lit (.string s)=>J (.lit (.int .i64 s.size)) | _=>False
@[simp] theorem zZj {s:ByteArray}{J:A→Prop}:zTe (.lit (.string s)) J=J (.lit (.int .i64 s.size)):=rfl
theorem zU5 {J:A→Prop}:qW (zI env σ (.len d true x)) J=zTe (ev env x) J:=by
 simp only[zI,zTe];generalize ev env x=a;cases a<;>try rfl
 rename_i v; cases v<;>simp[qW]
@[simp] theorem qLu:wpO P Qp K' (.len d true x) env σ = zTe (ev env x) fun r=>K' (env.put d r) σ:=zU5 (d:=d)
def mmA (mx:Bool):List A→Option A
 | .lit (.int k a)::rest=>zGl mx a rest k
 | _=>none
@[simp] theorem qBq {k:IntKind}{m n:Int}:mmA true [.lit (.int k m),.lit (.int k n)]=some (.lit (.int k (if m<n then n else m))):=by simp[mmA,zGl]
@[simp] theorem qBr {k:IntKind}{m n:Int}:mmA false [.lit (.int k m),.lit (.int k n)]=some (.lit (.int k (if n<m then n else m))):=by simp[mmA,zGl]
theorem zTj {mx:Bool}{xs:List Operand}{J:A→Prop}:qW (zI env σ (.mm d mx xs)) J=zDx (mmA mx (xs.map (ev env))) J:=by
 simp only[zI];generalize xs.map (ev env)=l;cases l with
 | nil=>rfl
 | cons a l =>
  cases a<;>try rfl
  rename_i v;cases v<;>try rfl
  exact zED
@[simp] theorem qQ8 {mx:Bool}{xs:List Operand}:wpO P Qp K' (.mm d mx xs) env σ = zDx (mmA mx (xs.map (ev env))) fun r=>K' (env.put d r) σ:=zTj (d:=d)
def zYV (i:Nat)(a:A)(J:A→Prop):Prop:=match a with | .tup vs=>(match vs[i]? with | some r=>J r | none=>False) | _=>False
@[simp] theorem qJb {i:Nat}{vs:List A}{J:A→Prop}:zYV i (.tup vs) J=zDx vs[i]? J:=rfl
theorem zW4 {i:Nat}{J:A→Prop}:qW (zI env σ (.ext d x i)) J=zYV i (ev env x) J:=by
 simp only[zI,zYV];generalize ev env x=a;cases a<;>try rfl
 rename_i vs;simp only;cases vs[i]?<;>simp[qW]
@[simp] theorem qNB {i:Nat}:wpO P Qp K' (.ext d x i) env σ = zYV i (ev env x) fun r=>K' (env.put d r) σ:=zW4 (d:=d)
@[simp] theorem qN8 {f:FuncId}{a b:List Operand}:wpO P Qp K' (.clo d f a b) env σ = K' (env.put d (.clo f (a.map (ev env)) (b.map (ev env)))) σ:=by simp[wpO,zI,qW,KOp.dst]
theorem zK6 {zs:List Value}{ps:List (Nat×Nat×Operand)}{J:A→Prop}:qW (zI env σ (.build d zs ps)) J=zDx ((zBs (zs.map qR) (ps.map fun(o,s,x)=>(o,s,ev env x))).map .agg) J:=by simp only[zI];cases zBs (zs.map qR) (ps.map fun(o,s,x)=>(o,s,ev env x))<;>simp[qW,zDx]
def zRD (a:A)(neg:Bool)(J:A→Prop):Prop:=match a with
 | .lit (.pointer none)=>J (.lit (.bool !neg))
 | .rptr _=>J (.lit (.bool neg))
 | .ptr _ _=>J (.lit (.bool neg))
 | _=>False
@[simp] theorem qJ0 {neg:Bool}{J:A→Prop}:zRD (.lit (.pointer none)) neg J=J (.lit (.bool !neg)):=rfl
@[simp] theorem qFq {neg:Bool}{cs:List A}{J:A→Prop}:zRD (.rptr cs) neg J=J (.lit (.bool neg)):=rfl
@[simp] theorem qJ1 {neg:Bool}{l o:Nat}{J:A→Prop}:zRD (.ptr l o) neg J=J (.lit (.bool neg)):=rfl
@[simp] theorem qNE {neg:Bool}:wpO P Qp K' (.isp d neg x) env σ = zRD (ev env x) neg fun r=>K' (env.put d r) σ:=by
 show qW (zI env σ (.isp d neg x)) _=_;simp only[zI];generalize ev env x=a;cases a with
 | lit v=>cases v with
  | pointer ad=>cases ad<;>simp[qW,zRD,KOp.dst]
  | _=>rfl
 | rptr cs=>simp[qW,zRD,KOp.dst]
 | ptr l o=>simp[qW,zRD,KOp.dst]
 | _=>rfl
def qJQ (t:TypeId)(a:A):A:=match a with
 | .lit v=>.lit (.iface t v)
 | _=>.any
@[simp] theorem qJR {t:TypeId}{v:Value}:qJQ t (.lit v)=.lit (.iface t v):=rfl
@[simp] theorem qNH {t:TypeId}:wpO P Qp K' (.mki d t x) env σ = K' (env.put d (qJQ t (ev env x))) σ:=by simp only[wpO,zI,qW,KOp.dst,true_and];generalize ev env x=a;cases a<;>rfl
def qKx (Qp:Value→Env→St→Prop)(env:Env) (σ : St)(a:A):Prop:=match a with
 | .lit (.iface t v)=>Qp (.iface t v) env σ
 | _=>False
@[simp] theorem qKy {t:TypeId}{v:Value}:qKx Qp env σ (.lit (.iface t v))=Qp (.iface t v) env σ:=rfl
@[simp] theorem qNM:wpO P Qp K' (.pan d x) env σ = qKx Qp env σ (ev env x):=rfl
@[simp] theorem qGE {zs:List Value}{ps:List (Nat×Nat×Operand)}:wpO P Qp K' (.build d zs ps) env σ = zDx ((zBs (zs.map qR) (ps.map fun(o,s,x)=>(o,s,ev env x))).map .agg) fun r=>K' (env.put d r) σ:=zK6 (d:=d)
@[simp] theorem qE5 {e:TypeId}{sz n:Nat}{zs:List Value}{ps:List (Nat×Nat×Operand)}:wpO P Qp K' (.bslice d e sz n zs ps) env σ = zDx ((zBs (zs.map qR) (ps.map fun(o,s,x)=>(o,s,ev env x))).map (.fsl n)) fun r=>K' (env.put d r) σ:=by simp only[wpO,zDx];cases zBs (zs.map qR) (ps.map fun(o,s,x)=>(o,s,ev env x))<;>simp
@[simp] theorem qLs {e:TypeId}{sz n:Nat}{zs:List Value}{ps:List (Nat×Nat×Operand)}:wpO P Qp K' (.brow d e sz n zs ps) env σ = zUG (zBs (zs.map qR) (ps.map fun(o,s,x)=>(o,s,ev env x))) fun cs=>K' (env.put d (.row σ.length n)) (σ++[.row false e sz n cs]):=by simp only[wpO,zUG];cases zBs (zs.map qR) (ps.map fun(o,s,x)=>(o,s,ev env x))<;>simp
def zU0 (a:A)(neg:Bool)(J:A→Prop):Prop:=match a with
 | .nil=>J (.lit (.bool !neg))
 | .sl n _=>n≠0∧J (.lit (.bool neg))
 | .fsl n _=>n≠0∧J (.lit (.bool neg))
 | _=>False
@[simp] theorem qJz {neg:Bool}{J:A→Prop}:zU0 .nil neg J=J (.lit (.bool !neg)):=rfl
@[simp] theorem qM8 {neg:Bool}{n:Nat}{cs:List A}{J:A→Prop}:zU0 (.sl n cs) neg J=(n≠0∧J (.lit (.bool neg))):=rfl
@[simp] theorem qJy {neg:Bool}{n:Nat}{cs:List A}{J:A→Prop}:zU0 (.fsl n cs) neg J=(n≠0∧J (.lit (.bool neg))):=rfl
theorem zWW {neg:Bool}{J:A→Prop}:qW (zI env σ (.isn d neg x)) J=zU0 (ev env x) neg J:=by simp only[zI,zU0,qW];generalize ev env x=a;cases a<;>simp
def zZI (o:Option AObj) (σ : St)(l n sz:Nat)(h:Int)(J:A→St→Prop):Prop:=match o with
 | some (.row false e s m cs)=>(n=m∧s=sz∧0≤h∧h≤n∧n≠0)∧J (.row σ.length h.toNat) (σ.set l .dead++[.row false e sz h.toNat (cs.take (h.toNat*sz))])
 | _=>False
@[simp] theorem qFY {e s m l n sz:Nat}{cs:List A}{h:Int}{J:A→St→Prop}:zZI (some (.row false e s m cs)) σ l n sz h J=((n=m∧s=sz∧0≤h∧h≤n∧n≠0)∧J (.row σ.length h.toNat) (σ.set l .dead++[.row false e sz h.toNat (cs.take (h.toNat*sz))])):=rfl
def qDY (σ : St)(sz:Nat)(a b:A)(J:A→St→Prop):Prop:=match a,b with
 | .row l n,.lit (.int _ h)=>zZI σ[l]? σ l n sz h J
 | _,_=>False
@[simp] theorem qKI {l n sz:Nat}{k:IntKind}{h:Int}{J:A→St→Prop}:qDY σ sz (.row l n) (.lit (.int k h)) J=zZI σ[l]? σ l n sz h J:=rfl
@[simp] theorem qNN {sz:Nat}:wpO P Qp K' (.shr d x sz y) env σ = qDY σ sz (ev env x) (ev env y) fun r τ=>K' (env.put d r) τ:=by simp only[wpO,qDY,zZI];generalize ev env x=a;generalize ev env y=b;cases a<;>cases b<;>first | rfl | (rename_i v; cases v<;>rfl)
def zYo (ob:Option AObj) (σ : St)(e:TypeId)(sz bytes:Nat)(l n o k c m:Nat)(ys:List A)(J:A→St→Prop):Prop:=match ob with
 | some (.row false e' s n' cs)=>(ys.length=m*sz∧m≠0∧n=n'∧e'=e∧s=sz∧c=sz∧o+k*sz=n*sz∧n+m≤maxLen∧(n+m)*bytes≤140737488355328) ∧
  J (.win l (n+m) o (k+m) sz) (σ.set l (.row false e sz (n+m) (cs++ys)))∧J (.win σ.length (k+m) 0 (k+m) sz) (σ++[.row false e sz (k+m) (cs.drop o++ys)])
 | _=>False
@[simp] theorem qED {e':TypeId}{s n':Nat}{cs:List A}{e:TypeId}{sz bytes l n o k c m:Nat}{ys:List A}{J:A→St→Prop}:zYo (some (.row false e' s n' cs)) σ e sz bytes l n o k c m ys J=((ys.length=m*sz∧m≠0∧n=n'∧e'=e∧s=sz∧c=sz∧o+k*sz=n*sz∧n+m≤maxLen∧(n+m)*bytes≤140737488355328) ∧
 J (.win l (n+m) o (k+m) sz) (σ.set l (.row false e sz (n+m) (cs++ys)))∧J (.win σ.length (k+m) 0 (k+m) sz) (σ++[.row false e sz (k+m) (cs.drop o++ys)])):=rfl
def qCe (σ : St)(e:TypeId)(sz bytes:Nat)(el:Option (Nat×List A))(a:A)(J:A→St→Prop):Prop:=match el,a with
 | some (m,ys),.win l n o k c=>zYo σ[l]? σ e sz bytes l n o k c m ys J
 | _,_=>False
@[simp] theorem qHz {e:TypeId}{sz bytes l n o k c m:Nat}{ys:List A}{J:A→St→Prop}:qCe σ e sz bytes (some (m,ys)) (.win l n o k c) J=zYo σ[l]? σ e sz bytes l n o k c m ys J:=rfl
@[simp] theorem qN5 {e:TypeId}{sz bytes:Nat}:wpO P Qp K' (.apq d e sz bytes x y) env σ = qCe σ e sz bytes (zB5 σ sz (ev env y)) (ev env x) fun r τ=>K' (env.put d r) τ:=by simp only[wpO,qCe,zYo];generalize zB5 σ sz (ev env y)=el;generalize ev env x=a;cases el<;>cases a<;>rfl
def zU1 (σ : St)(a:A)(neg:Bool)(J:A→Prop):Prop:=match a with
 | .nil=>J (.lit (.bool !neg))
 | .sl n _=>J (.lit (.bool neg))∧(n=0→J (.lit (.bool !neg)))
 | .row l n=>(match σ[l]? with
  | some (.row _ _ _ m _)=>n=m∧J (.lit (.bool neg))∧(n=0→J (.lit (.bool !neg)))
  | _=>False)
 | _=>False
@[simp] theorem qJ2 {neg:Bool}{J:A→Prop}:zU1 σ .nil neg J=J (.lit (.bool !neg)):=rfl
@[simp] theorem qM9 {neg:Bool}{n:Nat}{cs:List A}{J:A→Prop}:zU1 σ (.sl n cs) neg J=(J (.lit (.bool neg))∧(n=0→J (.lit (.bool !neg)))):=rfl
@[simp] theorem qNF {neg:Bool}:wpO P Qp K' (.isz d neg x) env σ = zU1 σ (ev env x) neg fun r=>K' (env.put d r) σ:=by simp only[wpO,zU1];cases ev env x<;>rfl
@[simp] theorem qND {neg:Bool}:wpO P Qp K' (.isn d neg x) env σ = zU0 (ev env x) neg fun r=>K' (env.put d r) σ:=zWW (d:=d)
@[simp] theorem qFh {cs:List A}:zBs cs []=some cs:=rfl
def qBg (c:Option (List A))(o s:Nat)(cs:List A)(rest:List (Nat×Nat×A)):Option (List A):=match c with
 | some l=>if l.length=s∧o+s≤cs.length then zBs (cs.take o++l++cs.drop (o+s)) rest else none
 | none=>none
@[simp] theorem qDb {l:List A}{o s:Nat}{cs:List A}{rest:List (Nat×Nat×A)}:qBg (some l) o s cs rest=if l.length=s∧o+s≤cs.length then zBs (cs.take o++l++cs.drop (o+s)) rest else none:=rfl
@[simp] theorem qDa {cs:List A}{o s:Nat}{a:A}{rest:List (Nat×Nat×A)}:zBs cs ((o,s,a)::rest)=qBg (cellsOf a) o s cs rest:=rfl
def elP (σ : St)(sz:Nat)(a:A)(J:Nat→List A→Prop):Prop:=match zB5 σ sz a with
 | some (m,ys)=>ys.length=m*sz∧J m ys
 | none=>False
@[simp] theorem qMw {sz:Nat}{J:Nat→List A→Prop}:elP σ sz .nil J=J 0 []:=by simp[elP,zB5]
@[simp] theorem qPP {sz n:Nat}{cs:List A}{J:Nat→List A→Prop}:elP σ sz (.sl n cs) J=(cs.length=n*sz∧J n cs):=rfl
@[simp] theorem qMv {sz n:Nat}{cs:List A}{J:Nat→List A→Prop}:elP σ sz (.fsl n cs) J=(cs.length=n*sz∧J n cs):=rfl
@[simp] theorem qMx {sz l n:Nat}{J:Nat→List A→Prop}:elP σ sz (.row l n) J=qBD σ[l]? n sz fun cs=>cs.length=n*sz∧J n cs:=by
 simp only[elP,zB5];cases σ[l]? with
 | none=>rfl
 | some o =>
  cases o<;>try rfl
  rename_i fz e s m cs;by_cases h:n=m∧s=sz
  ·simp[h]
  ·simp only[h,if_false,zSh,eq_iff_iff,false_iff];rintro⟨h1,h2,_⟩;exact h ⟨h1,h2⟩
def zV5 (d:Option Nat)(K':Env→St→Prop)(env:Env) (σ : St)(e:TypeId)(sz bytes m:Nat)(ys:List A):A→Prop
 | .nil=>(m≤maxLen∧m*bytes≤140737488355328)∧K' (env.put d (.row σ.length m)) (σ++[AObj.row false e sz m ys])
 | .row l n=>(match σ[l]? with
  | some (.row fz e' s n' cs)=>if n=n'∧e'=e∧s=sz then (n+m≤maxLen∧(n+m)*bytes≤140737488355328)∧K' (env.put d (.row l (n+m))) (σ.set l (.row fz e sz (n+m) (cs++ys))) else False
  | _=>False)
 | .fsl n cs=>cs.length=n*sz∧(m=0→K' (env.put d (.fsl n cs)) σ)∧(m≠0→(n+m≤maxLen∧(n+m)*bytes≤140737488355328)∧K' (env.put d (.row σ.length (n+m))) (σ++[AObj.row false e sz (n+m) (cs++ys)]))
 | _=>False
@[simp] theorem qHx {e:TypeId}{sz bytes m:Nat}{ys:List A}:zV5 d K' env σ e sz bytes m ys .nil=((m≤maxLen∧m*bytes≤140737488355328)∧K' (env.put d (.row σ.length m)) (σ++[AObj.row false e sz m ys])):=rfl
@[simp] theorem qHw {e:TypeId}{sz bytes m n:Nat}{ys cs:List A}:zV5 d K' env σ e sz bytes m ys (.fsl n cs)=(cs.length=n*sz∧(m=0→K' (env.put d (.fsl n cs)) σ)∧(m≠0→(n+m≤maxLen∧(n+m)*bytes≤140737488355328)∧K' (env.put d (.row σ.length (n+m))) (σ++[AObj.row false e sz (n+m) (cs++ys)]))):=rfl
def qBE:Option AObj→Nat→TypeId→Nat→(Bool→List A→Prop)→Prop
 | some (.row fz e' s n' cs),n,e,sz,J=>(n=n'∧e'=e∧s=sz)∧J fz cs
 | _,_,_,_,_=>False
@[simp] theorem qDR {fz:Bool}{e' e:TypeId}{s n' n sz:Nat}{cs:List A}{J:Bool→List A→Prop}:qBE (some (.row fz e' s n' cs)) n e sz J=((n=n'∧e'=e∧s=sz)∧J fz cs):=rfl
@[simp] theorem qHy {e:TypeId}{sz bytes m l n:Nat}{ys:List A}:zV5 d K' env σ e sz bytes m ys (.row l n)=qBE σ[l]? n e sz fun fz cs=>(n+m≤maxLen∧(n+m)*bytes≤140737488355328)∧K' (env.put d (.row l (n+m))) (σ.set l (.row fz e sz (n+m) (cs++ys))):=by
 simp only[zV5];cases σ[l]? with
 | none=>rfl
 | some o =>
  cases o<;>try rfl
  rename_i fz e' s n' cs;by_cases h:n=n'∧e'=e∧s=sz
  ·simp[h]
  ·simp[h]
@[simp] theorem qN4 {e:TypeId}{sz bytes:Nat}:wpO P Qp K' (.app d e sz bytes x y) env σ = elP σ sz (ev env y) fun m ys=>zV5 d K' env σ e sz bytes m ys (ev env x):=by
 simp only[wpO,elP];cases zB5 σ sz (ev env y)with
 | none=>rfl
 | some r =>
  obtain⟨m,ys⟩:=r;simp only;generalize ev env x=a;cases a<;>rfl
def zVN (P:Program)(Qp:Value→Env→St→Prop)(K':Env→St→Prop)(d:Option Nat)(f:A)(args:List A)(env:Env) (σ : St):Prop:=match f with
 | .clo g first cap=>zB P g=true∧zAk P g (first++args++cap) σ (zH1 d env K' Qp)
 | .lit (.func (.yield b) ⟨[]⟩ ⟨[]⟩)=>zCy P b args σ (zH1 d env K' Qp)
 | _=>False
@[simp] theorem qIC {b:Nat}{args:List A}:zVN P Qp K' d (yv b) args env σ = zCy P b args σ (zH1 d env K' Qp):=rfl
@[simp] theorem qEQ {g:FuncId}{first cap args:List A}:zVN P Qp K' d (.clo g first cap) args env σ = (zB P g=true∧zAk P g (first++args++cap) σ (zH1 d env K' Qp)):=rfl
@[simp] theorem qLt {args:List Operand}:wpO P Qp K' (.call d x args) env σ = zVN P Qp K' d (ev env x) (args.map (ev env)) env σ:=rfl
@[simp] theorem qEK:zAK []=[]:=rfl
@[simp] theorem qEJ {cs:List A}:zAK (.box cs::σ)=.box cs::zAK σ:=rfl
@[simp] theorem qEL {fz:Bool}{e:TypeId}{sz n:Nat}{cs:List A}:zAK (.row fz e sz n cs::σ)=.dead::zAK σ:=rfl
@[simp] theorem qHH {fr:Bool}{nk:Nat}{es:List (List Int×A)}:zAK (.mp fr nk es::σ)=.dead::zAK σ:=rfl
@[simp] theorem qEM:zAK (.rsv::σ)=.dead::zAK σ:=rfl
@[simp] theorem qHF {m n:Nat}{met:List Nat}:zAK (.it m n met::σ)=.dead::zAK σ:=rfl
@[simp] theorem qHG {b M:Nat}{r:Loop}{es:List (Nat×A)}:zAK (.lp b r M es::σ)=.dead::zAK σ:=rfl
theorem zHK {σ τ : St}:zAK (σ++τ)=zAK σ++zAK τ:=by
 induction σ with
 | nil=>rfl
 | cons o σ ih=>cases o<;>simp[zAK,ih]
@[simp] theorem zYs {σ : St}:(zAK σ).length = σ.length:=by
 induction σ with
 | nil=>rfl
 | cons o σ ih=>cases o<;>simp[zAK,ih]
@[simp] theorem qFS {σ : St}:zDf 0 σ = σ:=rfl
@[simp] theorem qKE {σ : St}:zDf 1 σ = zAK σ:=rfl
@[simp] theorem qKG {σ : St}:zDf 2 σ = []:=rfl
variable {fl k:Nat}
@[simp] theorem qKz {v:Value}:zL7 Q v σ = ∀e,Q (.pan v) e σ:=rfl
@[simp] theorem qNy:wpD P Qd K' [] env σ = K' env σ:=by simp only[wpD]
@[simp] theorem qQo {o:KOp}:zBg 0 o env=True:=rfl
@[simp] theorem qQp {o:KOp}:zBg 1 o env=True:=rfl
@[simp] theorem qQq {o:KOp}:zBg 2 o env=True:=rfl
@[simp] theorem qQr {o:KOp}:zBg 3 o env=True:=rfl
@[simp] theorem qQs {o:KOp}:zBg 4 o env=True:=rfl
@[simp] theorem qQt {n:Nat}:zBg 5 (.st d x y n) env=zNb (ev env x):=rfl
@[simp] theorem qQu {n:Nat}:zBg 6 (.st d x y n) env=zNc (ev env x):=rfl
@[simp] theorem qNe {n:Nat}:zBg 6 (.idx d x y n) env=isRow (ev env x):=rfl
@[simp] theorem qFn {l o:Nat}:zNb (.ptr l o)=True:=rfl
@[simp] theorem qFp {l n o:Nat}:zNc (.rwp l n o)=True:=rfl
@[simp] theorem qFo {l n:Nat}:isRow (.row l n)=True:=rfl
@[simp] theorem qKF {σ : St}:zDf 6 σ = σ:=rfl
@[simp] theorem qLh {o:KOp}{l:List (Nat×Nat×KG)}:wpD P Qd K' ((k,fl,⟨none,o⟩)::l) env σ = (zBg fl o env∧jI P Qd fl (wpD P Qd K' l) o env σ):=rfl
@[simp] theorem qGs {s:Nat}{want:Bool}{o:KOp}{l:List (Nat×Nat×KG)}:wpD P Qd K' ((k,fl,⟨some (s,want),o⟩)::l) env σ = (zBg fl o env∧zJa (env s) want (jI P Qd fl (wpD P Qd K' l) o) (zGy o.dst (wpD P Qd K' l)) env σ):=by
 simp only[wpD,zSx,zJa];generalize env s=a;cases a<;>try rfl
 all_goals (rename_i v; cases v<;>rfl)
@[simp] theorem qE1:jI P Qd fl K' (.pick d x y z) env σ = wpO P zAR K' (.pick d x y z) env σ:=by simp[jI,KOp.lite,KOp.keeps]
@[simp] theorem qEx {e sz n:Nat}{zs:List Value}{ps:List (Nat×Nat×Operand)}:jI P Qd fl K' (.brow d e sz n zs ps) env σ = wpO P zAR K' (.brow d e sz n zs ps) env σ:=by simp[jI,KOp.lite,KOp.keeps]
@[simp] theorem qG7 {m:MOp}{xs:List Operand}:jI P Qd fl K' (.mop d m xs) env σ = (match zRQ m (xs.map (ev env)) σ with
 | some (r,σ')=>K' (env.put d r) σ'
 | none=>False):=rfl
@[simp] theorem qG4 {ng:Bool}:jI P Qd fl K' (.isp d ng x) env σ = wpO P zAR K' (.isp d ng x) env σ:=by simp[jI,KOp.lite,KOp.keeps]
@[simp] theorem qG6 {t:TypeId}:jI P Qd fl K' (.mki d t x) env σ = wpO P zAR K' (.mki d t x) env σ:=by simp[jI,KOp.lite,KOp.keeps]
@[simp] theorem qG8:jI P Qd fl K' (.mov d x) env σ = wpO P zAR K' (.mov d x) env σ:=by simp[jI,KOp.lite,KOp.keeps]
@[simp] theorem zZX {len sz:Nat}:jI P Qd fl K' (.idxarr d x y len sz) env σ = wpO P zAR K' (.idxarr d x y len sz) env σ:=by simp[jI,KOp.lite,KOp.keeps]
@[simp] theorem qGv {op:BinOp}:jI P Qd fl K' (.bin d op x y) env σ = wpO P zAR K' (.bin d op x y) env σ:=by simp[jI,KOp.lite,KOp.keeps]
@[simp] theorem qGz {k:SK}{ng:Bool}:jI P Qd fl K' (.eqv d ng k x y) env σ = wpO P zAR K' (.eqv d ng k x y) env σ:=by simp[jI,KOp.lite,KOp.keeps]
@[simp] theorem qGy {ks:List SK}{ng:Bool}:jI P Qd fl K' (.eqs d ng ks x y) env σ = wpO P zAR K' (.eqs d ng ks x y) env σ:=by simp[jI,KOp.lite,KOp.keeps]
@[simp] theorem qG9:jI P Qd fl K' (.neg d x) env σ = wpO P zAR K' (.neg d x) env σ:=by simp[jI,KOp.lite,KOp.keeps]
@[simp] theorem qGA:jI P Qd fl K' (.not d x) env σ = wpO P zAR K' (.not d x) env σ:=by simp[jI,KOp.lite,KOp.keeps]
@[simp] theorem qLk {mx:Bool}{xs:List Operand}:jI P Qd fl K' (.mm d mx xs) env σ = wpO P zAR K' (.mm d mx xs) env σ:=by simp[jI,KOp.lite,KOp.keeps]
@[simp] theorem qEz:jI P Qd fl K' (.len d true x) env σ = wpO P zAR K' (.len d true x) env σ:=by simp[jI,KOp.lite,KOp.keeps]
@[simp] theorem qG0 {i:Nat}:jI P Qd fl K' (.ext d x i) env σ = wpO P zAR K' (.ext d x i) env σ:=by simp[jI,KOp.lite,KOp.keeps]
@[simp] theorem qGx {f:FuncId}{a b:List Operand}:jI P Qd fl K' (.clo d f a b) env σ = wpO P zAR K' (.clo d f a b) env σ:=by simp[jI,KOp.lite,KOp.keeps]
@[simp] theorem qGB {sz:Nat}{lo hi mx:Option Operand}:jI P Qd fl K' (.slc d x sz lo hi mx) env σ = wpO P zAR K' (.slc d x sz lo hi mx) env σ:=by simp[jI,KOp.lite,KOp.keeps]
@[simp] theorem qBM {zs:List Value}{ps:List (Nat×Nat×Operand)}:jI P Qd fl K' (.build d zs ps) env σ = wpO P zAR K' (.build d zs ps) env σ:=by simp[jI,KOp.lite,KOp.keeps]
@[simp] theorem zZW {e:TypeId}{sz n:Nat}{zs:List Value}{ps:List (Nat×Nat×Operand)}:jI P Qd fl K' (.bslice d e sz n zs ps) env σ = wpO P zAR K' (.bslice d e sz n zs ps) env σ:=by simp[jI,KOp.lite,KOp.keeps]
@[simp] theorem qBL {zs:List Value}:jI P Qd fl K' (.alloc d zs) env σ = wpO P zAR K' (.alloc d zs) env σ:=by simp[jI,KOp.lite,KOp.keeps]
@[simp] theorem qGw:jI P Qd fl K' (.box d x) env σ = wpO P zAR K' (.box d x) env σ:=by simp[jI,KOp.lite,KOp.keeps]
@[simp] theorem qLl {n:Nat}:jI P Qd fl K' (.st d x y n) env σ = wpO P zAR K' (.st d x y n) env σ:=by simp[jI,KOp.lite,KOp.keeps]
@[simp] theorem qGu {e:TypeId}{sz bytes:Nat}:jI P Qd fl K' (.app d e sz bytes x y) env σ = wpO P zAR K' (.app d e sz bytes x y) env σ:=by simp[jI,KOp.lite,KOp.keeps]
@[simp] theorem qG1 {off n:Nat}{agg:Bool}:jI P Qd fl K' (.fld d x off n agg) env σ = wpO P zAR K' (.fld d x off n agg) env σ:=by simp[jI,KOp.lite,KOp.keeps]
@[simp] theorem qLi {len sz:Nat}{agg:Bool}:jI P Qd fl K' (.ix d x y len sz agg) env σ = wpO P zAR K' (.ix d x y len sz agg) env σ:=by simp[jI,KOp.lite,KOp.keeps]
@[simp] theorem qG3 {ng:Bool}:jI P Qd fl K' (.isn d ng x) env σ = wpO P zAR K' (.isn d ng x) env σ:=by simp[jI,KOp.lite,KOp.keeps]
@[simp] theorem qLj {n:Nat}{agg:Bool}:jI P Qd fl K' (.ld d x n agg) env σ = zDx ((ldA (zDf fl σ) n (ev env x)).bind (zBG agg)) fun r=>K' (env.put d r) σ:=zED
@[simp] theorem qEw {off:Nat}:jI P Qd fl K' (.addr d x off) env σ = zDx (zHE (zDf fl σ) off (ev env x)) fun r=>K' (env.put d r) σ:=by show qW (zI env (zDf fl σ) (.addr d x off)) _=_;rw[zHf,zED]; rfl
@[simp] theorem qG2 {sz:Nat}:jI P Qd fl K' (.idx d x y sz) env σ = zGf (zDf fl σ) sz (ev env x) (ev env y) fun r=>K' (env.put d r) σ:=zNa (d:=d)
def zMm (σ : St)(a:A)(J:A→Prop):Prop:=match a with
 | .nil=>J (.lit (.int .i64 0))
 | .sl n _=>J (.lit (.int .i64 n))
 | .fsl n _=>J (.lit (.int .i64 n))
 | .row l n=>match σ[l]? with
  | some (.row _ _ _ m _)=>if n=m then J (.lit (.int .i64 n)) else False
  | _=>False
 | .win l n _ k _=>match σ[l]? with
  | some (.row _ _ _ m _)=>if n=m then J (.lit (.int .i64 k)) else False
  | _=>False
 | _=>False
@[simp] theorem qJC {J:A→Prop}:zMm σ .nil J=J (.lit (.int .i64 0)):=rfl
@[simp] theorem qMC {n:Nat}{cs:List A}{J:A→Prop}:zMm σ (.sl n cs) J=J (.lit (.int .i64 n)):=rfl
@[simp] theorem qJB {n:Nat}{cs:List A}{J:A→Prop}:zMm σ (.fsl n cs) J=J (.lit (.int .i64 n)):=rfl
def zRF (o:Option AObj)(n:Nat)(J:A→Prop):Prop:=match o with
 | some (.row _ _ _ m _)=>if n=m then J (.lit (.int .i64 n)) else False
 | _=>False
@[simp] theorem qBp {fz:Bool}{e:TypeId}{s m n:Nat}{cs:List A}{J:A→Prop}:zRF (some (.row fz e s m cs)) n J=if n=m then J (.lit (.int .i64 n)) else False:=rfl
@[simp] theorem qJD {l n:Nat}{J:A→Prop}:zMm σ (.row l n) J=zRF σ[l]? n J:=by simp only[zMm,zRF]
theorem zU4 {τ : St}{J:A→Prop}:qW (zI env τ (.len d false x)) J=zMm τ (ev env x) J:=by
 simp only[zMm,zI];generalize ev env x=a;cases a<;>simp only[qW,true_and]
 ·rename_i l n;cases τ[l]? with
  | none=>rfl
  | some ob =>
   cases ob<;>try rfl
   rename_i fz e s m cs;by_cases h:n=m<;>simp[h]
 ·rename_i l n _ k _;cases τ[l]? with
  | none=>rfl
  | some ob =>
   cases ob<;>try rfl
   rename_i fz e s m cs;by_cases h:n=m<;>simp[h]
@[simp] theorem qG5:jI P Qd fl K' (.len d false x) env σ = zMm (zDf fl σ) (ev env x) fun r=>K' (env.put d r) σ:=by show qW (zI env (zDf fl σ) (.len d false x)) _=_;exact zU4
def zFQ (P:Program)(Qd:Value→St→Prop)(fl:Nat) (σ : St)(d:Option Nat)(K':Env→St→Prop)(f:A)(args:List A)(env:Env):Prop:=zYb P Qd fl σ d K' f args env
@[simp] theorem qEy {args:List Operand}:jI P Qd fl K' (.call d x args) env σ = zFQ P Qd fl σ d K' (ev env x) (args.map (ev env)) env:=rfl
@[simp] theorem qMn {g:FuncId}{first cap args:List A}:zFQ P Qd 0 σ d K' (.clo g first cap) args env=(zB P g=true∧zOA P σ d (fun e=>K' e σ) g (first++args++cap) env):=rfl
@[simp] theorem qMo {g:FuncId}{first cap args:List A}:zFQ P Qd 1 σ d K' (.clo g first cap) args env=(zB P g=true∧zI9 P σ d (fun e=>K' e σ) g (first++args++cap) env):=rfl
@[simp] theorem qMp {g:FuncId}{first cap args:List A}:zFQ P Qd 3 σ d K' (.clo g first cap) args env=(zB P g=true∧zIA P σ d K' g (first++args++cap) env):=rfl
@[simp] theorem qMr {g:FuncId}{first cap args:List A}:zFQ P Qd 7 σ d K' (.clo g first cap) args env=(zB P g=true∧zQF P σ d K' g (first++args++cap) env):=rfl
@[simp] theorem qMs {g:FuncId}{first cap args:List A}:zFQ P Qd 8 σ d K' (.clo g first cap) args env=(zB P g=true∧zQG P σ d K' g (first++args++cap) env):=rfl
@[simp] theorem qI9 {g:FuncId}{first cap args:List A}:zFQ P Qd 10 σ d K' (.clo g first cap) args env=(zB P g=true∧zIB P Qd σ d K' g (first++args++cap) env):=rfl
@[simp] theorem qIA {g:FuncId}{first cap args:List A}:zFQ P Qd 11 σ d K' (.clo g first cap) args env=(zB P g=true∧zLZ P σ d K' g (first++args++cap) env):=rfl
@[simp] theorem qMt {n:Nat}{g:FuncId}{first cap args:List A}(h1:11<n):zFQ P Qd n σ d K' (.clo g first cap) args env=(zB P g=true∧(if 1000≤n∧n<2000 then zLY P (n-1000) σ d K' g (first++args++cap) env else if 3000≤n∧n<4000 then zQE P (n-3000) σ d K' g (first++args++cap) env else zIC P σ d K' g (first++args++cap) env)):=by obtain⟨m,rfl⟩:∃m,n=m+12:=⟨n-12,by omega⟩;rfl
@[simp] theorem qMq {g:FuncId}{first cap args:List A}:zFQ P Qd 4 σ d K' (.clo g first cap) args env=(zB P g=true∧zIC P σ d K' g (first++args++cap) env):=rfl
@[simp] theorem qIB {b:Nat}{args:List A}:zFQ P Qd 4 σ d K' (yv b) args env = ∃r σ',(zCy P b args σ fun o τ=>o=.ret r∧τ = σ')∧K' (env.put d r) σ':=by show (4=4∧_)=_;simp
theorem qZ {t:Bool}{A B:Env→St→Prop}(h1:t=true→A env σ)(h2:t=false→B env σ):zFB t A B env σ:=⟨h1,h2⟩
theorem zZl {S:Type}{W:(Ex→Env→St→Prop)→Env→St→Prop}(E:S→List (Nat×A))(T:S→St)(I:S→Prop) (μ : S→Nat)(s0:S)(h0:I s0)(start:zA7 n0 (qG (E s0)) (T s0) env σ)
 (round:∀s,I s→W (rnd n0 (fun n e t=>∃s,I s∧μ s=n∧e=qG (E s)∧t=T s) (μ s) Q) (qG (E s)) (T s)):zOF n0 W Q env σ:=by
 refine⟨fun n e t=>∃s,I s∧μ s=n∧e=qG (E s)∧t=T s,⟨μ s0,_,_,start,s0,h0,rfl,rfl,rfl⟩,?_⟩;rintro n e t ⟨s,hs,rfl,rfl,rfl⟩;exact round s hs
theorem qDN {S:Type}{E:S→List (Nat×A)}{T:S→St}{I:S→Prop} {μ : S→Nat}{n:Nat}(s:S)(hs:I s)(hm : μ s<n)(hw:zA7 n0 (qG (E s)) (T s) env σ) :
 rnd n0 (fun n e t=>∃s,I s∧μ s=n∧e=qG (E s)∧t=T s) n Q .norm env σ:=⟨μ s,hm,_,_,hw,s,hs,rfl,rfl,rfl⟩
theorem zIO {l:List (Nat×A)} {σ' τ : St}(he : σ = σ'++τ)(hn:n0≤σ'.length)(hl:∀p∈l,env p.1=p.2)(hb:∀p∈l,p.2.bnd σ'.length=true)(ho:∀o∈σ',o.bnd σ'.length=true) :
 zA7 n0 (qG l) σ' env σ:=by
 subst he;exact zA7.cut l hn hl hb ho
@[simp] theorem qD1 {i t:Nat}{a:A}{l:List (Nat×A)}:qG ((i,a)::l) t=if t=i then a else qG l t:=rfl
@[simp] theorem qFt {t:Nat}:qG [] t=.any:=rfl
end
end Go.Abs
namespace Go.Abs
def zTQ (o k c:Nat):A→A
 | .sl _ cs=>if k=0 then .sl 0 [] else .sl k ((cs.drop o).take (k*c))
 | _=>.any
mutual
def vw (rf:Bool→Nat→Nat→A)(g:Nat→Option Nat):A→A
 | .ptr l o=>match g l with
  | some i=>.ptr i o
  | none=>rf true l o
 | .row l n=>match g l with
  | some i=>.row i n
  | none=>rf false l n
 | .rwp l n o=>match g l with
  | some i=>.rwp i n o
  | none=>.any
 | .map l=>match g l with
  | some i=>.map i
  | none=>.any
 | .win l n o k c=>match g l with
  | some i=>.win i n o k c
  | none=>zTQ o k c (rf false l n)
 | .agg cs=>.agg (vwL rf g cs)
 | .tup cs=>.tup (vwL rf g cs)
 | .sl n cs=>.sl n (vwL rf g cs)
 | .fsl n cs=>.fsl n (vwL rf g cs)
 | .rptr cs=>.rptr (vwL rf g cs)
 | .clo f a b=>.clo f (vwL rf g a) (vwL rf g b)
 | .any=>.any
 | .nil=>.nil
 | .lit v=>.lit v
def vwL (rf:Bool→Nat→Nat→A)(g:Nat→Option Nat):List A→List A
 | []=>[]
 | c::cs=>vw rf g c::vwL rf g cs
end
def seen (σ : St)(g:Nat→Option Nat):Nat→Bool→Nat→Nat→A
 | 0,_,_,_=>.any
 | k+1,false,l,n=>match σ[l]? with
  | some (.row _ _ _ m cs)=>if n=m then .sl n (vwL (seen σ g k) g cs) else .any
  | _=>.any
 | k+1,true,l,o=>match σ[l]? with
  | some (.box cs)=>.rptr ((vwL (seen σ g k) g cs).drop o)
  | _=>.any
def vwO (rf:Bool→Nat→Nat→A)(g:Nat→Option Nat):AObj→AObj
 | .dead=>.dead
 | .box cs=>.box (vwL rf g cs)
 | .row fz e sz n cs=>.row fz e sz n (vwL rf g cs)
 | .lp b r M es=>.lp b r M (es.map fun p=>(p.1,vw rf g p.2))
 | .mp fr nk es=>.mp fr nk (es.map fun p=>(p.1,vw rf g p.2))
 | .it m n met=>match g m with
  | some i=>.it i n met
  | none=>.dead
 | .rsv=>.rsv
def zGO:AObj→AObj
 | .dead=>.dead
 | .box cs=>.box (jF cs)
 | .row fz e sz n cs=>.row fz e sz n (jF cs)
 | .lp b r M es=>.lp b r M (es.map fun p=>(p.1,nrm0 p.2))
 | .mp fr nk es=>.mp fr nk (es.map fun p=>(p.1,nrm0 p.2))
 | .it m n met=>.it m n met
 | .rsv=>.rsv
def zX:List Nat→Nat→Option Nat
 | [],_=>none
 | k::ks,l=>if l=k then some 0 else (zX ks l).map (· + 1)
theorem zJn:∀{ks:List Nat} {l i:Nat},zX ks l=some i→ks[i]?=some l
 | [],l,i,h=>by simp[zX]at h
 | k::ks,l,i,h=>by
  simp only[zX]at h;split at h
  ·cases h; rename_i h; simp[h]
  ·simp only[jAa]at h;obtain⟨j,hj,rfl⟩:=h
   simpa using zJn hj
theorem zL9:∀{ks:List Nat} {l:Nat},zX ks l=none→l∉ks
 | [],l,_=>by simp
 | k::ks,l,h=>by
  simp only[zX]at h;split at h
  ·cases h
  ·rename_i hne;simp only[Option.map_eq_none_iff]at h;simp[hne,zL9 h]
section
variable {P:Program}{H H':Mem}{L L':List LI} {σ : St}{w:World}
theorem zJj:∀{ks:List Nat} {i j x:Nat},ks.Nodup→ks[i]?=some x→ks[j]?=some x→i=j
 | [],i,j,x,_,h,_=>by simp at h
 | k::ks,i,j,x,hd,h1,h2=>by
  rw[jD1]at hd;cases i with
  | zero =>
   cases j with
   | zero=>rfl
   | succ j =>
    simp only[jAz,jBb,jA0]at h1 h2;subst h1;exact(hd.1 (jC4 h2)).elim
  | succ i =>
   cases j with
   | zero =>
    simp only[jAz,jBb,jA0]at h1 h2;subst h2;exact(hd.1 (jC4 h1)).elim
   | succ j =>
    simp only[jBb]at h1 h2;rw[zJj hd.2 h1 h2]
mutual
theorem Rel.vw {rf:Bool→Nat→Nat→A}{g:Nat→Option Nat}(hh:HLe H H')(hg:∀l i,g l=some i→L'[i]?=L[l]?)(hr:∀l n v,g l=none→Rel H L (.row l n) v→Rel H' L' (rf false l n) v)(hp:∀l n v,g l=none→Rel H L (.ptr l n) v→Rel H' L' (rf true l n) v) :
 ∀(a:A) {v:Value},Rel H L a v→Rel H' L' (vw rf g a) v
 | .ptr l o,v,h=>by
  simp only[Abs.vw];split
  ·rename_i i hi;simp only[Rel]at h⊢;rw[hg l i hi];exact h
  ·rename_i hi;exact hp l o v hi h
 | .row l n,v,h=>by
  simp only[Abs.vw];split
  ·rename_i i hi;simp only[Rel]at h⊢;rw[hg l i hi];exact h
  ·rename_i hi;exact hr l n v hi h
 | .rwp l n o,v,h=>by
  simp only[Abs.vw];split
  ·rename_i i hi;simp only[Rel]at h⊢;rw[hg l i hi];exact h
  ·simp[Rel]
 | .map l,v,h=>by
  simp only[Abs.vw];split
  ·rename_i i hi;simp only[Rel]at h⊢;rw[hg l i hi];exact h
  ·simp[Rel]
 | .win l n o k c,v,h=>by
  simp only[Abs.vw];split
  ·rename_i i hi;simp only[Rel]at h⊢;rw[hg l i hi];exact h
  ·rename_i hi;simp only[Rel]at h;obtain⟨h0,li,e,h1,h2,h3⟩:=h;by_cases hn:n=li.len
   ·obtain⟨g0,ad,cap,rfl,g1,g2,g3⟩:=h3 hn;have h4:=hr l n (match li.block with | none=>.slice none 0 0 | some b=>.slice (some ⟨b,0,none⟩) n li.cap) hi (by
     simp only[Rel];exact⟨by split<;>rfl,li,e,h1,h2,fun _=>rfl⟩)
    generalize rf false l n=x at h4;cases x<;>simp only[zTQ]<;>try (simp only[Rel]; done)
    rename_i n' cs;split
    ·rename_i hk;subst hk;simp only[Rel];exact⟨ad,cap,rfl,jB _,g2,.inl (by simp)⟩
    ·rename_i hk;replace g3:=zT5 g1 g3;rcases g3 with g3 | ⟨b,g3,rfl⟩
     ·exact(hk g3).elim
     ·simp only[g3,Rel]at h4 ⊢;obtain⟨a',cap',k1,k2,k3,k4⟩:=h4;simp only[Value.slice.injEq]at k1;obtain⟨rfl,rfl,rfl⟩:=k1;refine⟨_,cap,rfl,g1,g2,?_⟩;rcases k4 with ⟨rfl,rfl⟩ | ⟨b',o',us,k5,k6,k7,k8⟩
      ·omega
      ·cases k5;refine .inr ⟨b,o,_,rfl,(k6.drop o).take (k*c),zBm k7,?_⟩;have:=(k8.drop o).take (k*c)
       rwa [jAt]at this
   ·have h4:=hr l n (.bool true) hi (by
     simp only[Rel];exact⟨rfl,li,e,h1,h2,fun e=>(hn e).elim⟩)
    generalize rf false l n=x at h4;cases x<;>simp only[zTQ]<;>try (simp only[Rel]; done)
    simp only[Rel]at h4;obtain⟨_,_,h4,_⟩:=h4;cases h4
 | .agg cs,v,h=>by simp only[Rel,Abs.vw]at h⊢;obtain⟨vs,rfl,h1,h2⟩:=h;exact⟨vs,rfl,zT.vw hh hg hr hp cs h1,h2⟩
 | .tup cs,v,h=>by simp only[Rel,Abs.vw]at h⊢;obtain⟨vs,rfl,h1⟩:=h;exact⟨vs,rfl,zT.vw hh hg hr hp cs h1⟩
 | .sl n cs,v,h=>by
  simp only[Rel,Abs.vw]at h⊢;obtain⟨a,cap,rfl,h1,h2,h3⟩:=h;refine⟨a,cap,rfl,h1,h2,?_⟩;rcases h3 with ⟨h3,rfl⟩ | ⟨b,o,us,rfl,h4,h5,h6⟩
  ·exact .inl ⟨h3,by simp[vwL]⟩
  ·exact .inr ⟨b,o,us,rfl,zT.vw hh hg hr hp cs h4,h5,h6.mono hh⟩
 | .fsl n cs,v,h=>by
  simp only[Rel,Abs.vw]at h⊢;obtain⟨a,rfl,h1,h3⟩:=h;refine⟨a,rfl,h1,?_⟩;rcases h3 with ⟨h3,rfl⟩ | ⟨b,o,us,rfl,h4,h5,h6⟩
  ·exact .inl ⟨h3,by simp[vwL]⟩
  ·exact .inr ⟨b,o,us,rfl,zT.vw hh hg hr hp cs h4,h5,h6.mono hh⟩
 | .rptr cs,v,h=>by simp only[Rel,Abs.vw]at h⊢;obtain⟨b,o,us,rfl,h4,h5,h6⟩:=h;exact⟨b,o,us,rfl,zT.vw hh hg hr hp cs h4,h5,h6.mono hh⟩
 | .clo f first cap,v,h=>by simp only[Rel,Abs.vw]at h⊢;obtain⟨fs,cs,rfl,h1,h2⟩:=h;exact⟨fs,cs,rfl,zT.vw hh hg hr hp first h1,zT.vw hh hg hr hp cap h2⟩
 | .any,_,_=>by simp[Rel,Abs.vw]
 | .nil,_,h=>by simpa [Rel,Abs.vw] using h
 | .lit _,_,h=>by simpa [Rel,Abs.vw] using h
theorem zT.vw {rf:Bool→Nat→Nat→A}{g:Nat→Option Nat}(hh:HLe H H')(hg:∀l i,g l=some i→L'[i]?=L[l]?)(hr:∀l n v,g l=none→Rel H L (.row l n) v→Rel H' L' (rf false l n) v)(hp:∀l n v,g l=none→Rel H L (.ptr l n) v→Rel H' L' (rf true l n) v) :
 ∀(cs:List A) {vs:List Value},zT H L cs vs→zT H' L' (vwL rf g cs) vs
 | [],vs,h=>by simpa [zT,vwL] using h
 | c::cs,vs,h=>by simp only[zT,vwL]at h⊢;obtain⟨u,us,rfl,h1,h2⟩:=h;exact⟨u,us,rfl,Rel.vw hh hg hr hp c h1,zT.vw hh hg hr hp cs h2⟩
end
def AObj.held:AObj→Nat
 | .row _ _ sz n _=>n*sz
 | .box cs=>cs.length
 | _=>0
def zOb (g:Nat→Option Nat)(L:List LI) (σ : St)(b o:Nat):Prop :=
 ∃(i:Nat) (li:LI) (ob:AObj),g i=none∧L[i]?=some li∧σ[i]?=some ob∧li.block=some b∧o<ob.held
open Classical in
noncomputable def zLi (g:Nat→Option Nat) (H:Mem) (L:List LI) (σ : St) (w:World):Mem:=⟨fun b o=>match H b o with
 | some v=>some v
 | none=>if zOb g L σ b o then w.cell? ⟨b,o,none⟩ else none,fun b o v h=>by simp only[H.2 b o v h]⟩
open Classical in
theorem zFq (g:Nat→Option Nat)(H:Mem)(L:List LI) (σ : St)(w:World)(b o:Nat):zLi g H L σ w b o=match H b o with
 | some v=>some v
 | none=>if zOb g L σ b o then w.cell? ⟨b,o,none⟩ else none:=rfl
theorem zFr {g:Nat→Option Nat}:HLe H (zLi g H L σ w):=fun b o v h=>by rw[zFq,h]
theorem zPE {g:Nat→Option Nat}{b o:Nat}{v:Value}(h:zLi g H L σ w b o=some v):H b o=some v∨(zOb g L σ b o∧w.cell? ⟨b,o,none⟩=some v):=by
 rw[zFq]at h;split at h
 ·rename_i u hu; cases h; exact .inl hu
 ·split at h
  ·rename_i hr; exact .inr ⟨hr,h⟩
  ·cases h
theorem zPF {g:Nat→Option Nat}(hs:RelSt H L σ w){b o:Nat}{v:Value}(hx:zOb g L σ b o)(hc:w.cell? ⟨b,o,none⟩=some v):zLi g H L σ w b o=some v:=by
 rw[zFq];split
 ·rename_i x hx;have:=hs.pers b o x hx;rw[hc]at this;exact this.symm
 ·rw[if_pos hx];exact hc
theorem Rel.seen {g:Nat→Option Nat}(hs:RelSt H L σ w)(hg:∀l i,g l=some i→L'[i]?=L[l]?) :
 ∀(k:Nat),(∀(l n:Nat) (v:Value),g l=none→Rel H L (.row l n) v→Rel (zLi g H L σ w) L' (seen σ g k false l n) v)∧∀(l n:Nat) (v:Value),g l=none→Rel H L (.ptr l n) v→Rel (zLi g H L σ w) L' (seen σ g k true l n) v
 | 0=>⟨fun l n v _ _=>by simp[Abs.seen,Rel],fun l n v _ _=>by simp[Abs.seen,Rel]⟩
 | k+1=>by
  obtain⟨ih1,ih2⟩:=Rel.seen hs hg k;refine⟨fun l n v hl h=>?_,fun l n v hl h=>?_⟩
  ·simp only[Abs.seen];split
   ·rename_i fz e sz m cs hσ;split
    ·rename_i hn;subst hn;simp only[Rel]at h⊢;obtain⟨_,li,e1,e2,e3,hv⟩:=h;have hob:=hs.obj l li _ e1 hσ;simp only[zN]at hob;obtain⟨_,g1,g2,hob⟩:=hob;have hv:=hv g1.symm;rcases hob with ⟨hb,h0⟩ | ⟨b,cur,hb,k1,k2,k3,k4,k5,k6,k7⟩
     ·rw[hb]at hv;subst h0;have hcs:cs=[]:=jC7 (by simpa using g2);exact⟨none,0,hv,jA _,jB _,.inl ⟨rfl,by simp[hcs,vwL]⟩⟩
     ·rw[hb]at hv;refine⟨_,_,hv,k2,k3,.inr ⟨b,0,_,rfl,zT.vw zFr hg ih1 ih2 cs k5,k6,fun j u hu=>?_⟩⟩;have hj:j<n*sz:=by
       rw[jB8]at hu;split at hu
       ·assumption
       ·cases hu
      have hc:w.cell? ⟨b,j,none⟩=some u:=by
       rw[cell_of_row w b j cur e (0,0) k1];rw[jB8,if_pos hj]at hu
       simpa using hu
      simp only[jAt];exact zPF hs ⟨l,li,_,hl,e1,hσ,hb,hj⟩ hc
    ·simp[Rel]
   ·simp[Rel]
  ·simp only[Abs.seen];split
   ·rename_i cs hσ;simp only[Rel]at h⊢;obtain⟨li,b,e1,e2,e3,hv⟩:=h;have hob:=hs.obj l li _ e1 hσ;simp only[zN]at hob;obtain⟨_,b',vs,e,hb',hh,hr,h1,_⟩:=hob;rw[e2]at hb';cases hb';refine⟨b,n,vs.drop n,hv,(zT.vw zFr hg ih1 ih2 cs hr).drop n,fun u hu=>h1 u (jBp hu),fun j u hu=>?_⟩;rw[jD5]at hu;have hlt:n+j<cs.length:=by rw[←hr.length];exact(jA1.1 hu).1
    refine zPF hs ⟨l,li,_,hl,e1,hσ,e2,hlt⟩ ?_;rw[cell_of_row w b _ _ e (0,0) hh]
    simpa using hu
   ·simp[Rel]
def yQ (σ : St)(rf:Bool→Nat→Nat→A)(g:Nat→Option Nat):List Nat→St→Prop
 | [],[]=>True
 | j::js,o'::os=>(match σ[j]? with
  | some o=>o'=vwO rf g o∨o'=zGO (vwO rf g o)
  | none=>False)∧yQ σ rf g js os
 | _,_=>False
theorem zEL {rf:Bool→Nat→Nat→A}{g:Nat→Option Nat}:∀{ks:List Nat} {σ':St},yQ σ rf g ks σ'→σ'.length=ks.length
 | [],[],_=>rfl
 | _::_,_::_,h=>by simp[zEL h.2]
theorem zEK {rf:Bool→Nat→Nat→A}{g:Nat→Option Nat}:∀{ks:List Nat} {σ':St},yQ σ rf g ks σ'→∀{i j:Nat} {o':AObj},ks[i]?=some j→σ'[i]?=some o'→∃o,σ[j]?=some o∧(o'=vwO rf g o∨o'=zGO (vwO rf g o))
 | [],[],_,i,j,o',h,_=>by simp at h
 | k::ks,p::σ',h,i,j,o',h1,h2=>by
  cases i with
  | zero =>
   simp only[jAz,jA0]at h1 h2;subst h1; subst h2;have:=h.1;split at this
   ·rename_i o ho; exact⟨o,ho,this⟩
   ·exact this.elim
  | succ i =>
   simp only[jBb]at h1 h2;exact zEK h.2 h1 h2
theorem zN.nrm {li:LI}{o:AObj}(h:zN H L w li o):zN H L w li (zGO o):=by
 cases o with
 | dead=>trivial
 | box cs =>
  simp only[zN,zGO]at h⊢;obtain⟨h0,b,vs,e,h1,h2,h3,h4,h5⟩:=h;exact⟨h0,b,vs,e,h1,h2,zT.nrm0 _ h3,h4,h5⟩
 | row fz e sz n cs =>
  simp only[zN,zGO]at h⊢;obtain⟨h0,h1,h2,h3⟩:=h;have hl:∀cs:List A,(jF cs).length=cs.length:=fun cs=>by induction cs with
   | nil=>rfl
   | cons c cs ih=>simp[jF,ih]
  refine⟨h0,h1,by rw[hl]; exact h2,?_⟩;rcases h3 with h3 | ⟨b,cur,g1,g2,g3,g4,g5,g6,g7,g8⟩
  ·exact .inl h3
  ·exact .inr ⟨b,cur,g1,g2,g3,g4,g5,zT.nrm0 _ g6,g7,g8⟩
 | lp b r M es =>
  simp only[zN,zGO]at h⊢;obtain⟨h0,h1,tmps,h2,h3,h4⟩:=h;exact⟨h0,h1,tmps,h2,h3,h4.map _ fun a v ha=>Rel.nrm0 a ha⟩
 | mp fr nk es =>
  simp only[zN,zGO]at h⊢;obtain⟨h0,b,ents,ck,h1,h2,h3,h4⟩:=h;exact⟨h0,b,ents,ck,h1,h2,zAr.map _ (fun p _ v hv=>Rel.nrm0 _ hv) h3,h4.1,zLn h4.2⟩
 | it m n met=>exact h
 | rsv=>exact h
theorem zHC {rf:Bool→Nat→Nat→A}{g:Nat→Option Nat}:∀{cs:List A},(vwL rf g cs).length=cs.length
 | []=>rfl
 | c::cs=>by simp[vwL,zHC]
theorem zTn {H0:Mem}{L0:List LI}{w0:World}(ks:List Nat)(fuel:Nat) {σ':St}(hk:∀i,i<L0.length→ks[i]?=some i)(hd:ks.Nodup)
 (ho:yQ σ (Abs.seen σ (zX ks) fuel) (zX ks) ks σ')(h:Nxt H0 L0 w0 H L σ w) :
 ∃H' L',Nxt H0 L0 w0 H' L' σ' w∧HLe H H'∧∀a v,Rel H L a v→Rel H' L' (Abs.vw (Abs.seen σ (zX ks) fuel) (zX ks) a) v:=by
 have hs:=h.st;let g:=zX ks;let L':List LI:=ks.map fun k=>L.getD k ⟨none,0,0,false⟩
 have hin:∀(i j:Nat),ks[i]?=some j→∃li,L[j]?=some li∧L'[i]?=some li:=by
  intro i j hij;have hi:i < σ'.length:=by rw[zEL ho]; exact(jA1.1 hij).1
  obtain⟨o,hσ,_⟩:=zEK ho hij (jA2 hi);have hj:j<L.length:=by rw[hs.len]; exact(jA1.1 hσ).1
  refine⟨L[j],jA2 hj,?_⟩;simp[L',hij,hj]
 have hback:∀{i:Nat} {li:LI},L'[i]?=some li→∃j,ks[i]?=some j∧L[j]?=some li:=by
  intro i li hi;have hi':i<ks.length:=by simpa [L'] using (jA1.1 hi).1
  obtain⟨li',h1,h2⟩:=hin i ks[i] (jA2 hi');rw[hi]at h2;cases h2;exact⟨_,jA2 hi',h1⟩
 have hg:∀l i,g l=some i→L'[i]?=L[l]?:=by intro l i hl;obtain⟨li,h1,h2⟩:=hin i l (zJn hl);rw[h1,h2]
 have hrel:∀a v,Rel H L a v→Rel (zLi g H L σ w) L' (Abs.vw (Abs.seen σ g fuel) g a) v:=fun a v ha=>Rel.vw zFr hg (Rel.seen hs hg fuel).1 (Rel.seen hs hg fuel).2 a ha
 have hrelL:∀cs vs,zT H L cs vs→zT (zLi g H L σ w) L' (vwL (Abs.seen σ g fuel) g cs) vs:=fun a v ha=>zT.vw zFr hg (Rel.seen hs hg fuel).1 (Rel.seen hs hg fuel).2 a ha
 have hkeep:∀(j:Nat) (li:LI) (b:Nat),j∈ks→L[j]?=some li→li.block=some b→∀o,zLi g H L σ w b o=H b o:=by
  intro j li b hj hL hb o;rw[zFq];cases hH:H b o with
  | some v=>rfl
  | none =>
   simp only;rw[if_neg];rintro⟨i,li',ob,g1,g2,g3,g4,g5⟩;have:=hs.inj i j li' li b g2 hL g4 hb;subst this;exact zL9 g1 hj
 refine⟨zLi g H L σ w,L',⟨⟨fun b o v hv=>(zPE hv).elim (hs.pers b o v) fun h=>h.2,by simp[L',zEL ho],fun i li o hL hσ=>?_,fun i j x y b hi hj hx hy=>?_,fun i li b hi hb=>?_⟩,
  ⟨h.step.os,h.step.tape,h.step.output,h.step.size,h.step.keep,h.step.hle.trans zFr,fun b o v hv=>?_,h.step.drawn,h.step.dfr⟩,fun i x hx=>?_,fun b ⟨i,x,hi,hx⟩=>?_⟩,zFr,hrel⟩
 ·obtain⟨j,hj,hLj⟩:=hback hL;obtain⟨o0,hσ0,heq⟩:=zEK ho hj hσ;have hob:=hs.obj j li o0 hLj hσ0;have hjm:j∈ks:=jC4 hj;have key:zN (zLi g H L σ w) L' w li (vwO (Abs.seen σ g fuel) g o0):=by
   cases o0 with
   | dead=>trivial
   | box cs =>
    simp only[zN,vwO]at hob ⊢;obtain⟨h0,b,vs,e,h1,h2,h3,h4,h5⟩:=hob;exact⟨h0,b,vs,e,h1,h2,hrelL _ _ h3,h4,fun o=>by rw[hkeep j li b hjm hLj h1]; exact h5 o⟩
   | row fz e sz n cs =>
    simp only[zN,vwO]at hob ⊢;obtain⟨h0,h1,h2,h3⟩:=hob;refine⟨h0,h1,by rw[zHC]; exact h2,?_⟩;rcases h3 with h3 | ⟨b,cur,g1,g2,g3,g4,g5,g6,g7,g8⟩
    ·exact .inl h3
    ·refine .inr ⟨b,cur,g1,g2,g3,g4,g5,hrelL _ _ g6,g7,?_⟩;cases fz with
     | false=>exact fun o=>by rw[hkeep j li b hjm hLj g1]; exact g8 o
     | true=>exact⟨g8.1.mono zFr,fun o ho=>by rw[hkeep j li b hjm hLj g1]; exact g8.2 o ho⟩
   | lp b r M es =>
    simp only[zN,vwO]at hob ⊢;obtain⟨h0,h1,tmps,h2,h3,h4⟩:=hob;exact⟨h0,h1,tmps,h2,h3,h4.map _ hrel⟩
   | mp fr nk es =>
    simp only[zN,vwO]at hob ⊢;obtain⟨h0,b,ents,ck,h1,h2,h3,h4⟩:=hob;exact⟨h0,b,ents,ck,h1,h2,zAr.map _ (fun p _ v hv=>hrel _ _ hv) h3,h4.1,zLn h4.2⟩
   | it m n met =>
    simp only[vwO];split
    ·rename_i i0 hi0;simp only[zN]at hob ⊢;obtain⟨h0,b,mb,lm,h1,h2,h3,h4,h5⟩:=hob;have hp:Rel H L (.ptr m 0) (.pointer (some ⟨mb,0,none⟩)):=by simp only[Rel]; exact⟨lm,mb,h2,h3,h4,rfl⟩
     have hp:=hrel _ _ hp;simp only[Abs.vw,hi0,Rel]at hp;obtain⟨lm',mb',k2,k3,k4,k5⟩:=hp;cases k5;exact⟨h0,b,mb,lm',h1,k2,k3,k4,h5⟩
    ·trivial
   | rsv=>exact hob
  rcases heq with rfl | rfl
  ·exact key
  ·exact key.nrm
 ·obtain⟨i',hi',hLi⟩:=hback hi;obtain⟨j',hj',hLj⟩:=hback hj;have:=hs.inj i' j' x y b hLi hLj hx hy;subst this;have hi1:=(jA1.1 hi').1;have hj1:=(jA1.1 hj').1;exact zJj hd hi' hj'
 ·obtain⟨j,_,hLj⟩:=hback hi;exact hs.lt j li b hLj hb
 ·rcases zPE hv with h1 | ⟨⟨i,li,_,_,hL,_,hb,_⟩,_⟩
  ·exact h.step.hnew b o v h1
  ·exact .inr (h.own b ⟨i,li,hL,hb⟩)
 ·obtain⟨x',hx',hr⟩:=h.lle i x hx;have hi:i<L0.length:=(jA1.1 hx).1;obtain⟨li,h1,h2⟩:=hin i i (hk i hi);rw[hx']at h1;cases h1;exact⟨_,h2,hr⟩
 ·obtain⟨j,_,hLj⟩:=hback hi;exact h.own b ⟨j,x,hLj,hx⟩
theorem zA7.sel {n0:Nat}{env:Env}(ks:List Nat)(fuel:Nat)(l:List (Nat×A)) {σ':St}(hk:∀i,i<n0→ks[i]?=some i)(hd:ks.Nodup)(ho:yQ σ (Abs.seen σ (zX ks) fuel) (zX ks) ks σ')
 (hl:∀p∈l,p.2=Abs.vw (Abs.seen σ (zX ks) fuel) (zX ks) (env p.1)∨p.2=nrm0 (Abs.vw (Abs.seen σ (zX ks) fuel) (zX ks) (env p.1))):zA7 n0 (qG l) σ' env σ:=by
 intro H0 L0 w0 H L w N tmps h0 h1 h2;subst h0;obtain⟨H',L',g1,_,g3⟩:=zTn ks fuel hk hd ho h1;refine⟨H',L',g1,h2.1,fun t=>?_⟩;rcases zDA l t with h | h
 ·rw[h]; simp[Rel]
 ·have:=g3 _ _ (h2.2 t);rcases hl _ h with e | e
  ·simp only at e; rw[e]; exact this
  ·simp only at e; rw[e]; exact Rel.nrm0 _ this
end
end Go.Abs
