/-
  The rules by which a walk over abstract states goes on, for simp.
-/
import Derived.Test.YthglhccibdlccaaGreatDoorX12
set_option linter.unusedVariables false
set_option linter.unusedSimpArgs false
namespace Go.Abs
def qNB (o:Option A)(d:Option Nat)(K:Env→St→Prop)(env:Env) (σ : St):Prop:=match o with
 | some r=>K (env.put d r) σ
 | none=>False
def qNA (o:Option A)(d:Option Nat)(K:Env→Prop)(env:Env):Prop:=match o with
 | some r=>K (env.put d r)
 | none=>False
def zSw (o:Option (List A))(J:List A→Prop):Prop:=match o with
 | some r=>J r
 | none=>False
def qB7 (o:Option St)(J:St→Prop):Prop:=match o with
 | some r=>J r
 | none=>False
section
variable {P:Program}{n0:Nat}{Qp:Value→Env→St→Prop}{Qd:Value→St→Prop}{K':Env→St→Prop}{KD:Env→Prop}{Q:Ex→Env→St→Prop}{env:Env} {σ : St}{d d':Option Nat}{x y z:Operand}
@[simp] theorem qDr {r:A}:qNB (some r) d K' env σ = K' (env.put d r) σ:=rfl
@[simp] theorem qDp {r:A}:qNA (some r) d KD env=KD (env.put d r):=rfl
@[simp] theorem qDo {r:List A}{J:List A→Prop}:zSw (some r) J=J r:=rfl
@[simp] theorem qDs {r:St}{J:St→Prop}:qB7 (some r) J=J r:=rfl
@[simp] theorem qIb {r:A}:env.put none r=env:=rfl
@[simp] theorem qJX {i t:Nat}{r:A}:(env.put (some i) r) t=if t=i then r else env t:=rfl
@[simp] theorem qNq {t:Nat}:ev env (.tmp t)=env t:=rfl
@[simp] theorem qJ7 {f:FuncId}:ev env (.func f)=.clo f [] []:=rfl
@[simp] theorem qNo {k:IntKind}{n:Int}:ev env (.const (.int k n))=.lit (.int k n):=rfl
@[simp] theorem qJ6 {b:Bool}:ev env (.const (.bool b))=.lit (.bool b):=rfl
@[simp] theorem qCJ {s:ByteArray}:ev env (.const (.string s))=.lit (.string s):=rfl
@[simp] theorem qNp:ev env (.const (.slice none 0 0))=.nil:=rfl
@[simp] theorem qAV:ev env (.const .nilFunc)=.lit .nilFunc:=rfl
@[simp] theorem qCI:ev env (.const (.pointer none))=.lit (.pointer none):=rfl
@[simp] theorem qNn {l:List Value}:ev env (.const (.agg ⟨l⟩))=if yV l then .agg (l.map qX) else .any:=rfl
@[simp] theorem zZ2:yV []=true:=rfl
@[simp] theorem zXv {v:Value}{l:List Value}:yV (v::l)=(v.oneCell'&&yV l):=rfl
@[simp] theorem qJV {k:IntKind}{n:Int}:(Value.int k n).oneCell'=true:=rfl
@[simp] theorem qHK {b:Bool}:(Value.bool b).oneCell'=true:=rfl
@[simp] theorem qB4 {s:ByteArray}:(Value.string s).oneCell'=true:=rfl
@[simp] theorem qDn {a:Option Addr}{n c:Nat}:(Value.slice a n c).oneCell'=true:=rfl
@[simp] theorem zZ4 {a:Option Addr}:(Value.pointer a).oneCell'=true:=rfl
@[simp] theorem zZ3:(Value.nilFunc).oneCell'=true:=rfl
@[simp] theorem qJW {r:Option Nat}:(Value.map r).oneCell'=true:=rfl
@[simp] theorem qB2 {k:IntKind}{n:Int}:qX (.int k n)=.lit (.int k n):=rfl
@[simp] theorem zZ1 {b:Bool}:qX (.bool b)=.lit (.bool b):=rfl
@[simp] theorem zVN {s:ByteArray}:qX (.string s)=.lit (.string s):=rfl
@[simp] theorem qB3:qX (.slice none 0 0)=.nil:=rfl
@[simp] theorem zVe:qX .nilFunc=.lit .nilFunc:=rfl
@[simp] theorem zVM:qX (.pointer none)=.lit (.pointer none):=rfl
@[simp] theorem zVL:qX (.map none)=.lit (.map none):=rfl
@[simp] theorem zYN:cellsOf .nil=some [.nil]:=rfl
@[simp] theorem zYI {cs:List A}:cellsOf (.agg cs)=some cs:=rfl
@[simp] theorem zYL {v:Value}:cellsOf (.lit v)=if v.oneCell' then some [.lit v] else none:=rfl
@[simp] theorem qA8 {n:Nat}{cs:List A}:cellsOf (.sl n cs)=some [.sl n cs]:=rfl
@[simp] theorem zYK {n:Nat}{cs:List A}:cellsOf (.fsl n cs)=some [.fsl n cs]:=rfl
@[simp] theorem zYP {l n:Nat}:cellsOf (.row l n)=some [.row l n]:=rfl
@[simp] theorem zYO {l n:Nat}:cellsOf (.ptr l n)=some [.ptr l n]:=rfl
@[simp] theorem zYM {l:Nat}:cellsOf (.map l)=some [.map l]:=rfl
@[simp] theorem zYR {l n o k c:Nat}:cellsOf (.win l n o k c)=some [.win l n o k c]:=rfl
@[simp] theorem zYQ {l n o:Nat}:cellsOf (.rwp l n o)=some [.rwp l n o]:=rfl
@[simp] theorem zWv {cs:List A}:cellsOf (.rptr cs)=some [.rptr cs]:=rfl
@[simp] theorem zYJ {f:FuncId}{a b:List A}:cellsOf (.clo f a b)=some [.clo f a b]:=rfl
@[simp] theorem qBA {cs:List A}:zBm true cs=some (.agg cs):=rfl
@[simp] theorem zZ6 {c:A}:zBm false [c]=some c:=rfl
@[simp] theorem qHc {cs:List A}{n:Nat}:ldA σ n (.rptr cs)=sub cs 0 n:=rfl
def zZk:Option AObj→Nat→Nat→Option (List A)
 | some (.box cs),off,n=>sub cs off n
 | _,_,_=>none
def zZl:Option AObj→Nat→Nat→Nat→Option (List A)
 | some (.row _ _ _ k cs),m,off,n=>if m=k then sub cs off n else none
 | _,_,_,_=>none
@[simp] theorem qBo {cs:List A}{off n:Nat}:zZk (some (.box cs)) off n=sub cs off n:=rfl
@[simp] theorem qBp {fz:Bool}{e:TypeId}{s k:Nat}{cs:List A}{m off n:Nat}:zZl (some (.row fz e s k cs)) m off n=if m=k then sub cs off n else none:=rfl
@[simp] theorem qJG {l off n:Nat}:ldA σ n (.ptr l off)=zZk σ[l]? off n:=by
 simp only[ldA];cases σ[l]? with
 | none=>rfl
 | some o=>cases o<;>rfl
@[simp] theorem qJH {l m off n:Nat}:ldA σ n (.rwp l m off)=zZl σ[l]? m off n:=by
 simp only[ldA];cases σ[l]? with
 | none=>rfl
 | some o=>cases o<;>rfl
@[simp] theorem qNH {cs:List A}{off n:Nat}:sub cs off n=if off+n≤cs.length then some ((cs.drop off).take n) else none:=rfl
def zZF:Option AObj→St→List A→Nat→Nat→Option St
 | some (.box ds),σ,cs,l,off=>if off+cs.length≤ds.length then some (σ.set l (.box (ds.take off++cs++ds.drop (off+cs.length)))) else none
 | _,_,_,_,_=>none
def zZG:Option AObj→St→List A→Nat→Nat→Nat→Option St
 | some (.row false e sz k ds),σ,cs,l,m,off=>if m=k∧off+cs.length≤ds.length then some (σ.set l (.row false e sz k (ds.take off++cs++ds.drop (off+cs.length)))) else none
 | _,_,_,_,_,_=>none
@[simp] theorem qBT {ds cs:List A}{l off:Nat}:zZF (some (.box ds)) σ cs l off=if off+cs.length≤ds.length then some (σ.set l (.box (ds.take off++cs++ds.drop (off+cs.length)))) else none:=rfl
@[simp] theorem qBU {e:TypeId}{sz k:Nat}{ds cs:List A}{l m off:Nat}:zZG (some (.row false e sz k ds)) σ cs l m off=if m=k∧off+cs.length≤ds.length then some (σ.set l (.row false e sz k (ds.take off++cs++ds.drop (off+cs.length)))) else none:=rfl
@[simp] theorem qKi {cs:List A}{l off:Nat}:stA σ cs (.ptr l off)=zZF σ[l]? σ cs l off:=by
 simp only[stA];cases σ[l]? with
 | none=>rfl
 | some o=>cases o<;>rfl
@[simp] theorem qKj {cs:List A}{l m off:Nat}:stA σ cs (.rwp l m off)=zZG σ[l]? σ cs l m off:=by
 simp only[stA];cases σ[l]? with
 | none=>rfl
 | some o =>
  cases o<;>try rfl
  rename_i fz e s n ds;cases fz<;>rfl
def zZB:Option AObj→Nat→Nat→(List A→Prop)→Prop
 | some (.row _ _ s m cs),n,sz,J=>n=m∧s=sz∧J cs
 | _,_,_,_=>False
@[simp] theorem zPL {fz:Bool}{e:TypeId}{s m n sz:Nat}{cs:List A}{J:List A→Prop}:zZB (some (.row fz e s m cs)) n sz J=(n=m∧s=sz∧J cs):=rfl
@[simp] theorem qCx {b:Bool}:(b==true)=b:=by cases b<;>rfl
@[simp] theorem qAI {A B:Env→St→Prop}:zEC true A B env σ = A env σ:=by simp[zEC]
@[simp] theorem zYV {A B:Env→St→Prop}:zEC false A B env σ = B env σ:=by simp[zEC]
@[simp] theorem qIn:zFl d K' env σ = K' (env.put d (.lit undef)) σ:=rfl
@[simp] theorem qHP {r:A}:zIH d env K' Qp (.ret r) σ = K' (env.put d r) σ:=rfl
@[simp] theorem qHO {v:Value}:zIH d env K' Qp (.pan v) σ = Qp v env σ:=rfl
@[simp] theorem qIv {J:Env→St→Prop}:thn J Q .norm=J:=rfl
@[simp] theorem qKm {J:Env→St→Prop}:thn J Q .ret=Q .ret:=rfl
@[simp] theorem qIu {J:Env→St→Prop}{i:Nat}:thn J Q (.exit i)=Q (.exit i):=rfl
@[simp] theorem qKl {J:Env→St→Prop}{v:Value}:thn J Q (.pan v)=Q (.pan v):=rfl
@[simp] theorem qF4 {id:Nat}:blk id Q .norm=Q .norm:=rfl
@[simp] theorem qIN {id:Nat}:blk id Q .ret=Q .ret:=rfl
@[simp] theorem qF3 {id i:Nat}:blk id Q (.exit i)=if i=id then Q .norm else Q (.exit i):=rfl
@[simp] theorem qIM {id:Nat}{v:Value}:blk id Q (.pan v)=Q (.pan v):=rfl
@[simp] theorem qKe {I:Nat→Env→St→Prop}{n:Nat}:rnd n0 I n Q .ret=Q .ret:=rfl
@[simp] theorem qIh {I:Nat→Env→St→Prop}{n i:Nat}:rnd n0 I n Q (.exit i)=Q (.exit i):=rfl
@[simp] theorem qKd {I:Nat→Env→St→Prop}{n:Nat}{v:Value}:rnd n0 I n Q (.pan v)=Q (.pan v):=rfl
@[simp] theorem qGL {rs:List RS}{R:Out→St→Prop}:fin rs R .norm=zIJ rs R:=rfl
@[simp] theorem qJ9 {rs:List RS}{R:Out→St→Prop}:fin rs R .ret=zIJ rs R:=rfl
@[simp] theorem qJ8 {rs:List RS}{R:Out→St→Prop}{v:Value}:fin rs R (.pan v) env σ = R (.pan v) σ:=rfl
@[simp] theorem qDy {t:Nat}{R:Out→St→Prop}:zIJ [.slot t] R env σ = R (.ret (env t)) σ:=rfl
@[simp] theorem qIg {t u:Nat}{R:Out→St→Prop}:zIJ [.slot t,.slot u] R env σ = R (.ret (.tup [env t,env u])) σ:=rfl
@[simp] theorem qBH {t u v:Nat}{R:Out→St→Prop}:zIJ [.slot t,.slot u,.slot v] R env σ = R (.ret (.tup [env t,env u,env v])) σ:=rfl
@[simp] theorem zVU {a:A}{l:List A}:zBY (a::l) 0=a:=rfl
@[simp] theorem zVT {a:A}{l:List A}{n:Nat}:zBY (a::l) (n+1)=zBY l n:=by simp[zBY]
@[simp] theorem zYB {n:Nat}:zBY [] n=.lit undef:=by simp[zBY]
@[simp] theorem qOg {k:K}{rs:List RS}{args:List A}{R:Out→St→Prop}:wpF P k rs args σ R=wpK P σ.length k (fin rs R) (zBY args) σ:=rfl
@[simp] theorem qIE:wpK P n0 .skip Q env σ = Q .norm env σ:=rfl
@[simp] theorem qK4:wpK P n0 .ret Q env σ = Q .ret env σ:=rfl
@[simp] theorem qIC {i:Nat}:wpK P n0 (.exit i) Q env σ = Q (.exit i) env σ:=rfl
@[simp] theorem qK6 {a b:K}:wpK P n0 (.seq a b) Q env σ = wpK P n0 a (thn (wpK P n0 b Q) Q) env σ:=rfl
@[simp] theorem qEl {i:Nat}{a:K}:wpK P n0 (.block i a) Q env σ = wpK P n0 a (blk i Q) env σ:=rfl
@[simp] theorem qID {a:K}:wpK P n0 (.loop a) Q env σ = zMH n0 (wpK P n0 a) Q env σ:=rfl
@[simp] theorem qOh {a:K}:wpK P n0 (.wk a) Q env σ = Wk n0 (wpK P n0 a Q) env σ:=rfl
@[simp] theorem qK3 {l:List KG}:wpK P n0 (.ops l) Q env σ = zDo P (fun v=>Q (.pan v)) (Q .norm) l env σ:=rfl
@[simp] theorem qIB {l:List (Nat×Nat×KG)}:wpK P n0 (.dops l) Q env σ = wpD P (zPC Q) (Q .norm) l env σ:=rfl
@[simp] theorem qK5 {ps:List Nat}{a b:K}:wpK P n0 (.rng x ps a b) Q env σ = zZR P n0 x ps (fun n=>wpK P n a) (fun n=>wpK P n b) Q env σ:=rfl
@[simp] theorem qCu {S:St}{J:Env→St→Prop}:zVW S J .norm env σ = (σ = S∧J env σ):=rfl
@[simp] theorem qCG {S:St}:zW4 n0 S .norm env σ = Wk n0 (fun _ σ'=>σ'=S) env σ:=rfl
@[simp] theorem qDu {xs:List A}:zFg env [] xs=env:=by cases xs<;>rfl
@[simp] theorem qBE {p:Nat}{ps:List Nat}{a:A}{xs:List A}:zFg env (p::ps) (a::xs)=zFg (env.put (some p) a) ps xs:=rfl
@[simp] theorem qA9 {b:Nat}:cellsOf (yv b)=some [yv b]:=rfl
def zYW (a:A)(A B:Env→St→Prop)(env:Env) (σ : St):Prop:=match a with
 | .lit (.bool t)=>zEC t A B env σ
 | _=>False
@[simp] theorem qAJ {t:Bool}{A B:Env→St→Prop}:zYW (.lit (.bool t)) A B env σ = zEC t A B env σ:=rfl
@[simp] theorem qIA {a b:K}:wpK P n0 (.cond x a b) Q env σ = zYW (ev env x) (wpK P n0 a Q) (wpK P n0 b Q) env σ:=rfl
@[simp] theorem qEo:zDo P Qp K' [] env σ = K' env σ:=rfl
@[simp] theorem qCo {o:KOp}{l:List KG}:zDo P Qp K' (⟨none,o⟩::l) env σ = wpO P Qp (zDo P Qp K' l) o env σ:=rfl
def zHI (a:A)(want:Bool)(A B:Env→St→Prop)(env:Env) (σ : St):Prop:=match a with
 | .lit (.bool b)=>zEC (b==want) A B env σ
 | .lit (.tuple _)=>B env σ
 | _=>False
@[simp] theorem zZc {b want:Bool}{A B:Env→St→Prop}:zHI (.lit (.bool b)) want A B env σ = zEC (b==want) A B env σ:=rfl
@[simp] theorem zWT {want:Bool}{A B:Env→St→Prop}:zHI (.lit undef) want A B env σ = B env σ:=rfl
@[simp] theorem zZL {s:Nat}{want:Bool}{o:KOp}{l:List KG}:zDo P Qp K' (⟨some (s,want),o⟩::l) env σ = zHI (env s) want (wpO P Qp (zDo P Qp K' l) o) (zFl o.dst (zDo P Qp K' l)) env σ:=by
 simp only[zDo,wpG,zHI];generalize env s=a;cases a<;>try rfl
 all_goals (rename_i v; cases v<;>rfl)
def zQN (a:A)(x y:A)(J:A→Prop):Prop:=match a with
 | .lit (.bool t)=>J (if t then x else y)
 | _=>False
@[simp] theorem qBB {t:Bool}{a b:A}{J:A→Prop}:zQN (.lit (.bool t)) a b J=J (if t then a else b):=rfl
def zCU (o:Option A)(J:A→Prop):Prop:=match o with
 | some r=>J r
 | none=>False
@[simp] theorem qDq {r:A}{J:A→Prop}:zCU (some r) J=J r:=rfl
theorem zDS {o:Option A}{J:A→Prop}:qP (o.map fun r=>(True,r)) J=zCU o J:=by cases o<;>simp[qP,zCU]
@[simp] theorem qKM:wpO P Qp K' (.mov d x) env σ = K' (env.put d (ev env x)) σ:=by simp[wpO,qP,zK,KOp.dst]
theorem zL8 {J:A→Prop}:qP (zK env σ (.pick d x y z)) J=zQN (ev env x) (ev env y) (ev env z) J:=by
 simp only[zK,zQN,qP];generalize ev env x=a;cases a<;>try rfl
 rename_i v;cases v<;>simp
@[simp] theorem qIK:wpO P Qp K' (.pick d x y z) env σ = zQN (ev env x) (ev env y) (ev env z) fun r=>K' (env.put d r) σ:=zL8 (d:=d)
@[simp] theorem qEm {zs:List Value}:wpO P Qp K' (.alloc d zs) env σ = K' (env.put d (.ptr σ.length 0)) (σ++[.box (zs.map qX)]):=rfl
@[simp] theorem qKA:wpO P Qp K' (.box d x) env σ = zSw (cellsOf (ev env x)) fun cs=>K' (env.put d (.ptr σ.length 0)) (σ++[.box cs]):=rfl
@[simp] theorem qOi {n:Nat}{agg:Bool}:wpO P Qp K' (.ld d x n agg) env σ = zCU ((ldA σ n (ev env x)).bind (zBm agg)) fun r=>K' (env.put d r) σ:=zDS
@[simp] theorem qOk {n:Nat}:wpO P Qp K' (.st d x y n) env σ = zSw (cellsOf (ev env y)) fun cs=>cs.length=n∧qB7 (stA σ cs (ev env x)) fun σ'=>K' (env.put d (.lit undef)) σ':=by
 simp only[wpO,zSw,qB7];cases cellsOf (ev env y)with
 | none=>rfl
 | some cs =>
  simp only;by_cases h:cs.length=n
  ·simp only[h,if_true,true_and];cases stA σ cs (ev env x)<;>rfl
  ·simp[h]
def zG5 (σ : St)(off:Nat):A→Option A
 | .ptr l o=>some (.ptr l (o+off))
 | .rptr cs=>some (.rptr (cs.drop off))
 | .rwp l n o=>match σ[l]? with
  | some (.row _ _ _ m _)=>if n=m then some (.rwp l n (o+off)) else none
  | _=>none
 | _=>none
@[simp] theorem qCq {l o off:Nat}:zG5 σ off (.ptr l o)=some (.ptr l (o+off)):=rfl
@[simp] theorem zZU {cs:List A}{off:Nat}:zG5 σ off (.rptr cs)=some (.rptr (cs.drop off)):=rfl
theorem zFU {off:Nat}:zK env σ (.addr d x off)=(zG5 σ off (ev env x)).map fun r=>(True,r):=by
 simp only[zK];generalize ev env x=a;cases a<;>simp only[zG5]<;>try rfl
 rename_i l n o;cases σ[l]? with
 | none=>rfl
 | some ob =>
  cases ob<;>try rfl
  simp only;split<;>rfl
@[simp] theorem qIF {off:Nat}:wpO P Qp K' (.addr d x off) env σ = zCU (zG5 σ off (ev env x)) fun r=>K' (env.put d r) σ:=by show qP (zK env σ (.addr d x off)) _=_;rw[zFU,zDS];rfl
def zKH (σ : St)(sz:Nat)(a i:A)(J:A→Prop):Prop:=match a,i with
 | .sl n cs,.lit (.int _ j)=>((0≤j∧j<n)∧j.toNat*sz<cs.length)∧J (.rptr (cs.drop (j.toNat*sz)))
 | .fsl n cs,.lit (.int _ j)=>((0≤j∧j<n)∧j.toNat*sz<cs.length)∧J (.rptr (cs.drop (j.toNat*sz)))
 | .row l n,.lit (.int _ j)=>match σ[l]? with
  | some (.row _ _ s m _)=>if n=m∧s=sz then (0≤j∧j<n)∧J (.rwp l n (j.toNat*sz)) else False
  | _=>False
 | .win l n o k' _,.lit (.int _ j)=>match σ[l]? with
  | some (.row _ _ s m _)=>if n=m∧s=sz then (0≤j∧j<k')∧J (.rwp l n (o+j.toNat*sz)) else False
  | _=>False
 | _,_=>False
theorem zLt {sz:Nat}{J:A→Prop}:qP (zK env σ (.idx d x y sz)) J=zKH σ sz (ev env x) (ev env y) J:=by
 simp only[zK,zKH,qP];generalize ev env x=a;generalize ev env y=b;cases a<;>cases b<;>try rfl
 all_goals (rename_i v; cases v<;>try rfl)
 ·rename_i l n k j;simp only;cases σ[l]? with
  | none=>rfl
  | some ob =>
   cases ob<;>try rfl
   rename_i fz e s m cs;by_cases h:n=m∧s=sz<;>simp[h]
 ·rename_i l n o k' c k j;simp only;cases σ[l]? with
  | none=>rfl
  | some ob =>
   cases ob<;>try rfl
   rename_i fz e s m cs;by_cases h:n=m∧s=sz<;>simp[h]
@[simp] theorem qKF {sz:Nat}:wpO P Qp K' (.idx d x y sz) env σ = zKH σ sz (ev env x) (ev env y) fun r=>K' (env.put d r) σ:=zLt (d:=d)
@[simp] theorem qJD {sz n:Nat}{cs:List A}{k:IntKind}{j:Int}{J:A→Prop}:zKH σ sz (.sl n cs) (.lit (.int k j)) J=(((0≤j∧j<n)∧j.toNat*sz<cs.length)∧J (.rptr (cs.drop (j.toNat*sz)))):=rfl
@[simp] theorem qGQ {sz n:Nat}{cs:List A}{k:IntKind}{j:Int}{J:A→Prop}:zKH σ sz (.fsl n cs) (.lit (.int k j)) J=(((0≤j∧j<n)∧j.toNat*sz<cs.length)∧J (.rptr (cs.drop (j.toNat*sz)))):=rfl
def zGU (len sz:Nat)(a i:A)(J:A→Prop):Prop:=match a,i with
 | .ptr l o,.lit (.int _ j)=>(0≤j∧j<len)∧J (.ptr l (o+j.toNat*sz))
 | .rptr cs,.lit (.int _ j)=>((0≤j∧j<len)∧j.toNat*sz<cs.length)∧J (.rptr (cs.drop (j.toNat*sz)))
 | _,_=>False
@[simp] theorem zWX {len sz:Nat}{cs:List A}{k:IntKind}{j:Int}{J:A→Prop}:zGU len sz (.rptr cs) (.lit (.int k j)) J=(((0≤j∧j<len)∧j.toNat*sz<cs.length)∧J (.rptr (cs.drop (j.toNat*sz)))):=rfl
@[simp] theorem zZh {len sz l o:Nat}{k:IntKind}{j:Int}{J:A→Prop}:zGU len sz (.ptr l o) (.lit (.int k j)) J=((0≤j∧j<len)∧J (.ptr l (o+j.toNat*sz))):=rfl
theorem zMh {len sz:Nat}{J:A→Prop}:qP (zK env σ (.idxarr d x y len sz)) J=zGU len sz (ev env x) (ev env y) J:=by
 simp only[zK,zGU,qP];generalize ev env x=a;generalize ev env y=b;cases a<;>first
  | rfl
  | (cases b<;>first
   | rfl
   | (rename_i v; cases v<;>rfl))
@[simp] theorem qCn {len sz:Nat}:wpO P Qp K' (.idxarr d x y len sz) env σ = zGU len sz (ev env x) (ev env y) fun r=>K' (env.put d r) σ:=zMh (d:=d)
def zDp (op:BinOp)(a b:A)(J:A→Prop):Prop:=match a,b with
 | .lit (.int k m),.lit (.int k' n)=>if k=k' then (match zD1 op k m n with | some (p,r)=>p∧J r | none=>False) else False
 | .lit (.string s),.lit (.string t)=>(match zV5 op s t with | some (p,r)=>p∧J r | none=>False)
 | _,_=>False
theorem zRp {op:BinOp}{J:A→Prop}:qP (zK env σ (.bin d op x y)) J=zDp op (ev env x) (ev env y) J:=by
 simp only[zK,zDp,qP];generalize ev env x=a;generalize ev env y=b;cases a<;>try rfl
 rename_i u;cases b<;>try (cases u<;>rfl)
 rename_i v;cases u<;>cases v<;>try rfl
 case lit.lit.int.int k m k' n =>
  by_cases h:k=k'
  ·simp only[h,if_true];cases zD1 op k' m n<;>rfl
  ·simp[h]
@[simp] theorem qK9 {op:BinOp}:wpO P Qp K' (.bin d op x y) env σ = zDp op (ev env x) (ev env y) fun r=>K' (env.put d r) σ:=zRp (d:=d)
@[simp] theorem qF1 {s t:ByteArray}{J:A→Prop}:zDp .add (.lit (.string s)) (.lit (.string t)) J=(s.size+t.size≤1000000∧J (.lit (.string (s++t)))):=rfl
@[simp] theorem qFt {k:IntKind}{m n:Int}{J:A→Prop}:zDp .add (.lit (.int k m)) (.lit (.int k n)) J=J (.lit (.int k (k.wrap (m+n)))):=by simp[zDp,zD1]
@[simp] theorem qF2 {k:IntKind}{m n:Int}{J:A→Prop}:zDp .sub (.lit (.int k m)) (.lit (.int k n)) J=J (.lit (.int k (k.wrap (m-n)))):=by simp[zDp,zD1]
@[simp] theorem qFy {k:IntKind}{m n:Int}{J:A→Prop}:zDp .mul (.lit (.int k m)) (.lit (.int k n)) J=J (.lit (.int k (k.wrap (m*n)))):=by simp[zDp,zD1]
@[simp] theorem qFz {k:IntKind}{m n:Int}{J:A→Prop}:zDp .quo (.lit (.int k m)) (.lit (.int k n)) J=(n≠0∧J (.lit (.int k (k.wrap (m.tdiv n))))):=by simp[zDp,zD1]
@[simp] theorem qF0 {k:IntKind}{m n:Int}{J:A→Prop}:zDp .rem (.lit (.int k m)) (.lit (.int k n)) J=(n≠0∧J (.lit (.int k (m.tmod n)))):=by simp[zDp,zD1]
@[simp] theorem qFx {k:IntKind}{m n:Int}{J:A→Prop}:zDp .lss (.lit (.int k m)) (.lit (.int k n)) J=J (.lit (.bool (decide (m<n)))):=by simp[zDp,zD1]
@[simp] theorem qFw {k:IntKind}{m n:Int}{J:A→Prop}:zDp .leq (.lit (.int k m)) (.lit (.int k n)) J=J (.lit (.bool (decide (m≤n)))):=by simp[zDp,zD1]
@[simp] theorem qFv {k:IntKind}{m n:Int}{J:A→Prop}:zDp .gtr (.lit (.int k m)) (.lit (.int k n)) J=J (.lit (.bool (decide (n<m)))):=by simp[zDp,zD1]
@[simp] theorem qFu {k:IntKind}{m n:Int}{J:A→Prop}:zDp .geq (.lit (.int k m)) (.lit (.int k n)) J=J (.lit (.bool (decide (n≤m)))):=by simp[zDp,zD1]
noncomputable def eqA (k:SK) (ng:Bool) (a b:A):Option A:=(zB7 k a b).map (zAL ng)
noncomputable def zPh (ks:List SK) (ng:Bool) (a b:A):Option A:=match a,b with
 | .agg xs,.agg ys=>(yP ks xs ys).map (zAL ng)
 | _,_=>none
theorem zUu {k:SK}{ng:Bool}{J:A→Prop}:qP (zK env σ (.eqv d ng k x y)) J=zCU (eqA k ng (ev env x) (ev env y)) J:=by simp only[zK,eqA];cases zB7 k (ev env x) (ev env y)<;>simp[qP,zCU]
theorem zUt {ks:List SK}{ng:Bool}{J:A→Prop}:qP (zK env σ (.eqs d ng ks x y)) J=zCU (zPh ks ng (ev env x) (ev env y)) J:=by
 simp only[zK,zPh];generalize ev env x=a;generalize ev env y=b;cases a<;>cases b<;>try rfl
 rename_i xs ys;simp only;cases yP ks xs ys<;>simp[qP,zCU]
@[simp] theorem qKD {k:SK}{ng:Bool}:wpO P Qp K' (.eqv d ng k x y) env σ = zCU (eqA k ng (ev env x) (ev env y)) fun r=>K' (env.put d r) σ:=zUu (d:=d)
@[simp] theorem qKC {ks:List SK}{ng:Bool}:wpO P Qp K' (.eqs d ng ks x y) env σ = zCU (zPh ks ng (ev env x) (ev env y)) fun r=>K' (env.put d r) σ:=zUt (d:=d)
@[simp] theorem qJ5 {k:IntKind}{m n:Int}:eqA .i false (.lit (.int k m)) (.lit (.int k n))=some (.lit (.bool (decide (m=n)))):=by simp[eqA,zB7,zAL]
@[simp] theorem qGH {k:IntKind}{m n:Int}:eqA .i true (.lit (.int k m)) (.lit (.int k n))=some (.lit (.bool (decide (m≠n)))):=by simp[eqA,zB7,zAL]
@[simp] theorem qGG {m n:Bool}:eqA .b false (.lit (.bool m)) (.lit (.bool n))=some (.lit (.bool (decide (m=n)))):=by simp[eqA,zB7,zAL]
@[simp] theorem qCH {m n:Bool}:eqA .b true (.lit (.bool m)) (.lit (.bool n))=some (.lit (.bool (decide (m≠n)))):=by simp[eqA,zB7,zAL]
def zXi (a:A)(J:A→Prop):Prop:=match a with | .lit (.int k m)=>J (.lit (.int k (k.wrap (0-m)))) | _=>False
@[simp] theorem qH3 {k:IntKind}{m:Int}{J:A→Prop}:zXi (.lit (.int k m)) J=J (.lit (.int k (k.wrap (0-m)))):=rfl
theorem zUY {J:A→Prop}:qP (zK env σ (.neg d x)) J=zXi (ev env x) J:=by
 simp only[zK,zXi];generalize ev env x=a;cases a<;>try rfl
 rename_i v; cases v<;>simp[qP]
@[simp] theorem qKN:wpO P Qp K' (.neg d x) env σ = zXi (ev env x) fun r=>K' (env.put d r) σ:=zUY (d:=d)
def zXm (a:A)(J:A→Prop):Prop:=match a with | .lit (.bool b)=>J (.lit (.bool !b)) | _=>False
@[simp] theorem qDb {b:Bool}{J:A→Prop}:zXm (.lit (.bool b)) J=J (.lit (.bool !b)):=rfl
theorem zVa {J:A→Prop}:qP (zK env σ (.not d x)) J=zXm (ev env x) J:=by
 simp only[zK,zXm];generalize ev env x=a;cases a<;>try rfl
 rename_i v; cases v<;>simp[qP]
@[simp] theorem qKO:wpO P Qp K' (.not d x) env σ = zXm (ev env x) fun r=>K' (env.put d r) σ:=zVa (d:=d)
def zHL (σ : St)(a:A)(J:A→Prop):Prop:=match a with
 | .nil=>J (.lit (.int .i64 0))
 | .sl n _=>n≤maxLen→J (.lit (.int .i64 n))
 | .fsl n _=>n≤maxLen→J (.lit (.int .i64 n))
 | .row l n=>match σ[l]? with
  | some (.row _ _ _ m _)=>if n=m then J (.lit (.int .i64 n)) else False
  | _=>False
 | .win l n _ k _=>match σ[l]? with
  | some (.row _ _ _ m _)=>if n=m then J (.lit (.int .i64 k)) else False
  | _=>False
 | _=>False
@[simp] theorem qHi {J:A→Prop}:zHL σ .nil J=J (.lit (.int .i64 0)):=rfl
@[simp] theorem qJJ {n:Nat}{cs:List A}{J:A→Prop}:zHL σ (.sl n cs) J=(n≤maxLen→J (.lit (.int .i64 n))):=rfl
@[simp] theorem qHh {n:Nat}{cs:List A}{J:A→Prop}:zHL σ (.fsl n cs) J=(n≤maxLen→J (.lit (.int .i64 n))):=rfl
@[simp] theorem qKJ:wpO P Qp K' (.len d false x) env σ = zHL σ (ev env x) fun r=>K' (env.put d r) σ:=by
 simp only[wpO,zHL,zK];generalize ev env x=a;cases a<;>simp only[qP,true_and]
 ·rename_i l n;cases σ[l]? with
  | none=>rfl
  | some ob =>
   cases ob<;>try rfl
   rename_i fz e s m cs;by_cases h:n=m<;>simp[h]
 ·rename_i l n _ k _;cases σ[l]? with
  | none=>rfl
  | some ob =>
   cases ob<;>try rfl
   rename_i fz e s m cs;by_cases h:n=m<;>simp[h]
def zQG (a:A)(J:A→Prop):Prop:=match a with | .lit (.string s)=>J (.lit (.int .i64 s.size)) | _=>False
@[simp] theorem zXb {s:ByteArray}{J:A→Prop}:zQG (.lit (.string s)) J=J (.lit (.int .i64 s.size)):=rfl
theorem zSl {J:A→Prop}:qP (zK env σ (.len d true x)) J=zQG (ev env x) J:=by
 simp only[zK,zQG];generalize ev env x=a;cases a<;>try rfl
 rename_i v; cases v<;>simp[qP]
@[simp] theorem qII:wpO P Qp K' (.len d true x) env σ = zQG (ev env x) fun r=>K' (env.put d r) σ:=zSl (d:=d)
def mmA (mx:Bool):List A→Option A
 | .lit (.int k a)::rest=>zFd mx a rest k
 | _=>none
@[simp] theorem zZn {k:IntKind}{m n:Int}:mmA true [.lit (.int k m),.lit (.int k n)]=some (.lit (.int k (if m<n then n else m))):=by simp[mmA,zFd]
@[simp] theorem zZo {k:IntKind}{m n:Int}:mmA false [.lit (.int k m),.lit (.int k n)]=some (.lit (.int k (if n<m then n else m))):=by simp[mmA,zFd]
theorem zQJ {mx:Bool}{xs:List Operand}{J:A→Prop}:qP (zK env σ (.mm d mx xs)) J=zCU (mmA mx (xs.map (ev env))) J:=by
 simp only[zK];generalize xs.map (ev env)=l;cases l with
 | nil=>rfl
 | cons a l =>
  cases a<;>try rfl
  rename_i v;cases v<;>try rfl
  exact zDS
@[simp] theorem qOj {mx:Bool}{xs:List Operand}:wpO P Qp K' (.mm d mx xs) env σ = zCU (mmA mx (xs.map (ev env))) fun r=>K' (env.put d r) σ:=zQJ (d:=d)
def zWQ (i:Nat)(a:A)(J:A→Prop):Prop:=match a with | .tup vs=>(match vs[i]? with | some r=>J r | none=>False) | _=>False
@[simp] theorem qGK {i:Nat}{vs:List A}{J:A→Prop}:zWQ i (.tup vs) J=zCU vs[i]? J:=rfl
theorem zUz {i:Nat}{J:A→Prop}:qP (zK env σ (.ext d x i)) J=zWQ i (ev env x) J:=by
 simp only[zK,zWQ];generalize ev env x=a;cases a<;>try rfl
 rename_i vs;simp only;cases vs[i]?<;>simp[qP]
@[simp] theorem qKE {i:Nat}:wpO P Qp K' (.ext d x i) env σ = zWQ i (ev env x) fun r=>K' (env.put d r) σ:=zUz (d:=d)
@[simp] theorem qKB {f:FuncId}{a b:List Operand}:wpO P Qp K' (.clo d f a b) env σ = K' (env.put d (.clo f (a.map (ev env)) (b.map (ev env)))) σ:=by simp[wpO,zK,qP,KOp.dst]
theorem zJg {zs:List Value}{ps:List (Nat×Nat×Operand)}{J:A→Prop}:qP (zK env σ (.build d zs ps)) J=zCU ((zAO (zs.map qX) (ps.map fun(o,s,x)=>(o,s,ev env x))).map .agg) J:=by simp only[zK];cases zAO (zs.map qX) (ps.map fun(o,s,x)=>(o,s,ev env x))<;>simp[qP,zCU]
def zP1 (a:A)(neg:Bool)(J:A→Prop):Prop:=match a with
 | .lit (.pointer none)=>J (.lit (.bool !neg))
 | .rptr _=>J (.lit (.bool neg))
 | .ptr _ _=>J (.lit (.bool neg))
 | _=>False
@[simp] theorem qGY {neg:Bool}{J:A→Prop}:zP1 (.lit (.pointer none)) neg J=J (.lit (.bool !neg)):=rfl
@[simp] theorem qCS {neg:Bool}{cs:List A}{J:A→Prop}:zP1 (.rptr cs) neg J=J (.lit (.bool neg)):=rfl
@[simp] theorem qGZ {neg:Bool}{l o:Nat}{J:A→Prop}:zP1 (.ptr l o) neg J=J (.lit (.bool neg)):=rfl
@[simp] theorem qKH {neg:Bool}:wpO P Qp K' (.isp d neg x) env σ = zP1 (ev env x) neg fun r=>K' (env.put d r) σ:=by
 show qP (zK env σ (.isp d neg x)) _=_;simp only[zK];generalize ev env x=a;cases a with
 | lit v=>cases v with
  | pointer ad=>cases ad<;>simp[qP,zP1,KOp.dst]
  | _=>rfl
 | rptr cs=>simp[qP,zP1,KOp.dst]
 | ptr l o=>simp[qP,zP1,KOp.dst]
 | _=>rfl
def qHq (t:TypeId)(a:A):A:=match a with
 | .lit v=>.lit (.iface t v)
 | _=>.any
@[simp] theorem qHr {t:TypeId}{v:Value}:qHq t (.lit v)=.lit (.iface t v):=rfl
@[simp] theorem qKK {t:TypeId}:wpO P Qp K' (.mki d t x) env σ = K' (env.put d (qHq t (ev env x))) σ:=by simp only[wpO,zK,qP,KOp.dst,true_and];generalize ev env x=a;cases a<;>rfl
def qHQ (Qp:Value→Env→St→Prop)(env:Env) (σ : St)(a:A):Prop:=match a with
 | .lit (.iface t v)=>Qp (.iface t v) env σ
 | _=>False
@[simp] theorem qHR {t:TypeId}{v:Value}:qHQ Qp env σ (.lit (.iface t v))=Qp (.iface t v) env σ:=rfl
@[simp] theorem qKP:wpO P Qp K' (.pan d x) env σ = qHQ Qp env σ (ev env x):=rfl
@[simp] theorem qEn {zs:List Value}{ps:List (Nat×Nat×Operand)}:wpO P Qp K' (.build d zs ps) env σ = zCU ((zAO (zs.map qX) (ps.map fun(o,s,x)=>(o,s,ev env x))).map .agg) fun r=>K' (env.put d r) σ:=zJg (d:=d)
@[simp] theorem qCm {e:TypeId}{sz n:Nat}{zs:List Value}{ps:List (Nat×Nat×Operand)}:wpO P Qp K' (.bslice d e sz n zs ps) env σ = zCU ((zAO (zs.map qX) (ps.map fun(o,s,x)=>(o,s,ev env x))).map (.fsl n)) fun r=>K' (env.put d r) σ:=by simp only[wpO,zCU];cases zAO (zs.map qX) (ps.map fun(o,s,x)=>(o,s,ev env x))<;>simp
@[simp] theorem qIG {e:TypeId}{sz n:Nat}{zs:List Value}{ps:List (Nat×Nat×Operand)}:wpO P Qp K' (.brow d e sz n zs ps) env σ = zSw (zAO (zs.map qX) (ps.map fun(o,s,x)=>(o,s,ev env x))) fun cs=>K' (env.put d (.row σ.length n)) (σ++[.row false e sz n cs]):=by simp only[wpO,zSw];cases zAO (zs.map qX) (ps.map fun(o,s,x)=>(o,s,ev env x))<;>simp
def zSh (a:A)(neg:Bool)(J:A→Prop):Prop:=match a with
 | .nil=>J (.lit (.bool !neg))
 | .sl n _=>n≠0∧J (.lit (.bool neg))
 | .fsl n _=>n≠0∧J (.lit (.bool neg))
 | _=>False
@[simp] theorem qGX {neg:Bool}{J:A→Prop}:zSh .nil neg J=J (.lit (.bool !neg)):=rfl
@[simp] theorem qJE {neg:Bool}{n:Nat}{cs:List A}{J:A→Prop}:zSh (.sl n cs) neg J=(n≠0∧J (.lit (.bool neg))):=rfl
@[simp] theorem qGW {neg:Bool}{n:Nat}{cs:List A}{J:A→Prop}:zSh (.fsl n cs) neg J=(n≠0∧J (.lit (.bool neg))):=rfl
theorem zUH {neg:Bool}{J:A→Prop}:qP (zK env σ (.isn d neg x)) J=zSh (ev env x) neg J:=by simp only[zK,zSh,qP];generalize ev env x=a;cases a<;>simp
def zWY (σ : St)(a:A)(neg:Bool)(J:A→Prop):Prop:=match a with
 | .nil=>J (.lit (.bool !neg))
 | .sl n _=>J (.lit (.bool neg))∧(n=0→J (.lit (.bool !neg)))
 | .row l n=>(match σ[l]? with
  | some (.row _ _ _ m _)=>n=m∧J (.lit (.bool neg))∧(n=0→J (.lit (.bool !neg)))
  | _=>False)
 | _=>False
@[simp] theorem qHa {neg:Bool}{J:A→Prop}:zWY σ .nil neg J=J (.lit (.bool !neg)):=rfl
@[simp] theorem qJF {neg:Bool}{n:Nat}{cs:List A}{J:A→Prop}:zWY σ (.sl n cs) neg J=(J (.lit (.bool neg))∧(n=0→J (.lit (.bool !neg)))):=rfl
@[simp] theorem qKI {neg:Bool}:wpO P Qp K' (.isz d neg x) env σ = zWY σ (ev env x) neg fun r=>K' (env.put d r) σ:=by simp only[wpO,zWY];cases ev env x<;>rfl
@[simp] theorem qKG {neg:Bool}:wpO P Qp K' (.isn d neg x) env σ = zSh (ev env x) neg fun r=>K' (env.put d r) σ:=zUH (d:=d)
@[simp] theorem qCK {cs:List A}:zAO cs []=some cs:=rfl
def zZa (c:Option (List A))(o s:Nat)(cs:List A)(rest:List (Nat×Nat×A)):Option (List A):=match c with
 | some l=>if l.length=s∧o+s≤cs.length then zAO (cs.take o++l++cs.drop (o+s)) rest else none
 | none=>none
@[simp] theorem qBd {l:List A}{o s:Nat}{cs:List A}{rest:List (Nat×Nat×A)}:zZa (some l) o s cs rest=if l.length=s∧o+s≤cs.length then zAO (cs.take o++l++cs.drop (o+s)) rest else none:=rfl
@[simp] theorem qBc {cs:List A}{o s:Nat}{a:A}{rest:List (Nat×Nat×A)}:zAO cs ((o,s,a)::rest)=zZa (cellsOf a) o s cs rest:=rfl
def elP (σ : St)(sz:Nat)(a:A)(J:Nat→List A→Prop):Prop:=match zBI σ sz a with
 | some (m,ys)=>ys.length=m*sz∧J m ys
 | none=>False
@[simp] theorem qJ2 {sz:Nat}{J:Nat→List A→Prop}:elP σ sz .nil J=J 0 []:=by simp[elP,zBI]
@[simp] theorem qNm {sz n:Nat}{cs:List A}{J:Nat→List A→Prop}:elP σ sz (.sl n cs) J=(cs.length=n*sz∧J n cs):=rfl
@[simp] theorem qJ1 {sz n:Nat}{cs:List A}{J:Nat→List A→Prop}:elP σ sz (.fsl n cs) J=(cs.length=n*sz∧J n cs):=rfl
@[simp] theorem qJ3 {sz l n:Nat}{J:Nat→List A→Prop}:elP σ sz (.row l n) J=zZB σ[l]? n sz fun cs=>cs.length=n*sz∧J n cs:=by
 simp only[elP,zBI];cases σ[l]? with
 | none=>rfl
 | some o =>
  cases o<;>try rfl
  rename_i fz e s m cs;by_cases h:n=m∧s=sz
  ·simp[h]
  ·simp only[h,if_false,zPL,eq_iff_iff,false_iff];rintro⟨h1,h2,_⟩;exact h ⟨h1,h2⟩
def zTv (d:Option Nat)(K':Env→St→Prop)(env:Env) (σ : St)(e:TypeId)(sz bytes m:Nat)(ys:List A):A→Prop
 | .nil=>(m≤maxLen∧m*bytes≤140737488355328)∧K' (env.put d (.row σ.length m)) (σ++[AObj.row false e sz m ys])
 | .row l n=>(match σ[l]? with
  | some (.row fz e' s n' cs)=>if n=n'∧e'=e∧s=sz then (n+m≤maxLen∧(n+m)*bytes≤140737488355328)∧K' (env.put d (.row l (n+m))) (σ.set l (.row fz e sz (n+m) (cs++ys))) else False
  | _=>False)
 | .fsl n cs=>cs.length=n*sz∧(m=0→K' (env.put d (.fsl n cs)) σ)∧(m≠0→(n+m≤maxLen∧(n+m)*bytes≤140737488355328)∧K' (env.put d (.row σ.length (n+m))) (σ++[AObj.row false e sz (n+m) (cs++ys)]))
 | _=>False
@[simp] theorem qFq {e:TypeId}{sz bytes m:Nat}{ys:List A}:zTv d K' env σ e sz bytes m ys .nil=((m≤maxLen∧m*bytes≤140737488355328)∧K' (env.put d (.row σ.length m)) (σ++[AObj.row false e sz m ys])):=rfl
@[simp] theorem qFp {e:TypeId}{sz bytes m n:Nat}{ys cs:List A}:zTv d K' env σ e sz bytes m ys (.fsl n cs)=(cs.length=n*sz∧(m=0→K' (env.put d (.fsl n cs)) σ)∧(m≠0→(n+m≤maxLen∧(n+m)*bytes≤140737488355328)∧K' (env.put d (.row σ.length (n+m))) (σ++[AObj.row false e sz (n+m) (cs++ys)]))):=rfl
def zZC:Option AObj→Nat→TypeId→Nat→(Bool→List A→Prop)→Prop
 | some (.row fz e' s n' cs),n,e,sz,J=>(n=n'∧e'=e∧s=sz)∧J fz cs
 | _,_,_,_,_=>False
@[simp] theorem qBM {fz:Bool}{e' e:TypeId}{s n' n sz:Nat}{cs:List A}{J:Bool→List A→Prop}:zZC (some (.row fz e' s n' cs)) n e sz J=((n=n'∧e'=e∧s=sz)∧J fz cs):=rfl
@[simp] theorem qFr {e:TypeId}{sz bytes m l n:Nat}{ys:List A}:zTv d K' env σ e sz bytes m ys (.row l n)=zZC σ[l]? n e sz fun fz cs=>(n+m≤maxLen∧(n+m)*bytes≤140737488355328)∧K' (env.put d (.row l (n+m))) (σ.set l (.row fz e sz (n+m) (cs++ys))):=by
 simp only[zTv];cases σ[l]? with
 | none=>rfl
 | some o =>
  cases o<;>try rfl
  rename_i fz e' s n' cs;by_cases h:n=n'∧e'=e∧s=sz
  ·simp[h]
  ·simp[h]
@[simp] theorem qK8 {e:TypeId}{sz bytes:Nat}:wpO P Qp K' (.app d e sz bytes x y) env σ = elP σ sz (ev env y) fun m ys=>zTv d K' env σ e sz bytes m ys (ev env x):=by
 simp only[wpO,elP];cases zBI σ sz (ev env y)with
 | none=>rfl
 | some r =>
  obtain⟨m,ys⟩:=r;simp only;generalize ev env x=a;cases a<;>rfl
def zTN (P:Program)(Qp:Value→Env→St→Prop)(K':Env→St→Prop)(d:Option Nat)(f:A)(args:List A)(env:Env) (σ : St):Prop:=match f with
 | .clo g first cap=>zA P g=true∧yR P g (first++args++cap) σ (zIH d env K' Qp)
 | .lit (.func (.yield b) ⟨[]⟩ ⟨[]⟩)=>zIm P b args σ (zIH d env K' Qp)
 | _=>False
@[simp] theorem qGx {b:Nat}{args:List A}:zTN P Qp K' d (yv b) args env σ = zIm P b args σ (zIH d env K' Qp):=rfl
@[simp] theorem qC6 {g:FuncId}{first cap args:List A}:zTN P Qp K' d (.clo g first cap) args env σ = (zA P g=true∧yR P g (first++args++cap) σ (zIH d env K' Qp)):=rfl
@[simp] theorem qIH {args:List Operand}:wpO P Qp K' (.call d x args) env σ = zTN P Qp K' d (ev env x) (args.map (ev env)) env σ:=rfl
@[simp] theorem qCz:zAM []=[]:=rfl
@[simp] theorem qCy {cs:List A}:zAM (.box cs::σ)=.box cs::zAM σ:=rfl
@[simp] theorem qC0 {fz:Bool}{e:TypeId}{sz n:Nat}{cs:List A}:zAM (.row fz e sz n cs::σ)=.dead::zAM σ:=rfl
@[simp] theorem qF7 {fr:Bool}{nk:Nat}{es:List (List Int×A)}:zAM (.mp fr nk es::σ)=.dead::zAM σ:=rfl
@[simp] theorem qC1:zAM (.rsv::σ)=.dead::zAM σ:=rfl
@[simp] theorem qF5 {m n:Nat}{met:List Nat}:zAM (.it m n met::σ)=.dead::zAM σ:=rfl
@[simp] theorem qF6 {b M:Nat}{r:Loop}{es:List (Nat×A)}:zAM (.lp b r M es::σ)=.dead::zAM σ:=rfl
@[simp] theorem zVZ {σ : St}:(zAM σ).length = σ.length:=by
 induction σ with
 | nil=>rfl
 | cons o σ ih=>cases o<;>simp[zAM,ih]
@[simp] theorem qD3 {σ : St}:zDk 0 σ = σ:=rfl
@[simp] theorem qIj {σ : St}:zDk 1 σ = zAM σ:=rfl
@[simp] theorem qIl {σ : St}:zDk 2 σ = []:=rfl
variable {fl k:Nat}
@[simp] theorem qHS {v:Value}:zPC Q v σ = ∀e,Q (.pan v) e σ:=rfl
@[simp] theorem qK2:wpD P Qd K' [] env σ = K' env σ:=by simp only[wpD]
@[simp] theorem qNJ {o:KOp}:zAG 0 o env=True:=rfl
@[simp] theorem qNK {o:KOp}:zAG 1 o env=True:=rfl
@[simp] theorem qNL {o:KOp}:zAG 2 o env=True:=rfl
@[simp] theorem qNM {o:KOp}:zAG 3 o env=True:=rfl
@[simp] theorem qNN {o:KOp}:zAG 4 o env=True:=rfl
@[simp] theorem qNO {n:Nat}:zAG 5 (.st d x y n) env=zLu (ev env x):=rfl
@[simp] theorem qNP {n:Nat}:zAG 6 (.st d x y n) env=zLv (ev env x):=rfl
@[simp] theorem qKk {n:Nat}:zAG 6 (.idx d x y n) env=isRow (ev env x):=rfl
@[simp] theorem qCP {l o:Nat}:zLu (.ptr l o)=True:=rfl
@[simp] theorem qCR {l n o:Nat}:zLv (.rwp l n o)=True:=rfl
@[simp] theorem qCQ {l n:Nat}:isRow (.row l n)=True:=rfl
@[simp] theorem qIk {σ : St}:zDk 6 σ = σ:=rfl
@[simp] theorem qI5 {o:KOp}{l:List (Nat×Nat×KG)}:wpD P Qd K' ((k,fl,⟨none,o⟩)::l) env σ = (zAG fl o env∧qZ P Qd fl (wpD P Qd K' l) o env σ):=rfl
@[simp] theorem qDR {s:Nat}{want:Bool}{o:KOp}{l:List (Nat×Nat×KG)}:wpD P Qd K' ((k,fl,⟨some (s,want),o⟩)::l) env σ = (zAG fl o env∧zHI (env s) want (qZ P Qd fl (wpD P Qd K' l) o) (zFl o.dst (wpD P Qd K' l)) env σ):=by
 simp only[wpD,zQa,zHI];generalize env s=a;cases a<;>try rfl
 all_goals (rename_i v; cases v<;>rfl)
@[simp] theorem qCk:qZ P Qd fl K' (.pick d x y z) env σ = wpO P zA2 K' (.pick d x y z) env σ:=by simp[qZ,KOp.lite,KOp.keeps]
@[simp] theorem qCg {e sz n:Nat}{zs:List Value}{ps:List (Nat×Nat×Operand)}:qZ P Qd fl K' (.brow d e sz n zs ps) env σ = wpO P zA2 K' (.brow d e sz n zs ps) env σ:=by simp[qZ,KOp.lite,KOp.keeps]
@[simp] theorem qEg {m:MOp}{xs:List Operand}:qZ P Qd fl K' (.mop d m xs) env σ = (match zNJ m (xs.map (ev env)) σ with
 | some (r,σ')=>K' (env.put d r) σ'
 | none=>False):=rfl
@[simp] theorem qEd {ng:Bool}:qZ P Qd fl K' (.isp d ng x) env σ = wpO P zA2 K' (.isp d ng x) env σ:=by simp[qZ,KOp.lite,KOp.keeps]
@[simp] theorem qEf {t:TypeId}:qZ P Qd fl K' (.mki d t x) env σ = wpO P zA2 K' (.mki d t x) env σ:=by simp[qZ,KOp.lite,KOp.keeps]
@[simp] theorem qEh:qZ P Qd fl K' (.mov d x) env σ = wpO P zA2 K' (.mov d x) env σ:=by simp[qZ,KOp.lite,KOp.keeps]
@[simp] theorem zXM {len sz:Nat}:qZ P Qd fl K' (.idxarr d x y len sz) env σ = wpO P zA2 K' (.idxarr d x y len sz) env σ:=by simp[qZ,KOp.lite,KOp.keeps]
@[simp] theorem qDU {op:BinOp}:qZ P Qd fl K' (.bin d op x y) env σ = wpO P zA2 K' (.bin d op x y) env σ:=by simp[qZ,KOp.lite,KOp.keeps]
@[simp] theorem qDY {k:SK}{ng:Bool}:qZ P Qd fl K' (.eqv d ng k x y) env σ = wpO P zA2 K' (.eqv d ng k x y) env σ:=by simp[qZ,KOp.lite,KOp.keeps]
@[simp] theorem qDX {ks:List SK}{ng:Bool}:qZ P Qd fl K' (.eqs d ng ks x y) env σ = wpO P zA2 K' (.eqs d ng ks x y) env σ:=by simp[qZ,KOp.lite,KOp.keeps]
@[simp] theorem qEi:qZ P Qd fl K' (.neg d x) env σ = wpO P zA2 K' (.neg d x) env σ:=by simp[qZ,KOp.lite,KOp.keeps]
@[simp] theorem qEj:qZ P Qd fl K' (.not d x) env σ = wpO P zA2 K' (.not d x) env σ:=by simp[qZ,KOp.lite,KOp.keeps]
@[simp] theorem qI8 {mx:Bool}{xs:List Operand}:qZ P Qd fl K' (.mm d mx xs) env σ = wpO P zA2 K' (.mm d mx xs) env σ:=by simp[qZ,KOp.lite,KOp.keeps]
@[simp] theorem qCi:qZ P Qd fl K' (.len d true x) env σ = wpO P zA2 K' (.len d true x) env σ:=by simp[qZ,KOp.lite,KOp.keeps]
@[simp] theorem qDZ {i:Nat}:qZ P Qd fl K' (.ext d x i) env σ = wpO P zA2 K' (.ext d x i) env σ:=by simp[qZ,KOp.lite,KOp.keeps]
@[simp] theorem qDW {f:FuncId}{a b:List Operand}:qZ P Qd fl K' (.clo d f a b) env σ = wpO P zA2 K' (.clo d f a b) env σ:=by simp[qZ,KOp.lite,KOp.keeps]
@[simp] theorem qEk {sz:Nat}{lo hi mx:Option Operand}:qZ P Qd fl K' (.slc d x sz lo hi mx) env σ = wpO P zA2 K' (.slc d x sz lo hi mx) env σ:=by simp[qZ,KOp.lite,KOp.keeps]
@[simp] theorem zZK {zs:List Value}{ps:List (Nat×Nat×Operand)}:qZ P Qd fl K' (.build d zs ps) env σ = wpO P zA2 K' (.build d zs ps) env σ:=by simp[qZ,KOp.lite,KOp.keeps]
@[simp] theorem zXL {e:TypeId}{sz n:Nat}{zs:List Value}{ps:List (Nat×Nat×Operand)}:qZ P Qd fl K' (.bslice d e sz n zs ps) env σ = wpO P zA2 K' (.bslice d e sz n zs ps) env σ:=by simp[qZ,KOp.lite,KOp.keeps]
@[simp] theorem zZJ {zs:List Value}:qZ P Qd fl K' (.alloc d zs) env σ = wpO P zA2 K' (.alloc d zs) env σ:=by simp[qZ,KOp.lite,KOp.keeps]
@[simp] theorem qDV:qZ P Qd fl K' (.box d x) env σ = wpO P zA2 K' (.box d x) env σ:=by simp[qZ,KOp.lite,KOp.keeps]
@[simp] theorem qI9 {n:Nat}:qZ P Qd fl K' (.st d x y n) env σ = wpO P zA2 K' (.st d x y n) env σ:=by simp[qZ,KOp.lite,KOp.keeps]
@[simp] theorem qDT {e:TypeId}{sz bytes:Nat}:qZ P Qd fl K' (.app d e sz bytes x y) env σ = wpO P zA2 K' (.app d e sz bytes x y) env σ:=by simp[qZ,KOp.lite,KOp.keeps]
@[simp] theorem qEa {off n:Nat}{agg:Bool}:qZ P Qd fl K' (.fld d x off n agg) env σ = wpO P zA2 K' (.fld d x off n agg) env σ:=by simp[qZ,KOp.lite,KOp.keeps]
@[simp] theorem qI6 {len sz:Nat}{agg:Bool}:qZ P Qd fl K' (.ix d x y len sz agg) env σ = wpO P zA2 K' (.ix d x y len sz agg) env σ:=by simp[qZ,KOp.lite,KOp.keeps]
@[simp] theorem qEc {ng:Bool}:qZ P Qd fl K' (.isn d ng x) env σ = wpO P zA2 K' (.isn d ng x) env σ:=by simp[qZ,KOp.lite,KOp.keeps]
@[simp] theorem qI7 {n:Nat}{agg:Bool}:qZ P Qd fl K' (.ld d x n agg) env σ = zCU ((ldA (zDk fl σ) n (ev env x)).bind (zBm agg)) fun r=>K' (env.put d r) σ:=zDS
@[simp] theorem qCf {off:Nat}:qZ P Qd fl K' (.addr d x off) env σ = zCU (zG5 (zDk fl σ) off (ev env x)) fun r=>K' (env.put d r) σ:=by show qP (zK env (zDk fl σ) (.addr d x off)) _=_;rw[zFU,zDS]; rfl
@[simp] theorem qEb {sz:Nat}:qZ P Qd fl K' (.idx d x y sz) env σ = zKH (zDk fl σ) sz (ev env x) (ev env y) fun r=>K' (env.put d r) σ:=zLt (d:=d)
def zKI (σ : St)(a:A)(J:A→Prop):Prop:=match a with
 | .nil=>J (.lit (.int .i64 0))
 | .sl n _=>J (.lit (.int .i64 n))
 | .fsl n _=>J (.lit (.int .i64 n))
 | .row l n=>match σ[l]? with
  | some (.row _ _ _ m _)=>if n=m then J (.lit (.int .i64 n)) else False
  | _=>False
 | .win l n _ k _=>match σ[l]? with
  | some (.row _ _ _ m _)=>if n=m then J (.lit (.int .i64 k)) else False
  | _=>False
 | _=>False
@[simp] theorem qHe {J:A→Prop}:zKI σ .nil J=J (.lit (.int .i64 0)):=rfl
@[simp] theorem qJI {n:Nat}{cs:List A}{J:A→Prop}:zKI σ (.sl n cs) J=J (.lit (.int .i64 n)):=rfl
@[simp] theorem qHd {n:Nat}{cs:List A}{J:A→Prop}:zKI σ (.fsl n cs) J=J (.lit (.int .i64 n)):=rfl
def zP2 (o:Option AObj)(n:Nat)(J:A→Prop):Prop:=match o with
 | some (.row _ _ _ m _)=>if n=m then J (.lit (.int .i64 n)) else False
 | _=>False
@[simp] theorem zZm {fz:Bool}{e:TypeId}{s m n:Nat}{cs:List A}{J:A→Prop}:zP2 (some (.row fz e s m cs)) n J=if n=m then J (.lit (.int .i64 n)) else False:=rfl
@[simp] theorem qHf {l n:Nat}{J:A→Prop}:zKI σ (.row l n) J=zP2 σ[l]? n J:=by simp only[zKI,zP2]
theorem zSk {τ : St}{J:A→Prop}:qP (zK env τ (.len d false x)) J=zKI τ (ev env x) J:=by
 simp only[zKI,zK];generalize ev env x=a;cases a<;>simp only[qP,true_and]
 ·rename_i l n;cases τ[l]? with
  | none=>rfl
  | some ob =>
   cases ob<;>try rfl
   rename_i fz e s m cs;by_cases h:n=m<;>simp[h]
 ·rename_i l n _ k _;cases τ[l]? with
  | none=>rfl
  | some ob =>
   cases ob<;>try rfl
   rename_i fz e s m cs;by_cases h:n=m<;>simp[h]
@[simp] theorem qEe:qZ P Qd fl K' (.len d false x) env σ = zKI (zDk fl σ) (ev env x) fun r=>K' (env.put d r) σ:=by show qP (zK env (zDk fl σ) (.len d false x)) _=_;exact zSk
def zFM (P:Program)(Qd:Value→St→Prop)(fl:Nat) (σ : St)(d:Option Nat)(K':Env→St→Prop)(f:A)(args:List A)(env:Env):Prop:=zVI P Qd fl σ d K' f args env
@[simp] theorem qCh {args:List Operand}:qZ P Qd fl K' (.call d x args) env σ = zFM P Qd fl σ d K' (ev env x) (args.map (ev env)) env:=rfl
@[simp] theorem qJt {g:FuncId}{first cap args:List A}:zFM P Qd 0 σ d K' (.clo g first cap) args env=(zA P g=true∧zIX P σ d (fun e=>K' e σ) g (first++args++cap) env):=rfl
@[simp] theorem qJu {g:FuncId}{first cap args:List A}:zFM P Qd 1 σ d K' (.clo g first cap) args env=(zA P g=true∧zHu P σ d (fun e=>K' e σ) g (first++args++cap) env):=rfl
@[simp] theorem qJv {g:FuncId}{first cap args:List A}:zFM P Qd 3 σ d K' (.clo g first cap) args env=(zA P g=true∧zOA P σ d K' g (first++args++cap) env):=rfl
@[simp] theorem qJx {g:FuncId}{first cap args:List A}:zFM P Qd 7 σ d K' (.clo g first cap) args env=(zA P g=true∧zHv P σ d K' g (first++args++cap) env):=rfl
@[simp] theorem qJy {g:FuncId}{first cap args:List A}:zFM P Qd 8 σ d K' (.clo g first cap) args env=(zA P g=true∧zK1 P σ d K' g (first++args++cap) env):=rfl
@[simp] theorem qGv {g:FuncId}{first cap args:List A}:zFM P Qd 10 σ d K' (.clo g first cap) args env=(zA P g=true∧zOB P Qd σ d K' g (first++args++cap) env):=rfl
@[simp] theorem qJz {n:Nat}{g:FuncId}{first cap args:List A}(h1:10<n):zFM P Qd n σ d K' (.clo g first cap) args env=(zA P g=true∧(if 1000≤n∧n<2000 then zK0 P (n-1000) σ d K' g (first++args++cap) env else if 3000≤n∧n<4000 then zKz P (n-3000) σ d K' g (first++args++cap) env else zFr P σ d K' g (first++args++cap) env)):=by obtain⟨m,rfl⟩:∃m,n=m+11:=⟨n-11,by omega⟩;rfl
@[simp] theorem qJw {g:FuncId}{first cap args:List A}:zFM P Qd 4 σ d K' (.clo g first cap) args env=(zA P g=true∧zFr P σ d K' g (first++args++cap) env):=rfl
@[simp] theorem qGw {b:Nat}{args:List A}:zFM P Qd 4 σ d K' (yv b) args env = ∃r σ',(zIm P b args σ fun o τ=>o=.ret r∧τ = σ')∧K' (env.put d r) σ':=by show (4=4∧_)=_;simp
theorem zAk {t:Bool}{A B:Env→St→Prop}(h1:t=true→A env σ)(h2:t=false→B env σ):zEC t A B env σ:=⟨h1,h2⟩
theorem zXg {S:Type}{W:(Ex→Env→St→Prop)→Env→St→Prop}(E:S→List (Nat×A))(T:S→St)(I:S→Prop) (μ : S→Nat)(s0:S)(h0:I s0)(start:zBG n0 (qR (E s0)) (T s0) env σ)
 (round:∀s,I s→W (rnd n0 (fun n e t=>∃s,I s∧μ s=n∧e=qR (E s)∧t=T s) (μ s) Q) (qR (E s)) (T s)):zMH n0 W Q env σ:=by
 refine⟨fun n e t=>∃s,I s∧μ s=n∧e=qR (E s)∧t=T s,⟨μ s0,_,_,start,s0,h0,rfl,rfl,rfl⟩,?_⟩;rintro n e t ⟨s,hs,rfl,rfl,rfl⟩;exact round s hs
theorem qBI {S:Type}{E:S→List (Nat×A)}{T:S→St}{I:S→Prop} {μ : S→Nat}{n:Nat}(s:S)(hs:I s)(hm : μ s<n)(hw:zBG n0 (qR (E s)) (T s) env σ) :
 rnd n0 (fun n e t=>∃s,I s∧μ s=n∧e=qR (E s)∧t=T s) n Q .norm env σ:=⟨μ s,hm,_,_,hw,s,hs,rfl,rfl,rfl⟩
@[simp] theorem qBu {i t:Nat}{a:A}{l:List (Nat×A)}:qR ((i,a)::l) t=if t=i then a else qR l t:=rfl
@[simp] theorem qCW {t:Nat}:qR [] t=.any:=rfl
end
end Go.Abs
