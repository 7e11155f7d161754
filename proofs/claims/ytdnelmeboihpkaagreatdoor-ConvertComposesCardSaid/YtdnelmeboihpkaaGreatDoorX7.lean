/-
  The rules by which a walk over abstract states goes on, for simp.
  A choice of levels is kept; rows that are not kept become persistent.
-/
import Derived.Test.YtdnelmeboihpkaaGreatDoorX6
set_option linter.unusedVariables false
set_option maxHeartbeats 8000000
set_option maxRecDepth 100000
set_option linter.unusedSimpArgs false
namespace Go.Abs
def qQ2 (o:Option A)(d:Option Nat)(K:Env→St→Prop)(env:Env) (σ : St):Prop:=match o with
 | some r=>K (env.put d r) σ
 | none=>False
def qQ1 (o:Option A)(d:Option Nat)(K:Env→Prop)(env:Env):Prop:=match o with
 | some r=>K (env.put d r)
 | none=>False
def zVf (o:Option (List A))(J:List A→Prop):Prop:=match o with
 | some r=>J r
 | none=>False
def qDZ (o:Option St)(J:St→Prop):Prop:=match o with
 | some r=>J r
 | none=>False
section
variable {P:Program}{n0:Nat}{Qp:Value→Env→St→Prop}{Qd:Value→St→Prop}{K':Env→St→Prop}{KD:Env→Prop}{Q:Ex→Env→St→Prop}{env:Env} {σ : St}{d d':Option Nat}{x y z:Operand}
@[simp] theorem qGb {r:A}:qQ2 (some r) d K' env σ = K' (env.put d r) σ:=rfl
@[simp] theorem qFZ {r:A}:qQ1 (some r) d KD env=KD (env.put d r):=rfl
@[simp] theorem qFY {r:List A}{J:List A→Prop}:zVf (some r) J=J r:=rfl
@[simp] theorem qGc {r:St}{J:St→Prop}:qDZ (some r) J=J r:=rfl
@[simp] theorem qKM {r:A}:env.put none r=env:=rfl
@[simp] theorem zZQ {i t:Nat}{r:A}:(env.put (some i) r) t=if t=i then r else env t:=rfl
@[simp] theorem qQo {t:Nat}:ev env (.tmp t)=env t:=rfl
@[simp] theorem qMN {f:FuncId}:ev env (.func f)=.clo f [] []:=rfl
@[simp] theorem qQm {k:IntKind}{n:Int}:ev env (.const (.int k n))=.lit (.int k n):=rfl
@[simp] theorem qMM {b:Bool}:ev env (.const (.bool b))=.lit (.bool b):=rfl
@[simp] theorem qF2 {s:ByteArray}:ev env (.const (.string s))=.lit (.string s):=rfl
@[simp] theorem qQn:ev env (.const (.slice none 0 0))=.nil:=rfl
@[simp] theorem qDo:ev env (.const .nilFunc)=.lit .nilFunc:=rfl
@[simp] theorem qF1:ev env (.const (.pointer none))=.lit (.pointer none):=rfl
@[simp] theorem qQl {l:List Value}:ev env (.const (.agg ⟨l⟩))=if zAt l then .agg (l.map qS) else .any:=rfl
@[simp] theorem qBS:zAt []=true:=rfl
@[simp] theorem zZK {v:Value}{l:List Value}:zAt (v::l)=(v.oneCell'&&zAt l):=rfl
@[simp] theorem qNl {k:IntKind}{n:Int}:(Value.int k n).oneCell'=true:=rfl
@[simp] theorem qKF {b:Bool}:(Value.bool b).oneCell'=true:=rfl
@[simp] theorem qDY {s:ByteArray}:(Value.string s).oneCell'=true:=rfl
@[simp] theorem qFX {a:Option Addr}{n c:Nat}:(Value.slice a n c).oneCell'=true:=rfl
@[simp] theorem qBU {a:Option Addr}:(Value.pointer a).oneCell'=true:=rfl
@[simp] theorem qBT:(Value.nilFunc).oneCell'=true:=rfl
@[simp] theorem qNm {r:Option Nat}:(Value.map r).oneCell'=true:=rfl
@[simp] theorem qDW {k:IntKind}{n:Int}:qS (.int k n)=.lit (.int k n):=rfl
@[simp] theorem qBQ {b:Bool}:qS (.bool b)=.lit (.bool b):=rfl
@[simp] theorem zY1 {s:ByteArray}:qS (.string s)=.lit (.string s):=rfl
@[simp] theorem qDX:qS (.slice none 0 0)=.nil:=rfl
@[simp] theorem zXD:qS .nilFunc=.lit .nilFunc:=rfl
@[simp] theorem zY0:qS (.pointer none)=.lit (.pointer none):=rfl
@[simp] theorem zYz:qS (.map none)=.lit (.map none):=rfl
@[simp] theorem qBi:cellsOf .nil=some [.nil]:=rfl
@[simp] theorem qBd {cs:List A}:cellsOf (.agg cs)=some cs:=rfl
@[simp] theorem qBg {v:Value}:cellsOf (.lit v)=if v.oneCell' then some [.lit v] else none:=rfl
@[simp] theorem qCU {n:Nat}{cs:List A}:cellsOf (.sl n cs)=some [.sl n cs]:=rfl
@[simp] theorem qBf {n:Nat}{cs:List A}:cellsOf (.fsl n cs)=some [.fsl n cs]:=rfl
@[simp] theorem qBk {l n:Nat}:cellsOf (.row l n)=some [.row l n]:=rfl
@[simp] theorem qBj {l n:Nat}:cellsOf (.ptr l n)=some [.ptr l n]:=rfl
@[simp] theorem qBh {l:Nat}:cellsOf (.map l)=some [.map l]:=rfl
@[simp] theorem qBn {l n o k c:Nat}:cellsOf (.win l n o k c)=some [.win l n o k c]:=rfl
@[simp] theorem qBl {l n o:Nat}:cellsOf (.rwp l n o)=some [.rwp l n o]:=rfl
@[simp] theorem zYM {cs:List A}:cellsOf (.rptr cs)=some [.rptr cs]:=rfl
@[simp] theorem qBe {f:FuncId}{a b:List A}:cellsOf (.clo f a b)=some [.clo f a b]:=rfl
@[simp] theorem qEa {cs:List A}:zBA true cs=some (.agg cs):=rfl
@[simp] theorem qBV {c:A}:zBA false [c]=some c:=rfl
@[simp] theorem qJW {cs:List A}{n:Nat}:ldA σ n (.rptr cs)=sub cs 0 n:=rfl
def qB7:Option AObj→Nat→Nat→Option (List A)
 | some (.box cs),off,n=>sub cs off n
 | _,_,_=>none
def qB8:Option AObj→Nat→Nat→Nat→Option (List A)
 | some (.row _ _ _ k cs),m,off,n=>if m=k then sub cs off n else none
 | _,_,_,_=>none
@[simp] theorem qD9 {cs:List A}{off n:Nat}:qB7 (some (.box cs)) off n=sub cs off n:=rfl
@[simp] theorem qDA {fz:Bool}{e:TypeId}{s k:Nat}{cs:List A}{m off n:Nat}:qB8 (some (.row fz e s k cs)) m off n=if m=k then sub cs off n else none:=rfl
@[simp] theorem qMW {l off n:Nat}:ldA σ n (.ptr l off)=qB7 σ[l]? off n:=by
 simp only[ldA];cases σ[l]? with
 | none=>rfl
 | some o=>cases o<;>rfl
@[simp] theorem qMX {l m off n:Nat}:ldA σ n (.rwp l m off)=qB8 σ[l]? m off n:=by
 simp only[ldA];cases σ[l]? with
 | none=>rfl
 | some o=>cases o<;>rfl
@[simp] theorem qQ8 {cs:List A}{off n:Nat}:sub cs off n=if off+n≤cs.length then some ((cs.drop off).take n) else none:=rfl
def qCb:Option AObj→St→List A→Nat→Nat→Option St
 | some (.box ds),σ,cs,l,off=>if off+cs.length≤ds.length then some (σ.set l (.box (ds.take off++cs++ds.drop (off+cs.length)))) else none
 | _,_,_,_,_=>none
def qCc:Option AObj→St→List A→Nat→Nat→Nat→Option St
 | some (.row false e sz k ds),σ,cs,l,m,off=>if m=k∧off+cs.length≤ds.length then some (σ.set l (.row false e sz k (ds.take off++cs++ds.drop (off+cs.length)))) else none
 | _,_,_,_,_,_=>none
@[simp] theorem qEz {ds cs:List A}{l off:Nat}:qCb (some (.box ds)) σ cs l off=if off+cs.length≤ds.length then some (σ.set l (.box (ds.take off++cs++ds.drop (off+cs.length)))) else none:=rfl
@[simp] theorem qE0 {e:TypeId}{sz k:Nat}{ds cs:List A}{l m off:Nat}:qCc (some (.row false e sz k ds)) σ cs l m off=if m=k∧off+cs.length≤ds.length then some (σ.set l (.row false e sz k (ds.take off++cs++ds.drop (off+cs.length)))) else none:=rfl
@[simp] theorem qNy {cs:List A}{l off:Nat}:stA σ cs (.ptr l off)=qCb σ[l]? σ cs l off:=by
 simp only[stA];cases σ[l]? with
 | none=>rfl
 | some o=>cases o<;>rfl
@[simp] theorem qNz {cs:List A}{l m off:Nat}:stA σ cs (.rwp l m off)=qCc σ[l]? σ cs l m off:=by
 simp only[stA];cases σ[l]? with
 | none=>rfl
 | some o =>
  cases o<;>try rfl
  rename_i fz e s n ds;cases fz<;>rfl
def qBX:Option AObj→Nat→Nat→(List A→Prop)→Prop
 | some (.row _ _ s m cs),n,sz,J=>n=m∧s=sz∧J cs
 | _,_,_,_=>False
@[simp] theorem zS5 {fz:Bool}{e:TypeId}{s m n sz:Nat}{cs:List A}{J:List A→Prop}:qBX (some (.row fz e s m cs)) n sz J=(n=m∧s=sz∧J cs):=rfl
@[simp] theorem qFe {b:Bool}:(b==true)=b:=by cases b<;>rfl
@[simp] theorem qDf {A B:Env→St→Prop}:zFB true A B env σ = A env σ:=by simp[zFB]
@[simp] theorem qBu {A B:Env→St→Prop}:zFB false A B env σ = B env σ:=by simp[zFB]
@[simp] theorem qLf:zG1 d K' env σ = K' (env.put d (.lit undef)) σ:=rfl
@[simp] theorem qKI {r:A}:zHB d env K' Qp (.ret r) σ = K' (env.put d r) σ:=rfl
@[simp] theorem qKH {v:Value}:zHB d env K' Qp (.pan v) σ = Qp v env σ:=rfl
@[simp] theorem qLt {J:Env→St→Prop}:thn J Q .norm=J:=rfl
@[simp] theorem qN2 {J:Env→St→Prop}:thn J Q .ret=Q .ret:=rfl
@[simp] theorem qLs {J:Env→St→Prop}{i:Nat}:thn J Q (.exit i)=Q (.exit i):=rfl
@[simp] theorem qN1 {J:Env→St→Prop}{v:Value}:thn J Q (.pan v)=Q (.pan v):=rfl
@[simp] theorem qHX {id:Nat}:blk id Q .norm=Q .norm:=rfl
@[simp] theorem qLL {id:Nat}:blk id Q .ret=Q .ret:=rfl
@[simp] theorem qHW {id i:Nat}:blk id Q (.exit i)=if i=id then Q .norm else Q (.exit i):=rfl
@[simp] theorem qLK {id:Nat}{v:Value}:blk id Q (.pan v)=Q (.pan v):=rfl
@[simp] theorem qNt {I:Nat→Env→St→Prop}{n:Nat}:rnd n0 I n Q .ret=Q .ret:=rfl
@[simp] theorem qKV {I:Nat→Env→St→Prop}{n i:Nat}:rnd n0 I n Q (.exit i)=Q (.exit i):=rfl
@[simp] theorem qNs {I:Nat→Env→St→Prop}{n:Nat}{v:Value}:rnd n0 I n Q (.pan v)=Q (.pan v):=rfl
@[simp] theorem qJz {rs:List RS}{R:Out→St→Prop}:fin rs R .norm=zKy rs R:=rfl
@[simp] theorem qMP {rs:List RS}{R:Out→St→Prop}:fin rs R .ret=zKy rs R:=rfl
@[simp] theorem qMO {rs:List RS}{R:Out→St→Prop}{v:Value}:fin rs R (.pan v) env σ = R (.pan v) σ:=rfl
@[simp] theorem qGi {t:Nat}{R:Out→St→Prop}:zKy [.slot t] R env σ = R (.ret (env t)) σ:=rfl
@[simp] theorem qKU {t u:Nat}{R:Out→St→Prop}:zKy [.slot t,.slot u] R env σ = R (.ret (.tup [env t,env u])) σ:=rfl
@[simp] theorem qEj {t u v:Nat}{R:Out→St→Prop}:zKy [.slot t,.slot u,.slot v] R env σ = R (.ret (.tup [env t,env u,env v])) σ:=rfl
@[simp] theorem zYA {a:A}{l:List A}:zC2 (a::l) 0=a:=rfl
@[simp] theorem zY9 {a:A}{l:List A}{n:Nat}:zC2 (a::l) (n+1)=zC2 l n:=by simp[zC2]
@[simp] theorem qAU {n:Nat}:zC2 [] n=.lit undef:=by simp[zC2]
@[simp] theorem qEP {k:K}{rs:List RS}{args:List A}{R:Out→St→Prop}:wpF P k rs args σ R=wpK P σ.length k (fin rs R) (zC2 args) σ:=rfl
@[simp] theorem qLC:wpK P n0 .skip Q env σ = Q .norm env σ:=rfl
@[simp] theorem qNM:wpK P n0 .ret Q env σ = Q .ret env σ:=rfl
@[simp] theorem qLA {i:Nat}:wpK P n0 (.exit i) Q env σ = Q (.exit i) env σ:=rfl
@[simp] theorem qNO {a b:K}:wpK P n0 (.seq a b) Q env σ = wpK P n0 a (thn (wpK P n0 b Q) Q) env σ:=rfl
@[simp] theorem qGY {i:Nat}{a:K}:wpK P n0 (.block i a) Q env σ = wpK P n0 a (blk i Q) env σ:=rfl
@[simp] theorem qLB {a:K}:wpK P n0 (.loop a) Q env σ = zPc n0 (wpK P n0 a) Q env σ:=rfl
@[simp] theorem qEQ {a:K}:wpK P n0 (.wk a) Q env σ = Wk n0 (wpK P n0 a Q) env σ:=rfl
@[simp] theorem qNL {l:List KG}:wpK P n0 (.ops l) Q env σ = zCD P (fun v=>Q (.pan v)) (Q .norm) l env σ:=rfl
@[simp] theorem qL9 {l:List (Nat×Nat×KG)}:wpK P n0 (.dops l) Q env σ = wpD P (zLM Q) (Q .norm) l env σ:=rfl
@[simp] theorem qNN {ps:List Nat}{a b:K}:wpK P n0 (.rng x ps a b) Q env σ = qCs P n0 x ps (fun n=>wpK P n a) (fun n=>wpK P n b) Q env σ:=rfl
@[simp] theorem qFb {S:St}{J:Env→St→Prop}:zYB S J .norm env σ = (σ = S∧J env σ):=rfl
@[simp] theorem qFz {S:St}:zYW n0 S .norm env σ = Wk n0 (fun _ σ'=>σ'=S) env σ:=rfl
@[simp] theorem qGe {xs:List A}:zGt env [] xs=env:=by cases xs<;>rfl
@[simp] theorem qEh {p:Nat}{ps:List Nat}{a:A}{xs:List A}:zGt env (p::ps) (a::xs)=zGt (env.put (some p) a) ps xs:=rfl
@[simp] theorem qCV {b:Nat}:cellsOf (yv b)=some [yv b]:=rfl
def qBv (a:A)(A B:Env→St→Prop)(env:Env) (σ : St):Prop:=match a with
 | .lit (.bool t)=>zFB t A B env σ
 | _=>False
@[simp] theorem qDg {t:Bool}{A B:Env→St→Prop}:qBv (.lit (.bool t)) A B env σ = zFB t A B env σ:=rfl
@[simp] theorem qL8 {a b:K}:wpK P n0 (.cond x a b) Q env σ = qBv (ev env x) (wpK P n0 a Q) (wpK P n0 b Q) env σ:=rfl
@[simp] theorem qHb:zCD P Qp K' [] env σ = K' env σ:=rfl
@[simp] theorem qET {o:KOp}{l:List KG}:zCD P Qp K' (⟨none,o⟩::l) env σ = wpO P Qp (zCD P Qp K' l) o env σ:=rfl
def zJm (a:A)(want:Bool)(A B:Env→St→Prop)(env:Env) (σ : St):Prop:=match a with
 | .lit (.bool b)=>zFB (b==want) A B env σ
 | .lit (.tuple _)=>B env σ
 | _=>False
@[simp] theorem qB2 {b want:Bool}{A B:Env→St→Prop}:zJm (.lit (.bool b)) want A B env σ = zFB (b==want) A B env σ:=rfl
@[simp] theorem zZv {want:Bool}{A B:Env→St→Prop}:zJm (.lit undef) want A B env σ = B env σ:=rfl
@[simp] theorem qCh {s:Nat}{want:Bool}{o:KOp}{l:List KG}:zCD P Qp K' (⟨some (s,want),o⟩::l) env σ = zJm (env s) want (wpO P Qp (zCD P Qp K' l) o) (zG1 o.dst (zCD P Qp K' l)) env σ:=by
 simp only[zCD,wpG,zJm];generalize env s=a;cases a<;>try rfl
 all_goals (rename_i v; cases v<;>rfl)
def zTF (a:A)(x y:A)(J:A→Prop):Prop:=match a with
 | .lit (.bool t)=>J (if t then x else y)
 | _=>False
@[simp] theorem qEb {t:Bool}{a b:A}{J:A→Prop}:zTF (.lit (.bool t)) a b J=J (if t then a else b):=rfl
def zD1 (o:Option A)(J:A→Prop):Prop:=match o with
 | some r=>J r
 | none=>False
@[simp] theorem qGa {r:A}{J:A→Prop}:zD1 (some r) J=J r:=rfl
theorem zEF {o:Option A}{J:A→Prop}:qW (o.map fun r=>(True,r)) J=zD1 o J:=by cases o<;>simp[qW,zD1]
@[simp] theorem qOf:wpO P Qp K' (.mov d x) env σ = K' (env.put d (ev env x)) σ:=by simp[wpO,qW,zJ,KOp.dst]
theorem zNA {J:A→Prop}:qW (zJ env σ (.pick d x y z)) J=zTF (ev env x) (ev env y) (ev env z) J:=by
 simp only[zJ,zTF,qW];generalize ev env x=a;cases a<;>try rfl
 rename_i v;cases v<;>simp
@[simp] theorem qLI:wpO P Qp K' (.pick d x y z) env σ = zTF (ev env x) (ev env y) (ev env z) fun r=>K' (env.put d r) σ:=zNA (d:=d)
@[simp] theorem qGZ {zs:List Value}:wpO P Qp K' (.alloc d zs) env σ = K' (env.put d (.ptr σ.length 0)) (σ++[.box (zs.map qS)]):=rfl
@[simp] theorem qNT:wpO P Qp K' (.box d x) env σ = zVf (cellsOf (ev env x)) fun cs=>K' (env.put d (.ptr σ.length 0)) (σ++[.box cs]):=rfl
@[simp] theorem qQS {n:Nat}{agg:Bool}:wpO P Qp K' (.ld d x n agg) env σ = zD1 ((ldA σ n (ev env x)).bind (zBA agg)) fun r=>K' (env.put d r) σ:=zEF
@[simp] theorem qQU {n:Nat}:wpO P Qp K' (.st d x y n) env σ = zVf (cellsOf (ev env y)) fun cs=>cs.length=n∧qDZ (stA σ cs (ev env x)) fun σ'=>K' (env.put d (.lit undef)) σ':=by
 simp only[wpO,zVf,qDZ];cases cellsOf (ev env y)with
 | none=>rfl
 | some cs =>
  simp only;by_cases h:cs.length=n
  ·simp only[h,if_true,true_and];cases stA σ cs (ev env x)<;>rfl
  ·simp[h]
def zHN (σ : St)(off:Nat):A→Option A
 | .ptr l o=>some (.ptr l (o+off))
 | .rptr cs=>some (.rptr (cs.drop off))
 | .rwp l n o=>match σ[l]? with
  | some (.row _ _ _ m _)=>if n=m then some (.rwp l n (o+off)) else none
  | _=>none
 | _=>none
@[simp] theorem qEW {l o off:Nat}:zHN σ off (.ptr l o)=some (.ptr l (o+off)):=rfl
@[simp] theorem qCw {cs:List A}{off:Nat}:zHN σ off (.rptr cs)=some (.rptr (cs.drop off)):=rfl
theorem zHn {off:Nat}:zJ env σ (.addr d x off)=(zHN σ off (ev env x)).map fun r=>(True,r):=by
 simp only[zJ];generalize ev env x=a;cases a<;>simp only[zHN]<;>try rfl
 rename_i l n o;cases σ[l]? with
 | none=>rfl
 | some ob =>
  cases ob<;>try rfl
  simp only;split<;>rfl
@[simp] theorem qLD {off:Nat}:wpO P Qp K' (.addr d x off) env σ = zD1 (zHN σ off (ev env x)) fun r=>K' (env.put d r) σ:=by show qW (zJ env σ (.addr d x off)) _=_;rw[zHn,zEF];rfl
def zGh (σ : St)(sz:Nat)(a i:A)(J:A→Prop):Prop:=match a,i with
 | .sl n cs,.lit (.int _ j)=>((0≤j∧j<n)∧j.toNat*sz<cs.length)∧J (.rptr (cs.drop (j.toNat*sz)))
 | .fsl n cs,.lit (.int _ j)=>((0≤j∧j<n)∧j.toNat*sz<cs.length)∧J (.rptr (cs.drop (j.toNat*sz)))
 | .row l n,.lit (.int _ j)=>match σ[l]? with
  | some (.row _ _ s m _)=>if n=m∧s=sz then (0≤j∧j<n)∧J (.rwp l n (j.toNat*sz)) else False
  | _=>False
 | .win l n o k' _,.lit (.int _ j)=>match σ[l]? with
  | some (.row _ _ s m _)=>if n=m∧s=sz then (0≤j∧j<k')∧J (.rwp l n (o+j.toNat*sz)) else False
  | _=>False
 | _,_=>False
theorem zNx {sz:Nat}{J:A→Prop}:qW (zJ env σ (.idx d x y sz)) J=zGh σ sz (ev env x) (ev env y) J:=by
 simp only[zJ,zGh,qW];generalize ev env x=a;generalize ev env y=b;cases a<;>cases b<;>try rfl
 all_goals (rename_i v; cases v<;>try rfl)
 ·rename_i l n k j;simp only;cases σ[l]? with
  | none=>rfl
  | some ob =>
   cases ob<;>try rfl
   rename_i fz e s m cs;by_cases h:n=m∧s=sz<;>simp[h]
 ·rename_i l n o k' c k j;simp only;cases σ[l]? with
  | none=>rfl
  | some ob =>
   cases ob<;>try rfl
   rename_i fz e s m cs;by_cases h:n=m∧s=sz<;>simp[h]
@[simp] theorem qNY {sz:Nat}:wpO P Qp K' (.idx d x y sz) env σ = zGh σ sz (ev env x) (ev env y) fun r=>K' (env.put d r) σ:=zNx (d:=d)
@[simp] theorem qMT {sz n:Nat}{cs:List A}{k:IntKind}{j:Int}{J:A→Prop}:zGh σ sz (.sl n cs) (.lit (.int k j)) J=(((0≤j∧j<n)∧j.toNat*sz<cs.length)∧J (.rptr (cs.drop (j.toNat*sz)))):=rfl
@[simp] theorem qJD {sz n:Nat}{cs:List A}{k:IntKind}{j:Int}{J:A→Prop}:zGh σ sz (.fsl n cs) (.lit (.int k j)) J=(((0≤j∧j<n)∧j.toNat*sz<cs.length)∧J (.rptr (cs.drop (j.toNat*sz)))):=rfl
def zIs (len sz:Nat)(a i:A)(J:A→Prop):Prop:=match a,i with
 | .ptr l o,.lit (.int _ j)=>(0≤j∧j<len)∧J (.ptr l (o+j.toNat*sz))
 | .rptr cs,.lit (.int _ j)=>((0≤j∧j<len)∧j.toNat*sz<cs.length)∧J (.rptr (cs.drop (j.toNat*sz)))
 | _,_=>False
@[simp] theorem zZz {len sz:Nat}{cs:List A}{k:IntKind}{j:Int}{J:A→Prop}:zIs len sz (.rptr cs) (.lit (.int k j)) J=(((0≤j∧j<len)∧j.toNat*sz<cs.length)∧J (.rptr (cs.drop (j.toNat*sz)))):=rfl
@[simp] theorem qB3 {len sz l o:Nat}{k:IntKind}{j:Int}{J:A→Prop}:zIs len sz (.ptr l o) (.lit (.int k j)) J=((0≤j∧j<len)∧J (.ptr l (o+j.toNat*sz))):=rfl
theorem zOx {len sz:Nat}{J:A→Prop}:qW (zJ env σ (.idxarr d x y len sz)) J=zIs len sz (ev env x) (ev env y) J:=by
 simp only[zJ,zIs,qW];generalize ev env x=a;generalize ev env y=b;cases a<;>first
  | rfl
  | (cases b<;>first
   | rfl
   | (rename_i v; cases v<;>rfl))
@[simp] theorem qES {len sz:Nat}:wpO P Qp K' (.idxarr d x y len sz) env σ = zIs len sz (ev env x) (ev env y) fun r=>K' (env.put d r) σ:=zOx (d:=d)
def zDY (op:BinOp)(a b:A)(J:A→Prop):Prop:=match a,b with
 | .lit (.int k m),.lit (.int k' n)=>if k=k' then (match zEl op k m n with | some (p,r)=>p∧J r | none=>False) else False
 | .lit (.string s),.lit (.string t)=>(match zYi op s t with | some (p,r)=>p∧J r | none=>False)
 | _,_=>False
theorem zUa {op:BinOp}{J:A→Prop}:qW (zJ env σ (.bin d op x y)) J=zDY op (ev env x) (ev env y) J:=by
 simp only[zJ,zDY,qW];generalize ev env x=a;generalize ev env y=b;cases a<;>try rfl
 rename_i u;cases b<;>try (cases u<;>rfl)
 rename_i v;cases u<;>cases v<;>try rfl
 case lit.lit.int.int k m k' n =>
  by_cases h:k=k'
  ·simp only[h,if_true];cases zEl op k' m n<;>rfl
  ·simp[h]
@[simp] theorem qNS {op:BinOp}:wpO P Qp K' (.bin d op x y) env σ = zDY op (ev env x) (ev env y) fun r=>K' (env.put d r) σ:=zUa (d:=d)
@[simp] theorem qHU {s t:ByteArray}{J:A→Prop}:zDY .add (.lit (.string s)) (.lit (.string t)) J=(s.size+t.size≤1000000∧J (.lit (.string (s++t)))):=rfl
@[simp] theorem qHM {k:IntKind}{m n:Int}{J:A→Prop}:zDY .add (.lit (.int k m)) (.lit (.int k n)) J=J (.lit (.int k (k.wrap (m+n)))):=by simp[zDY,zEl]
@[simp] theorem qHV {k:IntKind}{m n:Int}{J:A→Prop}:zDY .sub (.lit (.int k m)) (.lit (.int k n)) J=J (.lit (.int k (k.wrap (m-n)))):=by simp[zDY,zEl]
@[simp] theorem qHR {k:IntKind}{m n:Int}{J:A→Prop}:zDY .mul (.lit (.int k m)) (.lit (.int k n)) J=J (.lit (.int k (k.wrap (m*n)))):=by simp[zDY,zEl]
@[simp] theorem qHS {k:IntKind}{m n:Int}{J:A→Prop}:zDY .quo (.lit (.int k m)) (.lit (.int k n)) J=(n≠0∧J (.lit (.int k (k.wrap (m.tdiv n))))):=by simp[zDY,zEl]
@[simp] theorem qHT {k:IntKind}{m n:Int}{J:A→Prop}:zDY .rem (.lit (.int k m)) (.lit (.int k n)) J=(n≠0∧J (.lit (.int k (m.tmod n)))):=by simp[zDY,zEl]
@[simp] theorem qHQ {k:IntKind}{m n:Int}{J:A→Prop}:zDY .lss (.lit (.int k m)) (.lit (.int k n)) J=J (.lit (.bool (decide (m<n)))):=by simp[zDY,zEl]
@[simp] theorem qHP {k:IntKind}{m n:Int}{J:A→Prop}:zDY .leq (.lit (.int k m)) (.lit (.int k n)) J=J (.lit (.bool (decide (m≤n)))):=by simp[zDY,zEl]
@[simp] theorem qHO {k:IntKind}{m n:Int}{J:A→Prop}:zDY .gtr (.lit (.int k m)) (.lit (.int k n)) J=J (.lit (.bool (decide (n<m)))):=by simp[zDY,zEl]
@[simp] theorem qHN {k:IntKind}{m n:Int}{J:A→Prop}:zDY .geq (.lit (.int k m)) (.lit (.int k n)) J=J (.lit (.bool (decide (n≤m)))):=by simp[zDY,zEl]
noncomputable def eqA (k:SK) (ng:Bool) (a b:A):Option A:=(zBQ k a b).map (zBf ng)
noncomputable def zOl (ks:List SK) (ng:Bool) (a b:A):Option A:=match a,b with
 | .agg xs,.agg ys=>(zAb ks xs ys).map (zBf ng)
 | _,_=>none
theorem zWL {k:SK}{ng:Bool}{J:A→Prop}:qW (zJ env σ (.eqv d ng k x y)) J=zD1 (eqA k ng (ev env x) (ev env y)) J:=by simp only[zJ,eqA];cases zBQ k (ev env x) (ev env y)<;>simp[qW,zD1]
theorem zWK {ks:List SK}{ng:Bool}{J:A→Prop}:qW (zJ env σ (.eqs d ng ks x y)) J=zD1 (zOl ks ng (ev env x) (ev env y)) J:=by
 simp only[zJ,zOl];generalize ev env x=a;generalize ev env y=b;cases a<;>cases b<;>try rfl
 rename_i xs ys;simp only;cases zAb ks xs ys<;>simp[qW,zD1]
@[simp] theorem qNW {k:SK}{ng:Bool}:wpO P Qp K' (.eqv d ng k x y) env σ = zD1 (eqA k ng (ev env x) (ev env y)) fun r=>K' (env.put d r) σ:=zWL (d:=d)
@[simp] theorem qNV {ks:List SK}{ng:Bool}:wpO P Qp K' (.eqs d ng ks x y) env σ = zD1 (zOl ks ng (ev env x) (ev env y)) fun r=>K' (env.put d r) σ:=zWK (d:=d)
@[simp] theorem qML {k:IntKind}{m n:Int}:eqA .i false (.lit (.int k m)) (.lit (.int k n))=some (.lit (.bool (decide (m=n)))):=by simp[eqA,zBQ,zBf]
@[simp] theorem qJs {k:IntKind}{m n:Int}:eqA .i true (.lit (.int k m)) (.lit (.int k n))=some (.lit (.bool (decide (m≠n)))):=by simp[eqA,zBQ,zBf]
@[simp] theorem qJr {m n:Bool}:eqA .b false (.lit (.bool m)) (.lit (.bool n))=some (.lit (.bool (decide (m=n)))):=by simp[eqA,zBQ,zBf]
@[simp] theorem qF0 {m n:Bool}:eqA .b true (.lit (.bool m)) (.lit (.bool n))=some (.lit (.bool (decide (m≠n)))):=by simp[eqA,zBQ,zBf]
def zZ9 (a:A)(J:A→Prop):Prop:=match a with | .lit (.int k m)=>J (.lit (.int k (k.wrap (0-m)))) | _=>False
@[simp] theorem qKx {k:IntKind}{m:Int}{J:A→Prop}:zZ9 (.lit (.int k m)) J=J (.lit (.int k (k.wrap (0-m)))):=rfl
theorem zX8 {J:A→Prop}:qW (zJ env σ (.neg d x)) J=zZ9 (ev env x) J:=by
 simp only[zJ,zZ9];generalize ev env x=a;cases a<;>try rfl
 rename_i v; cases v<;>simp[qW]
@[simp] theorem qOg:wpO P Qp K' (.neg d x) env σ = zZ9 (ev env x) fun r=>K' (env.put d r) σ:=zX8 (d:=d)
def zZB (a:A)(J:A→Prop):Prop:=match a with | .lit (.bool b)=>J (.lit (.bool !b)) | _=>False
@[simp] theorem qFK {b:Bool}{J:A→Prop}:zZB (.lit (.bool b)) J=J (.lit (.bool !b)):=rfl
theorem zX9 {J:A→Prop}:qW (zJ env σ (.not d x)) J=zZB (ev env x) J:=by
 simp only[zJ,zZB];generalize ev env x=a;cases a<;>try rfl
 rename_i v; cases v<;>simp[qW]
@[simp] theorem qOh:wpO P Qp K' (.not d x) env σ = zZB (ev env x) fun r=>K' (env.put d r) σ:=zX9 (d:=d)
def zDZ (σ : St)(a:A)(J:A→Prop):Prop:=match a with
 | .nil=>J (.lit (.int .i64 0))
 | .sl n _=>n≤maxLen→J (.lit (.int .i64 n))
 | .fsl n _=>n≤maxLen→J (.lit (.int .i64 n))
 | .row l n=>match σ[l]? with
  | some (.row _ _ _ m _)=>if n=m then J (.lit (.int .i64 n)) else False
  | _=>False
 | .win l n _ k _=>match σ[l]? with
  | some (.row _ _ _ m _)=>if n=m then J (.lit (.int .i64 k)) else False
  | _=>False
 | _=>False
@[simp] theorem qKc {J:A→Prop}:zDZ σ .nil J=J (.lit (.int .i64 0)):=rfl
@[simp] theorem qMZ {n:Nat}{cs:List A}{J:A→Prop}:zDZ σ (.sl n cs) J=(n≤maxLen→J (.lit (.int .i64 n))):=rfl
@[simp] theorem qKb {n:Nat}{cs:List A}{J:A→Prop}:zDZ σ (.fsl n cs) J=(n≤maxLen→J (.lit (.int .i64 n))):=rfl
@[simp] theorem qOc:wpO P Qp K' (.len d false x) env σ = zDZ σ (ev env x) fun r=>K' (env.put d r) σ:=by
 simp only[wpO,zDZ,zJ];generalize ev env x=a;cases a<;>simp only[qW,true_and]
 ·rename_i l n;cases σ[l]? with
  | none=>rfl
  | some ob =>
   cases ob<;>try rfl
   rename_i fz e s m cs;by_cases h:n=m<;>simp[h]
 ·rename_i l n _ k _;cases σ[l]? with
  | none=>rfl
  | some ob =>
   cases ob<;>try rfl
   rename_i fz e s m cs;by_cases h:n=m<;>simp[h]
def zT5 (a:A)(J:A→Prop):Prop:=match a with | .lit (.string s)=>J (.lit (.int .i64 s.size)) | _=>False
@[simp] theorem zZ4 {s:ByteArray}{J:A→Prop}:zT5 (.lit (.string s)) J=J (.lit (.int .i64 s.size)):=rfl
theorem zUV {J:A→Prop}:qW (zJ env σ (.len d true x)) J=zT5 (ev env x) J:=by
 simp only[zJ,zT5];generalize ev env x=a;cases a<;>try rfl
 rename_i v; cases v<;>simp[qW]
@[simp] theorem qLG:wpO P Qp K' (.len d true x) env σ = zT5 (ev env x) fun r=>K' (env.put d r) σ:=zUV (d:=d)
def mmA (mx:Bool):List A→Option A
 | .lit (.int k a)::rest=>zGp mx a rest k
 | _=>none
@[simp] theorem qBA {k:IntKind}{m n:Int}:mmA true [.lit (.int k m),.lit (.int k n)]=some (.lit (.int k (if m<n then n else m))):=by simp[mmA,zGp]
@[simp] theorem qBB {k:IntKind}{m n:Int}:mmA false [.lit (.int k m),.lit (.int k n)]=some (.lit (.int k (if n<m then n else m))):=by simp[mmA,zGp]
theorem zT9 {mx:Bool}{xs:List Operand}{J:A→Prop}:qW (zJ env σ (.mm d mx xs)) J=zD1 (mmA mx (xs.map (ev env))) J:=by
 simp only[zJ];generalize xs.map (ev env)=l;cases l with
 | nil=>rfl
 | cons a l =>
  cases a<;>try rfl
  rename_i v;cases v<;>try rfl
  exact zEF
@[simp] theorem qQT {mx:Bool}{xs:List Operand}:wpO P Qp K' (.mm d mx xs) env σ = zD1 (mmA mx (xs.map (ev env))) fun r=>K' (env.put d r) σ:=zT9 (d:=d)
def zZq (i:Nat)(a:A)(J:A→Prop):Prop:=match a with | .tup vs=>(match vs[i]? with | some r=>J r | none=>False) | _=>False
@[simp] theorem qJx {i:Nat}{vs:List A}{J:A→Prop}:zZq i (.tup vs) J=zD1 vs[i]? J:=rfl
theorem zWU {i:Nat}{J:A→Prop}:qW (zJ env σ (.ext d x i)) J=zZq i (ev env x) J:=by
 simp only[zJ,zZq];generalize ev env x=a;cases a<;>try rfl
 rename_i vs;simp only;cases vs[i]?<;>simp[qW]
@[simp] theorem qNX {i:Nat}:wpO P Qp K' (.ext d x i) env σ = zZq i (ev env x) fun r=>K' (env.put d r) σ:=zWU (d:=d)
@[simp] theorem qNU {f:FuncId}{a b:List Operand}:wpO P Qp K' (.clo d f a b) env σ = K' (env.put d (.clo f (a.map (ev env)) (b.map (ev env)))) σ:=by simp[wpO,zJ,qW,KOp.dst]
theorem zKL {zs:List Value}{ps:List (Nat×Nat×Operand)}{J:A→Prop}:qW (zJ env σ (.build d zs ps)) J=zD1 ((zBo (zs.map qS) (ps.map fun(o,s,x)=>(o,s,ev env x))).map .agg) J:=by simp only[zJ];cases zBo (zs.map qS) (ps.map fun(o,s,x)=>(o,s,ev env x))<;>simp[qW,zD1]
def zSb (a:A)(neg:Bool)(J:A→Prop):Prop:=match a with
 | .lit (.pointer none)=>J (.lit (.bool !neg))
 | .rptr _=>J (.lit (.bool neg))
 | .ptr _ _=>J (.lit (.bool neg))
 | _=>False
@[simp] theorem qJM {neg:Bool}{J:A→Prop}:zSb (.lit (.pointer none)) neg J=J (.lit (.bool !neg)):=rfl
@[simp] theorem qFC {neg:Bool}{cs:List A}{J:A→Prop}:zSb (.rptr cs) neg J=J (.lit (.bool neg)):=rfl
@[simp] theorem qJN {neg:Bool}{l o:Nat}{J:A→Prop}:zSb (.ptr l o) neg J=J (.lit (.bool neg)):=rfl
@[simp] theorem qOa {neg:Bool}:wpO P Qp K' (.isp d neg x) env σ = zSb (ev env x) neg fun r=>K' (env.put d r) σ:=by
 show qW (zJ env σ (.isp d neg x)) _=_;simp only[zJ];generalize ev env x=a;cases a with
 | lit v=>cases v with
  | pointer ad=>cases ad<;>simp[qW,zSb,KOp.dst]
  | _=>rfl
 | rptr cs=>simp[qW,zSb,KOp.dst]
 | ptr l o=>simp[qW,zSb,KOp.dst]
 | _=>rfl
def qKm (t:TypeId)(a:A):A:=match a with
 | .lit v=>.lit (.iface t v)
 | _=>.any
@[simp] theorem qKn {t:TypeId}{v:Value}:qKm t (.lit v)=.lit (.iface t v):=rfl
@[simp] theorem qOd {t:TypeId}:wpO P Qp K' (.mki d t x) env σ = K' (env.put d (qKm t (ev env x))) σ:=by simp only[wpO,zJ,qW,KOp.dst,true_and];generalize ev env x=a;cases a<;>rfl
def qKJ (Qp:Value→Env→St→Prop)(env:Env) (σ : St)(a:A):Prop:=match a with
 | .lit (.iface t v)=>Qp (.iface t v) env σ
 | _=>False
@[simp] theorem qKK {t:TypeId}{v:Value}:qKJ Qp env σ (.lit (.iface t v))=Qp (.iface t v) env σ:=rfl
@[simp] theorem qOi:wpO P Qp K' (.pan d x) env σ = qKJ Qp env σ (ev env x):=rfl
@[simp] theorem qHa {zs:List Value}{ps:List (Nat×Nat×Operand)}:wpO P Qp K' (.build d zs ps) env σ = zD1 ((zBo (zs.map qS) (ps.map fun(o,s,x)=>(o,s,ev env x))).map .agg) fun r=>K' (env.put d r) σ:=zKL (d:=d)
@[simp] theorem qER {e:TypeId}{sz n:Nat}{zs:List Value}{ps:List (Nat×Nat×Operand)}:wpO P Qp K' (.bslice d e sz n zs ps) env σ = zD1 ((zBo (zs.map qS) (ps.map fun(o,s,x)=>(o,s,ev env x))).map (.fsl n)) fun r=>K' (env.put d r) σ:=by simp only[wpO,zD1];cases zBo (zs.map qS) (ps.map fun(o,s,x)=>(o,s,ev env x))<;>simp
@[simp] theorem qLE {e:TypeId}{sz n:Nat}{zs:List Value}{ps:List (Nat×Nat×Operand)}:wpO P Qp K' (.brow d e sz n zs ps) env σ = zVf (zBo (zs.map qS) (ps.map fun(o,s,x)=>(o,s,ev env x))) fun cs=>K' (env.put d (.row σ.length n)) (σ++[.row false e sz n cs]):=by simp only[wpO,zVf];cases zBo (zs.map qS) (ps.map fun(o,s,x)=>(o,s,ev env x))<;>simp
def zUQ (a:A)(neg:Bool)(J:A→Prop):Prop:=match a with
 | .nil=>J (.lit (.bool !neg))
 | .sl n _=>n≠0∧J (.lit (.bool neg))
 | .fsl n _=>n≠0∧J (.lit (.bool neg))
 | _=>False
@[simp] theorem qJL {neg:Bool}{J:A→Prop}:zUQ .nil neg J=J (.lit (.bool !neg)):=rfl
@[simp] theorem qMU {neg:Bool}{n:Nat}{cs:List A}{J:A→Prop}:zUQ (.sl n cs) neg J=(n≠0∧J (.lit (.bool neg))):=rfl
@[simp] theorem qJK {neg:Bool}{n:Nat}{cs:List A}{J:A→Prop}:zUQ (.fsl n cs) neg J=(n≠0∧J (.lit (.bool neg))):=rfl
theorem zXv {neg:Bool}{J:A→Prop}:qW (zJ env σ (.isn d neg x)) J=zUQ (ev env x) neg J:=by simp only[zJ,zUQ,qW];generalize ev env x=a;cases a<;>simp
def qAd (o:Option AObj) (σ : St)(l n sz:Nat)(h:Int)(J:A→St→Prop):Prop:=match o with
 | some (.row false e s m cs)=>(n=m∧s=sz∧0≤h∧h≤n∧n≠0)∧J (.row σ.length h.toNat) (σ.set l .dead++[.row false e sz h.toNat (cs.take (h.toNat*sz))])
 | _=>False
@[simp] theorem qGu {e s m l n sz:Nat}{cs:List A}{h:Int}{J:A→St→Prop}:qAd (some (.row false e s m cs)) σ l n sz h J=((n=m∧s=sz∧0≤h∧h≤n∧n≠0)∧J (.row σ.length h.toNat) (σ.set l .dead++[.row false e sz h.toNat (cs.take (h.toNat*sz))])):=rfl
def qEv (σ : St)(sz:Nat)(a b:A)(J:A→St→Prop):Prop:=match a,b with
 | .row l n,.lit (.int _ h)=>qAd σ[l]? σ l n sz h J
 | _,_=>False
@[simp] theorem qLe {l n sz:Nat}{k:IntKind}{h:Int}{J:A→St→Prop}:qEv σ sz (.row l n) (.lit (.int k h)) J=qAd σ[l]? σ l n sz h J:=rfl
@[simp] theorem qOj {sz:Nat}:wpO P Qp K' (.shr d x sz y) env σ = qEv σ sz (ev env x) (ev env y) fun r τ=>K' (env.put d r) τ:=by simp only[wpO,qEv,qAd];generalize ev env x=a;generalize ev env y=b;cases a<;>cases b<;>first | rfl | (rename_i v; cases v<;>rfl)
def zY7 (ob:Option AObj) (σ : St)(e:TypeId)(sz bytes:Nat)(l n o k c m:Nat)(ys:List A)(J:A→St→Prop):Prop:=match ob with
 | some (.row false e' s n' cs)=>(ys.length=m*sz∧m≠0∧n=n'∧e'=e∧s=sz∧c=sz∧o+k*sz=n*sz∧n+m≤maxLen∧(n+m)*bytes≤140737488355328) ∧
  J (.win l (n+m) o (k+m) sz) (σ.set l (.row false e sz (n+m) (cs++ys)))∧J (.win σ.length (k+m) 0 (k+m) sz) (σ++[.row false e sz (k+m) (cs.drop o++ys)])
 | _=>False
@[simp] theorem qEZ {e':TypeId}{s n':Nat}{cs:List A}{e:TypeId}{sz bytes l n o k c m:Nat}{ys:List A}{J:A→St→Prop}:zY7 (some (.row false e' s n' cs)) σ e sz bytes l n o k c m ys J=((ys.length=m*sz∧m≠0∧n=n'∧e'=e∧s=sz∧c=sz∧o+k*sz=n*sz∧n+m≤maxLen∧(n+m)*bytes≤140737488355328) ∧
 J (.win l (n+m) o (k+m) sz) (σ.set l (.row false e sz (n+m) (cs++ys)))∧J (.win σ.length (k+m) 0 (k+m) sz) (σ++[.row false e sz (k+m) (cs.drop o++ys)])):=rfl
def qCy (σ : St)(e:TypeId)(sz bytes:Nat)(el:Option (Nat×List A))(a:A)(J:A→St→Prop):Prop:=match el,a with
 | some (m,ys),.win l n o k c=>zY7 σ[l]? σ e sz bytes l n o k c m ys J
 | _,_=>False
@[simp] theorem qHK {e:TypeId}{sz bytes l n o k c m:Nat}{ys:List A}{J:A→St→Prop}:qCy σ e sz bytes (some (m,ys)) (.win l n o k c) J=zY7 σ[l]? σ e sz bytes l n o k c m ys J:=rfl
@[simp] theorem qNR {e:TypeId}{sz bytes:Nat}:wpO P Qp K' (.apq d e sz bytes x y) env σ = qCy σ e sz bytes (zB0 σ sz (ev env y)) (ev env x) fun r τ=>K' (env.put d r) τ:=by simp only[wpO,qCy,zY7];generalize zB0 σ sz (ev env y)=el;generalize ev env x=a;cases el<;>cases a<;>rfl
def zUR (σ : St)(a:A)(neg:Bool)(J:A→Prop):Prop:=match a with
 | .nil=>J (.lit (.bool !neg))
 | .sl n _=>J (.lit (.bool neg))∧(n=0→J (.lit (.bool !neg)))
 | .row l n=>(match σ[l]? with
  | some (.row _ _ _ m _)=>n=m∧J (.lit (.bool neg))∧(n=0→J (.lit (.bool !neg)))
  | _=>False)
 | _=>False
@[simp] theorem qJO {neg:Bool}{J:A→Prop}:zUR σ .nil neg J=J (.lit (.bool !neg)):=rfl
@[simp] theorem qMV {neg:Bool}{n:Nat}{cs:List A}{J:A→Prop}:zUR σ (.sl n cs) neg J=(J (.lit (.bool neg))∧(n=0→J (.lit (.bool !neg)))):=rfl
@[simp] theorem qOb {neg:Bool}:wpO P Qp K' (.isz d neg x) env σ = zUR σ (ev env x) neg fun r=>K' (env.put d r) σ:=by simp only[wpO,zUR];cases ev env x<;>rfl
@[simp] theorem qNZ {neg:Bool}:wpO P Qp K' (.isn d neg x) env σ = zUQ (ev env x) neg fun r=>K' (env.put d r) σ:=zXv (d:=d)
@[simp] theorem qF3 {cs:List A}:zBo cs []=some cs:=rfl
def qB1 (c:Option (List A))(o s:Nat)(cs:List A)(rest:List (Nat×Nat×A)):Option (List A):=match c with
 | some l=>if l.length=s∧o+s≤cs.length then zBo (cs.take o++l++cs.drop (o+s)) rest else none
 | none=>none
@[simp] theorem qDw {l:List A}{o s:Nat}{cs:List A}{rest:List (Nat×Nat×A)}:qB1 (some l) o s cs rest=if l.length=s∧o+s≤cs.length then zBo (cs.take o++l++cs.drop (o+s)) rest else none:=rfl
@[simp] theorem qDv {cs:List A}{o s:Nat}{a:A}{rest:List (Nat×Nat×A)}:zBo cs ((o,s,a)::rest)=qB1 (cellsOf a) o s cs rest:=rfl
def elP (σ : St)(sz:Nat)(a:A)(J:Nat→List A→Prop):Prop:=match zB0 σ sz a with
 | some (m,ys)=>ys.length=m*sz∧J m ys
 | none=>False
@[simp] theorem qMI {sz:Nat}{J:Nat→List A→Prop}:elP σ sz .nil J=J 0 []:=by simp[elP,zB0]
@[simp] theorem qQk {sz n:Nat}{cs:List A}{J:Nat→List A→Prop}:elP σ sz (.sl n cs) J=(cs.length=n*sz∧J n cs):=rfl
@[simp] theorem qMH {sz n:Nat}{cs:List A}{J:Nat→List A→Prop}:elP σ sz (.fsl n cs) J=(cs.length=n*sz∧J n cs):=rfl
@[simp] theorem qMJ {sz l n:Nat}{J:Nat→List A→Prop}:elP σ sz (.row l n) J=qBX σ[l]? n sz fun cs=>cs.length=n*sz∧J n cs:=by
 simp only[elP,zB0];cases σ[l]? with
 | none=>rfl
 | some o =>
  cases o<;>try rfl
  rename_i fz e s m cs;by_cases h:n=m∧s=sz
  ·simp[h]
  ·simp only[h,if_false,zS5,eq_iff_iff,false_iff];rintro⟨h1,h2,_⟩;exact h ⟨h1,h2⟩
def zVT (d:Option Nat)(K':Env→St→Prop)(env:Env) (σ : St)(e:TypeId)(sz bytes m:Nat)(ys:List A):A→Prop
 | .nil=>(m≤maxLen∧m*bytes≤140737488355328)∧K' (env.put d (.row σ.length m)) (σ++[AObj.row false e sz m ys])
 | .row l n=>(match σ[l]? with
  | some (.row fz e' s n' cs)=>if n=n'∧e'=e∧s=sz then (n+m≤maxLen∧(n+m)*bytes≤140737488355328)∧K' (env.put d (.row l (n+m))) (σ.set l (.row fz e sz (n+m) (cs++ys))) else False
  | _=>False)
 | .fsl n cs=>cs.length=n*sz∧(m=0→K' (env.put d (.fsl n cs)) σ)∧(m≠0→(n+m≤maxLen∧(n+m)*bytes≤140737488355328)∧K' (env.put d (.row σ.length (n+m))) (σ++[AObj.row false e sz (n+m) (cs++ys)]))
 | _=>False
@[simp] theorem qHI {e:TypeId}{sz bytes m:Nat}{ys:List A}:zVT d K' env σ e sz bytes m ys .nil=((m≤maxLen∧m*bytes≤140737488355328)∧K' (env.put d (.row σ.length m)) (σ++[AObj.row false e sz m ys])):=rfl
@[simp] theorem qHH {e:TypeId}{sz bytes m n:Nat}{ys cs:List A}:zVT d K' env σ e sz bytes m ys (.fsl n cs)=(cs.length=n*sz∧(m=0→K' (env.put d (.fsl n cs)) σ)∧(m≠0→(n+m≤maxLen∧(n+m)*bytes≤140737488355328)∧K' (env.put d (.row σ.length (n+m))) (σ++[AObj.row false e sz (n+m) (cs++ys)]))):=rfl
def qBY:Option AObj→Nat→TypeId→Nat→(Bool→List A→Prop)→Prop
 | some (.row fz e' s n' cs),n,e,sz,J=>(n=n'∧e'=e∧s=sz)∧J fz cs
 | _,_,_,_,_=>False
@[simp] theorem qEo {fz:Bool}{e' e:TypeId}{s n' n sz:Nat}{cs:List A}{J:Bool→List A→Prop}:qBY (some (.row fz e' s n' cs)) n e sz J=((n=n'∧e'=e∧s=sz)∧J fz cs):=rfl
@[simp] theorem qHJ {e:TypeId}{sz bytes m l n:Nat}{ys:List A}:zVT d K' env σ e sz bytes m ys (.row l n)=qBY σ[l]? n e sz fun fz cs=>(n+m≤maxLen∧(n+m)*bytes≤140737488355328)∧K' (env.put d (.row l (n+m))) (σ.set l (.row fz e sz (n+m) (cs++ys))):=by
 simp only[zVT];cases σ[l]? with
 | none=>rfl
 | some o =>
  cases o<;>try rfl
  rename_i fz e' s n' cs;by_cases h:n=n'∧e'=e∧s=sz
  ·simp[h]
  ·simp[h]
@[simp] theorem qNQ {e:TypeId}{sz bytes:Nat}:wpO P Qp K' (.app d e sz bytes x y) env σ = elP σ sz (ev env y) fun m ys=>zVT d K' env σ e sz bytes m ys (ev env x):=by
 simp only[wpO,elP];cases zB0 σ sz (ev env y)with
 | none=>rfl
 | some r =>
  obtain⟨m,ys⟩:=r;simp only;generalize ev env x=a;cases a<;>rfl
def zWl (P:Program)(Qp:Value→Env→St→Prop)(K':Env→St→Prop)(d:Option Nat)(f:A)(args:List A)(env:Env) (σ : St):Prop:=match f with
 | .clo g first cap=>zB P g=true∧zAi P g (first++args++cap) σ (zHB d env K' Qp)
 | .lit (.func (.yield b) ⟨[]⟩ ⟨[]⟩)=>zC0 P b args σ (zHB d env K' Qp)
 | _=>False
@[simp] theorem qIY {b:Nat}{args:List A}:zWl P Qp K' d (yv b) args env σ = zC0 P b args σ (zHB d env K' Qp):=rfl
@[simp] theorem qFm {g:FuncId}{first cap args:List A}:zWl P Qp K' d (.clo g first cap) args env σ = (zB P g=true∧zAi P g (first++args++cap) σ (zHB d env K' Qp)):=rfl
@[simp] theorem qLF {args:List Operand}:wpO P Qp K' (.call d x args) env σ = zWl P Qp K' d (ev env x) (args.map (ev env)) env σ:=rfl
@[simp] theorem qFg:zAI []=[]:=rfl
@[simp] theorem qFf {cs:List A}:zAI (.box cs::σ)=.box cs::zAI σ:=rfl
@[simp] theorem qFh {fz:Bool}{e:TypeId}{sz n:Nat}{cs:List A}:zAI (.row fz e sz n cs::σ)=.dead::zAI σ:=rfl
@[simp] theorem qIc {fr:Bool}{nk:Nat}{es:List (List Int×A)}:zAI (.mp fr nk es::σ)=.dead::zAI σ:=rfl
@[simp] theorem qFi:zAI (.rsv::σ)=.dead::zAI σ:=rfl
@[simp] theorem qIa {m n:Nat}{met:List Nat}:zAI (.it m n met::σ)=.dead::zAI σ:=rfl
@[simp] theorem qIb {b M:Nat}{r:Loop}{es:List (Nat×A)}:zAI (.lp b r M es::σ)=.dead::zAI σ:=rfl
theorem zHV {σ τ : St}:zAI (σ++τ)=zAI σ++zAI τ:=by
 induction σ with
 | nil=>rfl
 | cons o σ ih=>cases o<;>simp[zAI,ih]
@[simp] theorem zYC {σ : St}:(zAI σ).length = σ.length:=by
 induction σ with
 | nil=>rfl
 | cons o σ ih=>cases o<;>simp[zAI,ih]
@[simp] theorem qGo {σ : St}:zDe 0 σ = σ:=rfl
@[simp] theorem qLa {σ : St}:zDe 1 σ = zAI σ:=rfl
@[simp] theorem qLc {σ : St}:zDe 2 σ = []:=rfl
variable {fl k:Nat}
@[simp] theorem qKL {v:Value}:zLM Q v σ = ∀e,Q (.pan v) e σ:=rfl
@[simp] theorem qNK:wpD P Qd K' [] env σ = K' env σ:=by simp only[wpD]
@[simp] theorem qQ9 {o:KOp}:zBe 0 o env=True:=rfl
@[simp] theorem qQA {o:KOp}:zBe 1 o env=True:=rfl
@[simp] theorem qQB {o:KOp}:zBe 2 o env=True:=rfl
@[simp] theorem qQC {o:KOp}:zBe 3 o env=True:=rfl
@[simp] theorem qQD {o:KOp}:zBe 4 o env=True:=rfl
@[simp] theorem qQE {n:Nat}:zBe 5 (.st d x y n) env=zNy (ev env x):=rfl
@[simp] theorem qQF {n:Nat}:zBe 6 (.st d x y n) env=zNz (ev env x):=rfl
@[simp] theorem qN0 {n:Nat}:zBe 6 (.idx d x y n) env=isRow (ev env x):=rfl
@[simp] theorem qF9 {l o:Nat}:zNy (.ptr l o)=True:=rfl
@[simp] theorem qFB {l n o:Nat}:zNz (.rwp l n o)=True:=rfl
@[simp] theorem qFA {l n:Nat}:isRow (.row l n)=True:=rfl
@[simp] theorem qLb {σ : St}:zDe 6 σ = σ:=rfl
@[simp] theorem qL3 {o:KOp}{l:List (Nat×Nat×KG)}:wpD P Qd K' ((k,fl,⟨none,o⟩)::l) env σ = (zBe fl o env∧jJ P Qd fl (wpD P Qd K' l) o env σ):=rfl
@[simp] theorem qGE {s:Nat}{want:Bool}{o:KOp}{l:List (Nat×Nat×KG)}:wpD P Qd K' ((k,fl,⟨some (s,want),o⟩)::l) env σ = (zBe fl o env∧zJm (env s) want (jJ P Qd fl (wpD P Qd K' l) o) (zG1 o.dst (wpD P Qd K' l)) env σ):=by
 simp only[wpD,zSN,zJm];generalize env s=a;cases a<;>try rfl
 all_goals (rename_i v; cases v<;>rfl)
@[simp] theorem qEN:jJ P Qd fl K' (.pick d x y z) env σ = wpO P zAQ K' (.pick d x y z) env σ:=by simp[jJ,KOp.lite,KOp.keeps]
@[simp] theorem qEJ {e sz n:Nat}{zs:List Value}{ps:List (Nat×Nat×Operand)}:jJ P Qd fl K' (.brow d e sz n zs ps) env σ = wpO P zAQ K' (.brow d e sz n zs ps) env σ:=by simp[jJ,KOp.lite,KOp.keeps]
@[simp] theorem qGT {m:MOp}{xs:List Operand}:jJ P Qd fl K' (.mop d m xs) env σ = (match zSo m (xs.map (ev env)) σ with
 | some (r,σ')=>K' (env.put d r) σ'
 | none=>False):=rfl
@[simp] theorem qGQ {ng:Bool}:jJ P Qd fl K' (.isp d ng x) env σ = wpO P zAQ K' (.isp d ng x) env σ:=by simp[jJ,KOp.lite,KOp.keeps]
@[simp] theorem qGS {t:TypeId}:jJ P Qd fl K' (.mki d t x) env σ = wpO P zAQ K' (.mki d t x) env σ:=by simp[jJ,KOp.lite,KOp.keeps]
@[simp] theorem qGU:jJ P Qd fl K' (.mov d x) env σ = wpO P zAQ K' (.mov d x) env σ:=by simp[jJ,KOp.lite,KOp.keeps]
@[simp] theorem qAs {len sz:Nat}:jJ P Qd fl K' (.idxarr d x y len sz) env σ = wpO P zAQ K' (.idxarr d x y len sz) env σ:=by simp[jJ,KOp.lite,KOp.keeps]
@[simp] theorem qGH {op:BinOp}:jJ P Qd fl K' (.bin d op x y) env σ = wpO P zAQ K' (.bin d op x y) env σ:=by simp[jJ,KOp.lite,KOp.keeps]
@[simp] theorem qGL {k:SK}{ng:Bool}:jJ P Qd fl K' (.eqv d ng k x y) env σ = wpO P zAQ K' (.eqv d ng k x y) env σ:=by simp[jJ,KOp.lite,KOp.keeps]
@[simp] theorem qGK {ks:List SK}{ng:Bool}:jJ P Qd fl K' (.eqs d ng ks x y) env σ = wpO P zAQ K' (.eqs d ng ks x y) env σ:=by simp[jJ,KOp.lite,KOp.keeps]
@[simp] theorem qGV:jJ P Qd fl K' (.neg d x) env σ = wpO P zAQ K' (.neg d x) env σ:=by simp[jJ,KOp.lite,KOp.keeps]
@[simp] theorem qGW:jJ P Qd fl K' (.not d x) env σ = wpO P zAQ K' (.not d x) env σ:=by simp[jJ,KOp.lite,KOp.keeps]
@[simp] theorem qL6 {mx:Bool}{xs:List Operand}:jJ P Qd fl K' (.mm d mx xs) env σ = wpO P zAQ K' (.mm d mx xs) env σ:=by simp[jJ,KOp.lite,KOp.keeps]
@[simp] theorem qEL:jJ P Qd fl K' (.len d true x) env σ = wpO P zAQ K' (.len d true x) env σ:=by simp[jJ,KOp.lite,KOp.keeps]
@[simp] theorem qGM {i:Nat}:jJ P Qd fl K' (.ext d x i) env σ = wpO P zAQ K' (.ext d x i) env σ:=by simp[jJ,KOp.lite,KOp.keeps]
@[simp] theorem qGJ {f:FuncId}{a b:List Operand}:jJ P Qd fl K' (.clo d f a b) env σ = wpO P zAQ K' (.clo d f a b) env σ:=by simp[jJ,KOp.lite,KOp.keeps]
@[simp] theorem qGX {sz:Nat}{lo hi mx:Option Operand}:jJ P Qd fl K' (.slc d x sz lo hi mx) env σ = wpO P zAQ K' (.slc d x sz lo hi mx) env σ:=by simp[jJ,KOp.lite,KOp.keeps]
@[simp] theorem qCg {zs:List Value}{ps:List (Nat×Nat×Operand)}:jJ P Qd fl K' (.build d zs ps) env σ = wpO P zAQ K' (.build d zs ps) env σ:=by simp[jJ,KOp.lite,KOp.keeps]
@[simp] theorem qAr {e:TypeId}{sz n:Nat}{zs:List Value}{ps:List (Nat×Nat×Operand)}:jJ P Qd fl K' (.bslice d e sz n zs ps) env σ = wpO P zAQ K' (.bslice d e sz n zs ps) env σ:=by simp[jJ,KOp.lite,KOp.keeps]
@[simp] theorem qCf {zs:List Value}:jJ P Qd fl K' (.alloc d zs) env σ = wpO P zAQ K' (.alloc d zs) env σ:=by simp[jJ,KOp.lite,KOp.keeps]
@[simp] theorem qGI:jJ P Qd fl K' (.box d x) env σ = wpO P zAQ K' (.box d x) env σ:=by simp[jJ,KOp.lite,KOp.keeps]
@[simp] theorem qL7 {n:Nat}:jJ P Qd fl K' (.st d x y n) env σ = wpO P zAQ K' (.st d x y n) env σ:=by simp[jJ,KOp.lite,KOp.keeps]
@[simp] theorem qGG {e:TypeId}{sz bytes:Nat}:jJ P Qd fl K' (.app d e sz bytes x y) env σ = wpO P zAQ K' (.app d e sz bytes x y) env σ:=by simp[jJ,KOp.lite,KOp.keeps]
@[simp] theorem qGN {off n:Nat}{agg:Bool}:jJ P Qd fl K' (.fld d x off n agg) env σ = wpO P zAQ K' (.fld d x off n agg) env σ:=by simp[jJ,KOp.lite,KOp.keeps]
@[simp] theorem qL4 {len sz:Nat}{agg:Bool}:jJ P Qd fl K' (.ix d x y len sz agg) env σ = wpO P zAQ K' (.ix d x y len sz agg) env σ:=by simp[jJ,KOp.lite,KOp.keeps]
@[simp] theorem qGP {ng:Bool}:jJ P Qd fl K' (.isn d ng x) env σ = wpO P zAQ K' (.isn d ng x) env σ:=by simp[jJ,KOp.lite,KOp.keeps]
@[simp] theorem qL5 {n:Nat}{agg:Bool}:jJ P Qd fl K' (.ld d x n agg) env σ = zD1 ((ldA (zDe fl σ) n (ev env x)).bind (zBA agg)) fun r=>K' (env.put d r) σ:=zEF
@[simp] theorem qEI {off:Nat}:jJ P Qd fl K' (.addr d x off) env σ = zD1 (zHN (zDe fl σ) off (ev env x)) fun r=>K' (env.put d r) σ:=by show qW (zJ env (zDe fl σ) (.addr d x off)) _=_;rw[zHn,zEF]; rfl
@[simp] theorem qGO {sz:Nat}:jJ P Qd fl K' (.idx d x y sz) env σ = zGh (zDe fl σ) sz (ev env x) (ev env y) fun r=>K' (env.put d r) σ:=zNx (d:=d)
def zM3 (σ : St)(a:A)(J:A→Prop):Prop:=match a with
 | .nil=>J (.lit (.int .i64 0))
 | .sl n _=>J (.lit (.int .i64 n))
 | .fsl n _=>J (.lit (.int .i64 n))
 | .row l n=>match σ[l]? with
  | some (.row _ _ _ m _)=>if n=m then J (.lit (.int .i64 n)) else False
  | _=>False
 | .win l n _ k _=>match σ[l]? with
  | some (.row _ _ _ m _)=>if n=m then J (.lit (.int .i64 k)) else False
  | _=>False
 | _=>False
@[simp] theorem qJY {J:A→Prop}:zM3 σ .nil J=J (.lit (.int .i64 0)):=rfl
@[simp] theorem qMY {n:Nat}{cs:List A}{J:A→Prop}:zM3 σ (.sl n cs) J=J (.lit (.int .i64 n)):=rfl
@[simp] theorem qJX {n:Nat}{cs:List A}{J:A→Prop}:zM3 σ (.fsl n cs) J=J (.lit (.int .i64 n)):=rfl
def zSd (o:Option AObj)(n:Nat)(J:A→Prop):Prop:=match o with
 | some (.row _ _ _ m _)=>if n=m then J (.lit (.int .i64 n)) else False
 | _=>False
@[simp] theorem qB9 {fz:Bool}{e:TypeId}{s m n:Nat}{cs:List A}{J:A→Prop}:zSd (some (.row fz e s m cs)) n J=if n=m then J (.lit (.int .i64 n)) else False:=rfl
@[simp] theorem qJZ {l n:Nat}{J:A→Prop}:zM3 σ (.row l n) J=zSd σ[l]? n J:=by simp only[zM3,zSd]
theorem zUU {τ : St}{J:A→Prop}:qW (zJ env τ (.len d false x)) J=zM3 τ (ev env x) J:=by
 simp only[zM3,zJ];generalize ev env x=a;cases a<;>simp only[qW,true_and]
 ·rename_i l n;cases τ[l]? with
  | none=>rfl
  | some ob =>
   cases ob<;>try rfl
   rename_i fz e s m cs;by_cases h:n=m<;>simp[h]
 ·rename_i l n _ k _;cases τ[l]? with
  | none=>rfl
  | some ob =>
   cases ob<;>try rfl
   rename_i fz e s m cs;by_cases h:n=m<;>simp[h]
@[simp] theorem qGR:jJ P Qd fl K' (.len d false x) env σ = zM3 (zDe fl σ) (ev env x) fun r=>K' (env.put d r) σ:=by show qW (zJ env (zDe fl σ) (.len d false x)) _=_;exact zUU
def zFS (P:Program)(Qd:Value→St→Prop)(fl:Nat) (σ : St)(d:Option Nat)(K':Env→St→Prop)(f:A)(args:List A)(env:Env):Prop:=zYt P Qd fl σ d K' f args env
@[simp] theorem qEK {args:List Operand}:jJ P Qd fl K' (.call d x args) env σ = zFS P Qd fl σ d K' (ev env x) (args.map (ev env)) env:=rfl
@[simp] theorem qM9 {g:FuncId}{first cap args:List A}:zFS P Qd 0 σ d K' (.clo g first cap) args env=(zB P g=true∧zOX P σ d (fun e=>K' e σ) g (first++args++cap) env):=rfl
@[simp] theorem qMA {g:FuncId}{first cap args:List A}:zFS P Qd 1 σ d K' (.clo g first cap) args env=(zB P g=true∧zIJ P σ d (fun e=>K' e σ) g (first++args++cap) env):=rfl
@[simp] theorem qMB {g:FuncId}{first cap args:List A}:zFS P Qd 3 σ d K' (.clo g first cap) args env=(zB P g=true∧zIK P σ d K' g (first++args++cap) env):=rfl
@[simp] theorem qMD {g:FuncId}{first cap args:List A}:zFS P Qd 7 σ d K' (.clo g first cap) args env=(zB P g=true∧zRe P σ d K' g (first++args++cap) env):=rfl
@[simp] theorem qME {g:FuncId}{first cap args:List A}:zFS P Qd 8 σ d K' (.clo g first cap) args env=(zB P g=true∧zRf P σ d K' g (first++args++cap) env):=rfl
@[simp] theorem qIV {g:FuncId}{first cap args:List A}:zFS P Qd 10 σ d K' (.clo g first cap) args env=(zB P g=true∧zIL P Qd σ d K' g (first++args++cap) env):=rfl
@[simp] theorem qIW {g:FuncId}{first cap args:List A}:zFS P Qd 11 σ d K' (.clo g first cap) args env=(zB P g=true∧zMp P σ d K' g (first++args++cap) env):=rfl
@[simp] theorem qMF {n:Nat}{g:FuncId}{first cap args:List A}(h1:11<n):zFS P Qd n σ d K' (.clo g first cap) args env=(zB P g=true∧(if 1000≤n∧n<2000 then zMo P (n-1000) σ d K' g (first++args++cap) env else if 3000≤n∧n<4000 then zRd P (n-3000) σ d K' g (first++args++cap) env else zIM P σ d K' g (first++args++cap) env)):=by obtain⟨m,rfl⟩:∃m,n=m+12:=⟨n-12,by omega⟩;rfl
@[simp] theorem qMC {g:FuncId}{first cap args:List A}:zFS P Qd 4 σ d K' (.clo g first cap) args env=(zB P g=true∧zIM P σ d K' g (first++args++cap) env):=rfl
@[simp] theorem qIX {b:Nat}{args:List A}:zFS P Qd 4 σ d K' (yv b) args env = ∃r σ',(zC0 P b args σ fun o τ=>o=.ret r∧τ = σ')∧K' (env.put d r) σ':=by show (4=4∧_)=_;simp
theorem jE {t:Bool}{A B:Env→St→Prop}(h1:t=true→A env σ)(h2:t=false→B env σ):zFB t A B env σ:=⟨h1,h2⟩
theorem zZ6 {S:Type}{W:(Ex→Env→St→Prop)→Env→St→Prop}(E:S→List (Nat×A))(T:S→St)(I:S→Prop) (μ : S→Nat)(s0:S)(h0:I s0)(start:zAD n0 (qN (E s0)) (T s0) env σ)
 (round:∀s,I s→W (rnd n0 (fun n e t=>∃s,I s∧μ s=n∧e=qN (E s)∧t=T s) (μ s) Q) (qN (E s)) (T s)):zPc n0 W Q env σ:=by
 refine⟨fun n e t=>∃s,I s∧μ s=n∧e=qN (E s)∧t=T s,⟨μ s0,_,_,start,s0,h0,rfl,rfl,rfl⟩,?_⟩;rintro n e t ⟨s,hs,rfl,rfl,rfl⟩;exact round s hs
theorem qEk {S:Type}{E:S→List (Nat×A)}{T:S→St}{I:S→Prop} {μ : S→Nat}{n:Nat}(s:S)(hs:I s)(hm : μ s<n)(hw:zAD n0 (qN (E s)) (T s) env σ) :
 rnd n0 (fun n e t=>∃s,I s∧μ s=n∧e=qN (E s)∧t=T s) n Q .norm env σ:=⟨μ s,hm,_,_,hw,s,hs,rfl,rfl,rfl⟩
theorem zIX {l:List (Nat×A)} {σ' τ : St}(he : σ = σ'++τ)(hn:n0≤σ'.length)(hl:∀p∈l,env p.1=p.2)(hb:∀p∈l,p.2.bnd σ'.length=true)(ho:∀o∈σ',o.bnd σ'.length=true) :
 zAD n0 (qN l) σ' env σ:=by
 subst he;exact zAD.cut l hn hl hb ho
@[simp] theorem qDN {i t:Nat}{a:A}{l:List (Nat×A)}:qN ((i,a)::l) t=if t=i then a else qN l t:=rfl
@[simp] theorem qFF {t:Nat}:qN [] t=.any:=rfl
end
end Go.Abs
namespace Go.Abs
def zUp (o k c:Nat):A→A
 | .sl _ cs=>if k=0 then .sl 0 [] else .sl k ((cs.drop o).take (k*c))
 | _=>.any
mutual
def vw (rf:Bool→Nat→Nat→A)(g:Nat→Option Nat):A→A
 | .ptr l o=>match g l with
  | some i=>.ptr i o
  | none=>rf true l o
 | .row l n=>match g l with
  | some i=>.row i n
  | none=>rf false l n
 | .rwp l n o=>match g l with
  | some i=>.rwp i n o
  | none=>.any
 | .map l=>match g l with
  | some i=>.map i
  | none=>.any
 | .win l n o k c=>match g l with
  | some i=>.win i n o k c
  | none=>zUp o k c (rf false l n)
 | .agg cs=>.agg (vwL rf g cs)
 | .tup cs=>.tup (vwL rf g cs)
 | .sl n cs=>.sl n (vwL rf g cs)
 | .fsl n cs=>.fsl n (vwL rf g cs)
 | .rptr cs=>.rptr (vwL rf g cs)
 | .clo f a b=>.clo f (vwL rf g a) (vwL rf g b)
 | .any=>.any
 | .nil=>.nil
 | .lit v=>.lit v
def vwL (rf:Bool→Nat→Nat→A)(g:Nat→Option Nat):List A→List A
 | []=>[]
 | c::cs=>vw rf g c::vwL rf g cs
end
def seen (σ : St)(g:Nat→Option Nat):Nat→Bool→Nat→Nat→A
 | 0,_,_,_=>.any
 | k+1,false,l,n=>match σ[l]? with
  | some (.row _ _ _ m cs)=>if n=m then .sl n (vwL (seen σ g k) g cs) else .any
  | _=>.any
 | k+1,true,l,o=>match σ[l]? with
  | some (.box cs)=>.rptr ((vwL (seen σ g k) g cs).drop o)
  | _=>.any
def vwO (rf:Bool→Nat→Nat→A)(g:Nat→Option Nat):AObj→AObj
 | .dead=>.dead
 | .box cs=>.box (vwL rf g cs)
 | .row fz e sz n cs=>.row fz e sz n (vwL rf g cs)
 | .lp b r M es=>.lp b r M (es.map fun p=>(p.1,vw rf g p.2))
 | .mp fr nk es=>.mp fr nk (es.map fun p=>(p.1,vw rf g p.2))
 | .it m n met=>match g m with
  | some i=>.it i n met
  | none=>.dead
 | .rsv=>.rsv
def zGW:AObj→AObj
 | .dead=>.dead
 | .box cs=>.box (jF cs)
 | .row fz e sz n cs=>.row fz e sz n (jF cs)
 | .lp b r M es=>.lp b r M (es.map fun p=>(p.1,nrm0 p.2))
 | .mp fr nk es=>.mp fr nk (es.map fun p=>(p.1,nrm0 p.2))
 | .it m n met=>.it m n met
 | .rsv=>.rsv
def zY:List Nat→Nat→Option Nat
 | [],_=>none
 | k::ks,l=>if l=k then some 0 else (zY ks l).map (· + 1)
theorem zJz:∀{ks:List Nat} {l i:Nat},zY ks l=some i→ks[i]?=some l
 | [],l,i,h=>by simp[zY]at h
 | k::ks,l,i,h=>by
  simp only[zY]at h;split at h
  ·cases h; rename_i h; simp[h]
  ·simp only[jAb]at h;obtain⟨j,hj,rfl⟩:=h
   simpa using zJz hj
theorem zLO:∀{ks:List Nat} {l:Nat},zY ks l=none→l∉ks
 | [],l,_=>by simp
 | k::ks,l,h=>by
  simp only[zY]at h;split at h
  ·cases h
  ·rename_i hne;simp only[Option.map_eq_none_iff]at h;simp[hne,zLO h]
section
variable {P:Program}{H H':Mem}{L L':List LI} {σ : St}{w:World}
theorem zJv:∀{ks:List Nat} {i j x:Nat},ks.Nodup→ks[i]?=some x→ks[j]?=some x→i=j
 | [],i,j,x,_,h,_=>by simp at h
 | k::ks,i,j,x,hd,h1,h2=>by
  rw[jD3]at hd;cases i with
  | zero =>
   cases j with
   | zero=>rfl
   | succ j =>
    simp only[jAx,jBc,jA0]at h1 h2;subst h1;exact(hd.1 (jC1 h2)).elim
  | succ i =>
   cases j with
   | zero =>
    simp only[jAx,jBc,jA0]at h1 h2;subst h2;exact(hd.1 (jC1 h1)).elim
   | succ j =>
    simp only[jBc]at h1 h2;rw[zJv hd.2 h1 h2]
mutual
theorem Rel.vw {rf:Bool→Nat→Nat→A}{g:Nat→Option Nat}(hh:HLe H H')(hg:∀l i,g l=some i→L'[i]?=L[l]?)(hr:∀l n v,g l=none→Rel H L (.row l n) v→Rel H' L' (rf false l n) v)(hp:∀l n v,g l=none→Rel H L (.ptr l n) v→Rel H' L' (rf true l n) v) :
 ∀(a:A) {v:Value},Rel H L a v→Rel H' L' (vw rf g a) v
 | .ptr l o,v,h=>by
  simp only[Abs.vw];split
  ·rename_i i hi;simp only[Rel]at h⊢;rw[hg l i hi];exact h
  ·rename_i hi;exact hp l o v hi h
 | .row l n,v,h=>by
  simp only[Abs.vw];split
  ·rename_i i hi;simp only[Rel]at h⊢;rw[hg l i hi];exact h
  ·rename_i hi;exact hr l n v hi h
 | .rwp l n o,v,h=>by
  simp only[Abs.vw];split
  ·rename_i i hi;simp only[Rel]at h⊢;rw[hg l i hi];exact h
  ·simp[Rel]
 | .map l,v,h=>by
  simp only[Abs.vw];split
  ·rename_i i hi;simp only[Rel]at h⊢;rw[hg l i hi];exact h
  ·simp[Rel]
 | .win l n o k c,v,h=>by
  simp only[Abs.vw];split
  ·rename_i i hi;simp only[Rel]at h⊢;rw[hg l i hi];exact h
  ·rename_i hi;simp only[Rel]at h;obtain⟨h0,li,e,h1,h2,h3⟩:=h;by_cases hn:n=li.len
   ·obtain⟨g0,ad,cap,rfl,g1,g2,g3⟩:=h3 hn;have h4:=hr l n (match li.block with | none=>.slice none 0 0 | some b=>.slice (some ⟨b,0,none⟩) n li.cap) hi (by
     simp only[Rel];exact⟨by split<;>rfl,li,e,h1,h2,fun _=>rfl⟩)
    generalize rf false l n=x at h4;cases x<;>simp only[zUp]<;>try (simp only[Rel]; done)
    rename_i n' cs;split
    ·rename_i hk;subst hk;simp only[Rel];exact⟨ad,cap,rfl,jAy _,g2,.inl (by simp)⟩
    ·rename_i hk;replace g3:=zTV g1 g3;rcases g3 with g3 | ⟨b,g3,rfl⟩
     ·exact(hk g3).elim
     ·simp only[g3,Rel]at h4 ⊢;obtain⟨a',cap',k1,k2,k3,k4⟩:=h4;simp only[Value.slice.injEq]at k1;obtain⟨rfl,rfl,rfl⟩:=k1;refine⟨_,cap,rfl,g1,g2,?_⟩;rcases k4 with ⟨rfl,rfl⟩ | ⟨b',o',us,k5,k6,k7,k8⟩
      ·omega
      ·cases k5;refine .inr ⟨b,o,_,rfl,(k6.drop o).take (k*c),zBj k7,?_⟩;have:=(k8.drop o).take (k*c)
       rwa [jAr]at this
   ·have h4:=hr l n (.bool true) hi (by
     simp only[Rel];exact⟨rfl,li,e,h1,h2,fun e=>(hn e).elim⟩)
    generalize rf false l n=x at h4;cases x<;>simp only[zUp]<;>try (simp only[Rel]; done)
    simp only[Rel]at h4;obtain⟨_,_,h4,_⟩:=h4;cases h4
 | .agg cs,v,h=>by simp only[Rel,Abs.vw]at h⊢;obtain⟨vs,rfl,h1,h2⟩:=h;exact⟨vs,rfl,zU.vw hh hg hr hp cs h1,h2⟩
 | .tup cs,v,h=>by simp only[Rel,Abs.vw]at h⊢;obtain⟨vs,rfl,h1⟩:=h;exact⟨vs,rfl,zU.vw hh hg hr hp cs h1⟩
 | .sl n cs,v,h=>by
  simp only[Rel,Abs.vw]at h⊢;obtain⟨a,cap,rfl,h1,h2,h3⟩:=h;refine⟨a,cap,rfl,h1,h2,?_⟩;rcases h3 with ⟨h3,rfl⟩ | ⟨b,o,us,rfl,h4,h5,h6⟩
  ·exact .inl ⟨h3,by simp[vwL]⟩
  ·exact .inr ⟨b,o,us,rfl,zU.vw hh hg hr hp cs h4,h5,h6.mono hh⟩
 | .fsl n cs,v,h=>by
  simp only[Rel,Abs.vw]at h⊢;obtain⟨a,rfl,h1,h3⟩:=h;refine⟨a,rfl,h1,?_⟩;rcases h3 with ⟨h3,rfl⟩ | ⟨b,o,us,rfl,h4,h5,h6⟩
  ·exact .inl ⟨h3,by simp[vwL]⟩
  ·exact .inr ⟨b,o,us,rfl,zU.vw hh hg hr hp cs h4,h5,h6.mono hh⟩
 | .rptr cs,v,h=>by simp only[Rel,Abs.vw]at h⊢;obtain⟨b,o,us,rfl,h4,h5,h6⟩:=h;exact⟨b,o,us,rfl,zU.vw hh hg hr hp cs h4,h5,h6.mono hh⟩
 | .clo f first cap,v,h=>by simp only[Rel,Abs.vw]at h⊢;obtain⟨fs,cs,rfl,h1,h2⟩:=h;exact⟨fs,cs,rfl,zU.vw hh hg hr hp first h1,zU.vw hh hg hr hp cap h2⟩
 | .any,_,_=>by simp[Rel,Abs.vw]
 | .nil,_,h=>by simpa [Rel,Abs.vw] using h
 | .lit _,_,h=>by simpa [Rel,Abs.vw] using h
theorem zU.vw {rf:Bool→Nat→Nat→A}{g:Nat→Option Nat}(hh:HLe H H')(hg:∀l i,g l=some i→L'[i]?=L[l]?)(hr:∀l n v,g l=none→Rel H L (.row l n) v→Rel H' L' (rf false l n) v)(hp:∀l n v,g l=none→Rel H L (.ptr l n) v→Rel H' L' (rf true l n) v) :
 ∀(cs:List A) {vs:List Value},zU H L cs vs→zU H' L' (vwL rf g cs) vs
 | [],vs,h=>by simpa [zU,vwL] using h
 | c::cs,vs,h=>by simp only[zU,vwL]at h⊢;obtain⟨u,us,rfl,h1,h2⟩:=h;exact⟨u,us,rfl,Rel.vw hh hg hr hp c h1,zU.vw hh hg hr hp cs h2⟩
end
def AObj.held:AObj→Nat
 | .row _ _ sz n _=>n*sz
 | .box cs=>cs.length
 | _=>0
def zOy (g:Nat→Option Nat)(L:List LI) (σ : St)(b o:Nat):Prop :=
 ∃(i:Nat) (li:LI) (ob:AObj),g i=none∧L[i]?=some li∧σ[i]?=some ob∧li.block=some b∧o<ob.held
open Classical in
noncomputable def zLy (g:Nat→Option Nat) (H:Mem) (L:List LI) (σ : St) (w:World):Mem:=⟨fun b o=>match H b o with
 | some v=>some v
 | none=>if zOy g L σ b o then w.cell? ⟨b,o,none⟩ else none,fun b o v h=>by simp only[H.2 b o v h]⟩
open Classical in
theorem zFr (g:Nat→Option Nat)(H:Mem)(L:List LI) (σ : St)(w:World)(b o:Nat):zLy g H L σ w b o=match H b o with
 | some v=>some v
 | none=>if zOy g L σ b o then w.cell? ⟨b,o,none⟩ else none:=rfl
theorem zFs {g:Nat→Option Nat}:HLe H (zLy g H L σ w):=fun b o v h=>by rw[zFr,h]
theorem zQd {g:Nat→Option Nat}{b o:Nat}{v:Value}(h:zLy g H L σ w b o=some v):H b o=some v∨(zOy g L σ b o∧w.cell? ⟨b,o,none⟩=some v):=by
 rw[zFr]at h;split at h
 ·rename_i u hu; cases h; exact .inl hu
 ·split at h
  ·rename_i hr; exact .inr ⟨hr,h⟩
  ·cases h
theorem zQe {g:Nat→Option Nat}(hs:RelSt H L σ w){b o:Nat}{v:Value}(hx:zOy g L σ b o)(hc:w.cell? ⟨b,o,none⟩=some v):zLy g H L σ w b o=some v:=by
 rw[zFr];split
 ·rename_i x hx;have:=hs.pers b o x hx;rw[hc]at this;exact this.symm
 ·rw[if_pos hx];exact hc
theorem Rel.seen {g:Nat→Option Nat}(hs:RelSt H L σ w)(hg:∀l i,g l=some i→L'[i]?=L[l]?) :
 ∀(k:Nat),(∀(l n:Nat) (v:Value),g l=none→Rel H L (.row l n) v→Rel (zLy g H L σ w) L' (seen σ g k false l n) v)∧∀(l n:Nat) (v:Value),g l=none→Rel H L (.ptr l n) v→Rel (zLy g H L σ w) L' (seen σ g k true l n) v
 | 0=>⟨fun l n v _ _=>by simp[Abs.seen,Rel],fun l n v _ _=>by simp[Abs.seen,Rel]⟩
 | k+1=>by
  obtain⟨ih1,ih2⟩:=Rel.seen hs hg k;refine⟨fun l n v hl h=>?_,fun l n v hl h=>?_⟩
  ·simp only[Abs.seen];split
   ·rename_i fz e sz m cs hσ;split
    ·rename_i hn;subst hn;simp only[Rel]at h⊢;obtain⟨_,li,e1,e2,e3,hv⟩:=h;have hob:=hs.obj l li _ e1 hσ;simp only[zP]at hob;obtain⟨_,g1,g2,hob⟩:=hob;have hv:=hv g1.symm;rcases hob with ⟨hb,h0⟩ | ⟨b,cur,hb,k1,k2,k3,k4,k5,k6,k7⟩
     ·rw[hb]at hv;subst h0;have hcs:cs=[]:=jC3 (by simpa using g2);exact⟨none,0,hv,jA _,jAy _,.inl ⟨rfl,by simp[hcs,vwL]⟩⟩
     ·rw[hb]at hv;refine⟨_,_,hv,k2,k3,.inr ⟨b,0,_,rfl,zU.vw zFs hg ih1 ih2 cs k5,k6,fun j u hu=>?_⟩⟩;have hj:j<n*sz:=by
       rw[jB8]at hu;split at hu
       ·assumption
       ·cases hu
      have hc:w.cell? ⟨b,j,none⟩=some u:=by
       rw[cell_of_row w b j cur e (0,0) k1];rw[jB8,if_pos hj]at hu
       simpa using hu
      simp only[jAr];exact zQe hs ⟨l,li,_,hl,e1,hσ,hb,hj⟩ hc
    ·simp[Rel]
   ·simp[Rel]
  ·simp only[Abs.seen];split
   ·rename_i cs hσ;simp only[Rel]at h⊢;obtain⟨li,b,e1,e2,e3,hv⟩:=h;have hob:=hs.obj l li _ e1 hσ;simp only[zP]at hob;obtain⟨_,b',vs,e,hb',hh,hr,h1,_⟩:=hob;rw[e2]at hb';cases hb';refine⟨b,n,vs.drop n,hv,(zU.vw zFs hg ih1 ih2 cs hr).drop n,fun u hu=>h1 u (jBq hu),fun j u hu=>?_⟩;rw[jD5]at hu;have hlt:n+j<cs.length:=by rw[←hr.length];exact(jA1.1 hu).1
    refine zQe hs ⟨l,li,_,hl,e1,hσ,e2,hlt⟩ ?_;rw[cell_of_row w b _ _ e (0,0) hh]
    simpa using hu
   ·simp[Rel]
def yW (σ : St)(rf:Bool→Nat→Nat→A)(g:Nat→Option Nat):List Nat→St→Prop
 | [],[]=>True
 | j::js,o'::os=>(match σ[j]? with
  | some o=>o'=vwO rf g o∨o'=zGW (vwO rf g o)
  | none=>False)∧yW σ rf g js os
 | _,_=>False
theorem zEM {rf:Bool→Nat→Nat→A}{g:Nat→Option Nat}:∀{ks:List Nat} {σ':St},yW σ rf g ks σ'→σ'.length=ks.length
 | [],[],_=>rfl
 | _::_,_::_,h=>by simp[zEM h.2]
theorem zEL {rf:Bool→Nat→Nat→A}{g:Nat→Option Nat}:∀{ks:List Nat} {σ':St},yW σ rf g ks σ'→∀{i j:Nat} {o':AObj},ks[i]?=some j→σ'[i]?=some o'→∃o,σ[j]?=some o∧(o'=vwO rf g o∨o'=zGW (vwO rf g o))
 | [],[],_,i,j,o',h,_=>by simp at h
 | k::ks,p::σ',h,i,j,o',h1,h2=>by
  cases i with
  | zero =>
   simp only[jAx,jA0]at h1 h2;subst h1; subst h2;have:=h.1;split at this
   ·rename_i o ho; exact⟨o,ho,this⟩
   ·exact this.elim
  | succ i =>
   simp only[jBc]at h1 h2;exact zEL h.2 h1 h2
theorem zP.nrm {li:LI}{o:AObj}(h:zP H L w li o):zP H L w li (zGW o):=by
 cases o with
 | dead=>trivial
 | box cs =>
  simp only[zP,zGW]at h⊢;obtain⟨h0,b,vs,e,h1,h2,h3,h4,h5⟩:=h;exact⟨h0,b,vs,e,h1,h2,zU.nrm0 _ h3,h4,h5⟩
 | row fz e sz n cs =>
  simp only[zP,zGW]at h⊢;obtain⟨h0,h1,h2,h3⟩:=h;have hl:∀cs:List A,(jF cs).length=cs.length:=fun cs=>by induction cs with
   | nil=>rfl
   | cons c cs ih=>simp[jF,ih]
  refine⟨h0,h1,by rw[hl]; exact h2,?_⟩;rcases h3 with h3 | ⟨b,cur,g1,g2,g3,g4,g5,g6,g7,g8⟩
  ·exact .inl h3
  ·exact .inr ⟨b,cur,g1,g2,g3,g4,g5,zU.nrm0 _ g6,g7,g8⟩
 | lp b r M es =>
  simp only[zP,zGW]at h⊢;obtain⟨h0,h1,tmps,h2,h3,h4⟩:=h;exact⟨h0,h1,tmps,h2,h3,h4.map _ fun a v ha=>Rel.nrm0 a ha⟩
 | mp fr nk es =>
  simp only[zP,zGW]at h⊢;obtain⟨h0,b,ents,ck,h1,h2,h3,h4⟩:=h;exact⟨h0,b,ents,ck,h1,h2,zAq.map _ (fun p _ v hv=>Rel.nrm0 _ hv) h3,h4.1,zL2 h4.2⟩
 | it m n met=>exact h
 | rsv=>exact h
theorem zHL {rf:Bool→Nat→Nat→A}{g:Nat→Option Nat}:∀{cs:List A},(vwL rf g cs).length=cs.length
 | []=>rfl
 | c::cs=>by simp[vwL,zHL]
theorem zTD {H0:Mem}{L0:List LI}{w0:World}(ks:List Nat)(fuel:Nat) {σ':St}(hk:∀i,i<L0.length→ks[i]?=some i)(hd:ks.Nodup)
 (ho:yW σ (Abs.seen σ (zY ks) fuel) (zY ks) ks σ')(h:Nxt H0 L0 w0 H L σ w) :
 ∃H' L',Nxt H0 L0 w0 H' L' σ' w∧HLe H H'∧∀a v,Rel H L a v→Rel H' L' (Abs.vw (Abs.seen σ (zY ks) fuel) (zY ks) a) v:=by
 have hs:=h.st;let g:=zY ks;let L':List LI:=ks.map fun k=>L.getD k ⟨none,0,0,false⟩
 have hin:∀(i j:Nat),ks[i]?=some j→∃li,L[j]?=some li∧L'[i]?=some li:=by
  intro i j hij;have hi:i < σ'.length:=by rw[zEM ho]; exact(jA1.1 hij).1
  obtain⟨o,hσ,_⟩:=zEL ho hij (jA2 hi);have hj:j<L.length:=by rw[hs.len]; exact(jA1.1 hσ).1
  refine⟨L[j],jA2 hj,?_⟩;simp[L',hij,hj]
 have hback:∀{i:Nat} {li:LI},L'[i]?=some li→∃j,ks[i]?=some j∧L[j]?=some li:=by
  intro i li hi;have hi':i<ks.length:=by simpa [L'] using (jA1.1 hi).1
  obtain⟨li',h1,h2⟩:=hin i ks[i] (jA2 hi');rw[hi]at h2;cases h2;exact⟨_,jA2 hi',h1⟩
 have hg:∀l i,g l=some i→L'[i]?=L[l]?:=by intro l i hl;obtain⟨li,h1,h2⟩:=hin i l (zJz hl);rw[h1,h2]
 have hrel:∀a v,Rel H L a v→Rel (zLy g H L σ w) L' (Abs.vw (Abs.seen σ g fuel) g a) v:=fun a v ha=>Rel.vw zFs hg (Rel.seen hs hg fuel).1 (Rel.seen hs hg fuel).2 a ha
 have hrelL:∀cs vs,zU H L cs vs→zU (zLy g H L σ w) L' (vwL (Abs.seen σ g fuel) g cs) vs:=fun a v ha=>zU.vw zFs hg (Rel.seen hs hg fuel).1 (Rel.seen hs hg fuel).2 a ha
 have hkeep:∀(j:Nat) (li:LI) (b:Nat),j∈ks→L[j]?=some li→li.block=some b→∀o,zLy g H L σ w b o=H b o:=by
  intro j li b hj hL hb o;rw[zFr];cases hH:H b o with
  | some v=>rfl
  | none =>
   simp only;rw[if_neg];rintro⟨i,li',ob,g1,g2,g3,g4,g5⟩;have:=hs.inj i j li' li b g2 hL g4 hb;subst this;exact zLO g1 hj
 refine⟨zLy g H L σ w,L',⟨⟨fun b o v hv=>(zQd hv).elim (hs.pers b o v) fun h=>h.2,by simp[L',zEM ho],fun i li o hL hσ=>?_,fun i j x y b hi hj hx hy=>?_,fun i li b hi hb=>?_⟩,
  ⟨h.step.os,h.step.tape,h.step.output,h.step.size,h.step.keep,h.step.hle.trans zFs,fun b o v hv=>?_,h.step.drawn,h.step.dfr⟩,fun i x hx=>?_,fun b ⟨i,x,hi,hx⟩=>?_⟩,zFs,hrel⟩
 ·obtain⟨j,hj,hLj⟩:=hback hL;obtain⟨o0,hσ0,heq⟩:=zEL ho hj hσ;have hob:=hs.obj j li o0 hLj hσ0;have hjm:j∈ks:=jC1 hj;have key:zP (zLy g H L σ w) L' w li (vwO (Abs.seen σ g fuel) g o0):=by
   cases o0 with
   | dead=>trivial
   | box cs =>
    simp only[zP,vwO]at hob ⊢;obtain⟨h0,b,vs,e,h1,h2,h3,h4,h5⟩:=hob;exact⟨h0,b,vs,e,h1,h2,hrelL _ _ h3,h4,fun o=>by rw[hkeep j li b hjm hLj h1]; exact h5 o⟩
   | row fz e sz n cs =>
    simp only[zP,vwO]at hob ⊢;obtain⟨h0,h1,h2,h3⟩:=hob;refine⟨h0,h1,by rw[zHL]; exact h2,?_⟩;rcases h3 with h3 | ⟨b,cur,g1,g2,g3,g4,g5,g6,g7,g8⟩
    ·exact .inl h3
    ·refine .inr ⟨b,cur,g1,g2,g3,g4,g5,hrelL _ _ g6,g7,?_⟩;cases fz with
     | false=>exact fun o=>by rw[hkeep j li b hjm hLj g1]; exact g8 o
     | true=>exact⟨g8.1.mono zFs,fun o ho=>by rw[hkeep j li b hjm hLj g1]; exact g8.2 o ho⟩
   | lp b r M es =>
    simp only[zP,vwO]at hob ⊢;obtain⟨h0,h1,tmps,h2,h3,h4⟩:=hob;exact⟨h0,h1,tmps,h2,h3,h4.map _ hrel⟩
   | mp fr nk es =>
    simp only[zP,vwO]at hob ⊢;obtain⟨h0,b,ents,ck,h1,h2,h3,h4⟩:=hob;exact⟨h0,b,ents,ck,h1,h2,zAq.map _ (fun p _ v hv=>hrel _ _ hv) h3,h4.1,zL2 h4.2⟩
   | it m n met =>
    simp only[vwO];split
    ·rename_i i0 hi0;simp only[zP]at hob ⊢;obtain⟨h0,b,mb,lm,h1,h2,h3,h4,h5⟩:=hob;have hp:Rel H L (.ptr m 0) (.pointer (some ⟨mb,0,none⟩)):=by simp only[Rel]; exact⟨lm,mb,h2,h3,h4,rfl⟩
     have hp:=hrel _ _ hp;simp only[Abs.vw,hi0,Rel]at hp;obtain⟨lm',mb',k2,k3,k4,k5⟩:=hp;cases k5;exact⟨h0,b,mb,lm',h1,k2,k3,k4,h5⟩
    ·trivial
   | rsv=>exact hob
  rcases heq with rfl | rfl
  ·exact key
  ·exact key.nrm
 ·obtain⟨i',hi',hLi⟩:=hback hi;obtain⟨j',hj',hLj⟩:=hback hj;have:=hs.inj i' j' x y b hLi hLj hx hy;subst this;have hi1:=(jA1.1 hi').1;have hj1:=(jA1.1 hj').1;exact zJv hd hi' hj'
 ·obtain⟨j,_,hLj⟩:=hback hi;exact hs.lt j li b hLj hb
 ·rcases zQd hv with h1 | ⟨⟨i,li,_,_,hL,_,hb,_⟩,_⟩
  ·exact h.step.hnew b o v h1
  ·exact .inr (h.own b ⟨i,li,hL,hb⟩)
 ·obtain⟨x',hx',hr⟩:=h.lle i x hx;have hi:i<L0.length:=(jA1.1 hx).1;obtain⟨li,h1,h2⟩:=hin i i (hk i hi);rw[hx']at h1;cases h1;exact⟨_,h2,hr⟩
 ·obtain⟨j,_,hLj⟩:=hback hi;exact h.own b ⟨j,x,hLj,hx⟩
theorem zAD.sel {n0:Nat}{env:Env}(ks:List Nat)(fuel:Nat)(l:List (Nat×A)) {σ':St}(hk:∀i,i<n0→ks[i]?=some i)(hd:ks.Nodup)(ho:yW σ (Abs.seen σ (zY ks) fuel) (zY ks) ks σ')
 (hl:∀p∈l,p.2=Abs.vw (Abs.seen σ (zY ks) fuel) (zY ks) (env p.1)∨p.2=nrm0 (Abs.vw (Abs.seen σ (zY ks) fuel) (zY ks) (env p.1))):zAD n0 (qN l) σ' env σ:=by
 intro H0 L0 w0 H L w N tmps h0 h1 h2;subst h0;obtain⟨H',L',g1,_,g3⟩:=zTD ks fuel hk hd ho h1;refine⟨H',L',g1,h2.1,fun t=>?_⟩;rcases zDF l t with h | h
 ·rw[h]; simp[Rel]
 ·have:=g3 _ _ (h2.2 t);rcases hl _ h with e | e
  ·simp only at e; rw[e]; exact this
  ·simp only at e; rw[e]; exact Rel.nrm0 _ this
end
end Go.Abs
