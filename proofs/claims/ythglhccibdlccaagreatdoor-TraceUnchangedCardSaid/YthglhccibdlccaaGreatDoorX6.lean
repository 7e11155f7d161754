/-
  The rules by which a walk over abstract states goes on, for simp.
  A choice of levels is kept; rows that are not kept become persistent.
  Contracts of functions that work on some objects, and how a call meets them in any state.
-/
import Derived.Test.YthglhccibdlccaaGreatDoorX5
set_option linter.unusedVariables false
set_option maxHeartbeats 8000000
set_option maxRecDepth 100000
set_option linter.unusedSimpArgs false
namespace Go.Abs
def qQT (o:Option A)(d:Option Nat)(K:Env→St→Prop)(env:Env) (σ : St):Prop:=match o with
 | some r=>K (env.put d r) σ
 | none=>False
def qQS (o:Option A)(d:Option Nat)(K:Env→Prop)(env:Env):Prop:=match o with
 | some r=>K (env.put d r)
 | none=>False
def zUt (o:Option (List A))(J:List A→Prop):Prop:=match o with
 | some r=>J r
 | none=>False
def qEd (o:Option St)(J:St→Prop):Prop:=match o with
 | some r=>J r
 | none=>False
section
variable {P:Program}{n0:Nat}{Qp:Value→Env→St→Prop}{Qd:Value→St→Prop}{K':Env→St→Prop}{KD:Env→Prop}{Q:Ex→Env→St→Prop}{env:Env} {σ : St}{d d':Option Nat}{x y z:Operand}
@[simp] theorem qFP {r:A}:qQT (some r) d K' env σ = K' (env.put d r) σ:=rfl
@[simp] theorem qFN {r:A}:qQS (some r) d KD env=KD (env.put d r):=rfl
@[simp] theorem qFM {r:List A}{J:List A→Prop}:zUt (some r) J=J r:=rfl
@[simp] theorem qFQ {r:St}{J:St→Prop}:qEd (some r) J=J r:=rfl
@[simp] theorem qKP {r:A}:env.put none r=env:=rfl
@[simp] theorem qMV {i t:Nat}{r:A}:(env.put (some i) r) t=if t=i then r else env t:=rfl
@[simp] theorem qQ5 {t:Nat}:ev env (.tmp t)=env t:=rfl
@[simp] theorem qM5 {f:FuncId}:ev env (.func f)=.clo f [] []:=rfl
@[simp] theorem qQ3 {k:IntKind}{n:Int}:ev env (.const (.int k n))=.lit (.int k n):=rfl
@[simp] theorem qM4 {b:Bool}:ev env (.const (.bool b))=.lit (.bool b):=rfl
@[simp] theorem qFq {s:ByteArray}:ev env (.const (.string s))=.lit (.string s):=rfl
@[simp] theorem qQ4:ev env (.const (.slice none 0 0))=.nil:=rfl
@[simp] theorem qDy:ev env (.const .nilFunc)=.lit .nilFunc:=rfl
@[simp] theorem qFp:ev env (.const (.pointer none))=.lit (.pointer none):=rfl
@[simp] theorem qQ2 {l:List Value}:ev env (.const (.agg ⟨l⟩))=if zAo l then .agg (l.map jJ) else .any:=rfl
@[simp] theorem qBS:zAo []=true:=rfl
@[simp] theorem zZK {v:Value}{l:List Value}:zAo (v::l)=(v.oneCell'&&zAo l):=rfl
@[simp] theorem qMT {k:IntKind}{n:Int}:(Value.int k n).oneCell'=true:=rfl
@[simp] theorem qK8 {b:Bool}:(Value.bool b).oneCell'=true:=rfl
@[simp] theorem qEa {s:ByteArray}:(Value.string s).oneCell'=true:=rfl
@[simp] theorem qFL {a:Option Addr}{n c:Nat}:(Value.slice a n c).oneCell'=true:=rfl
@[simp] theorem qBU {a:Option Addr}:(Value.pointer a).oneCell'=true:=rfl
@[simp] theorem qBT:(Value.nilFunc).oneCell'=true:=rfl
@[simp] theorem qMU {r:Option Nat}:(Value.map r).oneCell'=true:=rfl
@[simp] theorem qDY {k:IntKind}{n:Int}:jJ (.int k n)=.lit (.int k n):=rfl
@[simp] theorem qBR {b:Bool}:jJ (.bool b)=.lit (.bool b):=rfl
@[simp] theorem zYe {s:ByteArray}:jJ (.string s)=.lit (.string s):=rfl
@[simp] theorem qDZ:jJ (.slice none 0 0)=.nil:=rfl
@[simp] theorem zXt:jJ .nilFunc=.lit .nilFunc:=rfl
@[simp] theorem zYd:jJ (.pointer none)=.lit (.pointer none):=rfl
@[simp] theorem zYc:jJ (.map none)=.lit (.map none):=rfl
@[simp] theorem qBn:cellsOf .nil=some [.nil]:=rfl
@[simp] theorem qBi {cs:List A}:cellsOf (.agg cs)=some cs:=rfl
@[simp] theorem qBl {v:Value}:cellsOf (.lit v)=if v.oneCell' then some [.lit v] else none:=rfl
@[simp] theorem qDb {n:Nat}{cs:List A}:cellsOf (.sl n cs)=some [.sl n cs]:=rfl
@[simp] theorem qBk {n:Nat}{cs:List A}:cellsOf (.fsl n cs)=some [.fsl n cs]:=rfl
@[simp] theorem qBp {l n:Nat}:cellsOf (.row l n)=some [.row l n]:=rfl
@[simp] theorem qBo {l n:Nat}:cellsOf (.ptr l n)=some [.ptr l n]:=rfl
@[simp] theorem qBm {l:Nat}:cellsOf (.map l)=some [.map l]:=rfl
@[simp] theorem qBs {l n o k c:Nat}:cellsOf (.win l n o k c)=some [.win l n o k c]:=rfl
@[simp] theorem qBq {l n o:Nat}:cellsOf (.rwp l n o)=some [.rwp l n o]:=rfl
@[simp] theorem zYC {cs:List A}:cellsOf (.rptr cs)=some [.rptr cs]:=rfl
@[simp] theorem qBj {f:FuncId}{a b:List A}:cellsOf (.clo f a b)=some [.clo f a b]:=rfl
@[simp] theorem qEg {cs:List A}:zBE true cs=some (.agg cs):=rfl
@[simp] theorem qBW {c:A}:zBE false [c]=some c:=rfl
@[simp] theorem qJS {cs:List A}{n:Nat}:ldA σ n (.rptr cs)=sub cs 0 n:=rfl
def qBA:Option AObj→Nat→Nat→Option (List A)
 | some (.box cs),off,n=>sub cs off n
 | _,_,_=>none
def qBB:Option AObj→Nat→Nat→Nat→Option (List A)
 | some (.row _ _ _ k cs),m,off,n=>if m=k then sub cs off n else none
 | _,_,_,_=>none
@[simp] theorem qDK {cs:List A}{off n:Nat}:qBA (some (.box cs)) off n=sub cs off n:=rfl
@[simp] theorem qDL {fz:Bool}{e:TypeId}{s k:Nat}{cs:List A}{m off n:Nat}:qBB (some (.row fz e s k cs)) m off n=if m=k then sub cs off n else none:=rfl
@[simp] theorem qME {l off n:Nat}:ldA σ n (.ptr l off)=qBA σ[l]? off n:=by
 simp only[ldA];cases σ[l]? with
 | none=>rfl
 | some o=>cases o<;>rfl
@[simp] theorem qMF {l m off n:Nat}:ldA σ n (.rwp l m off)=qBB σ[l]? m off n:=by
 simp only[ldA];cases σ[l]? with
 | none=>rfl
 | some o=>cases o<;>rfl
@[simp] theorem qQZ {cs:List A}{off n:Nat}:sub cs off n=if off+n≤cs.length then some ((cs.drop off).take n) else none:=rfl
def qCf:Option AObj→St→List A→Nat→Nat→Option St
 | some (.box ds),σ,cs,l,off=>if off+cs.length≤ds.length then some (σ.set l (.box (ds.take off++cs++ds.drop (off+cs.length)))) else none
 | _,_,_,_,_=>none
def qCg:Option AObj→St→List A→Nat→Nat→Nat→Option St
 | some (.row false e sz k ds),σ,cs,l,m,off=>if m=k∧off+cs.length≤ds.length then some (σ.set l (.row false e sz k (ds.take off++cs++ds.drop (off+cs.length)))) else none
 | _,_,_,_,_,_=>none
@[simp] theorem qEz {ds cs:List A}{l off:Nat}:qCf (some (.box ds)) σ cs l off=if off+cs.length≤ds.length then some (σ.set l (.box (ds.take off++cs++ds.drop (off+cs.length)))) else none:=rfl
@[simp] theorem qE0 {e:TypeId}{sz k:Nat}{ds cs:List A}{l m off:Nat}:qCg (some (.row false e sz k ds)) σ cs l m off=if m=k∧off+cs.length≤ds.length then some (σ.set l (.row false e sz k (ds.take off++cs++ds.drop (off+cs.length)))) else none:=rfl
@[simp] theorem qNi {cs:List A}{l off:Nat}:stA σ cs (.ptr l off)=qCf σ[l]? σ cs l off:=by
 simp only[stA];cases σ[l]? with
 | none=>rfl
 | some o=>cases o<;>rfl
@[simp] theorem qNj {cs:List A}{l m off:Nat}:stA σ cs (.rwp l m off)=qCg σ[l]? σ cs l m off:=by
 simp only[stA];cases σ[l]? with
 | none=>rfl
 | some o =>
  cases o<;>try rfl
  rename_i fz e s n ds;cases fz<;>rfl
def qCb:Option AObj→Nat→Nat→(List A→Prop)→Prop
 | some (.row _ _ s m cs),n,sz,J=>n=m∧s=sz∧J cs
 | _,_,_,_=>False
@[simp] theorem zRE {fz:Bool}{e:TypeId}{s m n sz:Nat}{cs:List A}{J:List A→Prop}:qCb (some (.row fz e s m cs)) n sz J=(n=m∧s=sz∧J cs):=rfl
@[simp] theorem qEU {b:Bool}:(b==true)=b:=by cases b<;>rfl
@[simp] theorem qDl {A B:Env→St→Prop}:zF5 true A B env σ = A env σ:=by simp[zF5]
@[simp] theorem qBw {A B:Env→St→Prop}:zF5 false A B env σ = B env σ:=by simp[zF5]
@[simp] theorem qLd:zGq d K' env σ = K' (env.put d (.lit undef)) σ:=rfl
@[simp] theorem qKD {r:A}:zIp d env K' Qp (.ret r) σ = K' (env.put d r) σ:=rfl
@[simp] theorem qKC {v:Value}:zIp d env K' Qp (.pan v) σ = Qp v env σ:=rfl
@[simp] theorem qLl {J:Env→St→Prop}:thn J Q .norm=J:=rfl
@[simp] theorem qNm {J:Env→St→Prop}:thn J Q .ret=Q .ret:=rfl
@[simp] theorem qLk {J:Env→St→Prop}{i:Nat}:thn J Q (.exit i)=Q (.exit i):=rfl
@[simp] theorem qNl {J:Env→St→Prop}{v:Value}:thn J Q (.pan v)=Q (.pan v):=rfl
@[simp] theorem qIm {id:Nat}:blk id Q .norm=Q .norm:=rfl
@[simp] theorem qLF {id:Nat}:blk id Q .ret=Q .ret:=rfl
@[simp] theorem qIl {id i:Nat}:blk id Q (.exit i)=if i=id then Q .norm else Q (.exit i):=rfl
@[simp] theorem qLE {id:Nat}{v:Value}:blk id Q (.pan v)=Q (.pan v):=rfl
@[simp] theorem qNc {I:Nat→Env→St→Prop}{n:Nat}:rnd n0 I n Q .ret=Q .ret:=rfl
@[simp] theorem qKV {I:Nat→Env→St→Prop}{n i:Nat}:rnd n0 I n Q (.exit i)=Q (.exit i):=rfl
@[simp] theorem qNb {I:Nat→Env→St→Prop}{n:Nat}{v:Value}:rnd n0 I n Q (.pan v)=Q (.pan v):=rfl
@[simp] theorem qJ7 {rs:List RS}{R:Out→St→Prop}:fin rs R .norm=zKi rs R:=rfl
@[simp] theorem qM7 {rs:List RS}{R:Out→St→Prop}:fin rs R .ret=zKi rs R:=rfl
@[simp] theorem qM6 {rs:List RS}{R:Out→St→Prop}{v:Value}:fin rs R (.pan v) env σ = R (.pan v) σ:=rfl
@[simp] theorem qFW {t:Nat}{R:Out→St→Prop}:zKi [.slot t] R env σ = R (.ret (env t)) σ:=rfl
@[simp] theorem qKU {t u:Nat}{R:Out→St→Prop}:zKi [.slot t,.slot u] R env σ = R (.ret (.tup [env t,env u])) σ:=rfl
@[simp] theorem qEn {t u v:Nat}{R:Out→St→Prop}:zKi [.slot t,.slot u,.slot v] R env σ = R (.ret (.tup [env t,env u,env v])) σ:=rfl
@[simp] theorem zYl {a:A}{l:List A}:zC1 (a::l) 0=a:=rfl
@[simp] theorem zYk {a:A}{l:List A}{n:Nat}:zC1 (a::l) (n+1)=zC1 l n:=by simp[zC1]
@[simp] theorem qBb {n:Nat}:zC1 [] n=.lit undef:=by simp[zC1]
@[simp] theorem qRy {k:K}{rs:List RS}{args:List A}{R:Out→St→Prop}:wpF P k rs args σ R=wpK P σ.length k (fin rs R) (zC1 args) σ:=rfl
@[simp] theorem qL6:wpK P n0 .skip Q env σ = Q .norm env σ:=rfl
@[simp] theorem qN4:wpK P n0 .ret Q env σ = Q .ret env σ:=rfl
@[simp] theorem qL4 {i:Nat}:wpK P n0 (.exit i) Q env σ = Q (.exit i) env σ:=rfl
@[simp] theorem qN6 {a b:K}:wpK P n0 (.seq a b) Q env σ = wpK P n0 a (thn (wpK P n0 b Q) Q) env σ:=rfl
@[simp] theorem qGK {i:Nat}{a:K}:wpK P n0 (.block i a) Q env σ = wpK P n0 a (blk i Q) env σ:=rfl
@[simp] theorem qL5 {a:K}:wpK P n0 (.loop a) Q env σ = zOB n0 (wpK P n0 a) Q env σ:=rfl
@[simp] theorem qRz {a:K}:wpK P n0 (.wk a) Q env σ = Wk n0 (wpK P n0 a Q) env σ:=rfl
@[simp] theorem qN3 {l:List KG}:wpK P n0 (.ops l) Q env σ = zCF P (fun v=>Q (.pan v)) (Q .norm) l env σ:=rfl
@[simp] theorem qL3 {l:List (Nat×Nat×KG)}:wpK P n0 (.dops l) Q env σ = wpD P (zL7 Q) (Q .norm) l env σ:=rfl
@[simp] theorem qN5 {ps:List Nat}{a b:K}:wpK P n0 (.rng x ps a b) Q env σ = qCt P n0 x ps (fun n=>wpK P n a) (fun n=>wpK P n b) Q env σ:=rfl
@[simp] theorem qER {S:St}{J:Env→St→Prop}:zYn S J .norm env σ = (σ = S∧J env σ):=rfl
@[simp] theorem qFn {S:St}:zYN n0 S .norm env σ = Wk n0 (fun _ σ'=>σ'=S) env σ:=rfl
@[simp] theorem qFS {xs:List A}:zGj env [] xs=env:=by cases xs<;>rfl
@[simp] theorem qEk {p:Nat}{ps:List Nat}{a:A}{xs:List A}:zGj env (p::ps) (a::xs)=zGj (env.put (some p) a) ps xs:=rfl
@[simp] theorem qDc {b:Nat}:cellsOf (yv b)=some [yv b]:=rfl
def qBx (a:A)(A B:Env→St→Prop)(env:Env) (σ : St):Prop:=match a with
 | .lit (.bool t)=>zF5 t A B env σ
 | _=>False
@[simp] theorem qDm {t:Bool}{A B:Env→St→Prop}:qBx (.lit (.bool t)) A B env σ = zF5 t A B env σ:=rfl
@[simp] theorem qL2 {a b:K}:wpK P n0 (.cond x a b) Q env σ = qBx (ev env x) (wpK P n0 a Q) (wpK P n0 b Q) env σ:=rfl
@[simp] theorem qGN:zCF P Qp K' [] env σ = K' env σ:=rfl
@[simp] theorem qEL {o:KOp}{l:List KG}:zCF P Qp K' (⟨none,o⟩::l) env σ = wpO P Qp (zCF P Qp K' l) o env σ:=rfl
def zIU (a:A)(want:Bool)(A B:Env→St→Prop)(env:Env) (σ : St):Prop:=match a with
 | .lit (.bool b)=>zF5 (b==want) A B env σ
 | .lit (.tuple _)=>B env σ
 | _=>False
@[simp] theorem qB2 {b want:Bool}{A B:Env→St→Prop}:zIU (.lit (.bool b)) want A B env σ = zF5 (b==want) A B env σ:=rfl
@[simp] theorem zZq {want:Bool}{A B:Env→St→Prop}:zIU (.lit undef) want A B env σ = B env σ:=rfl
@[simp] theorem qCl {s:Nat}{want:Bool}{o:KOp}{l:List KG}:zCF P Qp K' (⟨some (s,want),o⟩::l) env σ = zIU (env s) want (wpO P Qp (zCF P Qp K' l) o) (zGq o.dst (zCF P Qp K' l)) env σ:=by
 simp only[zCF,wpG,zIU];generalize env s=a;cases a<;>try rfl
 all_goals (rename_i v; cases v<;>rfl)
def zSO (a:A)(x y:A)(J:A→Prop):Prop:=match a with
 | .lit (.bool t)=>J (if t then x else y)
 | _=>False
@[simp] theorem qEh {t:Bool}{a b:A}{J:A→Prop}:zSO (.lit (.bool t)) a b J=J (if t then a else b):=rfl
def zD5 (o:Option A)(J:A→Prop):Prop:=match o with
 | some r=>J r
 | none=>False
@[simp] theorem qFO {r:A}{J:A→Prop}:zD5 (some r) J=J r:=rfl
theorem zEC {o:Option A}{J:A→Prop}:jG (o.map fun r=>(True,r)) J=zD5 o J:=by cases o<;>simp[jG,zD5]
@[simp] theorem qNM:wpO P Qp K' (.mov d x) env σ = K' (env.put d (ev env x)) σ:=by simp[wpO,jG,zP,KOp.dst]
theorem zNz {J:A→Prop}:jG (zP env σ (.pick d x y z)) J=zSO (ev env x) (ev env y) (ev env z) J:=by
 simp only[zP,zSO,jG];generalize ev env x=a;cases a<;>try rfl
 rename_i v;cases v<;>simp
@[simp] theorem qLC:wpO P Qp K' (.pick d x y z) env σ = zSO (ev env x) (ev env y) (ev env z) fun r=>K' (env.put d r) σ:=zNz (d:=d)
@[simp] theorem qGL {zs:List Value}:wpO P Qp K' (.alloc d zs) env σ = K' (env.put d (.ptr σ.length 0)) (σ++[.box (zs.map jJ)]):=rfl
@[simp] theorem qNA:wpO P Qp K' (.box d x) env σ = zUt (cellsOf (ev env x)) fun cs=>K' (env.put d (.ptr σ.length 0)) (σ++[.box cs]):=rfl
@[simp] theorem qR0 {n:Nat}{agg:Bool}:wpO P Qp K' (.ld d x n agg) env σ = zD5 ((ldA σ n (ev env x)).bind (zBE agg)) fun r=>K' (env.put d r) σ:=zEC
@[simp] theorem qR2 {n:Nat}:wpO P Qp K' (.st d x y n) env σ = zUt (cellsOf (ev env y)) fun cs=>cs.length=n∧qEd (stA σ cs (ev env x)) fun σ'=>K' (env.put d (.lit undef)) σ':=by
 simp only[wpO,zUt,qEd];cases cellsOf (ev env y)with
 | none=>rfl
 | some cs =>
  simp only;by_cases h:cs.length=n
  ·simp only[h,if_true,true_and];cases stA σ cs (ev env x)<;>rfl
  ·simp[h]
def zHH (σ : St)(off:Nat):A→Option A
 | .ptr l o=>some (.ptr l (o+off))
 | .rptr cs=>some (.rptr (cs.drop off))
 | .rwp l n o=>match σ[l]? with
  | some (.row _ _ _ m _)=>if n=m then some (.rwp l n (o+off)) else none
  | _=>none
 | _=>none
@[simp] theorem qEN {l o off:Nat}:zHH σ off (.ptr l o)=some (.ptr l (o+off)):=rfl
@[simp] theorem qCw {cs:List A}{off:Nat}:zHH σ off (.rptr cs)=some (.rptr (cs.drop off)):=rfl
theorem zHk {off:Nat}:zP env σ (.addr d x off)=(zHH σ off (ev env x)).map fun r=>(True,r):=by
 simp only[zP];generalize ev env x=a;cases a<;>simp only[zHH]<;>try rfl
 rename_i l n o;cases σ[l]? with
 | none=>rfl
 | some ob =>
  cases ob<;>try rfl
  simp only;split<;>rfl
@[simp] theorem qL7 {off:Nat}:wpO P Qp K' (.addr d x off) env σ = zD5 (zHH σ off (ev env x)) fun r=>K' (env.put d r) σ:=by show jG (zP env σ (.addr d x off)) _=_;rw[zHk,zEC];rfl
def zM7 (σ : St)(sz:Nat)(a i:A)(J:A→Prop):Prop:=match a,i with
 | .sl n cs,.lit (.int _ j)=>((0≤j∧j<n)∧j.toNat*sz<cs.length)∧J (.rptr (cs.drop (j.toNat*sz)))
 | .fsl n cs,.lit (.int _ j)=>((0≤j∧j<n)∧j.toNat*sz<cs.length)∧J (.rptr (cs.drop (j.toNat*sz)))
 | .row l n,.lit (.int _ j)=>match σ[l]? with
  | some (.row _ _ s m _)=>if n=m∧s=sz then (0≤j∧j<n)∧J (.rwp l n (j.toNat*sz)) else False
  | _=>False
 | .win l n o k' _,.lit (.int _ j)=>match σ[l]? with
  | some (.row _ _ s m _)=>if n=m∧s=sz then (0≤j∧j<k')∧J (.rwp l n (o+j.toNat*sz)) else False
  | _=>False
 | _,_=>False
theorem zNm {sz:Nat}{J:A→Prop}:jG (zP env σ (.idx d x y sz)) J=zM7 σ sz (ev env x) (ev env y) J:=by
 simp only[zP,zM7,jG];generalize ev env x=a;generalize ev env y=b;cases a<;>cases b<;>try rfl
 all_goals (rename_i v; cases v<;>try rfl)
 ·rename_i l n k j;simp only;cases σ[l]? with
  | none=>rfl
  | some ob =>
   cases ob<;>try rfl
   rename_i fz e s m cs;by_cases h:n=m∧s=sz<;>simp[h]
 ·rename_i l n o k' c k j;simp only;cases σ[l]? with
  | none=>rfl
  | some ob =>
   cases ob<;>try rfl
   rename_i fz e s m cs;by_cases h:n=m∧s=sz<;>simp[h]
@[simp] theorem qNF {sz:Nat}:wpO P Qp K' (.idx d x y sz) env σ = zM7 σ sz (ev env x) (ev env y) fun r=>K' (env.put d r) σ:=zNm (d:=d)
@[simp] theorem qMB {sz n:Nat}{cs:List A}{k:IntKind}{j:Int}{J:A→Prop}:zM7 σ sz (.sl n cs) (.lit (.int k j)) J=(((0≤j∧j<n)∧j.toNat*sz<cs.length)∧J (.rptr (cs.drop (j.toNat*sz)))):=rfl
@[simp] theorem qJC {sz n:Nat}{cs:List A}{k:IntKind}{j:Int}{J:A→Prop}:zM7 σ sz (.fsl n cs) (.lit (.int k j)) J=(((0≤j∧j<n)∧j.toNat*sz<cs.length)∧J (.rptr (cs.drop (j.toNat*sz)))):=rfl
def zIf (len sz:Nat)(a i:A)(J:A→Prop):Prop:=match a,i with
 | .ptr l o,.lit (.int _ j)=>(0≤j∧j<len)∧J (.ptr l (o+j.toNat*sz))
 | .rptr cs,.lit (.int _ j)=>((0≤j∧j<len)∧j.toNat*sz<cs.length)∧J (.rptr (cs.drop (j.toNat*sz)))
 | _,_=>False
@[simp] theorem zZu {len sz:Nat}{cs:List A}{k:IntKind}{j:Int}{J:A→Prop}:zIf len sz (.rptr cs) (.lit (.int k j)) J=(((0≤j∧j<len)∧j.toNat*sz<cs.length)∧J (.rptr (cs.drop (j.toNat*sz)))):=rfl
@[simp] theorem qB7 {len sz l o:Nat}{k:IntKind}{j:Int}{J:A→Prop}:zIf len sz (.ptr l o) (.lit (.int k j)) J=((0≤j∧j<len)∧J (.ptr l (o+j.toNat*sz))):=rfl
theorem zOe {len sz:Nat}{J:A→Prop}:jG (zP env σ (.idxarr d x y len sz)) J=zIf len sz (ev env x) (ev env y) J:=by
 simp only[zP,zIf,jG];generalize ev env x=a;generalize ev env y=b;cases a<;>first
  | rfl
  | (cases b<;>first
   | rfl
   | (rename_i v; cases v<;>rfl))
@[simp] theorem qEK {len sz:Nat}:wpO P Qp K' (.idxarr d x y len sz) env σ = zIf len sz (ev env x) (ev env y) fun r=>K' (env.put d r) σ:=zOe (d:=d)
def zDX (op:BinOp)(a b:A)(J:A→Prop):Prop:=match a,b with
 | .lit (.int k m),.lit (.int k' n)=>if k=k' then (match zEk op k m n with | some (p,r)=>p∧J r | none=>False) else False
 | .lit (.string s),.lit (.string t)=>(match zXK op s t with | some (p,r)=>p∧J r | none=>False)
 | _,_=>False
theorem zTo {op:BinOp}{J:A→Prop}:jG (zP env σ (.bin d op x y)) J=zDX op (ev env x) (ev env y) J:=by
 simp only[zP,zDX,jG];generalize ev env x=a;generalize ev env y=b;cases a<;>try rfl
 rename_i u;cases b<;>try (cases u<;>rfl)
 rename_i v;cases u<;>cases v<;>try rfl
 case lit.lit.int.int k m k' n =>
  by_cases h:k=k'
  ·simp only[h,if_true];cases zEk op k' m n<;>rfl
  ·simp[h]
@[simp] theorem qN9 {op:BinOp}:wpO P Qp K' (.bin d op x y) env σ = zDX op (ev env x) (ev env y) fun r=>K' (env.put d r) σ:=zTo (d:=d)
@[simp] theorem qIj {s t:ByteArray}{J:A→Prop}:zDX .add (.lit (.string s)) (.lit (.string t)) J=(s.size+t.size≤1000000∧J (.lit (.string (s++t)))):=rfl
@[simp] theorem qIb {k:IntKind}{m n:Int}{J:A→Prop}:zDX .add (.lit (.int k m)) (.lit (.int k n)) J=J (.lit (.int k (k.wrap (m+n)))):=by simp[zDX,zEk]
@[simp] theorem qIk {k:IntKind}{m n:Int}{J:A→Prop}:zDX .sub (.lit (.int k m)) (.lit (.int k n)) J=J (.lit (.int k (k.wrap (m-n)))):=by simp[zDX,zEk]
@[simp] theorem qIg {k:IntKind}{m n:Int}{J:A→Prop}:zDX .mul (.lit (.int k m)) (.lit (.int k n)) J=J (.lit (.int k (k.wrap (m*n)))):=by simp[zDX,zEk]
@[simp] theorem qIh {k:IntKind}{m n:Int}{J:A→Prop}:zDX .quo (.lit (.int k m)) (.lit (.int k n)) J=(n≠0∧J (.lit (.int k (k.wrap (m.tdiv n))))):=by simp[zDX,zEk]
@[simp] theorem qIi {k:IntKind}{m n:Int}{J:A→Prop}:zDX .rem (.lit (.int k m)) (.lit (.int k n)) J=(n≠0∧J (.lit (.int k (m.tmod n)))):=by simp[zDX,zEk]
@[simp] theorem qIf {k:IntKind}{m n:Int}{J:A→Prop}:zDX .lss (.lit (.int k m)) (.lit (.int k n)) J=J (.lit (.bool (decide (m<n)))):=by simp[zDX,zEk]
@[simp] theorem qIe {k:IntKind}{m n:Int}{J:A→Prop}:zDX .leq (.lit (.int k m)) (.lit (.int k n)) J=J (.lit (.bool (decide (m≤n)))):=by simp[zDX,zEk]
@[simp] theorem qId {k:IntKind}{m n:Int}{J:A→Prop}:zDX .gtr (.lit (.int k m)) (.lit (.int k n)) J=J (.lit (.bool (decide (n<m)))):=by simp[zDX,zEk]
@[simp] theorem qIc {k:IntKind}{m n:Int}{J:A→Prop}:zDX .geq (.lit (.int k m)) (.lit (.int k n)) J=J (.lit (.bool (decide (n≤m)))):=by simp[zDX,zEk]
noncomputable def eqA (k:SK) (ng:Bool) (a b:A):Option A:=(zBT k a b).map (zBd ng)
noncomputable def zNV (ks:List SK) (ng:Bool) (a b:A):Option A:=match a,b with
 | .agg xs,.agg ys=>(zAf ks xs ys).map (zBd ng)
 | _,_=>none
theorem zW1 {k:SK}{ng:Bool}{J:A→Prop}:jG (zP env σ (.eqv d ng k x y)) J=zD5 (eqA k ng (ev env x) (ev env y)) J:=by simp only[zP,eqA];cases zBT k (ev env x) (ev env y)<;>simp[jG,zD5]
theorem zW0 {ks:List SK}{ng:Bool}{J:A→Prop}:jG (zP env σ (.eqs d ng ks x y)) J=zD5 (zNV ks ng (ev env x) (ev env y)) J:=by
 simp only[zP,zNV];generalize ev env x=a;generalize ev env y=b;cases a<;>cases b<;>try rfl
 rename_i xs ys;simp only;cases zAf ks xs ys<;>simp[jG,zD5]
@[simp] theorem qND {k:SK}{ng:Bool}:wpO P Qp K' (.eqv d ng k x y) env σ = zD5 (eqA k ng (ev env x) (ev env y)) fun r=>K' (env.put d r) σ:=zW1 (d:=d)
@[simp] theorem qNC {ks:List SK}{ng:Bool}:wpO P Qp K' (.eqs d ng ks x y) env σ = zD5 (zNV ks ng (ev env x) (ev env y)) fun r=>K' (env.put d r) σ:=zW0 (d:=d)
@[simp] theorem qM3 {k:IntKind}{m n:Int}:eqA .i false (.lit (.int k m)) (.lit (.int k n))=some (.lit (.bool (decide (m=n)))):=by simp[eqA,zBT,zBd]
@[simp] theorem qJ2 {k:IntKind}{m n:Int}:eqA .i true (.lit (.int k m)) (.lit (.int k n))=some (.lit (.bool (decide (m≠n)))):=by simp[eqA,zBT,zBd]
@[simp] theorem qJ1 {m n:Bool}:eqA .b false (.lit (.bool m)) (.lit (.bool n))=some (.lit (.bool (decide (m=n)))):=by simp[eqA,zBT,zBd]
@[simp] theorem qFo {m n:Bool}:eqA .b true (.lit (.bool m)) (.lit (.bool n))=some (.lit (.bool (decide (m≠n)))):=by simp[eqA,zBT,zBd]
def zZ8 (a:A)(J:A→Prop):Prop:=match a with | .lit (.int k m)=>J (.lit (.int k (k.wrap (0-m)))) | _=>False
@[simp] theorem qKr {k:IntKind}{m:Int}{J:A→Prop}:zZ8 (.lit (.int k m)) J=J (.lit (.int k (k.wrap (0-m)))):=rfl
theorem zXm {J:A→Prop}:jG (zP env σ (.neg d x)) J=zZ8 (ev env x) J:=by
 simp only[zP,zZ8];generalize ev env x=a;cases a<;>try rfl
 rename_i v; cases v<;>simp[jG]
@[simp] theorem qNN:wpO P Qp K' (.neg d x) env σ = zZ8 (ev env x) fun r=>K' (env.put d r) σ:=zXm (d:=d)
def zZB (a:A)(J:A→Prop):Prop:=match a with | .lit (.bool b)=>J (.lit (.bool !b)) | _=>False
@[simp] theorem qF9 {b:Bool}{J:A→Prop}:zZB (.lit (.bool b)) J=J (.lit (.bool !b)):=rfl
theorem zXo {J:A→Prop}:jG (zP env σ (.not d x)) J=zZB (ev env x) J:=by
 simp only[zP,zZB];generalize ev env x=a;cases a<;>try rfl
 rename_i v; cases v<;>simp[jG]
@[simp] theorem qNO:wpO P Qp K' (.not d x) env σ = zZB (ev env x) fun r=>K' (env.put d r) σ:=zXo (d:=d)
def zIW (σ : St)(a:A)(J:A→Prop):Prop:=match a with
 | .nil=>J (.lit (.int .i64 0))
 | .sl n _=>n≤maxLen→J (.lit (.int .i64 n))
 | .fsl n _=>n≤maxLen→J (.lit (.int .i64 n))
 | .row l n=>match σ[l]? with
  | some (.row _ _ _ m _)=>if n=m then J (.lit (.int .i64 n)) else False
  | _=>False
 | .win l n _ k _=>match σ[l]? with
  | some (.row _ _ _ m _)=>if n=m then J (.lit (.int .i64 k)) else False
  | _=>False
 | _=>False
@[simp] theorem qJY {J:A→Prop}:zIW σ .nil J=J (.lit (.int .i64 0)):=rfl
@[simp] theorem qMH {n:Nat}{cs:List A}{J:A→Prop}:zIW σ (.sl n cs) J=(n≤maxLen→J (.lit (.int .i64 n))):=rfl
@[simp] theorem qJX {n:Nat}{cs:List A}{J:A→Prop}:zIW σ (.fsl n cs) J=(n≤maxLen→J (.lit (.int .i64 n))):=rfl
@[simp] theorem qNJ:wpO P Qp K' (.len d false x) env σ = zIW σ (ev env x) fun r=>K' (env.put d r) σ:=by
 simp only[wpO,zIW,zP];generalize ev env x=a;cases a<;>simp only[jG,true_and]
 ·rename_i l n;cases σ[l]? with
  | none=>rfl
  | some ob =>
   cases ob<;>try rfl
   rename_i fz e s m cs;by_cases h:n=m<;>simp[h]
 ·rename_i l n _ k _;cases σ[l]? with
  | none=>rfl
  | some ob =>
   cases ob<;>try rfl
   rename_i fz e s m cs;by_cases h:n=m<;>simp[h]
def zSF (a:A)(J:A→Prop):Prop:=match a with | .lit (.string s)=>J (.lit (.int .i64 s.size)) | _=>False
@[simp] theorem zZz {s:ByteArray}{J:A→Prop}:zSF (.lit (.string s)) J=J (.lit (.int .i64 s.size)):=rfl
theorem zUl {J:A→Prop}:jG (zP env σ (.len d true x)) J=zSF (ev env x) J:=by
 simp only[zP,zSF];generalize ev env x=a;cases a<;>try rfl
 rename_i v; cases v<;>simp[jG]
@[simp] theorem qLA:wpO P Qp K' (.len d true x) env σ = zSF (ev env x) fun r=>K' (env.put d r) σ:=zUl (d:=d)
def mmA (mx:Bool):List A→Option A
 | .lit (.int k a)::rest=>zGf mx a rest k
 | _=>none
@[simp] theorem qBD {k:IntKind}{m n:Int}:mmA true [.lit (.int k m),.lit (.int k n)]=some (.lit (.int k (if m<n then n else m))):=by simp[mmA,zGf]
@[simp] theorem qBE {k:IntKind}{m n:Int}:mmA false [.lit (.int k m),.lit (.int k n)]=some (.lit (.int k (if n<m then n else m))):=by simp[mmA,zGf]
theorem zSI {mx:Bool}{xs:List Operand}{J:A→Prop}:jG (zP env σ (.mm d mx xs)) J=zD5 (mmA mx (xs.map (ev env))) J:=by
 simp only[zP];generalize xs.map (ev env)=l;cases l with
 | nil=>rfl
 | cons a l =>
  cases a<;>try rfl
  rename_i v;cases v<;>try rfl
  exact zEC
@[simp] theorem qR1 {mx:Bool}{xs:List Operand}:wpO P Qp K' (.mm d mx xs) env σ = zD5 (mmA mx (xs.map (ev env))) fun r=>K' (env.put d r) σ:=zSI (d:=d)
def zZm (i:Nat)(a:A)(J:A→Prop):Prop:=match a with | .tup vs=>(match vs[i]? with | some r=>J r | none=>False) | _=>False
@[simp] theorem qJ6 {i:Nat}{vs:List A}{J:A→Prop}:zZm i (.tup vs) J=zD5 vs[i]? J:=rfl
theorem zWA {i:Nat}{J:A→Prop}:jG (zP env σ (.ext d x i)) J=zZm i (ev env x) J:=by
 simp only[zP,zZm];generalize ev env x=a;cases a<;>try rfl
 rename_i vs;simp only;cases vs[i]?<;>simp[jG]
@[simp] theorem qNE {i:Nat}:wpO P Qp K' (.ext d x i) env σ = zZm i (ev env x) fun r=>K' (env.put d r) σ:=zWA (d:=d)
@[simp] theorem qNB {f:FuncId}{a b:List Operand}:wpO P Qp K' (.clo d f a b) env σ = K' (env.put d (.clo f (a.map (ev env)) (b.map (ev env)))) σ:=by simp[wpO,zP,jG,KOp.dst]
theorem zKE {zs:List Value}{ps:List (Nat×Nat×Operand)}{J:A→Prop}:jG (zP env σ (.build d zs ps)) J=zD5 ((zBp (zs.map jJ) (ps.map fun(o,s,x)=>(o,s,ev env x))).map .agg) J:=by simp only[zP];cases zBp (zs.map jJ) (ps.map fun(o,s,x)=>(o,s,ev env x))<;>simp[jG,zD5]
def zRw (a:A)(neg:Bool)(J:A→Prop):Prop:=match a with
 | .lit (.pointer none)=>J (.lit (.bool !neg))
 | .rptr _=>J (.lit (.bool neg))
 | .ptr _ _=>J (.lit (.bool neg))
 | _=>False
@[simp] theorem qJK {neg:Bool}{J:A→Prop}:zRw (.lit (.pointer none)) neg J=J (.lit (.bool !neg)):=rfl
@[simp] theorem qF0 {neg:Bool}{cs:List A}{J:A→Prop}:zRw (.rptr cs) neg J=J (.lit (.bool neg)):=rfl
@[simp] theorem qJL {neg:Bool}{l o:Nat}{J:A→Prop}:zRw (.ptr l o) neg J=J (.lit (.bool neg)):=rfl
@[simp] theorem qNH {neg:Bool}:wpO P Qp K' (.isp d neg x) env σ = zRw (ev env x) neg fun r=>K' (env.put d r) σ:=by
 show jG (zP env σ (.isp d neg x)) _=_;simp only[zP];generalize ev env x=a;cases a with
 | lit v=>cases v with
  | pointer ad=>cases ad<;>simp[jG,zRw,KOp.dst]
  | _=>rfl
 | rptr cs=>simp[jG,zRw,KOp.dst]
 | ptr l o=>simp[jG,zRw,KOp.dst]
 | _=>rfl
def qKg (t:TypeId)(a:A):A:=match a with
 | .lit v=>.lit (.iface t v)
 | _=>.any
@[simp] theorem qKh {t:TypeId}{v:Value}:qKg t (.lit v)=.lit (.iface t v):=rfl
@[simp] theorem qNK {t:TypeId}:wpO P Qp K' (.mki d t x) env σ = K' (env.put d (qKg t (ev env x))) σ:=by simp only[wpO,zP,jG,KOp.dst,true_and];generalize ev env x=a;cases a<;>rfl
def qKE (Qp:Value→Env→St→Prop)(env:Env) (σ : St)(a:A):Prop:=match a with
 | .lit (.iface t v)=>Qp (.iface t v) env σ
 | _=>False
@[simp] theorem qKF {t:TypeId}{v:Value}:qKE Qp env σ (.lit (.iface t v))=Qp (.iface t v) env σ:=rfl
@[simp] theorem qNP:wpO P Qp K' (.pan d x) env σ = qKE Qp env σ (ev env x):=rfl
@[simp] theorem qGM {zs:List Value}{ps:List (Nat×Nat×Operand)}:wpO P Qp K' (.build d zs ps) env σ = zD5 ((zBp (zs.map jJ) (ps.map fun(o,s,x)=>(o,s,ev env x))).map .agg) fun r=>K' (env.put d r) σ:=zKE (d:=d)
@[simp] theorem qEJ {e:TypeId}{sz n:Nat}{zs:List Value}{ps:List (Nat×Nat×Operand)}:wpO P Qp K' (.bslice d e sz n zs ps) env σ = zD5 ((zBp (zs.map jJ) (ps.map fun(o,s,x)=>(o,s,ev env x))).map (.fsl n)) fun r=>K' (env.put d r) σ:=by simp only[wpO,zD5];cases zBp (zs.map jJ) (ps.map fun(o,s,x)=>(o,s,ev env x))<;>simp
@[simp] theorem qL8 {e:TypeId}{sz n:Nat}{zs:List Value}{ps:List (Nat×Nat×Operand)}:wpO P Qp K' (.brow d e sz n zs ps) env σ = zUt (zBp (zs.map jJ) (ps.map fun(o,s,x)=>(o,s,ev env x))) fun cs=>K' (env.put d (.row σ.length n)) (σ++[.row false e sz n cs]):=by simp only[wpO,zUt];cases zBp (zs.map jJ) (ps.map fun(o,s,x)=>(o,s,ev env x))<;>simp
def zUh (a:A)(neg:Bool)(J:A→Prop):Prop:=match a with
 | .nil=>J (.lit (.bool !neg))
 | .sl n _=>n≠0∧J (.lit (.bool neg))
 | .fsl n _=>n≠0∧J (.lit (.bool neg))
 | _=>False
@[simp] theorem qJJ {neg:Bool}{J:A→Prop}:zUh .nil neg J=J (.lit (.bool !neg)):=rfl
@[simp] theorem qMC {neg:Bool}{n:Nat}{cs:List A}{J:A→Prop}:zUh (.sl n cs) neg J=(n≠0∧J (.lit (.bool neg))):=rfl
@[simp] theorem qJI {neg:Bool}{n:Nat}{cs:List A}{J:A→Prop}:zUh (.fsl n cs) neg J=(n≠0∧J (.lit (.bool neg))):=rfl
theorem zWS {neg:Bool}{J:A→Prop}:jG (zP env σ (.isn d neg x)) J=zUh (ev env x) neg J:=by simp only[zP,zUh,jG];generalize ev env x=a;cases a<;>simp
def zZv (σ : St)(a:A)(neg:Bool)(J:A→Prop):Prop:=match a with
 | .nil=>J (.lit (.bool !neg))
 | .sl n _=>J (.lit (.bool neg))∧(n=0→J (.lit (.bool !neg)))
 | .row l n=>(match σ[l]? with
  | some (.row _ _ _ m _)=>n=m∧J (.lit (.bool neg))∧(n=0→J (.lit (.bool !neg)))
  | _=>False)
 | _=>False
@[simp] theorem qJM {neg:Bool}{J:A→Prop}:zZv σ .nil neg J=J (.lit (.bool !neg)):=rfl
@[simp] theorem qMD {neg:Bool}{n:Nat}{cs:List A}{J:A→Prop}:zZv σ (.sl n cs) neg J=(J (.lit (.bool neg))∧(n=0→J (.lit (.bool !neg)))):=rfl
@[simp] theorem qNI {neg:Bool}:wpO P Qp K' (.isz d neg x) env σ = zZv σ (ev env x) neg fun r=>K' (env.put d r) σ:=by simp only[wpO,zZv];cases ev env x<;>rfl
@[simp] theorem qNG {neg:Bool}:wpO P Qp K' (.isn d neg x) env σ = zUh (ev env x) neg fun r=>K' (env.put d r) σ:=zWS (d:=d)
@[simp] theorem qFr {cs:List A}:zBp cs []=some cs:=rfl
def qB0 (c:Option (List A))(o s:Nat)(cs:List A)(rest:List (Nat×Nat×A)):Option (List A):=match c with
 | some l=>if l.length=s∧o+s≤cs.length then zBp (cs.take o++l++cs.drop (o+s)) rest else none
 | none=>none
@[simp] theorem qD8 {l:List A}{o s:Nat}{cs:List A}{rest:List (Nat×Nat×A)}:qB0 (some l) o s cs rest=if l.length=s∧o+s≤cs.length then zBp (cs.take o++l++cs.drop (o+s)) rest else none:=rfl
@[simp] theorem qD7 {cs:List A}{o s:Nat}{a:A}{rest:List (Nat×Nat×A)}:zBp cs ((o,s,a)::rest)=qB0 (cellsOf a) o s cs rest:=rfl
def elP (σ : St)(sz:Nat)(a:A)(J:Nat→List A→Prop):Prop:=match zCn σ sz a with
 | some (m,ys)=>ys.length=m*sz∧J m ys
 | none=>False
@[simp] theorem qM0 {sz:Nat}{J:Nat→List A→Prop}:elP σ sz .nil J=J 0 []:=by simp[elP,zCn]
@[simp] theorem qQ1 {sz n:Nat}{cs:List A}{J:Nat→List A→Prop}:elP σ sz (.sl n cs) J=(cs.length=n*sz∧J n cs):=rfl
@[simp] theorem qMz {sz n:Nat}{cs:List A}{J:Nat→List A→Prop}:elP σ sz (.fsl n cs) J=(cs.length=n*sz∧J n cs):=rfl
@[simp] theorem qM1 {sz l n:Nat}{J:Nat→List A→Prop}:elP σ sz (.row l n) J=qCb σ[l]? n sz fun cs=>cs.length=n*sz∧J n cs:=by
 simp only[elP,zCn];cases σ[l]? with
 | none=>rfl
 | some o =>
  cases o<;>try rfl
  rename_i fz e s m cs;by_cases h:n=m∧s=sz
  ·simp[h]
  ·simp only[h,if_false,zRE,eq_iff_iff,false_iff];rintro⟨h1,h2,_⟩;exact h ⟨h1,h2⟩
def zVy (d:Option Nat)(K':Env→St→Prop)(env:Env) (σ : St)(e:TypeId)(sz bytes m:Nat)(ys:List A):A→Prop
 | .nil=>(m≤maxLen∧m*bytes≤140737488355328)∧K' (env.put d (.row σ.length m)) (σ++[AObj.row false e sz m ys])
 | .row l n=>(match σ[l]? with
  | some (.row fz e' s n' cs)=>if n=n'∧e'=e∧s=sz then (n+m≤maxLen∧(n+m)*bytes≤140737488355328)∧K' (env.put d (.row l (n+m))) (σ.set l (.row fz e sz (n+m) (cs++ys))) else False
  | _=>False)
 | .fsl n cs=>cs.length=n*sz∧(m=0→K' (env.put d (.fsl n cs)) σ)∧(m≠0→(n+m≤maxLen∧(n+m)*bytes≤140737488355328)∧K' (env.put d (.row σ.length (n+m))) (σ++[AObj.row false e sz (n+m) (cs++ys)]))
 | _=>False
@[simp] theorem qHY {e:TypeId}{sz bytes m:Nat}{ys:List A}:zVy d K' env σ e sz bytes m ys .nil=((m≤maxLen∧m*bytes≤140737488355328)∧K' (env.put d (.row σ.length m)) (σ++[AObj.row false e sz m ys])):=rfl
@[simp] theorem qHX {e:TypeId}{sz bytes m n:Nat}{ys cs:List A}:zVy d K' env σ e sz bytes m ys (.fsl n cs)=(cs.length=n*sz∧(m=0→K' (env.put d (.fsl n cs)) σ)∧(m≠0→(n+m≤maxLen∧(n+m)*bytes≤140737488355328)∧K' (env.put d (.row σ.length (n+m))) (σ++[AObj.row false e sz (n+m) (cs++ys)]))):=rfl
def qCc:Option AObj→Nat→TypeId→Nat→(Bool→List A→Prop)→Prop
 | some (.row fz e' s n' cs),n,e,sz,J=>(n=n'∧e'=e∧s=sz)∧J fz cs
 | _,_,_,_,_=>False
@[simp] theorem qEs {fz:Bool}{e' e:TypeId}{s n' n sz:Nat}{cs:List A}{J:Bool→List A→Prop}:qCc (some (.row fz e' s n' cs)) n e sz J=((n=n'∧e'=e∧s=sz)∧J fz cs):=rfl
@[simp] theorem qHZ {e:TypeId}{sz bytes m l n:Nat}{ys:List A}:zVy d K' env σ e sz bytes m ys (.row l n)=qCc σ[l]? n e sz fun fz cs=>(n+m≤maxLen∧(n+m)*bytes≤140737488355328)∧K' (env.put d (.row l (n+m))) (σ.set l (.row fz e sz (n+m) (cs++ys))):=by
 simp only[zVy];cases σ[l]? with
 | none=>rfl
 | some o =>
  cases o<;>try rfl
  rename_i fz e' s n' cs;by_cases h:n=n'∧e'=e∧s=sz
  ·simp[h]
  ·simp[h]
@[simp] theorem qN8 {e:TypeId}{sz bytes:Nat}:wpO P Qp K' (.app d e sz bytes x y) env σ = elP σ sz (ev env y) fun m ys=>zVy d K' env σ e sz bytes m ys (ev env x):=by
 simp only[wpO,elP];cases zCn σ sz (ev env y)with
 | none=>rfl
 | some r =>
  obtain⟨m,ys⟩:=r;simp only;generalize ev env x=a;cases a<;>rfl
def zVO (P:Program)(Qp:Value→Env→St→Prop)(K':Env→St→Prop)(d:Option Nat)(f:A)(args:List A)(env:Env) (σ : St):Prop:=match f with
 | .clo g first cap=>zA P g=true∧yX P g (first++args++cap) σ (zIp d env K' Qp)
 | .lit (.func (.yield b) ⟨[]⟩ ⟨[]⟩)=>zJ0 P b args σ (zIp d env K' Qp)
 | _=>False
@[simp] theorem qJi {b:Nat}{args:List A}:zVO P Qp K' d (yv b) args env σ = zJ0 P b args σ (zIp d env K' Qp):=rfl
@[simp] theorem qFd {g:FuncId}{first cap args:List A}:zVO P Qp K' d (.clo g first cap) args env σ = (zA P g=true∧yX P g (first++args++cap) σ (zIp d env K' Qp)):=rfl
@[simp] theorem qL9 {args:List Operand}:wpO P Qp K' (.call d x args) env σ = zVO P Qp K' d (ev env x) (args.map (ev env)) env σ:=rfl
@[simp] theorem qEW:zBo []=[]:=rfl
@[simp] theorem qEV {cs:List A}:zBo (.box cs::σ)=.box cs::zBo σ:=rfl
@[simp] theorem qEX {fz:Bool}{e:TypeId}{sz n:Nat}{cs:List A}:zBo (.row fz e sz n cs::σ)=.dead::zBo σ:=rfl
@[simp] theorem qIp {fr:Bool}{nk:Nat}{es:List (List Int×A)}:zBo (.mp fr nk es::σ)=.dead::zBo σ:=rfl
@[simp] theorem qEY:zBo (.rsv::σ)=.dead::zBo σ:=rfl
@[simp] theorem qIn {m n:Nat}{met:List Nat}:zBo (.it m n met::σ)=.dead::zBo σ:=rfl
@[simp] theorem qIo {b M:Nat}{r:Loop}{es:List (Nat×A)}:zBo (.lp b r M es::σ)=.dead::zBo σ:=rfl
@[simp] theorem zYp {σ : St}:(zBo σ).length = σ.length:=by
 induction σ with
 | nil=>rfl
 | cons o σ ih=>cases o<;>simp[zBo,ih]
@[simp] theorem qGc {σ : St}:zD8 0 σ = σ:=rfl
@[simp] theorem qKZ {σ : St}:zD8 1 σ = zBo σ:=rfl
@[simp] theorem qLb {σ : St}:zD8 2 σ = []:=rfl
variable {fl k:Nat}
@[simp] theorem qKG {v:Value}:zL7 Q v σ = ∀e,Q (.pan v) e σ:=rfl
@[simp] theorem qN2:wpD P Qd K' [] env σ = K' env σ:=by simp only[wpD]
@[simp] theorem qRb {o:KOp}:zBi 0 o env=True:=rfl
@[simp] theorem qRc {o:KOp}:zBi 1 o env=True:=rfl
@[simp] theorem qRd {o:KOp}:zBi 2 o env=True:=rfl
@[simp] theorem qRe {o:KOp}:zBi 3 o env=True:=rfl
@[simp] theorem qRf {o:KOp}:zBi 4 o env=True:=rfl
@[simp] theorem qRg {n:Nat}:zBi 5 (.st d x y n) env=zNn (ev env x):=rfl
@[simp] theorem qRh {n:Nat}:zBi 6 (.st d x y n) env=zNo (ev env x):=rfl
@[simp] theorem qNk {n:Nat}:zBi 6 (.idx d x y n) env=isRow (ev env x):=rfl
@[simp] theorem qFx {l o:Nat}:zNn (.ptr l o)=True:=rfl
@[simp] theorem qFz {l n o:Nat}:zNo (.rwp l n o)=True:=rfl
@[simp] theorem qFy {l n:Nat}:isRow (.row l n)=True:=rfl
@[simp] theorem qLa {σ : St}:zD8 6 σ = σ:=rfl
@[simp] theorem qLx {o:KOp}{l:List (Nat×Nat×KG)}:wpD P Qd K' ((k,fl,⟨none,o⟩)::l) env σ = (zBi fl o env∧jP P Qd fl (wpD P Qd K' l) o env σ):=rfl
@[simp] theorem qG0 {s:Nat}{want:Bool}{o:KOp}{l:List (Nat×Nat×KG)}:wpD P Qd K' ((k,fl,⟨some (s,want),o⟩)::l) env σ = (zBi fl o env∧zIU (env s) want (jP P Qd fl (wpD P Qd K' l) o) (zGq o.dst (wpD P Qd K' l)) env σ):=by
 simp only[wpD,zRT,zIU];generalize env s=a;cases a<;>try rfl
 all_goals (rename_i v; cases v<;>rfl)
@[simp] theorem qEH:jP P Qd fl K' (.pick d x y z) env σ = wpO P zAR K' (.pick d x y z) env σ:=by simp[jP,KOp.lite,KOp.keeps]
@[simp] theorem qED {e sz n:Nat}{zs:List Value}{ps:List (Nat×Nat×Operand)}:jP P Qd fl K' (.brow d e sz n zs ps) env σ = wpO P zAR K' (.brow d e sz n zs ps) env σ:=by simp[jP,KOp.lite,KOp.keeps]
@[simp] theorem qGF {m:MOp}{xs:List Operand}:jP P Qd fl K' (.mop d m xs) env σ = (match zP9 m (xs.map (ev env)) σ with
 | some (r,σ')=>K' (env.put d r) σ'
 | none=>False):=rfl
@[simp] theorem qGC {ng:Bool}:jP P Qd fl K' (.isp d ng x) env σ = wpO P zAR K' (.isp d ng x) env σ:=by simp[jP,KOp.lite,KOp.keeps]
@[simp] theorem qGE {t:TypeId}:jP P Qd fl K' (.mki d t x) env σ = wpO P zAR K' (.mki d t x) env σ:=by simp[jP,KOp.lite,KOp.keeps]
@[simp] theorem qGG:jP P Qd fl K' (.mov d x) env σ = wpO P zAR K' (.mov d x) env σ:=by simp[jP,KOp.lite,KOp.keeps]
@[simp] theorem qAo {len sz:Nat}:jP P Qd fl K' (.idxarr d x y len sz) env σ = wpO P zAR K' (.idxarr d x y len sz) env σ:=by simp[jP,KOp.lite,KOp.keeps]
@[simp] theorem qG3 {op:BinOp}:jP P Qd fl K' (.bin d op x y) env σ = wpO P zAR K' (.bin d op x y) env σ:=by simp[jP,KOp.lite,KOp.keeps]
@[simp] theorem qG7 {k:SK}{ng:Bool}:jP P Qd fl K' (.eqv d ng k x y) env σ = wpO P zAR K' (.eqv d ng k x y) env σ:=by simp[jP,KOp.lite,KOp.keeps]
@[simp] theorem qG6 {ks:List SK}{ng:Bool}:jP P Qd fl K' (.eqs d ng ks x y) env σ = wpO P zAR K' (.eqs d ng ks x y) env σ:=by simp[jP,KOp.lite,KOp.keeps]
@[simp] theorem qGH:jP P Qd fl K' (.neg d x) env σ = wpO P zAR K' (.neg d x) env σ:=by simp[jP,KOp.lite,KOp.keeps]
@[simp] theorem qGI:jP P Qd fl K' (.not d x) env σ = wpO P zAR K' (.not d x) env σ:=by simp[jP,KOp.lite,KOp.keeps]
@[simp] theorem qL0 {mx:Bool}{xs:List Operand}:jP P Qd fl K' (.mm d mx xs) env σ = wpO P zAR K' (.mm d mx xs) env σ:=by simp[jP,KOp.lite,KOp.keeps]
@[simp] theorem qEF:jP P Qd fl K' (.len d true x) env σ = wpO P zAR K' (.len d true x) env σ:=by simp[jP,KOp.lite,KOp.keeps]
@[simp] theorem qG8 {i:Nat}:jP P Qd fl K' (.ext d x i) env σ = wpO P zAR K' (.ext d x i) env σ:=by simp[jP,KOp.lite,KOp.keeps]
@[simp] theorem qG5 {f:FuncId}{a b:List Operand}:jP P Qd fl K' (.clo d f a b) env σ = wpO P zAR K' (.clo d f a b) env σ:=by simp[jP,KOp.lite,KOp.keeps]
@[simp] theorem qGJ {sz:Nat}{lo hi mx:Option Operand}:jP P Qd fl K' (.slc d x sz lo hi mx) env σ = wpO P zAR K' (.slc d x sz lo hi mx) env σ:=by simp[jP,KOp.lite,KOp.keeps]
@[simp] theorem qCk {zs:List Value}{ps:List (Nat×Nat×Operand)}:jP P Qd fl K' (.build d zs ps) env σ = wpO P zAR K' (.build d zs ps) env σ:=by simp[jP,KOp.lite,KOp.keeps]
@[simp] theorem qAn {e:TypeId}{sz n:Nat}{zs:List Value}{ps:List (Nat×Nat×Operand)}:jP P Qd fl K' (.bslice d e sz n zs ps) env σ = wpO P zAR K' (.bslice d e sz n zs ps) env σ:=by simp[jP,KOp.lite,KOp.keeps]
@[simp] theorem qCj {zs:List Value}:jP P Qd fl K' (.alloc d zs) env σ = wpO P zAR K' (.alloc d zs) env σ:=by simp[jP,KOp.lite,KOp.keeps]
@[simp] theorem qG4:jP P Qd fl K' (.box d x) env σ = wpO P zAR K' (.box d x) env σ:=by simp[jP,KOp.lite,KOp.keeps]
@[simp] theorem qL1 {n:Nat}:jP P Qd fl K' (.st d x y n) env σ = wpO P zAR K' (.st d x y n) env σ:=by simp[jP,KOp.lite,KOp.keeps]
@[simp] theorem qG2 {e:TypeId}{sz bytes:Nat}:jP P Qd fl K' (.app d e sz bytes x y) env σ = wpO P zAR K' (.app d e sz bytes x y) env σ:=by simp[jP,KOp.lite,KOp.keeps]
@[simp] theorem qG9 {off n:Nat}{agg:Bool}:jP P Qd fl K' (.fld d x off n agg) env σ = wpO P zAR K' (.fld d x off n agg) env σ:=by simp[jP,KOp.lite,KOp.keeps]
@[simp] theorem qLy {len sz:Nat}{agg:Bool}:jP P Qd fl K' (.ix d x y len sz agg) env σ = wpO P zAR K' (.ix d x y len sz agg) env σ:=by simp[jP,KOp.lite,KOp.keeps]
@[simp] theorem qGB {ng:Bool}:jP P Qd fl K' (.isn d ng x) env σ = wpO P zAR K' (.isn d ng x) env σ:=by simp[jP,KOp.lite,KOp.keeps]
@[simp] theorem qLz {n:Nat}{agg:Bool}:jP P Qd fl K' (.ld d x n agg) env σ = zD5 ((ldA (zD8 fl σ) n (ev env x)).bind (zBE agg)) fun r=>K' (env.put d r) σ:=zEC
@[simp] theorem qEC {off:Nat}:jP P Qd fl K' (.addr d x off) env σ = zD5 (zHH (zD8 fl σ) off (ev env x)) fun r=>K' (env.put d r) σ:=by show jG (zP env (zD8 fl σ) (.addr d x off)) _=_;rw[zHk,zEC]; rfl
@[simp] theorem qGA {sz:Nat}:jP P Qd fl K' (.idx d x y sz) env σ = zM7 (zD8 fl σ) sz (ev env x) (ev env y) fun r=>K' (env.put d r) σ:=zNm (d:=d)
def zM8 (σ : St)(a:A)(J:A→Prop):Prop:=match a with
 | .nil=>J (.lit (.int .i64 0))
 | .sl n _=>J (.lit (.int .i64 n))
 | .fsl n _=>J (.lit (.int .i64 n))
 | .row l n=>match σ[l]? with
  | some (.row _ _ _ m _)=>if n=m then J (.lit (.int .i64 n)) else False
  | _=>False
 | .win l n _ k _=>match σ[l]? with
  | some (.row _ _ _ m _)=>if n=m then J (.lit (.int .i64 k)) else False
  | _=>False
 | _=>False
@[simp] theorem qJU {J:A→Prop}:zM8 σ .nil J=J (.lit (.int .i64 0)):=rfl
@[simp] theorem qMG {n:Nat}{cs:List A}{J:A→Prop}:zM8 σ (.sl n cs) J=J (.lit (.int .i64 n)):=rfl
@[simp] theorem qJT {n:Nat}{cs:List A}{J:A→Prop}:zM8 σ (.fsl n cs) J=J (.lit (.int .i64 n)):=rfl
def zRy (o:Option AObj)(n:Nat)(J:A→Prop):Prop:=match o with
 | some (.row _ _ _ m _)=>if n=m then J (.lit (.int .i64 n)) else False
 | _=>False
@[simp] theorem qBC {fz:Bool}{e:TypeId}{s m n:Nat}{cs:List A}{J:A→Prop}:zRy (some (.row fz e s m cs)) n J=if n=m then J (.lit (.int .i64 n)) else False:=rfl
@[simp] theorem qJV {l n:Nat}{J:A→Prop}:zM8 σ (.row l n) J=zRy σ[l]? n J:=by simp only[zM8,zRy]
theorem zUk {τ : St}{J:A→Prop}:jG (zP env τ (.len d false x)) J=zM8 τ (ev env x) J:=by
 simp only[zM8,zP];generalize ev env x=a;cases a<;>simp only[jG,true_and]
 ·rename_i l n;cases τ[l]? with
  | none=>rfl
  | some ob =>
   cases ob<;>try rfl
   rename_i fz e s m cs;by_cases h:n=m<;>simp[h]
 ·rename_i l n _ k _;cases τ[l]? with
  | none=>rfl
  | some ob =>
   cases ob<;>try rfl
   rename_i fz e s m cs;by_cases h:n=m<;>simp[h]
@[simp] theorem qGD:jP P Qd fl K' (.len d false x) env σ = zM8 (zD8 fl σ) (ev env x) fun r=>K' (env.put d r) σ:=by show jG (zP env (zD8 fl σ) (.len d false x)) _=_;exact zUk
def zHa (P:Program)(Qd:Value→St→Prop)(fl:Nat) (σ : St)(d:Option Nat)(K':Env→St→Prop)(f:A)(args:List A)(env:Env):Prop:=zXZ P Qd fl σ d K' f args env
@[simp] theorem qEE {args:List Operand}:jP P Qd fl K' (.call d x args) env σ = zHa P Qd fl σ d K' (ev env x) (args.map (ev env)) env:=rfl
@[simp] theorem qMr {g:FuncId}{first cap args:List A}:zHa P Qd 0 σ d K' (.clo g first cap) args env=(zA P g=true∧zKz P σ d (fun e=>K' e σ) g (first++args++cap) env):=rfl
@[simp] theorem qMs {g:FuncId}{first cap args:List A}:zHa P Qd 1 σ d K' (.clo g first cap) args env=(zA P g=true∧zI5 P σ d (fun e=>K' e σ) g (first++args++cap) env):=rfl
@[simp] theorem qMt {g:FuncId}{first cap args:List A}:zHa P Qd 3 σ d K' (.clo g first cap) args env=(zA P g=true∧zQ5 P σ d K' g (first++args++cap) env):=rfl
@[simp] theorem qMv {g:FuncId}{first cap args:List A}:zHa P Qd 7 σ d K' (.clo g first cap) args env=(zA P g=true∧zI6 P σ d K' g (first++args++cap) env):=rfl
@[simp] theorem qMw {g:FuncId}{first cap args:List A}:zHa P Qd 8 σ d K' (.clo g first cap) args env=(zA P g=true∧zMn P σ d K' g (first++args++cap) env):=rfl
@[simp] theorem qJg {g:FuncId}{first cap args:List A}:zHa P Qd 10 σ d K' (.clo g first cap) args env=(zA P g=true∧zI7 P Qd σ d K' g (first++args++cap) env):=rfl
@[simp] theorem qMx {n:Nat}{g:FuncId}{first cap args:List A}(h1:10<n):zHa P Qd n σ d K' (.clo g first cap) args env=(zA P g=true∧(if 1000≤n∧n<2000 then zMm P (n-1000) σ d K' g (first++args++cap) env else if 3000≤n∧n<4000 then zMl P (n-3000) σ d K' g (first++args++cap) env else zGx P σ d K' g (first++args++cap) env)):=by obtain⟨m,rfl⟩:∃m,n=m+11:=⟨n-11,by omega⟩;rfl
@[simp] theorem qMu {g:FuncId}{first cap args:List A}:zHa P Qd 4 σ d K' (.clo g first cap) args env=(zA P g=true∧zGx P σ d K' g (first++args++cap) env):=rfl
@[simp] theorem qJh {b:Nat}{args:List A}:zHa P Qd 4 σ d K' (yv b) args env = ∃r σ',(zJ0 P b args σ fun o τ=>o=.ret r∧τ = σ')∧K' (env.put d r) σ':=by show (4=4∧_)=_;simp
theorem yF {t:Bool}{A B:Env→St→Prop}(h1:t=true→A env σ)(h2:t=false→B env σ):zF5 t A B env σ:=⟨h1,h2⟩
theorem zZ5 {S:Type}{W:(Ex→Env→St→Prop)→Env→St→Prop}(E:S→List (Nat×A))(T:S→St)(I:S→Prop) (μ : S→Nat)(s0:S)(h0:I s0)(start:zBL n0 (qT (E s0)) (T s0) env σ)
 (round:∀s,I s→W (rnd n0 (fun n e t=>∃s,I s∧μ s=n∧e=qT (E s)∧t=T s) (μ s) Q) (qT (E s)) (T s)):zOB n0 W Q env σ:=by
 refine⟨fun n e t=>∃s,I s∧μ s=n∧e=qT (E s)∧t=T s,⟨μ s0,_,_,start,s0,h0,rfl,rfl,rfl⟩,?_⟩;rintro n e t ⟨s,hs,rfl,rfl,rfl⟩;exact round s hs
theorem qEo {S:Type}{E:S→List (Nat×A)}{T:S→St}{I:S→Prop} {μ : S→Nat}{n:Nat}(s:S)(hs:I s)(hm : μ s<n)(hw:zBL n0 (qT (E s)) (T s) env σ) :
 rnd n0 (fun n e t=>∃s,I s∧μ s=n∧e=qT (E s)∧t=T s) n Q .norm env σ:=⟨μ s,hm,_,_,hw,s,hs,rfl,rfl,rfl⟩
@[simp] theorem qDQ {i t:Nat}{a:A}{l:List (Nat×A)}:qT ((i,a)::l) t=if t=i then a else qT l t:=rfl
@[simp] theorem qF4 {t:Nat}:qT [] t=.any:=rfl
end
end Go.Abs
namespace Go.Abs
def zWb (o k c:Nat):A→A
 | .sl _ cs=>if k=0 then .sl 0 [] else .sl k ((cs.drop o).take c)
 | _=>.any
mutual
def vw (rf:Bool→Nat→Nat→A)(g:Nat→Option Nat):A→A
 | .ptr l o=>match g l with
  | some i=>.ptr i o
  | none=>rf true l o
 | .row l n=>match g l with
  | some i=>.row i n
  | none=>rf false l n
 | .rwp l n o=>match g l with
  | some i=>.rwp i n o
  | none=>.any
 | .map l=>match g l with
  | some i=>.map i
  | none=>.any
 | .win l n o k c=>match g l with
  | some i=>.win i n o k c
  | none=>zWb o k c (rf false l n)
 | .agg cs=>.agg (vwL rf g cs)
 | .tup cs=>.tup (vwL rf g cs)
 | .sl n cs=>.sl n (vwL rf g cs)
 | .fsl n cs=>.fsl n (vwL rf g cs)
 | .rptr cs=>.rptr (vwL rf g cs)
 | .clo f a b=>.clo f (vwL rf g a) (vwL rf g b)
 | .any=>.any
 | .nil=>.nil
 | .lit v=>.lit v
def vwL (rf:Bool→Nat→Nat→A)(g:Nat→Option Nat):List A→List A
 | []=>[]
 | c::cs=>vw rf g c::vwL rf g cs
end
def seen (σ : St)(g:Nat→Option Nat):Nat→Bool→Nat→Nat→A
 | 0,_,_,_=>.any
 | k+1,false,l,n=>match σ[l]? with
  | some (.row _ _ _ m cs)=>if n=m then .sl n (vwL (seen σ g k) g cs) else .any
  | _=>.any
 | k+1,true,l,o=>match σ[l]? with
  | some (.box cs)=>.rptr ((vwL (seen σ g k) g cs).drop o)
  | _=>.any
def vwO (rf:Bool→Nat→Nat→A)(g:Nat→Option Nat):AObj→AObj
 | .dead=>.dead
 | .box cs=>.box (vwL rf g cs)
 | .row fz e sz n cs=>.row fz e sz n (vwL rf g cs)
 | .lp b r M es=>.lp b r M (es.map fun p=>(p.1,vw rf g p.2))
 | .mp fr nk es=>.mp fr nk (es.map fun p=>(p.1,vw rf g p.2))
 | .it m n met=>match g m with
  | some i=>.it i n met
  | none=>.dead
 | .rsv=>.rsv
def zGX:AObj→AObj
 | .dead=>.dead
 | .box cs=>.box (jK cs)
 | .row fz e sz n cs=>.row fz e sz n (jK cs)
 | .lp b r M es=>.lp b r M (es.map fun p=>(p.1,nrm0 p.2))
 | .mp fr nk es=>.mp fr nk (es.map fun p=>(p.1,nrm0 p.2))
 | .it m n met=>.it m n met
 | .rsv=>.rsv
def qX:List Nat→Nat→Option Nat
 | [],_=>none
 | k::ks,l=>if l=k then some 0 else (qX ks l).map (· + 1)
theorem zJk:∀{ks:List Nat} {l i:Nat},qX ks l=some i→ks[i]?=some l
 | [],l,i,h=>by simp[qX]at h
 | k::ks,l,i,h=>by
  simp only[qX]at h;split at h
  ·cases h; rename_i h; simp[h]
  ·simp only[jAe]at h;obtain⟨j,hj,rfl⟩:=h
   simpa using zJk hj
theorem zL9:∀{ks:List Nat} {l:Nat},qX ks l=none→l∉ks
 | [],l,_=>by simp
 | k::ks,l,h=>by
  simp only[qX]at h;split at h
  ·cases h
  ·rename_i hne;simp only[Option.map_eq_none_iff]at h;simp[hne,zL9 h]
section
variable {P:Program}{H H':Mem}{L L':List LI} {σ : St}{w:World}
theorem zJd:∀{ks:List Nat} {i j x:Nat},ks.Nodup→ks[i]?=some x→ks[j]?=some x→i=j
 | [],i,j,x,_,h,_=>by simp at h
 | k::ks,i,j,x,hd,h1,h2=>by
  rw[jCf]at hd;cases i with
  | zero =>
   cases j with
   | zero=>rfl
   | succ j =>
    simp only[jAx,jB5,jA1]at h1 h2;subst h1;exact(hd.1 (jBt h2)).elim
  | succ i =>
   cases j with
   | zero =>
    simp only[jAx,jB5,jA1]at h1 h2;subst h2;exact(hd.1 (jBt h1)).elim
   | succ j =>
    simp only[jB5]at h1 h2;rw[zJd hd.2 h1 h2]
mutual
theorem Rel.vw {rf:Bool→Nat→Nat→A}{g:Nat→Option Nat}(hh:HLe H H')(hg:∀l i,g l=some i→L'[i]?=L[l]?)(hr:∀l n v,g l=none→Rel H L (.row l n) v→Rel H' L' (rf false l n) v)(hp:∀l n v,g l=none→Rel H L (.ptr l n) v→Rel H' L' (rf true l n) v) :
 ∀(a:A) {v:Value},Rel H L a v→Rel H' L' (vw rf g a) v
 | .ptr l o,v,h=>by
  simp only[Abs.vw];split
  ·rename_i i hi;simp only[Rel]at h⊢;rw[hg l i hi];exact h
  ·rename_i hi;exact hp l o v hi h
 | .row l n,v,h=>by
  simp only[Abs.vw];split
  ·rename_i i hi;simp only[Rel]at h⊢;rw[hg l i hi];exact h
  ·rename_i hi;exact hr l n v hi h
 | .rwp l n o,v,h=>by
  simp only[Abs.vw];split
  ·rename_i i hi;simp only[Rel]at h⊢;rw[hg l i hi];exact h
  ·simp[Rel]
 | .map l,v,h=>by
  simp only[Abs.vw];split
  ·rename_i i hi;simp only[Rel]at h⊢;rw[hg l i hi];exact h
  ·simp[Rel]
 | .win l n o k c,v,h=>by
  simp only[Abs.vw];split
  ·rename_i i hi;simp only[Rel]at h⊢;rw[hg l i hi];exact h
  ·rename_i hi;simp only[Rel]at h;obtain⟨h0,li,e,h1,h2,h3⟩:=h;by_cases hn:n=li.len
   ·obtain⟨g0,ad,cap,rfl,g1,g2,g3⟩:=h3 hn;have h4:=hr l n (match li.block with | none=>.slice none 0 0 | some b=>.slice (some ⟨b,0,none⟩) n li.cap) hi (by
     simp only[Rel];exact⟨by split<;>rfl,li,e,h1,h2,fun _=>rfl⟩)
    generalize rf false l n=x at h4;cases x<;>simp only[zWb]<;>try (simp only[Rel]; done)
    rename_i n' cs;split
    ·rename_i hk;subst hk;simp only[Rel];exact⟨ad,cap,rfl,jBo _,g2,.inl (by simp)⟩
    ·rename_i hk;rcases g3 with g3 | ⟨b,g3,rfl⟩
     ·exact(hk g3).elim
     ·simp only[g3,Rel]at h4 ⊢;obtain⟨a',cap',k1,k2,k3,k4⟩:=h4;simp only[Value.slice.injEq]at k1;obtain⟨rfl,rfl,rfl⟩:=k1;refine⟨_,cap,rfl,g1,g2,?_⟩;rcases k4 with ⟨rfl,rfl⟩ | ⟨b',o',us,k5,k6,k7,k8⟩
      ·omega
      ·cases k5;refine .inr ⟨b,o,_,rfl,(k6.drop o).take c,zBh k7,?_⟩;have:=(k8.drop o).take c
       rwa [jB0]at this
   ·have h4:=hr l n (.bool true) hi (by
     simp only[Rel];exact⟨rfl,li,e,h1,h2,fun e=>(hn e).elim⟩)
    generalize rf false l n=x at h4;cases x<;>simp only[zWb]<;>try (simp only[Rel]; done)
    simp only[Rel]at h4;obtain⟨_,_,h4,_⟩:=h4;cases h4
 | .agg cs,v,h=>by simp only[Rel,Abs.vw]at h⊢;obtain⟨vs,rfl,h1,h2⟩:=h;exact⟨vs,rfl,zY.vw hh hg hr hp cs h1,h2⟩
 | .tup cs,v,h=>by simp only[Rel,Abs.vw]at h⊢;obtain⟨vs,rfl,h1⟩:=h;exact⟨vs,rfl,zY.vw hh hg hr hp cs h1⟩
 | .sl n cs,v,h=>by
  simp only[Rel,Abs.vw]at h⊢;obtain⟨a,cap,rfl,h1,h2,h3⟩:=h;refine⟨a,cap,rfl,h1,h2,?_⟩;rcases h3 with ⟨h3,rfl⟩ | ⟨b,o,us,rfl,h4,h5,h6⟩
  ·exact .inl ⟨h3,by simp[vwL]⟩
  ·exact .inr ⟨b,o,us,rfl,zY.vw hh hg hr hp cs h4,h5,h6.mono hh⟩
 | .fsl n cs,v,h=>by
  simp only[Rel,Abs.vw]at h⊢;obtain⟨a,rfl,h1,h3⟩:=h;refine⟨a,rfl,h1,?_⟩;rcases h3 with ⟨h3,rfl⟩ | ⟨b,o,us,rfl,h4,h5,h6⟩
  ·exact .inl ⟨h3,by simp[vwL]⟩
  ·exact .inr ⟨b,o,us,rfl,zY.vw hh hg hr hp cs h4,h5,h6.mono hh⟩
 | .rptr cs,v,h=>by simp only[Rel,Abs.vw]at h⊢;obtain⟨b,o,us,rfl,h4,h5,h6⟩:=h;exact⟨b,o,us,rfl,zY.vw hh hg hr hp cs h4,h5,h6.mono hh⟩
 | .clo f first cap,v,h=>by simp only[Rel,Abs.vw]at h⊢;obtain⟨fs,cs,rfl,h1,h2⟩:=h;exact⟨fs,cs,rfl,zY.vw hh hg hr hp first h1,zY.vw hh hg hr hp cap h2⟩
 | .any,_,_=>by simp[Rel,Abs.vw]
 | .nil,_,h=>by simpa [Rel,Abs.vw] using h
 | .lit _,_,h=>by simpa [Rel,Abs.vw] using h
theorem zY.vw {rf:Bool→Nat→Nat→A}{g:Nat→Option Nat}(hh:HLe H H')(hg:∀l i,g l=some i→L'[i]?=L[l]?)(hr:∀l n v,g l=none→Rel H L (.row l n) v→Rel H' L' (rf false l n) v)(hp:∀l n v,g l=none→Rel H L (.ptr l n) v→Rel H' L' (rf true l n) v) :
 ∀(cs:List A) {vs:List Value},zY H L cs vs→zY H' L' (vwL rf g cs) vs
 | [],vs,h=>by simpa [zY,vwL] using h
 | c::cs,vs,h=>by simp only[zY,vwL]at h⊢;obtain⟨u,us,rfl,h1,h2⟩:=h;exact⟨u,us,rfl,Rel.vw hh hg hr hp c h1,zY.vw hh hg hr hp cs h2⟩
end
def AObj.held:AObj→Nat
 | .row _ _ sz n _=>n*sz
 | .box cs=>cs.length
 | _=>0
def zOf (g:Nat→Option Nat)(L:List LI) (σ : St)(b o:Nat):Prop :=
 ∃(i:Nat) (li:LI) (ob:AObj),g i=none∧L[i]?=some li∧σ[i]?=some ob∧li.block=some b∧o<ob.held
open Classical in
noncomputable def zLg (g:Nat→Option Nat) (H:Mem) (L:List LI) (σ : St) (w:World):Mem:=⟨fun b o=>match H b o with
 | some v=>some v
 | none=>if zOf g L σ b o then w.cell? ⟨b,o,none⟩ else none,fun b o v h=>by simp only[H.2 b o v h]⟩
open Classical in
theorem zFd (g:Nat→Option Nat)(H:Mem)(L:List LI) (σ : St)(w:World)(b o:Nat):zLg g H L σ w b o=match H b o with
 | some v=>some v
 | none=>if zOf g L σ b o then w.cell? ⟨b,o,none⟩ else none:=rfl
theorem zFe {g:Nat→Option Nat}:HLe H (zLg g H L σ w):=fun b o v h=>by rw[zFd,h]
theorem zPn {g:Nat→Option Nat}{b o:Nat}{v:Value}(h:zLg g H L σ w b o=some v):H b o=some v∨(zOf g L σ b o∧w.cell? ⟨b,o,none⟩=some v):=by
 rw[zFd]at h;split at h
 ·rename_i u hu; cases h; exact .inl hu
 ·split at h
  ·rename_i hr; exact .inr ⟨hr,h⟩
  ·cases h
theorem zPo {g:Nat→Option Nat}(hs:RelSt H L σ w){b o:Nat}{v:Value}(hx:zOf g L σ b o)(hc:w.cell? ⟨b,o,none⟩=some v):zLg g H L σ w b o=some v:=by
 rw[zFd];split
 ·rename_i x hx;have:=hs.pers b o x hx;rw[hc]at this;exact this.symm
 ·rw[if_pos hx];exact hc
theorem Rel.seen {g:Nat→Option Nat}(hs:RelSt H L σ w)(hg:∀l i,g l=some i→L'[i]?=L[l]?) :
 ∀(k:Nat),(∀(l n:Nat) (v:Value),g l=none→Rel H L (.row l n) v→Rel (zLg g H L σ w) L' (seen σ g k false l n) v)∧∀(l n:Nat) (v:Value),g l=none→Rel H L (.ptr l n) v→Rel (zLg g H L σ w) L' (seen σ g k true l n) v
 | 0=>⟨fun l n v _ _=>by simp[Abs.seen,Rel],fun l n v _ _=>by simp[Abs.seen,Rel]⟩
 | k+1=>by
  obtain⟨ih1,ih2⟩:=Rel.seen hs hg k;refine⟨fun l n v hl h=>?_,fun l n v hl h=>?_⟩
  ·simp only[Abs.seen];split
   ·rename_i fz e sz m cs hσ;split
    ·rename_i hn;subst hn;simp only[Rel]at h⊢;obtain⟨_,li,e1,e2,e3,hv⟩:=h;have hob:=hs.obj l li _ e1 hσ;simp only[zW]at hob;obtain⟨_,g1,g2,hob⟩:=hob;have hv:=hv g1.symm;rcases hob with ⟨hb,h0⟩ | ⟨b,cur,hb,k1,k2,k3,k4,k5,k6,k7⟩
     ·rw[hb]at hv;subst h0;have hcs:cs=[]:=jC (by simpa using g2);exact⟨none,0,hv,jA _,jBo _,.inl ⟨rfl,by simp[hcs,vwL]⟩⟩
     ·rw[hb]at hv;refine⟨_,_,hv,k2,k3,.inr ⟨b,0,_,rfl,zY.vw zFe hg ih1 ih2 cs k5,k6,fun j u hu=>?_⟩⟩;have hj:j<n*sz:=by
       rw[jB3]at hu;split at hu
       ·assumption
       ·cases hu
      have hc:w.cell? ⟨b,j,none⟩=some u:=by
       rw[cell_of_row w b j cur e (0,0) k1];rw[jB3,if_pos hj]at hu
       simpa using hu
      simp only[jB0];exact zPo hs ⟨l,li,_,hl,e1,hσ,hb,hj⟩ hc
    ·simp[Rel]
   ·simp[Rel]
  ·simp only[Abs.seen];split
   ·rename_i cs hσ;simp only[Rel]at h⊢;obtain⟨li,b,e1,e2,e3,hv⟩:=h;have hob:=hs.obj l li _ e1 hσ;simp only[zW]at hob;obtain⟨_,b',vs,e,hb',hh,hr,h1,_⟩:=hob;rw[e2]at hb';cases hb';refine⟨b,n,vs.drop n,hv,(zY.vw zFe hg ih1 ih2 cs hr).drop n,fun u hu=>h1 u (jBq hu),fun j u hu=>?_⟩;rw[jD4]at hu;have hlt:n+j<cs.length:=by rw[←hr.length];exact(jA4.1 hu).1
    refine zPo hs ⟨l,li,_,hl,e1,hσ,e2,hlt⟩ ?_;rw[cell_of_row w b _ _ e (0,0) hh]
    simpa using hu
   ·simp[Rel]
def zAB (σ : St)(rf:Bool→Nat→Nat→A)(g:Nat→Option Nat):List Nat→St→Prop
 | [],[]=>True
 | j::js,o'::os=>(match σ[j]? with
  | some o=>o'=vwO rf g o∨o'=zGX (vwO rf g o)
  | none=>False)∧zAB σ rf g js os
 | _,_=>False
theorem zEK {rf:Bool→Nat→Nat→A}{g:Nat→Option Nat}:∀{ks:List Nat} {σ':St},zAB σ rf g ks σ'→σ'.length=ks.length
 | [],[],_=>rfl
 | _::_,_::_,h=>by simp[zEK h.2]
theorem zEJ {rf:Bool→Nat→Nat→A}{g:Nat→Option Nat}:∀{ks:List Nat} {σ':St},zAB σ rf g ks σ'→∀{i j:Nat} {o':AObj},ks[i]?=some j→σ'[i]?=some o'→∃o,σ[j]?=some o∧(o'=vwO rf g o∨o'=zGX (vwO rf g o))
 | [],[],_,i,j,o',h,_=>by simp at h
 | k::ks,p::σ',h,i,j,o',h1,h2=>by
  cases i with
  | zero =>
   simp only[jAx,jA1]at h1 h2;subst h1; subst h2;have:=h.1;split at this
   ·rename_i o ho; exact⟨o,ho,this⟩
   ·exact this.elim
  | succ i =>
   simp only[jB5]at h1 h2;exact zEJ h.2 h1 h2
theorem zW.nrm {li:LI}{o:AObj}(h:zW H L w li o):zW H L w li (zGX o):=by
 cases o with
 | dead=>trivial
 | box cs =>
  simp only[zW,zGX]at h⊢;obtain⟨h0,b,vs,e,h1,h2,h3,h4,h5⟩:=h;exact⟨h0,b,vs,e,h1,h2,zY.nrm0 _ h3,h4,h5⟩
 | row fz e sz n cs =>
  simp only[zW,zGX]at h⊢;obtain⟨h0,h1,h2,h3⟩:=h;have hl:∀cs:List A,(jK cs).length=cs.length:=fun cs=>by induction cs with
   | nil=>rfl
   | cons c cs ih=>simp[jK,ih]
  refine⟨h0,h1,by rw[hl]; exact h2,?_⟩;rcases h3 with h3 | ⟨b,cur,g1,g2,g3,g4,g5,g6,g7,g8⟩
  ·exact .inl h3
  ·exact .inr ⟨b,cur,g1,g2,g3,g4,g5,zY.nrm0 _ g6,g7,g8⟩
 | lp b r M es =>
  simp only[zW,zGX]at h⊢;obtain⟨h0,h1,tmps,h2,h3,h4⟩:=h;exact⟨h0,h1,tmps,h2,h3,h4.map _ fun a v ha=>Rel.nrm0 a ha⟩
 | mp fr nk es =>
  simp only[zW,zGX]at h⊢;obtain⟨h0,b,ents,ck,h1,h2,h3,h4⟩:=h;exact⟨h0,b,ents,ck,h1,h2,zAx.map _ (fun p _ v hv=>Rel.nrm0 _ hv) h3,h4.1,zLl h4.2⟩
 | it m n met=>exact h
 | rsv=>exact h
theorem zHD {rf:Bool→Nat→Nat→A}{g:Nat→Option Nat}:∀{cs:List A},(vwL rf g cs).length=cs.length
 | []=>rfl
 | c::cs=>by simp[vwL,zHD]
theorem zOq {H0:Mem}{L0:List LI}{w0:World}(ks:List Nat)(fuel:Nat) {σ':St}(hk:∀i,i<L0.length→ks[i]?=some i)(hd:ks.Nodup)
 (ho:zAB σ (Abs.seen σ (qX ks) fuel) (qX ks) ks σ')(h:Nxt H0 L0 w0 H L σ w) :
 ∃H' L',Nxt H0 L0 w0 H' L' σ' w∧HLe H H'∧∀a v,Rel H L a v→Rel H' L' (Abs.vw (Abs.seen σ (qX ks) fuel) (qX ks) a) v:=by
 have hs:=h.st;let g:=qX ks;let L':List LI:=ks.map fun k=>L.getD k ⟨none,0,0,false⟩
 have hin:∀(i j:Nat),ks[i]?=some j→∃li,L[j]?=some li∧L'[i]?=some li:=by
  intro i j hij;have hi:i < σ'.length:=by rw[zEK ho]; exact(jA4.1 hij).1
  obtain⟨o,hσ,_⟩:=zEJ ho hij (jA2 hi);have hj:j<L.length:=by rw[hs.len]; exact(jA4.1 hσ).1
  refine⟨L[j],jA2 hj,?_⟩;simp[L',hij,hj]
 have hback:∀{i:Nat} {li:LI},L'[i]?=some li→∃j,ks[i]?=some j∧L[j]?=some li:=by
  intro i li hi;have hi':i<ks.length:=by simpa [L'] using (jA4.1 hi).1
  obtain⟨li',h1,h2⟩:=hin i ks[i] (jA2 hi');rw[hi]at h2;cases h2;exact⟨_,jA2 hi',h1⟩
 have hg:∀l i,g l=some i→L'[i]?=L[l]?:=by intro l i hl;obtain⟨li,h1,h2⟩:=hin i l (zJk hl);rw[h1,h2]
 have hrel:∀a v,Rel H L a v→Rel (zLg g H L σ w) L' (Abs.vw (Abs.seen σ g fuel) g a) v:=fun a v ha=>Rel.vw zFe hg (Rel.seen hs hg fuel).1 (Rel.seen hs hg fuel).2 a ha
 have hrelL:∀cs vs,zY H L cs vs→zY (zLg g H L σ w) L' (vwL (Abs.seen σ g fuel) g cs) vs:=fun a v ha=>zY.vw zFe hg (Rel.seen hs hg fuel).1 (Rel.seen hs hg fuel).2 a ha
 have hkeep:∀(j:Nat) (li:LI) (b:Nat),j∈ks→L[j]?=some li→li.block=some b→∀o,zLg g H L σ w b o=H b o:=by
  intro j li b hj hL hb o;rw[zFd];cases hH:H b o with
  | some v=>rfl
  | none =>
   simp only;rw[if_neg];rintro⟨i,li',ob,g1,g2,g3,g4,g5⟩;have:=hs.inj i j li' li b g2 hL g4 hb;subst this;exact zL9 g1 hj
 refine⟨zLg g H L σ w,L',⟨⟨fun b o v hv=>(zPn hv).elim (hs.pers b o v) fun h=>h.2,by simp[L',zEK ho],fun i li o hL hσ=>?_,fun i j x y b hi hj hx hy=>?_,fun i li b hi hb=>?_⟩,
  ⟨h.step.os,h.step.tape,h.step.output,h.step.size,h.step.keep,h.step.hle.trans zFe,fun b o v hv=>?_,h.step.drawn,h.step.dfr⟩,fun i x hx=>?_,fun b ⟨i,x,hi,hx⟩=>?_⟩,zFe,hrel⟩
 ·obtain⟨j,hj,hLj⟩:=hback hL;obtain⟨o0,hσ0,heq⟩:=zEJ ho hj hσ;have hob:=hs.obj j li o0 hLj hσ0;have hjm:j∈ks:=jBt hj;have key:zW (zLg g H L σ w) L' w li (vwO (Abs.seen σ g fuel) g o0):=by
   cases o0 with
   | dead=>trivial
   | box cs =>
    simp only[zW,vwO]at hob ⊢;obtain⟨h0,b,vs,e,h1,h2,h3,h4,h5⟩:=hob;exact⟨h0,b,vs,e,h1,h2,hrelL _ _ h3,h4,fun o=>by rw[hkeep j li b hjm hLj h1]; exact h5 o⟩
   | row fz e sz n cs =>
    simp only[zW,vwO]at hob ⊢;obtain⟨h0,h1,h2,h3⟩:=hob;refine⟨h0,h1,by rw[zHD]; exact h2,?_⟩;rcases h3 with h3 | ⟨b,cur,g1,g2,g3,g4,g5,g6,g7,g8⟩
    ·exact .inl h3
    ·refine .inr ⟨b,cur,g1,g2,g3,g4,g5,hrelL _ _ g6,g7,?_⟩;cases fz with
     | false=>exact fun o=>by rw[hkeep j li b hjm hLj g1]; exact g8 o
     | true=>exact⟨g8.1.mono zFe,fun o ho=>by rw[hkeep j li b hjm hLj g1]; exact g8.2 o ho⟩
   | lp b r M es =>
    simp only[zW,vwO]at hob ⊢;obtain⟨h0,h1,tmps,h2,h3,h4⟩:=hob;exact⟨h0,h1,tmps,h2,h3,h4.map _ hrel⟩
   | mp fr nk es =>
    simp only[zW,vwO]at hob ⊢;obtain⟨h0,b,ents,ck,h1,h2,h3,h4⟩:=hob;exact⟨h0,b,ents,ck,h1,h2,zAx.map _ (fun p _ v hv=>hrel _ _ hv) h3,h4.1,zLl h4.2⟩
   | it m n met =>
    simp only[vwO];split
    ·rename_i i0 hi0;simp only[zW]at hob ⊢;obtain⟨h0,b,mb,lm,h1,h2,h3,h4,h5⟩:=hob;have hp:Rel H L (.ptr m 0) (.pointer (some ⟨mb,0,none⟩)):=by simp only[Rel]; exact⟨lm,mb,h2,h3,h4,rfl⟩
     have hp:=hrel _ _ hp;simp only[Abs.vw,hi0,Rel]at hp;obtain⟨lm',mb',k2,k3,k4,k5⟩:=hp;cases k5;exact⟨h0,b,mb,lm',h1,k2,k3,k4,h5⟩
    ·trivial
   | rsv=>exact hob
  rcases heq with rfl | rfl
  ·exact key
  ·exact key.nrm
 ·obtain⟨i',hi',hLi⟩:=hback hi;obtain⟨j',hj',hLj⟩:=hback hj;have:=hs.inj i' j' x y b hLi hLj hx hy;subst this;have hi1:=(jA4.1 hi').1;have hj1:=(jA4.1 hj').1;exact zJd hd hi' hj'
 ·obtain⟨j,_,hLj⟩:=hback hi;exact hs.lt j li b hLj hb
 ·rcases zPn hv with h1 | ⟨⟨i,li,_,_,hL,_,hb,_⟩,_⟩
  ·exact h.step.hnew b o v h1
  ·exact .inr (h.own b ⟨i,li,hL,hb⟩)
 ·obtain⟨x',hx',hr⟩:=h.lle i x hx;have hi:i<L0.length:=(jA4.1 hx).1;obtain⟨li,h1,h2⟩:=hin i i (hk i hi);rw[hx']at h1;cases h1;exact⟨_,h2,hr⟩
 ·obtain⟨j,_,hLj⟩:=hback hi;exact h.own b ⟨j,x,hLj,hx⟩
theorem zBL.sel {n0:Nat}{env:Env}(ks:List Nat)(fuel:Nat)(l:List (Nat×A)) {σ':St}(hk:∀i,i<n0→ks[i]?=some i)(hd:ks.Nodup)(ho:zAB σ (Abs.seen σ (qX ks) fuel) (qX ks) ks σ')
 (hl:∀p∈l,p.2=Abs.vw (Abs.seen σ (qX ks) fuel) (qX ks) (env p.1)∨p.2=nrm0 (Abs.vw (Abs.seen σ (qX ks) fuel) (qX ks) (env p.1))):zBL n0 (qT l) σ' env σ:=by
 intro H0 L0 w0 H L w N tmps h0 h1 h2;subst h0;obtain⟨H',L',g1,_,g3⟩:=zOq ks fuel hk hd ho h1;refine⟨H',L',g1,h2.1,fun t=>?_⟩;rcases zEB l t with h | h
 ·rw[h]; simp[Rel]
 ·have:=g3 _ _ (h2.2 t);rcases hl _ h with e | e
  ·simp only at e; rw[e]; exact this
  ·simp only at e; rw[e]; exact Rel.nrm0 _ this
end
end Go.Abs
namespace Go.Abs
def Ret (P:Program)(f:FuncId)(args:List A) (σ0:St)(r:A) (σ1:St):Prop:=yX P f args σ0 fun o σ'=>o=.ret r∧σ' = σ1
def yA:Bool→Nat→Nat→A:=fun _ _ _=>.any
def jX {α : Type}:List α→List Nat→List α→List α
 | s,[],t=>s++t
 | s,j::js,o::os=>jX (s.set j o) js os
 | s,_::_,[]=>s
theorem zDc {α : Type}:∀{js:List Nat} {s t:List α},js.length≤t.length→(jX s js t).length=s.length+(t.length-js.length)
 | [],s,t,_=>by simp[jX]
 | j::js,s,[],h=>by simp at h
 | j::js,s,o::os,h=>by simp only[jX,jAd]at h⊢;rw[zDc (by omega)];simp
theorem zFr {α : Type}:∀{js:List Nat} {s t:List α} {x:Nat},js.length≤t.length→x<s.length→x∉js→(jX s js t)[x]?=s[x]?
 | [],s,t,x,_,hx,_=>by simp[jX,jAo hx]
 | j::js,s,[],x,h,_,_=>by simp at h
 | j::js,s,o::os,x,h,hx,hn=>by simp only[jX,jAd,jA3,not_or]at h hn ⊢;rw[zFr (by omega) (by simpa using hx) hn.2,jAf (Ne.symm hn.1)]
theorem zDE {α : Type}:∀{js:List Nat} {s t:List α} {i x:Nat},js.length≤t.length→js.Nodup→(∀y∈js,y<s.length)→js[i]?=some x→(jX s js t)[x]?=t[i]?
 | [],s,t,i,x,_,_,_,h=>by simp at h
 | j::js,s,[],i,x,h,_,_,_=>by simp at h
 | j::js,s,o::os,i,x,h,hd,hb,hi=>by
  rw[jCf]at hd;simp only[jX,jAd]at h⊢;cases i with
  | zero =>
   simp only[jAx,jA1]at hi;subst hi;have hj:=hb j (jAn ..);rw[zFr (by omega) (by simpa using hj) hd.1,jAq hj];rfl
  | succ i =>
   simp only[jB5]at hi ⊢;exact zDE (by omega) hd.2 (fun y hy=>by simpa using hb y (jAm _ hy)) hi
theorem zH3 {α : Type}:∀{js:List Nat} {s t:List α} {k:Nat},js.length≤t.length→(jX s js t)[s.length+k]?=t[js.length+k]?
 | [],s,t,k,_=>by simp only[jX,jBm,jB0];rw[jBg (by omega),Nat.add_sub_cancel_left]
 | j::js,s,[],k,h=>by simp at h
 | j::js,s,o::os,k,h=>by
  simp only[jX,jAd]at h⊢;have:=zH3 (js:=js) (s:=s.set j o) (t:=os) (k:=k) (by omega);rw[jDn]at this;rw[this];have e:js.length+1+k=js.length+k+1:=by omega
  rw[e,jB5]
def zDI (js:List Nat)(n l:Nat):Nat:=match js,l with
 | [],l=>n+l
 | j::_,0=>j
 | _::js,l+1=>zDI js n l
theorem zKm:∀{js:List Nat} {n i x:Nat},js[i]?=some x→zDI js n i=x
 | [],n,i,x,h=>by simp at h
 | j::js,n,0,x,h=>by simpa [zDI] using h
 | j::js,n,i+1,x,h=>by simp only[zDI]; exact zKm (by simpa using h)
theorem zHM:∀{js:List Nat} {n k:Nat},zDI js n (js.length+k)=n+k
 | [],n,k=>by simp[zDI]
 | j::js,n,k=>by
  have e:(j::js).length+k=js.length+k+1:=by simp; omega
  rw[e];simp only[zDI];exact zHM
def ren (js:List Nat)(n:Nat)(a:A):A:=vw yA (fun l=>some (zDI js n l)) a
def qEm (js:List Nat)(n:Nat)(cs:List A):List A:=vwL yA (fun l=>some (zDI js n l)) cs
def zBM (js:List Nat)(n:Nat)(o:AObj):AObj:=vwO yA (fun l=>some (zDI js n l)) o
def zBC (js:List Nat):List A→List A→Prop
 | [],[]=>True
 | a'::aS',a::aS=>(a=vw yA (qX js) a'∨a=nrm0 (vw yA (qX js) a'))∧zBC js aS' aS
 | _,_=>False
section
variable {P:Program}{H H':Mem}{L L':List LI} {σ : St}{w:World}
theorem zW.vw {H':Mem}{L':List LI}{w':World}{rf:Bool→Nat→Nat→A}{g:Nat→Option Nat}{li:LI}{o:AObj}(h:zW H L w li o)(hrel:∀cs vs,zY H L cs vs→zY H' L' (vwL rf g cs) vs)
 (hw:∀b,li.block=some b→w'.heap[b]?=w.heap[b]?)(hh:HLe H H')(hb:∀b,li.block=some b→∀o,H' b o=H b o):zW H' L' w' li (vwO rf g o):=by
 cases o with
 | dead=>trivial
 | box cs =>
  simp only[zW,vwO]at h⊢;obtain⟨h0,b,vs,e,h1,h2,h3,h4,h5⟩:=h;exact⟨h0,b,vs,e,h1,by rw[hw b h1]; exact h2,hrel _ _ h3,h4,fun o=>by rw[hb b h1]; exact h5 o⟩
 | row fz e sz n cs =>
  simp only[zW,vwO]at h⊢;obtain⟨h0,h1,h2,h3⟩:=h;refine⟨h0,h1,by rw[zHD]; exact h2,?_⟩;rcases h3 with h3 | ⟨b,cur,g1,g2,g3,g4,g5,g6,g7,g8⟩
  ·exact .inl h3
  ·refine .inr ⟨b,cur,g1,by rw[hw b g1]; exact g2,g3,g4,g5,hrel _ _ g6,g7,?_⟩;cases fz with
   | false=>exact fun o=>by rw[hb b g1]; exact g8 o
   | true=>exact⟨g8.1.mono hh,fun o ho=>by rw[hb b g1]; exact g8.2 o ho⟩
 | lp b r M es =>
  simp only[zW,vwO]at h⊢;obtain⟨h0,h1,tmps,h2,h3,h4⟩:=h;exact⟨h0,h1,tmps,by rw[hw b h1]; exact h2,h3,h4.map _ fun a v ha=>by have:=hrel [a] [v] (qR ha jZ);simp only[vwL]at this;obtain⟨u,us,k1,k2,_⟩:=qB this;cases k1;exact k2⟩
 | mp fr nk es =>
  simp only[zW,vwO]at h⊢;obtain⟨h0,b,ents,ck,h1,h2,h3,h4⟩:=h;refine⟨h0,b,ents,ck,h1,by rw[hw b h1]; exact h2,zAx.map _ (fun p _ v ha=>?_) h3,h4.1,zLl h4.2⟩;have:=hrel [p.2] [v] (qR ha jZ);simp only[vwL]at this;obtain⟨u,us,k1,k2,_⟩:=qB this;cases k1;exact k2
 | it m n met =>
  simp only[vwO];split
  ·rename_i i0 hi0;simp only[zW]at h⊢;obtain⟨h0,b,mb,lm,h1,h2,h3,h4,h5⟩:=h;have hp:Rel H L (.ptr m 0) (.pointer (some ⟨mb,0,none⟩)):=by simp only[Rel]; exact⟨lm,mb,h2,h3,h4,rfl⟩
   have:=hrel [_] [_] (qR hp jZ);simp only[vwL,Abs.vw,hi0]at this;obtain⟨u,us,k1,k2,_⟩:=qB this;cases k1;simp only[Rel]at k2;obtain⟨lm',mb',g2,g3,g4,g5⟩:=k2;cases g5;exact⟨h0,b,mb,lm',h1,g2,g3,g4,by rw[hw b h1]; exact h5⟩
  ·trivial
 | rsv=>exact h
theorem zZW {js:List Nat} {σ0:St}(hs:RelSt H L σ w)(hd:js.Nodup)(ho:zAB σ yA (qX js) js σ0) :
 ∃L0:List LI,L0.length=js.length∧(∀i j:Nat,js[i]?=some j→∃li,L[j]?=some li∧L0[i]?=some li)∧RelSt H L0 σ0 w∧∀a v,Rel H L a v→Rel H L0 (Abs.vw yA (qX js) a) v:=by
 let L0:List LI:=js.map fun k=>L.getD k ⟨none,0,0,false⟩
 have hin:∀(i j:Nat),js[i]?=some j→∃li,L[j]?=some li∧L0[i]?=some li:=by
  intro i j hij;have hi:i < σ0.length:=by rw[zEK ho]; exact(jA4.1 hij).1
  obtain⟨o,hσ,_⟩:=zEJ ho hij (jA2 hi);have hj:j<L.length:=by rw[hs.len]; exact(jA4.1 hσ).1
  refine⟨L[j],jA2 hj,?_⟩;simp[L0,hij,hj]
 have hback:∀{i:Nat} {li:LI},L0[i]?=some li→∃j,js[i]?=some j∧L[j]?=some li:=by
  intro i li hi;have hi':i<js.length:=by simpa [L0] using (jA4.1 hi).1
  obtain⟨li',h1,h2⟩:=hin i js[i] (jA2 hi');rw[hi]at h2;cases h2;exact⟨_,jA2 hi',h1⟩
 have hg:∀l i,qX js l=some i→L0[i]?=L[l]?:=by intro l i hl;obtain⟨li,h1,h2⟩:=hin i l (zJk hl);rw[h1,h2]
 have hr0:∀(l n:Nat) (v:Value),qX js l=none→Rel H L (.row l n) v→Rel H L0 (yA false l n) v:=fun _ _ _ _ _=>by simp[yA,Rel]
 have hp0:∀(l n:Nat) (v:Value),qX js l=none→Rel H L (.ptr l n) v→Rel H L0 (yA true l n) v:=fun _ _ _ _ _=>by simp[yA,Rel]
 refine⟨L0,by simp[L0],hin,⟨hs.pers,by simp[L0,zEK ho],fun i li o hL hσ=>?_,fun i j x y b hi hj hx hy=>?_,fun i li b hi hb=>?_⟩,fun a v ha=>Rel.vw (HLe.refl _) hg hr0 hp0 a ha⟩
 ·obtain⟨j,hj,hLj⟩:=hback hL;obtain⟨o0,hσ0,heq⟩:=zEJ ho hj hσ;have key:=(hs.obj j li o0 hLj hσ0).vw (H':=H) (L':=L0) (w':=w) (rf:=yA) (g:=qX js) (fun cs vs h=>zY.vw (HLe.refl _) hg hr0 hp0 cs h) (fun _ _=>rfl) (HLe.refl _) (fun _ _ _=>rfl);rcases heq with rfl | rfl
  ·exact key
  ·exact key.nrm
 ·obtain⟨i',hi',hLi⟩:=hback hi;obtain⟨j',hj',hLj⟩:=hback hj;have:=hs.inj i' j' x y b hLi hLj hx hy;subst this;exact zJd hd hi' hj'
 ·obtain⟨j,_,hLj⟩:=hback hi;exact hs.lt j li b hLj hb
def zRY (C:List Value→World→(Ending→World→Prop)→Prop)(args:List A) (σ : St)(Q:Out→St→Prop):Prop :=
 ∀(H:Mem) (L:List LI) (w:World) (vs:List Value),RelSt H L σ w→zY H L args vs→C vs w fun e w'=>∃o σ' H' L',zHi H' L' o e∧Nxt H L w H' L' σ' w'∧Q o σ'
def zRA (js:List Nat)(n:Nat):Out→Out
 | .ret r=>.ret (ren js n r)
 | .pan v=>.pan v
theorem zIA {C:List Value→World→(Ending→World→Prop)→Prop}(hmono:∀vs w R R',C vs w R→(∀e w',R e w'→R' e w')→C vs w R'){args args':List A} {σ0:St}{Q0:Out→St→Prop}(h:zRY C args σ0 Q0)(js:List Nat)(hd:js.Nodup)(ho:zAB σ yA (qX js) js σ0)(ha:zBC js args' args){Q:Out→St→Prop}
 (hq:∀o σ1,Q0 o σ1→Q (zRA js σ.length o) (jX σ js (σ1.map (zBM js σ.length)))):zRY C args' σ Q:=by
 intro H L w vs hs hvs;obtain⟨L0,hL0,hin,hs0,hrel0⟩:=zZW hs hd ho;have hvs0:zY H L0 args vs:=by
  clear hq h;induction args' generalizing args vs with
  | nil=>cases args with
   | nil=>rw[jR hvs]; exact jZ
   | cons _ _=>exact ha.elim
  | cons a' aS' ih=>cases args with
   | nil=>exact ha.elim
   | cons a aS =>
    obtain⟨u,us,rfl,h1,h2⟩:=qB hvs;refine qR ?_ (ih (vs:=us) ha.2 h2);rcases ha.1 with e | e
    ·rw[e]; exact hrel0 _ _ h1
    ·rw[e]; exact Rel.nrm0 _ (hrel0 _ _ h1)
 refine hmono _ _ _ _ (h H L0 w vs hs0 hvs0) fun e w' hh=>?_
 obtain⟨o,σ',H1,L1,g1,g2,hq0⟩:=hh;have hq:=hq o σ' hq0;have hjs:js.length≤L1.length:=by
  rcases jB2 L1.length js.length with hlt | hge
  ·have hlt0:L1.length<L0.length:=by omega
   obtain⟨l',hl',_⟩:=g2.lle L1.length L0[L1.length] (jA2 hlt0);exact absurd (jA4.1 hl').1 (Nat.lt_irrefl _)
  ·exact hge
 have hjs1:js.length≤(σ'.map (zBM js σ.length)).length:=by rw[jAa,←g2.st.len]; exact hjs
 have hjb:∀y∈js,y<L.length:=by intro y hy;obtain⟨i,hi⟩:=jCj hy;obtain⟨li,h1,_⟩:=hin i y hi;exact(jA4.1 h1).1
 have hjb':∀y∈js,y < σ.length:=fun y hy=>by rw[←hs.len]; exact hjb y hy
 let L':=jX L js L1;have hlen':L'.length=(jX σ js (σ'.map (zBM js σ.length))).length:=by rw[zDc hjs,zDc hjs1,jAa,hs.len,g2.st.len]
 have hgf:∀l,L'[zDI js σ.length l]?=L1[l]?:=by
  intro l;rcases jB2 l js.length with hl | hl
  ·have:=jA2 hl;rw[zKm this];exact zDE hjs hd hjb this
  ·obtain⟨k,rfl⟩:=Nat.le.dest hl;rw[zHM,←hs.len];exact zH3 hjs
 have hgs:∀l,(jX σ js (σ'.map (zBM js σ.length)))[zDI js σ.length l]?=(σ'[l]?).map (zBM js σ.length):=by
  intro l;rw[←jBd];rcases jB2 l js.length with hl | hl
  ·have:=jA2 hl;rw[zKm this];exact zDE hjs1 hd hjb' this
  ·obtain⟨k,rfl⟩:=Nat.le.dest hl;rw[zHM];exact zH3 hjs1
 have hg:∀l i,(fun l=>some (zDI js σ.length l)) l=some i→L'[i]?=L1[l]?:=by intro l i hl;simp only[jA1]at hl;subst hl;exact hgf l
 have hr0:∀(l n:Nat) (v:Value),(fun l=>some (zDI js σ.length l)) l=none→Rel H1 L1 (.row l n) v→Rel H1 L' (yA false l n) v:=fun _ _ _ _ _=>by simp[yA,Rel]
 have hp0:∀(l n:Nat) (v:Value),(fun l=>some (zDI js σ.length l)) l=none→Rel H1 L1 (.ptr l n) v→Rel H1 L' (yA true l n) v:=fun _ _ _ _ _=>by simp[yA,Rel]
 have hcase:∀x,x<L'.length→(∃l,l<L1.length∧zDI js σ.length l=x)∨(x<L.length∧x∉js):=by
  intro x hx;by_cases hm:x∈js
  ·obtain⟨i,hi⟩:=jCj hm;exact .inl ⟨i,by have:=(jA4.1 hi).1; omega,zKm hi⟩
  ·rcases jB2 x L.length with h | h
   ·exact .inr ⟨h,hm⟩
   ·obtain⟨k,rfl⟩:=Nat.le.dest h;refine .inl ⟨js.length+k,?_,by rw[zHM,hs.len]⟩;rw[zDc hjs]at hx;omega
 have hold:∀x,x<L.length→x∉js→L'[x]?=L[x]?:=fun x hx hm=>zFr hjs hx hm
 have holds:∀x,x<L.length→x∉js→(jX σ js (σ'.map (zBM js σ.length)))[x]? = σ[x]?:=fun x hx hm=>zFr hjs1 (by rw[←hs.len]; exact hx) hm
 have hown0:∀b,zPR L0 b→∃(j:Nat) (li:LI),j∈js∧L[j]?=some li∧li.block=some b:=by
  rintro b ⟨i,li,h1,h2⟩;have hi:i<js.length:=by rw[←hL0]; exact(jA4.1 h1).1
  obtain⟨li',h3,h4⟩:=hin i js[i] (jA2 hi);rw[h1]at h4;cases h4;exact⟨_,li,jA0 hi,h3,h2⟩
 have hnot:∀x li b,x∉js→L[x]?=some li→li.block=some b→¬zPR L0 b:=by intro x li b hx h1 h2 ho;obtain⟨j,li',hj,h3,h4⟩:=hown0 b ho;have:=hs.inj x j li li' b h1 h3 h2 h4;subst this;exact hx hj
 have hlle:LLe L L':=by
  intro x li hx;have hxl:x<L.length:=(jA4.1 hx).1;by_cases hm:x∈js
  ·obtain⟨i,hi⟩:=jCj hm;obtain⟨li',h1,h2⟩:=hin i x hi;rw[hx]at h1;cases h1;obtain⟨l',h3,h4⟩:=g2.lle i li h2;exact⟨l',by rw[zDE hjs hd hjb hi]; exact h3,h4⟩
  ·exact⟨li,by rw[hold x hxl hm]; exact hx,.inl rfl⟩
 have hout:zHi H1 L' (zRA js σ.length o) e:=by
  cases o with
  | ret r =>
   obtain⟨v,rfl,hv⟩:=g1;exact⟨v,rfl,Rel.vw (HLe.refl _) hg hr0 hp0 r hv⟩
  | pan v=>exact g1
 refine⟨zRA js σ.length o,jX σ js (σ'.map (zBM js σ.length)),H1,L',hout,⟨⟨g2.st.pers,hlen',fun x li o hL hσ=>?_,fun x y lx ly b hx hy hbx hby=>?_,fun x li b hx hb=>?_⟩,
  ⟨g2.step.os,g2.step.tape,g2.step.output,g2.step.size,fun k hk hn=>g2.step.keep k hk fun ho=>hn (by obtain⟨j,li,_,h1,h2⟩:=hown0 k ho; exact⟨j,li,h1,h2⟩),g2.step.hle,fun b o v hv=>?_,g2.step.drawn,g2.step.dfr⟩,hlle,fun b ⟨x,li,hx,hb⟩=>?_⟩,hq⟩
 ·rcases hcase x (jA4.1 hL).1 with ⟨l,hl,rfl⟩ | ⟨h1,h2⟩
  ·rw[hgf]at hL;rw[hgs,jAe]at hσ;obtain⟨o1,ho1,rfl⟩:=hσ;exact(g2.st.obj l li o1 hL ho1).vw (fun cs vs h=>zY.vw (HLe.refl _) hg hr0 hp0 cs h) (fun _ _=>rfl) (HLe.refl _) (fun _ _ _=>rfl)
  ·rw[hold x h1 h2]at hL;rw[holds x h1 h2]at hσ;refine(hs.obj x li o hL hσ).carry (fun b hb=>g2.step.keep b (hs.lt x li b hL hb) (hnot x li b h2 hL hb)) g2.step.hle hlle (fun b hb o'=>?_);cases hH:H b o' with
   | some u=>exact g2.step.hle _ _ _ hH
   | none =>
    cases hH1:H1 b o' with
    | none=>rfl
    | some u =>
     rcases g2.step.hnew b o' u hH1 with k1 | k1 | k1
     ·rw[hH]at k1; cases k1
     ·exact(hnot x li b h2 hL hb k1).elim
     ·have:=hs.lt x li b hL hb; omega
 ·have cross:∀(l y:Nat) (lx ly:LI),L1[l]?=some lx→lx.block=some b→y∉js→L[y]?=some ly→ly.block=some b→False:=by
   intro l y lx ly k1 k2 k3 k4 k5;rcases g2.own b ⟨l,lx,k1,k2⟩with k | k
   ·exact hnot y ly b k3 k4 k5 k
   ·have:=hs.lt y ly b k4 k5; omega
  rcases hcase x (jA4.1 hx).1 with ⟨l,hl,rfl⟩ | ⟨h1,h2⟩
  ·rw[hgf]at hx;rcases hcase y (jA4.1 hy).1 with ⟨m,hm,rfl⟩ | ⟨h3,h4⟩
   ·rw[hgf]at hy;rw[g2.st.inj l m lx ly b hx hy hbx hby]
   ·rw[hold y h3 h4]at hy;exact(cross l y lx ly hx hbx h4 hy hby).elim
  ·rw[hold x h1 h2]at hx;rcases hcase y (jA4.1 hy).1 with ⟨m,hm,rfl⟩ | ⟨h3,h4⟩
   ·rw[hgf]at hy;exact(cross m x ly lx hy hby h2 hx hbx).elim
   ·rw[hold y h3 h4]at hy;exact hs.inj x y lx ly b hx hy hbx hby
 ·rcases hcase x (jA4.1 hx).1 with ⟨l,hl,rfl⟩ | ⟨h1,h2⟩
  ·rw[hgf]at hx;exact g2.st.lt l li b hx hb
  ·rw[hold x h1 h2]at hx;exact jBv (hs.lt x li b hx hb) g2.step.size
 ·rcases g2.step.hnew b o v hv with k | k | k
  ·exact .inl k
  ·obtain⟨j,li,_,h1,h2⟩:=hown0 b k;exact .inr (.inl ⟨j,li,h1,h2⟩)
  ·exact .inr (.inr k)
 ·rcases hcase x (jA4.1 hx).1 with ⟨l,hl,rfl⟩ | ⟨h1,h2⟩
  ·rw[hgf]at hx;rcases g2.own b ⟨l,li,hx,hb⟩with k | k
   ·obtain⟨j,li',_,h1,h2⟩:=hown0 b k;exact .inl ⟨j,li',h1,h2⟩
   ·exact .inr k
  ·rw[hold x h1 h2]at hx;exact .inl ⟨x,li,hx,hb⟩
theorem zMK {C:List Value→World→(Ending→World→Prop)→Prop}(hmono:∀vs w R R',C vs w R→(∀e w',R e w'→R' e w')→C vs w R'){args args':List A} {σ0:St}{Q0:Out→St→Prop}(h:zRY C args σ0 Q0)(js:List Nat)(hd:js.Nodup)(ho:zAB σ yA (qX js) js σ0)(ha:zBC js args' args){Q:Out→St→Prop}
 (hnp:∀v σ1,¬Q0 (.pan v) σ1)(hq:∀r σ1,Q0 (.ret r) σ1→Q (.ret (ren js σ.length r)) (jX σ js (σ1.map (zBM js σ.length)))):zRY C args' σ Q :=
 zIA hmono h js hd ho ha fun o σ1 h0=>by
  cases o with
  | ret r=>exact hq r σ1 h0
  | pan v=>exact(hnp v σ1 h0).elim
theorem zEO (P:Program)(f:FuncId):∀(vs:List Value) (w:World) (R R':Ending→World→Prop),Calls P f vs.toArray w R→(∀e w',R e w'→R' e w')→Calls P f vs.toArray w R':=fun _ _ _ _ h k=>h.mono k
theorem zAF {f:FuncId}{args args':List A} {σ0 σ1:St}{r:A}(h:Ret P f args σ0 r σ1)(js:List Nat)(hd:js.Nodup)(ho:zAB σ yA (qX js) js σ0)(ha:zBC js args' args){Q:Out→St→Prop}
 (hq:Q (.ret (ren js σ.length r)) (jX σ js (σ1.map (zBM js σ.length)))):yX P f args' σ Q :=
 zMK (C:=fun vs w R=>Calls P f vs.toArray w R) (zEO P f) (Q0:=fun o σ'=>o=.ret r∧σ' = σ1) h js hd ho ha (fun v σ1 h=>by cases h.1) (fun r' σ' h=>by obtain⟨h1,rfl⟩:=h; cases h1; exact hq)
theorem zFu {f:FuncId}{args:List A} {σ0 σ1:St}{r:A}
 (h:yX P f args σ0 fun o σ'=>∃(r':A)(ks:List Nat)(fuel:Nat),o=.ret r'∧(∀i,i < σ0.length→ks[i]?=some i)∧ks.Nodup∧zAB σ' (seen σ' (qX ks) fuel) (qX ks) ks σ1 ∧
  (r=vw (seen σ' (qX ks) fuel) (qX ks) r'∨r=nrm0 (vw (seen σ' (qX ks) fuel) (qX ks) r'))):Ret P f args σ0 r σ1:=by
 intro H L w vs hs ha;refine(h H L w vs hs ha).mono fun e w' hh=>?_
 obtain⟨o,σ',H',L',g1,g2,r',ks,fuel,rfl,hk,hd,ho,hr⟩:=hh;obtain⟨v,rfl,hv⟩:=g1;obtain⟨H2,L2,k1,_,k3⟩:=zOq ks fuel (by rw[hs.len]; exact hk) hd ho g2;refine⟨.ret r,σ1,H2,L2,⟨v,rfl,?_⟩,k1,rfl,rfl⟩;rcases hr with e | e
 ·rw[e]; exact k3 _ _ hv
 ·rw[e]; exact Rel.nrm0 _ (k3 _ _ hv)
end
end Go.Abs
