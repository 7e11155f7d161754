/-
  The rules by which a walk over abstract states goes on, for simp.
-/
import Derived.Test.YthglhccibdlccaaGreatDoorX11
set_option linter.unusedVariables false
set_option linter.unusedSimpArgs false
namespace Go.Abs
def qOU (o:Option A)(d:Option Nat)(K:Env→St→Prop)(env:Env) (σ : St):Prop:=match o with
 | some r=>K (env.put d r) σ
 | none=>False
def qOT (o:Option A)(d:Option Nat)(K:Env→Prop)(env:Env):Prop:=match o with
 | some r=>K (env.put d r)
 | none=>False
def zT0 (o:Option (List A))(J:List A→Prop):Prop:=match o with
 | some r=>J r
 | none=>False
def qCT (o:Option St)(J:St→Prop):Prop:=match o with
 | some r=>J r
 | none=>False
section
variable {P:Program}{n0:Nat}{Qp:Value→Env→St→Prop}{Qd:Value→St→Prop}{K':Env→St→Prop}{KD:Env→Prop}{Q:Ex→Env→St→Prop}{env:Env} {σ : St}{d d':Option Nat}{x y z:Operand}
@[simp] theorem qEE {r:A}:qOU (some r) d K' env σ = K' (env.put d r) σ:=rfl
@[simp] theorem qEC {r:A}:qOT (some r) d KD env=KD (env.put d r):=rfl
@[simp] theorem qEB {r:List A}{J:List A→Prop}:zT0 (some r) J=J r:=rfl
@[simp] theorem qEF {r:St}{J:St→Prop}:qCT (some r) J=J r:=rfl
@[simp] theorem qJw {r:A}:env.put none r=env:=rfl
@[simp] theorem qLs {i t:Nat}{r:A}:(env.put (some i) r) t=if t=i then r else env t:=rfl
@[simp] theorem qOB {t:Nat}:ev env (.tmp t)=env t:=rfl
@[simp] theorem qKS {f:FuncId}:ev env (.func f)=.clo f [] []:=rfl
@[simp] theorem qO9 {k:IntKind}{n:Int}:ev env (.const (.int k n))=.lit (.int k n):=rfl
@[simp] theorem qKR {b:Bool}:ev env (.const (.bool b))=.lit (.bool b):=rfl
@[simp] theorem qEg {s:ByteArray}:ev env (.const (.string s))=.lit (.string s):=rfl
@[simp] theorem qOA:ev env (.const (.slice none 0 0))=.nil:=rfl
@[simp] theorem qCp:ev env (.const .nilFunc)=.lit .nilFunc:=rfl
@[simp] theorem qEf:ev env (.const (.pointer none))=.lit (.pointer none):=rfl
@[simp] theorem qO8 {l:List Value}:ev env (.const (.agg ⟨l⟩))=if zAd l then .agg (l.map qY) else .any:=rfl
@[simp] theorem qAM:zAd []=true:=rfl
@[simp] theorem zYG {v:Value}{l:List Value}:zAd (v::l)=(v.oneCell'&&zAd l):=rfl
@[simp] theorem qLq {k:IntKind}{n:Int}:(Value.int k n).oneCell'=true:=rfl
@[simp] theorem qJf {b:Bool}:(Value.bool b).oneCell'=true:=rfl
@[simp] theorem qCQ {s:ByteArray}:(Value.string s).oneCell'=true:=rfl
@[simp] theorem qEA {a:Option Addr}{n c:Nat}:(Value.slice a n c).oneCell'=true:=rfl
@[simp] theorem qAO {a:Option Addr}:(Value.pointer a).oneCell'=true:=rfl
@[simp] theorem qAN:(Value.nilFunc).oneCell'=true:=rfl
@[simp] theorem qLr {r:Option Nat}:(Value.map r).oneCell'=true:=rfl
@[simp] theorem qCN {k:IntKind}{n:Int}:qY (.int k n)=.lit (.int k n):=rfl
@[simp] theorem qAL {b:Bool}:qY (.bool b)=.lit (.bool b):=rfl
@[simp] theorem zXf {s:ByteArray}:qY (.string s)=.lit (.string s):=rfl
@[simp] theorem qCO:qY (.slice none 0 0)=.nil:=rfl
@[simp] theorem zWt:qY .nilFunc=.lit .nilFunc:=rfl
@[simp] theorem zXe:qY (.pointer none)=.lit (.pointer none):=rfl
@[simp] theorem zXd:qY (.map none)=.lit (.map none):=rfl
@[simp] theorem qAi:cellsOf .nil=some [.nil]:=rfl
@[simp] theorem qAd {cs:List A}:cellsOf (.agg cs)=some cs:=rfl
@[simp] theorem qAg {v:Value}:cellsOf (.lit v)=if v.oneCell' then some [.lit v] else none:=rfl
@[simp] theorem qBT {n:Nat}{cs:List A}:cellsOf (.sl n cs)=some [.sl n cs]:=rfl
@[simp] theorem qAf {n:Nat}{cs:List A}:cellsOf (.fsl n cs)=some [.fsl n cs]:=rfl
@[simp] theorem qAk {l n:Nat}:cellsOf (.row l n)=some [.row l n]:=rfl
@[simp] theorem qAj {l n:Nat}:cellsOf (.ptr l n)=some [.ptr l n]:=rfl
@[simp] theorem qAh {l:Nat}:cellsOf (.map l)=some [.map l]:=rfl
@[simp] theorem qAm {l n o k c:Nat}:cellsOf (.win l n o k c)=some [.win l n o k c]:=rfl
@[simp] theorem qAl {l n o:Nat}:cellsOf (.rwp l n o)=some [.rwp l n o]:=rfl
@[simp] theorem zXE {cs:List A}:cellsOf (.rptr cs)=some [.rptr cs]:=rfl
@[simp] theorem qAe {f:FuncId}{a b:List A}:cellsOf (.clo f a b)=some [.clo f a b]:=rfl
@[simp] theorem qCW {cs:List A}:zBs true cs=some (.agg cs):=rfl
@[simp] theorem qAQ {c:A}:zBs false [c]=some c:=rfl
@[simp] theorem qIz {cs:List A}{n:Nat}:ldA σ n (.rptr cs)=sub cs 0 n:=rfl
def qA4:Option AObj→Nat→Nat→Option (List A)
 | some (.box cs),off,n=>sub cs off n
 | _,_,_=>none
def qA5:Option AObj→Nat→Nat→Nat→Option (List A)
 | some (.row _ _ _ k cs),m,off,n=>if m=k then sub cs off n else none
 | _,_,_,_=>none
@[simp] theorem qC9 {cs:List A}{off n:Nat}:qA4 (some (.box cs)) off n=sub cs off n:=rfl
@[simp] theorem qCA {fz:Bool}{e:TypeId}{s k:Nat}{cs:List A}{m off n:Nat}:qA5 (some (.row fz e s k cs)) m off n=if m=k then sub cs off n else none:=rfl
@[simp] theorem qLb {l off n:Nat}:ldA σ n (.ptr l off)=qA4 σ[l]? off n:=by
 simp only[ldA];cases σ[l]? with
 | none=>rfl
 | some o=>cases o<;>rfl
@[simp] theorem qLc {l m off n:Nat}:ldA σ n (.rwp l m off)=qA5 σ[l]? m off n:=by
 simp only[ldA];cases σ[l]? with
 | none=>rfl
 | some o=>cases o<;>rfl
@[simp] theorem qOZ {cs:List A}{off n:Nat}:sub cs off n=if off+n≤cs.length then some ((cs.drop off).take n) else none:=rfl
def qAY:Option AObj→St→List A→Nat→Nat→Option St
 | some (.box ds),σ,cs,l,off=>if off+cs.length≤ds.length then some (σ.set l (.box (ds.take off++cs++ds.drop (off+cs.length)))) else none
 | _,_,_,_,_=>none
def qAZ:Option AObj→St→List A→Nat→Nat→Nat→Option St
 | some (.row false e sz k ds),σ,cs,l,m,off=>if m=k∧off+cs.length≤ds.length then some (σ.set l (.row false e sz k (ds.take off++cs++ds.drop (off+cs.length)))) else none
 | _,_,_,_,_,_=>none
@[simp] theorem qDq {ds cs:List A}{l off:Nat}:qAY (some (.box ds)) σ cs l off=if off+cs.length≤ds.length then some (σ.set l (.box (ds.take off++cs++ds.drop (off+cs.length)))) else none:=rfl
@[simp] theorem qDr {e:TypeId}{sz k:Nat}{ds cs:List A}{l m off:Nat}:qAZ (some (.row false e sz k ds)) σ cs l m off=if m=k∧off+cs.length≤ds.length then some (σ.set l (.row false e sz k (ds.take off++cs++ds.drop (off+cs.length)))) else none:=rfl
@[simp] theorem qL2 {cs:List A}{l off:Nat}:stA σ cs (.ptr l off)=qAY σ[l]? σ cs l off:=by
 simp only[stA];cases σ[l]? with
 | none=>rfl
 | some o=>cases o<;>rfl
@[simp] theorem qL3 {cs:List A}{l m off:Nat}:stA σ cs (.rwp l m off)=qAZ σ[l]? σ cs l m off:=by
 simp only[stA];cases σ[l]? with
 | none=>rfl
 | some o =>
  cases o<;>try rfl
  rename_i fz e s n ds;cases fz<;>rfl
def qAU:Option AObj→Nat→Nat→(List A→Prop)→Prop
 | some (.row _ _ s m cs),n,sz,J=>n=m∧s=sz∧J cs
 | _,_,_,_=>False
@[simp] theorem zQH {fz:Bool}{e:TypeId}{s m n sz:Nat}{cs:List A}{J:List A→Prop}:qAU (some (.row fz e s m cs)) n sz J=(n=m∧s=sz∧J cs):=rfl
@[simp] theorem qDK {b:Bool}:(b==true)=b:=by cases b<;>rfl
@[simp] theorem qCd {A B:Env→St→Prop}:zEU true A B env σ = A env σ:=by simp[zEU]
@[simp] theorem qAq {A B:Env→St→Prop}:zEU false A B env σ = B env σ:=by simp[zEU]
@[simp] theorem qJ8:zF3 d K' env σ = K' (env.put d (.lit undef)) σ:=rfl
@[simp] theorem qJk {r:A}:zJg d env K' Qp (.ret r) σ = K' (env.put d r) σ:=rfl
@[simp] theorem qJj {v:Value}:zJg d env K' Qp (.pan v) σ = Qp v env σ:=rfl
@[simp] theorem qJG {J:Env→St→Prop}:thn J Q .norm=J:=rfl
@[simp] theorem qL6 {J:Env→St→Prop}:thn J Q .ret=Q .ret:=rfl
@[simp] theorem qJF {J:Env→St→Prop}{i:Nat}:thn J Q (.exit i)=Q (.exit i):=rfl
@[simp] theorem qL5 {J:Env→St→Prop}{v:Value}:thn J Q (.pan v)=Q (.pan v):=rfl
@[simp] theorem qGS {id:Nat}:blk id Q .norm=Q .norm:=rfl
@[simp] theorem qKi {id:Nat}:blk id Q .ret=Q .ret:=rfl
@[simp] theorem qGR {id i:Nat}:blk id Q (.exit i)=if i=id then Q .norm else Q (.exit i):=rfl
@[simp] theorem qKh {id:Nat}{v:Value}:blk id Q (.pan v)=Q (.pan v):=rfl
@[simp] theorem qLz {I:Nat→Env→St→Prop}{n:Nat}:rnd n0 I n Q .ret=Q .ret:=rfl
@[simp] theorem qJ2 {I:Nat→Env→St→Prop}{n i:Nat}:rnd n0 I n Q (.exit i)=Q (.exit i):=rfl
@[simp] theorem qLy {I:Nat→Env→St→Prop}{n:Nat}{v:Value}:rnd n0 I n Q (.pan v)=Q (.pan v):=rfl
@[simp] theorem qIi {rs:List RS}{R:Out→St→Prop}:fin rs R .norm=zJi rs R:=rfl
@[simp] theorem qKU {rs:List RS}{R:Out→St→Prop}:fin rs R .ret=zJi rs R:=rfl
@[simp] theorem qKT {rs:List RS}{R:Out→St→Prop}{v:Value}:fin rs R (.pan v) env σ = R (.pan v) σ:=rfl
@[simp] theorem qEK {t:Nat}{R:Out→St→Prop}:zJi [.slot t] R env σ = R (.ret (env t)) σ:=rfl
@[simp] theorem qJ1 {t u:Nat}{R:Out→St→Prop}:zJi [.slot t,.slot u] R env σ = R (.ret (.tup [env t,env u])) σ:=rfl
@[simp] theorem qDe {t u v:Nat}{R:Out→St→Prop}:zJi [.slot t,.slot u,.slot v] R env σ = R (.ret (.tup [env t,env u,env v])) σ:=rfl
@[simp] theorem zXn {a:A}{l:List A}:zCk (a::l) 0=a:=rfl
@[simp] theorem zXm {a:A}{l:List A}{n:Nat}:zCk (a::l) (n+1)=zCk l n:=by simp[zCk]
@[simp] theorem zZW {n:Nat}:zCk [] n=.lit undef:=by simp[zCk]
@[simp] theorem qPy {k:K}{rs:List RS}{args:List A}{R:Out→St→Prop}:wpF P k rs args σ R=wpK P σ.length k (fin rs R) (zCk args) σ:=rfl
@[simp] theorem qJZ:wpK P n0 .skip Q env σ = Q .norm env σ:=rfl
@[simp] theorem qLO:wpK P n0 .ret Q env σ = Q .ret env σ:=rfl
@[simp] theorem qJX {i:Nat}:wpK P n0 (.exit i) Q env σ = Q (.exit i) env σ:=rfl
@[simp] theorem qLQ {a b:K}:wpK P n0 (.seq a b) Q env σ = wpK P n0 a (thn (wpK P n0 b Q) Q) env σ:=rfl
@[simp] theorem qF7 {i:Nat}{a:K}:wpK P n0 (.block i a) Q env σ = wpK P n0 a (blk i Q) env σ:=rfl
@[simp] theorem qJY {a:K}:wpK P n0 (.loop a) Q env σ = zN2 n0 (wpK P n0 a) Q env σ:=rfl
@[simp] theorem qPz {a:K}:wpK P n0 (.wk a) Q env σ = Wk n0 (wpK P n0 a Q) env σ:=rfl
@[simp] theorem qLN {l:List KG}:wpK P n0 (.ops l) Q env σ = zD9 P (fun v=>Q (.pan v)) (Q .norm) l env σ:=rfl
@[simp] theorem qJW {l:List (Nat×Nat×KG)}:wpK P n0 (.dops l) Q env σ = wpD P (zQ7 Q) (Q .norm) l env σ:=rfl
@[simp] theorem qLP {ps:List Nat}{a b:K}:wpK P n0 (.rng x ps a b) Q env σ = qBk P n0 x ps (fun n=>wpK P n a) (fun n=>wpK P n b) Q env σ:=rfl
@[simp] theorem qDH {S:St}{J:Env→St→Prop}:zXp S J .norm env σ = (σ = S∧J env σ):=rfl
@[simp] theorem qEd {S:St}:zXN n0 S .norm env σ = Wk n0 (fun _ σ'=>σ'=S) env σ:=rfl
@[simp] theorem qEH {xs:List A}:zFx env [] xs=env:=by cases xs<;>rfl
@[simp] theorem qDa {p:Nat}{ps:List Nat}{a:A}{xs:List A}:zFx env (p::ps) (a::xs)=zFx (env.put (some p) a) ps xs:=rfl
@[simp] theorem qBU {b:Nat}:cellsOf (yv b)=some [yv b]:=rfl
def qAr (a:A)(A B:Env→St→Prop)(env:Env) (σ : St):Prop:=match a with
 | .lit (.bool t)=>zEU t A B env σ
 | _=>False
@[simp] theorem qCe {t:Bool}{A B:Env→St→Prop}:qAr (.lit (.bool t)) A B env σ = zEU t A B env σ:=rfl
@[simp] theorem qJV {a b:K}:wpK P n0 (.cond x a b) Q env σ = qAr (ev env x) (wpK P n0 a Q) (wpK P n0 b Q) env σ:=rfl
@[simp] theorem qFA:zD9 P Qp K' [] env σ = K' env σ:=rfl
@[simp] theorem qDB {o:KOp}{l:List KG}:zD9 P Qp K' (⟨none,o⟩::l) env σ = wpO P Qp (zD9 P Qp K' l) o env σ:=rfl
def zHY (a:A)(want:Bool)(A B:Env→St→Prop)(env:Env) (σ : St):Prop:=match a with
 | .lit (.bool b)=>zEU (b==want) A B env σ
 | .lit (.tuple _)=>B env σ
 | _=>False
@[simp] theorem qAw {b want:Bool}{A B:Env→St→Prop}:zHY (.lit (.bool b)) want A B env σ = zEU (b==want) A B env σ:=rfl
@[simp] theorem zYm {want:Bool}{A B:Env→St→Prop}:zHY (.lit undef) want A B env σ = B env σ:=rfl
@[simp] theorem qBe {s:Nat}{want:Bool}{o:KOp}{l:List KG}:zD9 P Qp K' (⟨some (s,want),o⟩::l) env σ = zHY (env s) want (wpO P Qp (zD9 P Qp K' l) o) (zF3 o.dst (zD9 P Qp K' l)) env σ:=by
 simp only[zD9,wpG,zHY];generalize env s=a;cases a<;>try rfl
 all_goals (rename_i v; cases v<;>rfl)
def zRQ (a:A)(x y:A)(J:A→Prop):Prop:=match a with
 | .lit (.bool t)=>J (if t then x else y)
 | _=>False
@[simp] theorem qCX {t:Bool}{a b:A}{J:A→Prop}:zRQ (.lit (.bool t)) a b J=J (if t then a else b):=rfl
def zDj (o:Option A)(J:A→Prop):Prop:=match o with
 | some r=>J r
 | none=>False
@[simp] theorem qED {r:A}{J:A→Prop}:zDj (some r) J=J r:=rfl
theorem zEk {o:Option A}{J:A→Prop}:qQ (o.map fun r=>(True,r)) J=zDj o J:=by cases o<;>simp[qQ,zDj]
@[simp] theorem qMg:wpO P Qp K' (.mov d x) env σ = K' (env.put d (ev env x)) σ:=by simp[wpO,qQ,zL,KOp.dst]
theorem zMs {J:A→Prop}:qQ (zL env σ (.pick d x y z)) J=zRQ (ev env x) (ev env y) (ev env z) J:=by
 simp only[zL,zRQ,qQ];generalize ev env x=a;cases a<;>try rfl
 rename_i v;cases v<;>simp
@[simp] theorem qKf:wpO P Qp K' (.pick d x y z) env σ = zRQ (ev env x) (ev env y) (ev env z) fun r=>K' (env.put d r) σ:=zMs (d:=d)
@[simp] theorem qF8 {zs:List Value}:wpO P Qp K' (.alloc d zs) env σ = K' (env.put d (.ptr σ.length 0)) (σ++[.box (zs.map qY)]):=rfl
@[simp] theorem qLU:wpO P Qp K' (.box d x) env σ = zT0 (cellsOf (ev env x)) fun cs=>K' (env.put d (.ptr σ.length 0)) (σ++[.box cs]):=rfl
@[simp] theorem qP0 {n:Nat}{agg:Bool}:wpO P Qp K' (.ld d x n agg) env σ = zDj ((ldA σ n (ev env x)).bind (zBs agg)) fun r=>K' (env.put d r) σ:=zEk
@[simp] theorem qP2 {n:Nat}:wpO P Qp K' (.st d x y n) env σ = zT0 (cellsOf (ev env y)) fun cs=>cs.length=n∧qCT (stA σ cs (ev env x)) fun σ'=>K' (env.put d (.lit undef)) σ':=by
 simp only[wpO,zT0,qCT];cases cellsOf (ev env y)with
 | none=>rfl
 | some cs =>
  simp only;by_cases h:cs.length=n
  ·simp only[h,if_true,true_and];cases stA σ cs (ev env x)<;>rfl
  ·simp[h]
def zGR (σ : St)(off:Nat):A→Option A
 | .ptr l o=>some (.ptr l (o+off))
 | .rptr cs=>some (.rptr (cs.drop off))
 | .rwp l n o=>match σ[l]? with
  | some (.row _ _ _ m _)=>if n=m then some (.rwp l n (o+off)) else none
  | _=>none
 | _=>none
@[simp] theorem qDD {l o off:Nat}:zGR σ off (.ptr l o)=some (.ptr l (o+off)):=rfl
@[simp] theorem qBo {cs:List A}{off:Nat}:zGR σ off (.rptr cs)=some (.rptr (cs.drop off)):=rfl
theorem zGo {off:Nat}:zL env σ (.addr d x off)=(zGR σ off (ev env x)).map fun r=>(True,r):=by
 simp only[zL];generalize ev env x=a;cases a<;>simp only[zGR]<;>try rfl
 rename_i l n o;cases σ[l]? with
 | none=>rfl
 | some ob =>
  cases ob<;>try rfl
  simp only;split<;>rfl
@[simp] theorem qKa {off:Nat}:wpO P Qp K' (.addr d x off) env σ = zDj (zGR σ off (ev env x)) fun r=>K' (env.put d r) σ:=by show qQ (zL env σ (.addr d x off)) _=_;rw[zGo,zEk];rfl
def zLt (σ : St)(sz:Nat)(a i:A)(J:A→Prop):Prop:=match a,i with
 | .sl n cs,.lit (.int _ j)=>((0≤j∧j<n)∧j.toNat*sz<cs.length)∧J (.rptr (cs.drop (j.toNat*sz)))
 | .fsl n cs,.lit (.int _ j)=>((0≤j∧j<n)∧j.toNat*sz<cs.length)∧J (.rptr (cs.drop (j.toNat*sz)))
 | .row l n,.lit (.int _ j)=>match σ[l]? with
  | some (.row _ _ s m _)=>if n=m∧s=sz then (0≤j∧j<n)∧J (.rwp l n (j.toNat*sz)) else False
  | _=>False
 | .win l n o k' _,.lit (.int _ j)=>match σ[l]? with
  | some (.row _ _ s m _)=>if n=m∧s=sz then (0≤j∧j<k')∧J (.rwp l n (o+j.toNat*sz)) else False
  | _=>False
 | _,_=>False
theorem zMa {sz:Nat}{J:A→Prop}:qQ (zL env σ (.idx d x y sz)) J=zLt σ sz (ev env x) (ev env y) J:=by
 simp only[zL,zLt,qQ];generalize ev env x=a;generalize ev env y=b;cases a<;>cases b<;>try rfl
 all_goals (rename_i v; cases v<;>try rfl)
 ·rename_i l n k j;simp only;cases σ[l]? with
  | none=>rfl
  | some ob =>
   cases ob<;>try rfl
   rename_i fz e s m cs;by_cases h:n=m∧s=sz<;>simp[h]
 ·rename_i l n o k' c k j;simp only;cases σ[l]? with
  | none=>rfl
  | some ob =>
   cases ob<;>try rfl
   rename_i fz e s m cs;by_cases h:n=m∧s=sz<;>simp[h]
@[simp] theorem qLZ {sz:Nat}:wpO P Qp K' (.idx d x y sz) env σ = zLt σ sz (ev env x) (ev env y) fun r=>K' (env.put d r) σ:=zMa (d:=d)
@[simp] theorem qKY {sz n:Nat}{cs:List A}{k:IntKind}{j:Int}{J:A→Prop}:zLt σ sz (.sl n cs) (.lit (.int k j)) J=(((0≤j∧j<n)∧j.toNat*sz<cs.length)∧J (.rptr (cs.drop (j.toNat*sz)))):=rfl
@[simp] theorem qIn {sz n:Nat}{cs:List A}{k:IntKind}{j:Int}{J:A→Prop}:zLt σ sz (.fsl n cs) (.lit (.int k j)) J=(((0≤j∧j<n)∧j.toNat*sz<cs.length)∧J (.rptr (cs.drop (j.toNat*sz)))):=rfl
def zHp (len sz:Nat)(a i:A)(J:A→Prop):Prop:=match a,i with
 | .ptr l o,.lit (.int _ j)=>(0≤j∧j<len)∧J (.ptr l (o+j.toNat*sz))
 | .rptr cs,.lit (.int _ j)=>((0≤j∧j<len)∧j.toNat*sz<cs.length)∧J (.rptr (cs.drop (j.toNat*sz)))
 | _,_=>False
@[simp] theorem zYr {len sz:Nat}{cs:List A}{k:IntKind}{j:Int}{J:A→Prop}:zHp len sz (.rptr cs) (.lit (.int k j)) J=(((0≤j∧j<len)∧j.toNat*sz<cs.length)∧J (.rptr (cs.drop (j.toNat*sz)))):=rfl
@[simp] theorem qA1 {len sz l o:Nat}{k:IntKind}{j:Int}{J:A→Prop}:zHp len sz (.ptr l o) (.lit (.int k j)) J=((0≤j∧j<len)∧J (.ptr l (o+j.toNat*sz))):=rfl
theorem zMY {len sz:Nat}{J:A→Prop}:qQ (zL env σ (.idxarr d x y len sz)) J=zHp len sz (ev env x) (ev env y) J:=by
 simp only[zL,zHp,qQ];generalize ev env x=a;generalize ev env y=b;cases a<;>first
  | rfl
  | (cases b<;>first
   | rfl
   | (rename_i v; cases v<;>rfl))
@[simp] theorem qDA {len sz:Nat}:wpO P Qp K' (.idxarr d x y len sz) env σ = zHp len sz (ev env x) (ev env y) fun r=>K' (env.put d r) σ:=zMY (d:=d)
def zDA (op:BinOp)(a b:A)(J:A→Prop):Prop:=match a,b with
 | .lit (.int k m),.lit (.int k' n)=>if k=k' then (match zDM op k m n with | some (p,r)=>p∧J r | none=>False) else False
 | .lit (.string s),.lit (.string t)=>(match zWN op s t with | some (p,r)=>p∧J r | none=>False)
 | _,_=>False
theorem zSs {op:BinOp}{J:A→Prop}:qQ (zL env σ (.bin d op x y)) J=zDA op (ev env x) (ev env y) J:=by
 simp only[zL,zDA,qQ];generalize ev env x=a;generalize ev env y=b;cases a<;>try rfl
 rename_i u;cases b<;>try (cases u<;>rfl)
 rename_i v;cases u<;>cases v<;>try rfl
 case lit.lit.int.int k m k' n =>
  by_cases h:k=k'
  ·simp only[h,if_true];cases zDM op k' m n<;>rfl
  ·simp[h]
@[simp] theorem qLT {op:BinOp}:wpO P Qp K' (.bin d op x y) env σ = zDA op (ev env x) (ev env y) fun r=>K' (env.put d r) σ:=zSs (d:=d)
@[simp] theorem qGP {s t:ByteArray}{J:A→Prop}:zDA .add (.lit (.string s)) (.lit (.string t)) J=(s.size+t.size≤1000000∧J (.lit (.string (s++t)))):=rfl
@[simp] theorem qGH {k:IntKind}{m n:Int}{J:A→Prop}:zDA .add (.lit (.int k m)) (.lit (.int k n)) J=J (.lit (.int k (k.wrap (m+n)))):=by simp[zDA,zDM]
@[simp] theorem qGQ {k:IntKind}{m n:Int}{J:A→Prop}:zDA .sub (.lit (.int k m)) (.lit (.int k n)) J=J (.lit (.int k (k.wrap (m-n)))):=by simp[zDA,zDM]
@[simp] theorem qGM {k:IntKind}{m n:Int}{J:A→Prop}:zDA .mul (.lit (.int k m)) (.lit (.int k n)) J=J (.lit (.int k (k.wrap (m*n)))):=by simp[zDA,zDM]
@[simp] theorem qGN {k:IntKind}{m n:Int}{J:A→Prop}:zDA .quo (.lit (.int k m)) (.lit (.int k n)) J=(n≠0∧J (.lit (.int k (k.wrap (m.tdiv n))))):=by simp[zDA,zDM]
@[simp] theorem qGO {k:IntKind}{m n:Int}{J:A→Prop}:zDA .rem (.lit (.int k m)) (.lit (.int k n)) J=(n≠0∧J (.lit (.int k (m.tmod n)))):=by simp[zDA,zDM]
@[simp] theorem qGL {k:IntKind}{m n:Int}{J:A→Prop}:zDA .lss (.lit (.int k m)) (.lit (.int k n)) J=J (.lit (.bool (decide (m<n)))):=by simp[zDA,zDM]
@[simp] theorem qGK {k:IntKind}{m n:Int}{J:A→Prop}:zDA .leq (.lit (.int k m)) (.lit (.int k n)) J=J (.lit (.bool (decide (m≤n)))):=by simp[zDA,zDM]
@[simp] theorem qGJ {k:IntKind}{m n:Int}{J:A→Prop}:zDA .gtr (.lit (.int k m)) (.lit (.int k n)) J=J (.lit (.bool (decide (n<m)))):=by simp[zDA,zDM]
@[simp] theorem qGI {k:IntKind}{m n:Int}{J:A→Prop}:zDA .geq (.lit (.int k m)) (.lit (.int k n)) J=J (.lit (.bool (decide (n≤m)))):=by simp[zDA,zDM]
noncomputable def eqA (k:SK) (ng:Bool) (a b:A):Option A:=(zBJ k a b).map (zAU ng)
noncomputable def zQa (ks:List SK) (ng:Bool) (a b:A):Option A:=match a,b with
 | .agg xs,.agg ys=>(yX ks xs ys).map (zAU ng)
 | _,_=>none
theorem zV3 {k:SK}{ng:Bool}{J:A→Prop}:qQ (zL env σ (.eqv d ng k x y)) J=zDj (eqA k ng (ev env x) (ev env y)) J:=by simp only[zL,eqA];cases zBJ k (ev env x) (ev env y)<;>simp[qQ,zDj]
theorem zV2 {ks:List SK}{ng:Bool}{J:A→Prop}:qQ (zL env σ (.eqs d ng ks x y)) J=zDj (zQa ks ng (ev env x) (ev env y)) J:=by
 simp only[zL,zQa];generalize ev env x=a;generalize ev env y=b;cases a<;>cases b<;>try rfl
 rename_i xs ys;simp only;cases yX ks xs ys<;>simp[qQ,zDj]
@[simp] theorem qLX {k:SK}{ng:Bool}:wpO P Qp K' (.eqv d ng k x y) env σ = zDj (eqA k ng (ev env x) (ev env y)) fun r=>K' (env.put d r) σ:=zV3 (d:=d)
@[simp] theorem qLW {ks:List SK}{ng:Bool}:wpO P Qp K' (.eqs d ng ks x y) env σ = zDj (zQa ks ng (ev env x) (ev env y)) fun r=>K' (env.put d r) σ:=zV2 (d:=d)
@[simp] theorem qKQ {k:IntKind}{m n:Int}:eqA .i false (.lit (.int k m)) (.lit (.int k n))=some (.lit (.bool (decide (m=n)))):=by simp[eqA,zBJ,zAU]
@[simp] theorem qIe {k:IntKind}{m n:Int}:eqA .i true (.lit (.int k m)) (.lit (.int k n))=some (.lit (.bool (decide (m≠n)))):=by simp[eqA,zBJ,zAU]
@[simp] theorem qId {m n:Bool}:eqA .b false (.lit (.bool m)) (.lit (.bool n))=some (.lit (.bool (decide (m=n)))):=by simp[eqA,zBJ,zAU]
@[simp] theorem qEe {m n:Bool}:eqA .b true (.lit (.bool m)) (.lit (.bool n))=some (.lit (.bool (decide (m≠n)))):=by simp[eqA,zBJ,zAU]
def zY3 (a:A)(J:A→Prop):Prop:=match a with | .lit (.int k m)=>J (.lit (.int k (k.wrap (0-m)))) | _=>False
@[simp] theorem qIO {k:IntKind}{m:Int}{J:A→Prop}:zY3 (.lit (.int k m)) J=J (.lit (.int k (k.wrap (0-m)))):=rfl
theorem zWl {J:A→Prop}:qQ (zL env σ (.neg d x)) J=zY3 (ev env x) J:=by
 simp only[zL,zY3];generalize ev env x=a;cases a<;>try rfl
 rename_i v; cases v<;>simp[qQ]
@[simp] theorem qMh:wpO P Qp K' (.neg d x) env σ = zY3 (ev env x) fun r=>K' (env.put d r) σ:=zWl (d:=d)
def zY7 (a:A)(J:A→Prop):Prop:=match a with | .lit (.bool b)=>J (.lit (.bool !b)) | _=>False
@[simp] theorem qEy {b:Bool}{J:A→Prop}:zY7 (.lit (.bool b)) J=J (.lit (.bool !b)):=rfl
theorem zWp {J:A→Prop}:qQ (zL env σ (.not d x)) J=zY7 (ev env x) J:=by
 simp only[zL,zY7];generalize ev env x=a;cases a<;>try rfl
 rename_i v; cases v<;>simp[qQ]
@[simp] theorem qMi:wpO P Qp K' (.not d x) env σ = zY7 (ev env x) fun r=>K' (env.put d r) σ:=zWp (d:=d)
def zIb (σ : St)(a:A)(J:A→Prop):Prop:=match a with
 | .nil=>J (.lit (.int .i64 0))
 | .sl n _=>n≤maxLen→J (.lit (.int .i64 n))
 | .fsl n _=>n≤maxLen→J (.lit (.int .i64 n))
 | .row l n=>match σ[l]? with
  | some (.row _ _ _ m _)=>if n=m then J (.lit (.int .i64 n)) else False
  | _=>False
 | .win l n _ k _=>match σ[l]? with
  | some (.row _ _ _ m _)=>if n=m then J (.lit (.int .i64 k)) else False
  | _=>False
 | _=>False
@[simp] theorem qI5 {J:A→Prop}:zIb σ .nil J=J (.lit (.int .i64 0)):=rfl
@[simp] theorem qLe {n:Nat}{cs:List A}{J:A→Prop}:zIb σ (.sl n cs) J=(n≤maxLen→J (.lit (.int .i64 n))):=rfl
@[simp] theorem qI4 {n:Nat}{cs:List A}{J:A→Prop}:zIb σ (.fsl n cs) J=(n≤maxLen→J (.lit (.int .i64 n))):=rfl
@[simp] theorem qMd:wpO P Qp K' (.len d false x) env σ = zIb σ (ev env x) fun r=>K' (env.put d r) σ:=by
 simp only[wpO,zIb,zL];generalize ev env x=a;cases a<;>simp only[qQ,true_and]
 ·rename_i l n;cases σ[l]? with
  | none=>rfl
  | some ob =>
   cases ob<;>try rfl
   rename_i fz e s m cs;by_cases h:n=m<;>simp[h]
 ·rename_i l n _ k _;cases σ[l]? with
  | none=>rfl
  | some ob =>
   cases ob<;>try rfl
   rename_i fz e s m cs;by_cases h:n=m<;>simp[h]
def zRE (a:A)(J:A→Prop):Prop:=match a with | .lit (.string s)=>J (.lit (.int .i64 s.size)) | _=>False
@[simp] theorem zYv {s:ByteArray}{J:A→Prop}:zRE (.lit (.string s)) J=J (.lit (.int .i64 s.size)):=rfl
theorem zTs {J:A→Prop}:qQ (zL env σ (.len d true x)) J=zRE (ev env x) J:=by
 simp only[zL,zRE];generalize ev env x=a;cases a<;>try rfl
 rename_i v; cases v<;>simp[qQ]
@[simp] theorem qKd:wpO P Qp K' (.len d true x) env σ = zRE (ev env x) fun r=>K' (env.put d r) σ:=zTs (d:=d)
def mmA (mx:Bool):List A→Option A
 | .lit (.int k a)::rest=>zFu mx a rest k
 | _=>none
@[simp] theorem qA7 {k:IntKind}{m n:Int}:mmA true [.lit (.int k m),.lit (.int k n)]=some (.lit (.int k (if m<n then n else m))):=by simp[mmA,zFu]
@[simp] theorem qA8 {k:IntKind}{m n:Int}:mmA false [.lit (.int k m),.lit (.int k n)]=some (.lit (.int k (if n<m then n else m))):=by simp[mmA,zFu]
theorem zRI {mx:Bool}{xs:List Operand}{J:A→Prop}:qQ (zL env σ (.mm d mx xs)) J=zDj (mmA mx (xs.map (ev env))) J:=by
 simp only[zL];generalize xs.map (ev env)=l;cases l with
 | nil=>rfl
 | cons a l =>
  cases a<;>try rfl
  rename_i v;cases v<;>try rfl
  exact zEk
@[simp] theorem qP1 {mx:Bool}{xs:List Operand}:wpO P Qp K' (.mm d mx xs) env σ = zDj (mmA mx (xs.map (ev env))) fun r=>K' (env.put d r) σ:=zRI (d:=d)
def zYj (i:Nat)(a:A)(J:A→Prop):Prop:=match a with | .tup vs=>(match vs[i]? with | some r=>J r | none=>False) | _=>False
@[simp] theorem qIh {i:Nat}{vs:List A}{J:A→Prop}:zYj i (.tup vs) J=zDj vs[i]? J:=rfl
theorem zV8 {i:Nat}{J:A→Prop}:qQ (zL env σ (.ext d x i)) J=zYj i (ev env x) J:=by
 simp only[zL,zYj];generalize ev env x=a;cases a<;>try rfl
 rename_i vs;simp only;cases vs[i]?<;>simp[qQ]
@[simp] theorem qLY {i:Nat}:wpO P Qp K' (.ext d x i) env σ = zYj i (ev env x) fun r=>K' (env.put d r) σ:=zV8 (d:=d)
@[simp] theorem qLV {f:FuncId}{a b:List Operand}:wpO P Qp K' (.clo d f a b) env σ = K' (env.put d (.clo f (a.map (ev env)) (b.map (ev env)))) σ:=by simp[wpO,zL,qQ,KOp.dst]
theorem zJ7 {zs:List Value}{ps:List (Nat×Nat×Operand)}{J:A→Prop}:qQ (zL env σ (.build d zs ps)) J=zDj ((zAX (zs.map qY) (ps.map fun(o,s,x)=>(o,s,ev env x))).map .agg) J:=by simp only[zL];cases zAX (zs.map qY) (ps.map fun(o,s,x)=>(o,s,ev env x))<;>simp[qQ,zDj]
def zQv (a:A)(neg:Bool)(J:A→Prop):Prop:=match a with
 | .lit (.pointer none)=>J (.lit (.bool !neg))
 | .rptr _=>J (.lit (.bool neg))
 | .ptr _ _=>J (.lit (.bool neg))
 | _=>False
@[simp] theorem qIv {neg:Bool}{J:A→Prop}:zQv (.lit (.pointer none)) neg J=J (.lit (.bool !neg)):=rfl
@[simp] theorem qEp {neg:Bool}{cs:List A}{J:A→Prop}:zQv (.rptr cs) neg J=J (.lit (.bool neg)):=rfl
@[simp] theorem qIw {neg:Bool}{l o:Nat}{J:A→Prop}:zQv (.ptr l o) neg J=J (.lit (.bool neg)):=rfl
@[simp] theorem qMb {neg:Bool}:wpO P Qp K' (.isp d neg x) env σ = zQv (ev env x) neg fun r=>K' (env.put d r) σ:=by
 show qQ (zL env σ (.isp d neg x)) _=_;simp only[zL];generalize ev env x=a;cases a with
 | lit v=>cases v with
  | pointer ad=>cases ad<;>simp[qQ,zQv,KOp.dst]
  | _=>rfl
 | rptr cs=>simp[qQ,zQv,KOp.dst]
 | ptr l o=>simp[qQ,zQv,KOp.dst]
 | _=>rfl
def qID (t:TypeId)(a:A):A:=match a with
 | .lit v=>.lit (.iface t v)
 | _=>.any
@[simp] theorem qIE {t:TypeId}{v:Value}:qID t (.lit v)=.lit (.iface t v):=rfl
@[simp] theorem qMe {t:TypeId}:wpO P Qp K' (.mki d t x) env σ = K' (env.put d (qID t (ev env x))) σ:=by simp only[wpO,zL,qQ,KOp.dst,true_and];generalize ev env x=a;cases a<;>rfl
def qJl (Qp:Value→Env→St→Prop)(env:Env) (σ : St)(a:A):Prop:=match a with
 | .lit (.iface t v)=>Qp (.iface t v) env σ
 | _=>False
@[simp] theorem qJm {t:TypeId}{v:Value}:qJl Qp env σ (.lit (.iface t v))=Qp (.iface t v) env σ:=rfl
@[simp] theorem qMj:wpO P Qp K' (.pan d x) env σ = qJl Qp env σ (ev env x):=rfl
@[simp] theorem qF9 {zs:List Value}{ps:List (Nat×Nat×Operand)}:wpO P Qp K' (.build d zs ps) env σ = zDj ((zAX (zs.map qY) (ps.map fun(o,s,x)=>(o,s,ev env x))).map .agg) fun r=>K' (env.put d r) σ:=zJ7 (d:=d)
@[simp] theorem qD9 {e:TypeId}{sz n:Nat}{zs:List Value}{ps:List (Nat×Nat×Operand)}:wpO P Qp K' (.bslice d e sz n zs ps) env σ = zDj ((zAX (zs.map qY) (ps.map fun(o,s,x)=>(o,s,ev env x))).map (.fsl n)) fun r=>K' (env.put d r) σ:=by simp only[wpO,zDj];cases zAX (zs.map qY) (ps.map fun(o,s,x)=>(o,s,ev env x))<;>simp
@[simp] theorem qKb {e:TypeId}{sz n:Nat}{zs:List Value}{ps:List (Nat×Nat×Operand)}:wpO P Qp K' (.brow d e sz n zs ps) env σ = zT0 (zAX (zs.map qY) (ps.map fun(o,s,x)=>(o,s,ev env x))) fun cs=>K' (env.put d (.row σ.length n)) (σ++[.row false e sz n cs]):=by simp only[wpO,zT0];cases zAX (zs.map qY) (ps.map fun(o,s,x)=>(o,s,ev env x))<;>simp
def zTo (a:A)(neg:Bool)(J:A→Prop):Prop:=match a with
 | .nil=>J (.lit (.bool !neg))
 | .sl n _=>n≠0∧J (.lit (.bool neg))
 | .fsl n _=>n≠0∧J (.lit (.bool neg))
 | _=>False
@[simp] theorem qIu {neg:Bool}{J:A→Prop}:zTo .nil neg J=J (.lit (.bool !neg)):=rfl
@[simp] theorem qKZ {neg:Bool}{n:Nat}{cs:List A}{J:A→Prop}:zTo (.sl n cs) neg J=(n≠0∧J (.lit (.bool neg))):=rfl
@[simp] theorem qIt {neg:Bool}{n:Nat}{cs:List A}{J:A→Prop}:zTo (.fsl n cs) neg J=(n≠0∧J (.lit (.bool neg))):=rfl
theorem zVP {neg:Bool}{J:A→Prop}:qQ (zL env σ (.isn d neg x)) J=zTo (ev env x) neg J:=by simp only[zL,zTo,qQ];generalize ev env x=a;cases a<;>simp
def zYs (σ : St)(a:A)(neg:Bool)(J:A→Prop):Prop:=match a with
 | .nil=>J (.lit (.bool !neg))
 | .sl n _=>J (.lit (.bool neg))∧(n=0→J (.lit (.bool !neg)))
 | .row l n=>(match σ[l]? with
  | some (.row _ _ _ m _)=>n=m∧J (.lit (.bool neg))∧(n=0→J (.lit (.bool !neg)))
  | _=>False)
 | _=>False
@[simp] theorem qIx {neg:Bool}{J:A→Prop}:zYs σ .nil neg J=J (.lit (.bool !neg)):=rfl
@[simp] theorem qLa {neg:Bool}{n:Nat}{cs:List A}{J:A→Prop}:zYs σ (.sl n cs) neg J=(J (.lit (.bool neg))∧(n=0→J (.lit (.bool !neg)))):=rfl
@[simp] theorem qMc {neg:Bool}:wpO P Qp K' (.isz d neg x) env σ = zYs σ (ev env x) neg fun r=>K' (env.put d r) σ:=by simp only[wpO,zYs];cases ev env x<;>rfl
@[simp] theorem qMa {neg:Bool}:wpO P Qp K' (.isn d neg x) env σ = zTo (ev env x) neg fun r=>K' (env.put d r) σ:=zVP (d:=d)
@[simp] theorem qEh {cs:List A}:zAX cs []=some cs:=rfl
def qAu (c:Option (List A))(o s:Nat)(cs:List A)(rest:List (Nat×Nat×A)):Option (List A):=match c with
 | some l=>if l.length=s∧o+s≤cs.length then zAX (cs.take o++l++cs.drop (o+s)) rest else none
 | none=>none
@[simp] theorem qCx {l:List A}{o s:Nat}{cs:List A}{rest:List (Nat×Nat×A)}:qAu (some l) o s cs rest=if l.length=s∧o+s≤cs.length then zAX (cs.take o++l++cs.drop (o+s)) rest else none:=rfl
@[simp] theorem qCw {cs:List A}{o s:Nat}{a:A}{rest:List (Nat×Nat×A)}:zAX cs ((o,s,a)::rest)=qAu (cellsOf a) o s cs rest:=rfl
def elP (σ : St)(sz:Nat)(a:A)(J:Nat→List A→Prop):Prop:=match zBW σ sz a with
 | some (m,ys)=>ys.length=m*sz∧J m ys
 | none=>False
@[simp] theorem qKN {sz:Nat}{J:Nat→List A→Prop}:elP σ sz .nil J=J 0 []:=by simp[elP,zBW]
@[simp] theorem qO7 {sz n:Nat}{cs:List A}{J:Nat→List A→Prop}:elP σ sz (.sl n cs) J=(cs.length=n*sz∧J n cs):=rfl
@[simp] theorem qKM {sz n:Nat}{cs:List A}{J:Nat→List A→Prop}:elP σ sz (.fsl n cs) J=(cs.length=n*sz∧J n cs):=rfl
@[simp] theorem qKO {sz l n:Nat}{J:Nat→List A→Prop}:elP σ sz (.row l n) J=qAU σ[l]? n sz fun cs=>cs.length=n*sz∧J n cs:=by
 simp only[elP,zBW];cases σ[l]? with
 | none=>rfl
 | some o =>
  cases o<;>try rfl
  rename_i fz e s m cs;by_cases h:n=m∧s=sz
  ·simp[h]
  ·simp only[h,if_false,zQH,eq_iff_iff,false_iff];rintro⟨h1,h2,_⟩;exact h ⟨h1,h2⟩
def zU5 (d:Option Nat)(K':Env→St→Prop)(env:Env) (σ : St)(e:TypeId)(sz bytes m:Nat)(ys:List A):A→Prop
 | .nil=>(m≤maxLen∧m*bytes≤140737488355328)∧K' (env.put d (.row σ.length m)) (σ++[AObj.row false e sz m ys])
 | .row l n=>(match σ[l]? with
  | some (.row fz e' s n' cs)=>if n=n'∧e'=e∧s=sz then (n+m≤maxLen∧(n+m)*bytes≤140737488355328)∧K' (env.put d (.row l (n+m))) (σ.set l (.row fz e sz (n+m) (cs++ys))) else False
  | _=>False)
 | .fsl n cs=>cs.length=n*sz∧(m=0→K' (env.put d (.fsl n cs)) σ)∧(m≠0→(n+m≤maxLen∧(n+m)*bytes≤140737488355328)∧K' (env.put d (.row σ.length (n+m))) (σ++[AObj.row false e sz (n+m) (cs++ys)]))
 | _=>False
@[simp] theorem qGE {e:TypeId}{sz bytes m:Nat}{ys:List A}:zU5 d K' env σ e sz bytes m ys .nil=((m≤maxLen∧m*bytes≤140737488355328)∧K' (env.put d (.row σ.length m)) (σ++[AObj.row false e sz m ys])):=rfl
@[simp] theorem qGD {e:TypeId}{sz bytes m n:Nat}{ys cs:List A}:zU5 d K' env σ e sz bytes m ys (.fsl n cs)=(cs.length=n*sz∧(m=0→K' (env.put d (.fsl n cs)) σ)∧(m≠0→(n+m≤maxLen∧(n+m)*bytes≤140737488355328)∧K' (env.put d (.row σ.length (n+m))) (σ++[AObj.row false e sz (n+m) (cs++ys)]))):=rfl
def qAV:Option AObj→Nat→TypeId→Nat→(Bool→List A→Prop)→Prop
 | some (.row fz e' s n' cs),n,e,sz,J=>(n=n'∧e'=e∧s=sz)∧J fz cs
 | _,_,_,_,_=>False
@[simp] theorem qDj {fz:Bool}{e' e:TypeId}{s n' n sz:Nat}{cs:List A}{J:Bool→List A→Prop}:qAV (some (.row fz e' s n' cs)) n e sz J=((n=n'∧e'=e∧s=sz)∧J fz cs):=rfl
@[simp] theorem qGF {e:TypeId}{sz bytes m l n:Nat}{ys:List A}:zU5 d K' env σ e sz bytes m ys (.row l n)=qAV σ[l]? n e sz fun fz cs=>(n+m≤maxLen∧(n+m)*bytes≤140737488355328)∧K' (env.put d (.row l (n+m))) (σ.set l (.row fz e sz (n+m) (cs++ys))):=by
 simp only[zU5];cases σ[l]? with
 | none=>rfl
 | some o =>
  cases o<;>try rfl
  rename_i fz e' s n' cs;by_cases h:n=n'∧e'=e∧s=sz
  ·simp[h]
  ·simp[h]
@[simp] theorem qLS {e:TypeId}{sz bytes:Nat}:wpO P Qp K' (.app d e sz bytes x y) env σ = elP σ sz (ev env y) fun m ys=>zU5 d K' env σ e sz bytes m ys (ev env x):=by
 simp only[wpO,elP];cases zBW σ sz (ev env y)with
 | none=>rfl
 | some r =>
  obtain⟨m,ys⟩:=r;simp only;generalize ev env x=a;cases a<;>rfl
def zUV (P:Program)(Qp:Value→Env→St→Prop)(K':Env→St→Prop)(d:Option Nat)(f:A)(args:List A)(env:Env) (σ : St):Prop:=match f with
 | .clo g first cap=>zA P g=true∧zAa P g (first++args++cap) σ (zJg d env K' Qp)
 | .lit (.func (.yield b) ⟨[]⟩ ⟨[]⟩)=>zI5 P b args σ (zJg d env K' Qp)
 | _=>False
@[simp] theorem qHL {b:Nat}{args:List A}:zUV P Qp K' d (yv b) args env σ = zI5 P b args σ (zJg d env K' Qp):=rfl
@[simp] theorem qDT {g:FuncId}{first cap args:List A}:zUV P Qp K' d (.clo g first cap) args env σ = (zA P g=true∧zAa P g (first++args++cap) σ (zJg d env K' Qp)):=rfl
@[simp] theorem qKc {args:List Operand}:wpO P Qp K' (.call d x args) env σ = zUV P Qp K' d (ev env x) (args.map (ev env)) env σ:=rfl
@[simp] theorem qDM:zAV []=[]:=rfl
@[simp] theorem qDL {cs:List A}:zAV (.box cs::σ)=.box cs::zAV σ:=rfl
@[simp] theorem qDN {fz:Bool}{e:TypeId}{sz n:Nat}{cs:List A}:zAV (.row fz e sz n cs::σ)=.dead::zAV σ:=rfl
@[simp] theorem qGV {fr:Bool}{nk:Nat}{es:List (List Int×A)}:zAV (.mp fr nk es::σ)=.dead::zAV σ:=rfl
@[simp] theorem qDO:zAV (.rsv::σ)=.dead::zAV σ:=rfl
@[simp] theorem qGT {m n:Nat}{met:List Nat}:zAV (.it m n met::σ)=.dead::zAV σ:=rfl
@[simp] theorem qGU {b M:Nat}{r:Loop}{es:List (Nat×A)}:zAV (.lp b r M es::σ)=.dead::zAV σ:=rfl
@[simp] theorem zXs {σ : St}:(zAV σ).length = σ.length:=by
 induction σ with
 | nil=>rfl
 | cons o σ ih=>cases o<;>simp[zAV,ih]
@[simp] theorem qEP {σ : St}:zD4 0 σ = σ:=rfl
@[simp] theorem qJ4 {σ : St}:zD4 1 σ = zAV σ:=rfl
@[simp] theorem qJ6 {σ : St}:zD4 2 σ = []:=rfl
variable {fl k:Nat}
@[simp] theorem qJn {v:Value}:zQ7 Q v σ = ∀e,Q (.pan v) e σ:=rfl
@[simp] theorem qLM:wpD P Qd K' [] env σ = K' env σ:=by simp only[wpD]
@[simp] theorem qPb {o:KOp}:zAP 0 o env=True:=rfl
@[simp] theorem qPc {o:KOp}:zAP 1 o env=True:=rfl
@[simp] theorem qPd {o:KOp}:zAP 2 o env=True:=rfl
@[simp] theorem qPe {o:KOp}:zAP 3 o env=True:=rfl
@[simp] theorem qPf {o:KOp}:zAP 4 o env=True:=rfl
@[simp] theorem qPg {n:Nat}:zAP 5 (.st d x y n) env=zMb (ev env x):=rfl
@[simp] theorem qPh {n:Nat}:zAP 6 (.st d x y n) env=zMc (ev env x):=rfl
@[simp] theorem qL4 {n:Nat}:zAP 6 (.idx d x y n) env=isRow (ev env x):=rfl
@[simp] theorem qEm {l o:Nat}:zMb (.ptr l o)=True:=rfl
@[simp] theorem qEo {l n o:Nat}:zMc (.rwp l n o)=True:=rfl
@[simp] theorem qEn {l n:Nat}:isRow (.row l n)=True:=rfl
@[simp] theorem qJ5 {σ : St}:zD4 6 σ = σ:=rfl
@[simp] theorem qJQ {o:KOp}{l:List (Nat×Nat×KG)}:wpD P Qd K' ((k,fl,⟨none,o⟩)::l) env σ = (zAP fl o env∧qZ P Qd fl (wpD P Qd K' l) o env σ):=rfl
@[simp] theorem qFn {s:Nat}{want:Bool}{o:KOp}{l:List (Nat×Nat×KG)}:wpD P Qd K' ((k,fl,⟨some (s,want),o⟩)::l) env σ = (zAP fl o env∧zHY (env s) want (qZ P Qd fl (wpD P Qd K' l) o) (zF3 o.dst (wpD P Qd K' l)) env σ):=by
 simp only[wpD,zRa,zHY];generalize env s=a;cases a<;>try rfl
 all_goals (rename_i v; cases v<;>rfl)
@[simp] theorem qD7:qZ P Qd fl K' (.pick d x y z) env σ = wpO P zA7 K' (.pick d x y z) env σ:=by simp[qZ,KOp.lite,KOp.keeps]
@[simp] theorem qD3 {e sz n:Nat}{zs:List Value}{ps:List (Nat×Nat×Operand)}:qZ P Qd fl K' (.brow d e sz n zs ps) env σ = wpO P zA7 K' (.brow d e sz n zs ps) env σ:=by simp[qZ,KOp.lite,KOp.keeps]
@[simp] theorem qF2 {m:MOp}{xs:List Operand}:qZ P Qd fl K' (.mop d m xs) env σ = (match zO9 m (xs.map (ev env)) σ with
 | some (r,σ')=>K' (env.put d r) σ'
 | none=>False):=rfl
@[simp] theorem qFz {ng:Bool}:qZ P Qd fl K' (.isp d ng x) env σ = wpO P zA7 K' (.isp d ng x) env σ:=by simp[qZ,KOp.lite,KOp.keeps]
@[simp] theorem qF1 {t:TypeId}:qZ P Qd fl K' (.mki d t x) env σ = wpO P zA7 K' (.mki d t x) env σ:=by simp[qZ,KOp.lite,KOp.keeps]
@[simp] theorem qF3:qZ P Qd fl K' (.mov d x) env σ = wpO P zA7 K' (.mov d x) env σ:=by simp[qZ,KOp.lite,KOp.keeps]
@[simp] theorem zZj {len sz:Nat}:qZ P Qd fl K' (.idxarr d x y len sz) env σ = wpO P zA7 K' (.idxarr d x y len sz) env σ:=by simp[qZ,KOp.lite,KOp.keeps]
@[simp] theorem qFq {op:BinOp}:qZ P Qd fl K' (.bin d op x y) env σ = wpO P zA7 K' (.bin d op x y) env σ:=by simp[qZ,KOp.lite,KOp.keeps]
@[simp] theorem qFu {k:SK}{ng:Bool}:qZ P Qd fl K' (.eqv d ng k x y) env σ = wpO P zA7 K' (.eqv d ng k x y) env σ:=by simp[qZ,KOp.lite,KOp.keeps]
@[simp] theorem qFt {ks:List SK}{ng:Bool}:qZ P Qd fl K' (.eqs d ng ks x y) env σ = wpO P zA7 K' (.eqs d ng ks x y) env σ:=by simp[qZ,KOp.lite,KOp.keeps]
@[simp] theorem qF4:qZ P Qd fl K' (.neg d x) env σ = wpO P zA7 K' (.neg d x) env σ:=by simp[qZ,KOp.lite,KOp.keeps]
@[simp] theorem qF5:qZ P Qd fl K' (.not d x) env σ = wpO P zA7 K' (.not d x) env σ:=by simp[qZ,KOp.lite,KOp.keeps]
@[simp] theorem qJT {mx:Bool}{xs:List Operand}:qZ P Qd fl K' (.mm d mx xs) env σ = wpO P zA7 K' (.mm d mx xs) env σ:=by simp[qZ,KOp.lite,KOp.keeps]
@[simp] theorem qD5:qZ P Qd fl K' (.len d true x) env σ = wpO P zA7 K' (.len d true x) env σ:=by simp[qZ,KOp.lite,KOp.keeps]
@[simp] theorem qFv {i:Nat}:qZ P Qd fl K' (.ext d x i) env σ = wpO P zA7 K' (.ext d x i) env σ:=by simp[qZ,KOp.lite,KOp.keeps]
@[simp] theorem qFs {f:FuncId}{a b:List Operand}:qZ P Qd fl K' (.clo d f a b) env σ = wpO P zA7 K' (.clo d f a b) env σ:=by simp[qZ,KOp.lite,KOp.keeps]
@[simp] theorem qF6 {sz:Nat}{lo hi mx:Option Operand}:qZ P Qd fl K' (.slc d x sz lo hi mx) env σ = wpO P zA7 K' (.slc d x sz lo hi mx) env σ:=by simp[qZ,KOp.lite,KOp.keeps]
@[simp] theorem qBd {zs:List Value}{ps:List (Nat×Nat×Operand)}:qZ P Qd fl K' (.build d zs ps) env σ = wpO P zA7 K' (.build d zs ps) env σ:=by simp[qZ,KOp.lite,KOp.keeps]
@[simp] theorem zZi {e:TypeId}{sz n:Nat}{zs:List Value}{ps:List (Nat×Nat×Operand)}:qZ P Qd fl K' (.bslice d e sz n zs ps) env σ = wpO P zA7 K' (.bslice d e sz n zs ps) env σ:=by simp[qZ,KOp.lite,KOp.keeps]
@[simp] theorem qBc {zs:List Value}:qZ P Qd fl K' (.alloc d zs) env σ = wpO P zA7 K' (.alloc d zs) env σ:=by simp[qZ,KOp.lite,KOp.keeps]
@[simp] theorem qFr:qZ P Qd fl K' (.box d x) env σ = wpO P zA7 K' (.box d x) env σ:=by simp[qZ,KOp.lite,KOp.keeps]
@[simp] theorem qJU {n:Nat}:qZ P Qd fl K' (.st d x y n) env σ = wpO P zA7 K' (.st d x y n) env σ:=by simp[qZ,KOp.lite,KOp.keeps]
@[simp] theorem qFp {e:TypeId}{sz bytes:Nat}:qZ P Qd fl K' (.app d e sz bytes x y) env σ = wpO P zA7 K' (.app d e sz bytes x y) env σ:=by simp[qZ,KOp.lite,KOp.keeps]
@[simp] theorem qFw {off n:Nat}{agg:Bool}:qZ P Qd fl K' (.fld d x off n agg) env σ = wpO P zA7 K' (.fld d x off n agg) env σ:=by simp[qZ,KOp.lite,KOp.keeps]
@[simp] theorem qJR {len sz:Nat}{agg:Bool}:qZ P Qd fl K' (.ix d x y len sz agg) env σ = wpO P zA7 K' (.ix d x y len sz agg) env σ:=by simp[qZ,KOp.lite,KOp.keeps]
@[simp] theorem qFy {ng:Bool}:qZ P Qd fl K' (.isn d ng x) env σ = wpO P zA7 K' (.isn d ng x) env σ:=by simp[qZ,KOp.lite,KOp.keeps]
@[simp] theorem qJS {n:Nat}{agg:Bool}:qZ P Qd fl K' (.ld d x n agg) env σ = zDj ((ldA (zD4 fl σ) n (ev env x)).bind (zBs agg)) fun r=>K' (env.put d r) σ:=zEk
@[simp] theorem qD2 {off:Nat}:qZ P Qd fl K' (.addr d x off) env σ = zDj (zGR (zD4 fl σ) off (ev env x)) fun r=>K' (env.put d r) σ:=by show qQ (zL env (zD4 fl σ) (.addr d x off)) _=_;rw[zGo,zEk]; rfl
@[simp] theorem qFx {sz:Nat}:qZ P Qd fl K' (.idx d x y sz) env σ = zLt (zD4 fl σ) sz (ev env x) (ev env y) fun r=>K' (env.put d r) σ:=zMa (d:=d)
def zLu (σ : St)(a:A)(J:A→Prop):Prop:=match a with
 | .nil=>J (.lit (.int .i64 0))
 | .sl n _=>J (.lit (.int .i64 n))
 | .fsl n _=>J (.lit (.int .i64 n))
 | .row l n=>match σ[l]? with
  | some (.row _ _ _ m _)=>if n=m then J (.lit (.int .i64 n)) else False
  | _=>False
 | .win l n _ k _=>match σ[l]? with
  | some (.row _ _ _ m _)=>if n=m then J (.lit (.int .i64 k)) else False
  | _=>False
 | _=>False
@[simp] theorem qI1 {J:A→Prop}:zLu σ .nil J=J (.lit (.int .i64 0)):=rfl
@[simp] theorem qLd {n:Nat}{cs:List A}{J:A→Prop}:zLu σ (.sl n cs) J=J (.lit (.int .i64 n)):=rfl
@[simp] theorem qI0 {n:Nat}{cs:List A}{J:A→Prop}:zLu σ (.fsl n cs) J=J (.lit (.int .i64 n)):=rfl
def zQw (o:Option AObj)(n:Nat)(J:A→Prop):Prop:=match o with
 | some (.row _ _ _ m _)=>if n=m then J (.lit (.int .i64 n)) else False
 | _=>False
@[simp] theorem qA6 {fz:Bool}{e:TypeId}{s m n:Nat}{cs:List A}{J:A→Prop}:zQw (some (.row fz e s m cs)) n J=if n=m then J (.lit (.int .i64 n)) else False:=rfl
@[simp] theorem qI2 {l n:Nat}{J:A→Prop}:zLu σ (.row l n) J=zQw σ[l]? n J:=by simp only[zLu,zQw]
theorem zTr {τ : St}{J:A→Prop}:qQ (zL env τ (.len d false x)) J=zLu τ (ev env x) J:=by
 simp only[zLu,zL];generalize ev env x=a;cases a<;>simp only[qQ,true_and]
 ·rename_i l n;cases τ[l]? with
  | none=>rfl
  | some ob =>
   cases ob<;>try rfl
   rename_i fz e s m cs;by_cases h:n=m<;>simp[h]
 ·rename_i l n _ k _;cases τ[l]? with
  | none=>rfl
  | some ob =>
   cases ob<;>try rfl
   rename_i fz e s m cs;by_cases h:n=m<;>simp[h]
@[simp] theorem qF0:qZ P Qd fl K' (.len d false x) env σ = zLu (zD4 fl σ) (ev env x) fun r=>K' (env.put d r) σ:=by show qQ (zL env (zD4 fl σ) (.len d false x)) _=_;exact zTr
def zGe (P:Program)(Qd:Value→St→Prop)(fl:Nat) (σ : St)(d:Option Nat)(K':Env→St→Prop)(f:A)(args:List A)(env:Env):Prop:=zXa P Qd fl σ d K' f args env
@[simp] theorem qD4 {args:List Operand}:qZ P Qd fl K' (.call d x args) env σ = zGe P Qd fl σ d K' (ev env x) (args.map (ev env)) env:=rfl
@[simp] theorem qKE {g:FuncId}{first cap args:List A}:zGe P Qd 0 σ d K' (.clo g first cap) args env=(zA P g=true∧zJw P σ d (fun e=>K' e σ) g (first++args++cap) env):=rfl
@[simp] theorem qKF {g:FuncId}{first cap args:List A}:zGe P Qd 1 σ d K' (.clo g first cap) args env=(zA P g=true∧zHC P σ d (fun e=>K' e σ) g (first++args++cap) env):=rfl
@[simp] theorem qKG {g:FuncId}{first cap args:List A}:zGe P Qd 3 σ d K' (.clo g first cap) args env=(zA P g=true∧zP3 P σ d K' g (first++args++cap) env):=rfl
@[simp] theorem qKI {g:FuncId}{first cap args:List A}:zGe P Qd 7 σ d K' (.clo g first cap) args env=(zA P g=true∧zHD P σ d K' g (first++args++cap) env):=rfl
@[simp] theorem qKJ {g:FuncId}{first cap args:List A}:zGe P Qd 8 σ d K' (.clo g first cap) args env=(zA P g=true∧zLd P σ d K' g (first++args++cap) env):=rfl
@[simp] theorem qHJ {g:FuncId}{first cap args:List A}:zGe P Qd 10 σ d K' (.clo g first cap) args env=(zA P g=true∧zP4 P Qd σ d K' g (first++args++cap) env):=rfl
@[simp] theorem qKK {n:Nat}{g:FuncId}{first cap args:List A}(h1:10<n):zGe P Qd n σ d K' (.clo g first cap) args env=(zA P g=true∧(if 1000≤n∧n<2000 then zLc P (n-1000) σ d K' g (first++args++cap) env else if 3000≤n∧n<4000 then zLb P (n-3000) σ d K' g (first++args++cap) env else zFA P σ d K' g (first++args++cap) env)):=by obtain⟨m,rfl⟩:∃m,n=m+11:=⟨n-11,by omega⟩;rfl
@[simp] theorem qKH {g:FuncId}{first cap args:List A}:zGe P Qd 4 σ d K' (.clo g first cap) args env=(zA P g=true∧zFA P σ d K' g (first++args++cap) env):=rfl
@[simp] theorem qHK {b:Nat}{args:List A}:zGe P Qd 4 σ d K' (yv b) args env = ∃r σ',(zI5 P b args σ fun o τ=>o=.ret r∧τ = σ')∧K' (env.put d r) σ':=by show (4=4∧_)=_;simp
theorem jS {t:Bool}{A B:Env→St→Prop}(h1:t=true→A env σ)(h2:t=false→B env σ):zEU t A B env σ:=⟨h1,h2⟩
theorem zY0 {S:Type}{W:(Ex→Env→St→Prop)→Env→St→Prop}(E:S→List (Nat×A))(T:S→St)(I:S→Prop) (μ : S→Nat)(s0:S)(h0:I s0)(start:zBV n0 (qP (E s0)) (T s0) env σ)
 (round:∀s,I s→W (rnd n0 (fun n e t=>∃s,I s∧μ s=n∧e=qP (E s)∧t=T s) (μ s) Q) (qP (E s)) (T s)):zN2 n0 W Q env σ:=by
 refine⟨fun n e t=>∃s,I s∧μ s=n∧e=qP (E s)∧t=T s,⟨μ s0,_,_,start,s0,h0,rfl,rfl,rfl⟩,?_⟩;rintro n e t ⟨s,hs,rfl,rfl,rfl⟩;exact round s hs
theorem qDf {S:Type}{E:S→List (Nat×A)}{T:S→St}{I:S→Prop} {μ : S→Nat}{n:Nat}(s:S)(hs:I s)(hm : μ s<n)(hw:zBV n0 (qP (E s)) (T s) env σ) :
 rnd n0 (fun n e t=>∃s,I s∧μ s=n∧e=qP (E s)∧t=T s) n Q .norm env σ:=⟨μ s,hm,_,_,hw,s,hs,rfl,rfl,rfl⟩
@[simp] theorem qCF {i t:Nat}{a:A}{l:List (Nat×A)}:qP ((i,a)::l) t=if t=i then a else qP l t:=rfl
@[simp] theorem qEt {t:Nat}:qP [] t=.any:=rfl
end
end Go.Abs
