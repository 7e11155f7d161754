/-
  The rules by which a walk over abstract states goes on, for simp.
-/
import Derived.Test.YthglhccibdlccaaGreatDoorX11
set_option linter.unusedVariables false
set_option linter.unusedSimpArgs false
namespace Go.Abs
def qOF (o:Option A)(d:Option Nat)(K:Env→St→Prop)(env:Env) (σ : St):Prop:=match o with
 | some r=>K (env.put d r) σ
 | none=>False
def qOE (o:Option A)(d:Option Nat)(K:Env→Prop)(env:Env):Prop:=match o with
 | some r=>K (env.put d r)
 | none=>False
def zSI (o:Option (List A))(J:List A→Prop):Prop:=match o with
 | some r=>J r
 | none=>False
def qCl (o:Option St)(J:St→Prop):Prop:=match o with
 | some r=>J r
 | none=>False
section
variable {P:Program}{n0:Nat}{Qp:Value→Env→St→Prop}{Qd:Value→St→Prop}{K':Env→St→Prop}{KD:Env→Prop}{Q:Ex→Env→St→Prop}{env:Env} {σ : St}{d d':Option Nat}{x y z:Operand}
@[simp] theorem qDW {r:A}:qOF (some r) d K' env σ = K' (env.put d r) σ:=rfl
@[simp] theorem qDU {r:A}:qOE (some r) d KD env=KD (env.put d r):=rfl
@[simp] theorem qDT {r:List A}{J:List A→Prop}:zSI (some r) J=J r:=rfl
@[simp] theorem qDX {r:St}{J:St→Prop}:qCl (some r) J=J r:=rfl
@[simp] theorem qIN {r:A}:env.put none r=env:=rfl
@[simp] theorem qKO {i t:Nat}{r:A}:(env.put (some i) r) t=if t=i then r else env t:=rfl
@[simp] theorem qOs {t:Nat}:ev env (.tmp t)=env t:=rfl
@[simp] theorem qKy {f:FuncId}:ev env (.func f)=.clo f [] []:=rfl
@[simp] theorem qOq {k:IntKind}{n:Int}:ev env (.const (.int k n))=.lit (.int k n):=rfl
@[simp] theorem qKx {b:Bool}:ev env (.const (.bool b))=.lit (.bool b):=rfl
@[simp] theorem qDy {s:ByteArray}:ev env (.const (.string s))=.lit (.string s):=rfl
@[simp] theorem qOr:ev env (.const (.slice none 0 0))=.nil:=rfl
@[simp] theorem qB7:ev env (.const .nilFunc)=.lit .nilFunc:=rfl
@[simp] theorem qDx:ev env (.const (.pointer none))=.lit (.pointer none):=rfl
@[simp] theorem qOp {l:List Value}:ev env (.const (.agg ⟨l⟩))=if yY l then .agg (l.map jC) else .any:=rfl
@[simp] theorem qAf:yY []=true:=rfl
@[simp] theorem zYb {v:Value}{l:List Value}:yY (v::l)=(v.oneCell'&&yY l):=rfl
@[simp] theorem qKM {k:IntKind}{n:Int}:(Value.int k n).oneCell'=true:=rfl
@[simp] theorem qI6 {b:Bool}:(Value.bool b).oneCell'=true:=rfl
@[simp] theorem qCi {s:ByteArray}:(Value.string s).oneCell'=true:=rfl
@[simp] theorem qDS {a:Option Addr}{n c:Nat}:(Value.slice a n c).oneCell'=true:=rfl
@[simp] theorem qAh {a:Option Addr}:(Value.pointer a).oneCell'=true:=rfl
@[simp] theorem qAg:(Value.nilFunc).oneCell'=true:=rfl
@[simp] theorem qKN {r:Option Nat}:(Value.map r).oneCell'=true:=rfl
@[simp] theorem qCg {k:IntKind}{n:Int}:jC (.int k n)=.lit (.int k n):=rfl
@[simp] theorem qAe {b:Bool}:jC (.bool b)=.lit (.bool b):=rfl
@[simp] theorem zWw {s:ByteArray}:jC (.string s)=.lit (.string s):=rfl
@[simp] theorem qCh:jC (.slice none 0 0)=.nil:=rfl
@[simp] theorem zVD:jC .nilFunc=.lit .nilFunc:=rfl
@[simp] theorem zWv:jC (.pointer none)=.lit (.pointer none):=rfl
@[simp] theorem zWu:jC (.map none)=.lit (.map none):=rfl
@[simp] theorem zZ1:cellsOf .nil=some [.nil]:=rfl
@[simp] theorem zZw {cs:List A}:cellsOf (.agg cs)=some cs:=rfl
@[simp] theorem zZz {v:Value}:cellsOf (.lit v)=if v.oneCell' then some [.lit v] else none:=rfl
@[simp] theorem qBn {n:Nat}{cs:List A}:cellsOf (.sl n cs)=some [.sl n cs]:=rfl
@[simp] theorem zZy {n:Nat}{cs:List A}:cellsOf (.fsl n cs)=some [.fsl n cs]:=rfl
@[simp] theorem zZ3 {l n:Nat}:cellsOf (.row l n)=some [.row l n]:=rfl
@[simp] theorem zZ2 {l n:Nat}:cellsOf (.ptr l n)=some [.ptr l n]:=rfl
@[simp] theorem zZ0 {l:Nat}:cellsOf (.map l)=some [.map l]:=rfl
@[simp] theorem zZ6 {l n o k c:Nat}:cellsOf (.win l n o k c)=some [.win l n o k c]:=rfl
@[simp] theorem zZ4 {l n o:Nat}:cellsOf (.rwp l n o)=some [.rwp l n o]:=rfl
@[simp] theorem zWU {cs:List A}:cellsOf (.rptr cs)=some [.rptr cs]:=rfl
@[simp] theorem zZx {f:FuncId}{a b:List A}:cellsOf (.clo f a b)=some [.clo f a b]:=rfl
@[simp] theorem qCo {cs:List A}:zBq true cs=some (.agg cs):=rfl
@[simp] theorem qAj {c:A}:zBq false [c]=some c:=rfl
@[simp] theorem qHR {cs:List A}{n:Nat}:ldA σ n (.rptr cs)=sub cs 0 n:=rfl
def zZO:Option AObj→Nat→Nat→Option (List A)
 | some (.box cs),off,n=>sub cs off n
 | _,_,_=>none
def zZP:Option AObj→Nat→Nat→Nat→Option (List A)
 | some (.row _ _ _ k cs),m,off,n=>if m=k then sub cs off n else none
 | _,_,_,_=>none
@[simp] theorem qBS {cs:List A}{off n:Nat}:zZO (some (.box cs)) off n=sub cs off n:=rfl
@[simp] theorem qBT {fz:Bool}{e:TypeId}{s k:Nat}{cs:List A}{m off n:Nat}:zZP (some (.row fz e s k cs)) m off n=if m=k then sub cs off n else none:=rfl
@[simp] theorem qK7 {l off n:Nat}:ldA σ n (.ptr l off)=zZO σ[l]? off n:=by
 simp only[ldA];cases σ[l]? with
 | none=>rfl
 | some o=>cases o<;>rfl
@[simp] theorem qK8 {l m off n:Nat}:ldA σ n (.rwp l m off)=zZP σ[l]? m off n:=by
 simp only[ldA];cases σ[l]? with
 | none=>rfl
 | some o=>cases o<;>rfl
@[simp] theorem qOJ {cs:List A}{off n:Nat}:sub cs off n=if off+n≤cs.length then some ((cs.drop off).take n) else none:=rfl
def qAr:Option AObj→St→List A→Nat→Nat→Option St
 | some (.box ds),σ,cs,l,off=>if off+cs.length≤ds.length then some (σ.set l (.box (ds.take off++cs++ds.drop (off+cs.length)))) else none
 | _,_,_,_,_=>none
def qAs:Option AObj→St→List A→Nat→Nat→Nat→Option St
 | some (.row false e sz k ds),σ,cs,l,m,off=>if m=k∧off+cs.length≤ds.length then some (σ.set l (.row false e sz k (ds.take off++cs++ds.drop (off+cs.length)))) else none
 | _,_,_,_,_,_=>none
@[simp] theorem qC7 {ds cs:List A}{l off:Nat}:qAr (some (.box ds)) σ cs l off=if off+cs.length≤ds.length then some (σ.set l (.box (ds.take off++cs++ds.drop (off+cs.length)))) else none:=rfl
@[simp] theorem qC8 {e:TypeId}{sz k:Nat}{ds cs:List A}{l m off:Nat}:qAs (some (.row false e sz k ds)) σ cs l m off=if m=k∧off+cs.length≤ds.length then some (σ.set l (.row false e sz k (ds.take off++cs++ds.drop (off+cs.length)))) else none:=rfl
@[simp] theorem qLa {cs:List A}{l off:Nat}:stA σ cs (.ptr l off)=qAr σ[l]? σ cs l off:=by
 simp only[stA];cases σ[l]? with
 | none=>rfl
 | some o=>cases o<;>rfl
@[simp] theorem qLb {cs:List A}{l m off:Nat}:stA σ cs (.rwp l m off)=qAs σ[l]? σ cs l m off:=by
 simp only[stA];cases σ[l]? with
 | none=>rfl
 | some o =>
  cases o<;>try rfl
  rename_i fz e s n ds;cases fz<;>rfl
def qAn:Option AObj→Nat→Nat→(List A→Prop)→Prop
 | some (.row _ _ s m cs),n,sz,J=>n=m∧s=sz∧J cs
 | _,_,_,_=>False
@[simp] theorem zQl {fz:Bool}{e:TypeId}{s m n sz:Nat}{cs:List A}{J:List A→Prop}:qAn (some (.row fz e s m cs)) n sz J=(n=m∧s=sz∧J cs):=rfl
@[simp] theorem qDc {b:Bool}:(b==true)=b:=by cases b<;>rfl
@[simp] theorem qBv {A B:Env→St→Prop}:zFb true A B env σ = A env σ:=by simp[zFb]
@[simp] theorem zZA {A B:Env→St→Prop}:zFb false A B env σ = B env σ:=by simp[zFb]
@[simp] theorem qJb:zFK d K' env σ = K' (env.put d (.lit undef)) σ:=rfl
@[simp] theorem qIB {r:A}:zHA d env K' Qp (.ret r) σ = K' (env.put d r) σ:=rfl
@[simp] theorem qIA {v:Value}:zHA d env K' Qp (.pan v) σ = Qp v env σ:=rfl
@[simp] theorem qJj {J:Env→St→Prop}:thn J Q .norm=J:=rfl
@[simp] theorem qLe {J:Env→St→Prop}:thn J Q .ret=Q .ret:=rfl
@[simp] theorem qJi {J:Env→St→Prop}{i:Nat}:thn J Q (.exit i)=Q (.exit i):=rfl
@[simp] theorem qLd {J:Env→St→Prop}{v:Value}:thn J Q (.pan v)=Q (.pan v):=rfl
@[simp] theorem qGm {id:Nat}:blk id Q .norm=Q .norm:=rfl
@[simp] theorem qJB {id:Nat}:blk id Q .ret=Q .ret:=rfl
@[simp] theorem qGl {id i:Nat}:blk id Q (.exit i)=if i=id then Q .norm else Q (.exit i):=rfl
@[simp] theorem qJA {id:Nat}{v:Value}:blk id Q (.pan v)=Q (.pan v):=rfl
@[simp] theorem qKV {I:Nat→Env→St→Prop}{n:Nat}:rnd n0 I n Q .ret=Q .ret:=rfl
@[simp] theorem qIT {I:Nat→Env→St→Prop}{n i:Nat}:rnd n0 I n Q (.exit i)=Q (.exit i):=rfl
@[simp] theorem qKU {I:Nat→Env→St→Prop}{n:Nat}{v:Value}:rnd n0 I n Q (.pan v)=Q (.pan v):=rfl
@[simp] theorem qH7 {rs:List RS}{R:Out→St→Prop}:fin rs R .norm=zJx rs R:=rfl
@[simp] theorem qK0 {rs:List RS}{R:Out→St→Prop}:fin rs R .ret=zJx rs R:=rfl
@[simp] theorem qKz {rs:List RS}{R:Out→St→Prop}{v:Value}:fin rs R (.pan v) env σ = R (.pan v) σ:=rfl
@[simp] theorem qEc {t:Nat}{R:Out→St→Prop}:zJx [.slot t] R env σ = R (.ret (env t)) σ:=rfl
@[simp] theorem qIS {t u:Nat}{R:Out→St→Prop}:zJx [.slot t,.slot u] R env σ = R (.ret (.tup [env t,env u])) σ:=rfl
@[simp] theorem qCv {t u v:Nat}{R:Out→St→Prop}:zJx [.slot t,.slot u,.slot v] R env σ = R (.ret (.tup [env t,env u,env v])) σ:=rfl
@[simp] theorem zW2 {a:A}{l:List A}:zCk (a::l) 0=a:=rfl
@[simp] theorem zW1 {a:A}{l:List A}{n:Nat}:zCk (a::l) (n+1)=zCk l n:=by simp[zCk]
@[simp] theorem zZp {n:Nat}:zCk [] n=.lit undef:=by simp[zCk]
@[simp] theorem qPi {k:K}{rs:List RS}{args:List A}{R:Out→St→Prop}:wpF P k rs args σ R=wpK P σ.length k (fin rs R) (zCk args) σ:=rfl
@[simp] theorem qJ2:wpK P n0 .skip Q env σ = Q .norm env σ:=rfl
@[simp] theorem qLw:wpK P n0 .ret Q env σ = Q .ret env σ:=rfl
@[simp] theorem qJ0 {i:Nat}:wpK P n0 (.exit i) Q env σ = Q (.exit i) env σ:=rfl
@[simp] theorem qLy {a b:K}:wpK P n0 (.seq a b) Q env σ = wpK P n0 a (thn (wpK P n0 b Q) Q) env σ:=rfl
@[simp] theorem qEO {i:Nat}{a:K}:wpK P n0 (.block i a) Q env σ = wpK P n0 a (blk i Q) env σ:=rfl
@[simp] theorem qJ1 {a:K}:wpK P n0 (.loop a) Q env σ = zNt n0 (wpK P n0 a) Q env σ:=rfl
@[simp] theorem qPj {a:K}:wpK P n0 (.wk a) Q env σ = Wk n0 (wpK P n0 a Q) env σ:=rfl
@[simp] theorem qLv {l:List KG}:wpK P n0 (.ops l) Q env σ = zCx P (fun v=>Q (.pan v)) (Q .norm) l env σ:=rfl
@[simp] theorem qJz {l:List (Nat×Nat×KG)}:wpK P n0 (.dops l) Q env σ = wpD P (zK8 Q) (Q .norm) l env σ:=rfl
@[simp] theorem qLx {ps:List Nat}{a b:K}:wpK P n0 (.rng x ps a b) Q env σ = qA6 P n0 x ps (fun n=>wpK P n a) (fun n=>wpK P n b) Q env σ:=rfl
@[simp] theorem qCZ {S:St}{J:Env→St→Prop}:zW4 S J .norm env σ = (σ = S∧J env σ):=rfl
@[simp] theorem qDv {S:St}:zXf n0 S .norm env σ = Wk n0 (fun _ σ'=>σ'=S) env σ:=rfl
@[simp] theorem qDZ {xs:List A}:zFC env [] xs=env:=by cases xs<;>rfl
@[simp] theorem qCs {p:Nat}{ps:List Nat}{a:A}{xs:List A}:zFC env (p::ps) (a::xs)=zFC (env.put (some p) a) ps xs:=rfl
@[simp] theorem qBo {b:Nat}:cellsOf (yv b)=some [yv b]:=rfl
def zZB (a:A)(A B:Env→St→Prop)(env:Env) (σ : St):Prop:=match a with
 | .lit (.bool t)=>zFb t A B env σ
 | _=>False
@[simp] theorem qBw {t:Bool}{A B:Env→St→Prop}:zZB (.lit (.bool t)) A B env σ = zFb t A B env σ:=rfl
@[simp] theorem qJy {a b:K}:wpK P n0 (.cond x a b) Q env σ = zZB (ev env x) (wpK P n0 a Q) (wpK P n0 b Q) env σ:=rfl
@[simp] theorem qER:zCx P Qp K' [] env σ = K' env σ:=rfl
@[simp] theorem qCT {o:KOp}{l:List KG}:zCx P Qp K' (⟨none,o⟩::l) env σ = wpO P Qp (zCx P Qp K' l) o env σ:=rfl
def zIq (a:A)(want:Bool)(A B:Env→St→Prop)(env:Env) (σ : St):Prop:=match a with
 | .lit (.bool b)=>zFb (b==want) A B env σ
 | .lit (.tuple _)=>B env σ
 | _=>False
@[simp] theorem zZG {b want:Bool}{A B:Env→St→Prop}:zIq (.lit (.bool b)) want A B env σ = zFb (b==want) A B env σ:=rfl
@[simp] theorem zX7 {want:Bool}{A B:Env→St→Prop}:zIq (.lit undef) want A B env σ = B env σ:=rfl
@[simp] theorem qAx {s:Nat}{want:Bool}{o:KOp}{l:List KG}:zCx P Qp K' (⟨some (s,want),o⟩::l) env σ = zIq (env s) want (wpO P Qp (zCx P Qp K' l) o) (zFK o.dst (zCx P Qp K' l)) env σ:=by
 simp only[zCx,wpG,zIq];generalize env s=a;cases a<;>try rfl
 all_goals (rename_i v; cases v<;>rfl)
def zRr (a:A)(x y:A)(J:A→Prop):Prop:=match a with
 | .lit (.bool t)=>J (if t then x else y)
 | _=>False
@[simp] theorem qCp {t:Bool}{a b:A}{J:A→Prop}:zRr (.lit (.bool t)) a b J=J (if t then a else b):=rfl
def zDk (o:Option A)(J:A→Prop):Prop:=match o with
 | some r=>J r
 | none=>False
@[simp] theorem qDV {r:A}{J:A→Prop}:zDk (some r) J=J r:=rfl
theorem zEl {o:Option A}{J:A→Prop}:qY (o.map fun r=>(True,r)) J=zDk o J:=by cases o<;>simp[qY,zDk]
@[simp] theorem qLE:wpO P Qp K' (.mov d x) env σ = K' (env.put d (ev env x)) σ:=by simp[wpO,qY,zO,KOp.dst]
theorem zMm {J:A→Prop}:qY (zO env σ (.pick d x y z)) J=zRr (ev env x) (ev env y) (ev env z) J:=by
 simp only[zO,zRr,qY];generalize ev env x=a;cases a<;>try rfl
 rename_i v;cases v<;>simp
@[simp] theorem qJ8:wpO P Qp K' (.pick d x y z) env σ = zRr (ev env x) (ev env y) (ev env z) fun r=>K' (env.put d r) σ:=zMm (d:=d)
@[simp] theorem qEP {zs:List Value}:wpO P Qp K' (.alloc d zs) env σ = K' (env.put d (.ptr σ.length 0)) (σ++[.box (zs.map jC)]):=rfl
@[simp] theorem qL2:wpO P Qp K' (.box d x) env σ = zSI (cellsOf (ev env x)) fun cs=>K' (env.put d (.ptr σ.length 0)) (σ++[.box cs]):=rfl
@[simp] theorem qPk {n:Nat}{agg:Bool}:wpO P Qp K' (.ld d x n agg) env σ = zDk ((ldA σ n (ev env x)).bind (zBq agg)) fun r=>K' (env.put d r) σ:=zEl
@[simp] theorem qPm {n:Nat}:wpO P Qp K' (.st d x y n) env σ = zSI (cellsOf (ev env y)) fun cs=>cs.length=n∧qCl (stA σ cs (ev env x)) fun σ'=>K' (env.put d (.lit undef)) σ':=by
 simp only[wpO,zSI,qCl];cases cellsOf (ev env y)with
 | none=>rfl
 | some cs =>
  simp only;by_cases h:cs.length=n
  ·simp only[h,if_true,true_and];cases stA σ cs (ev env x)<;>rfl
  ·simp[h]
def zHb (σ : St)(off:Nat):A→Option A
 | .ptr l o=>some (.ptr l (o+off))
 | .rptr cs=>some (.rptr (cs.drop off))
 | .rwp l n o=>match σ[l]? with
  | some (.row _ _ _ m _)=>if n=m then some (.rwp l n (o+off)) else none
  | _=>none
 | _=>none
@[simp] theorem qCV {l o off:Nat}:zHb σ off (.ptr l o)=some (.ptr l (o+off)):=rfl
@[simp] theorem qA8 {cs:List A}{off:Nat}:zHb σ off (.rptr cs)=some (.rptr (cs.drop off)):=rfl
theorem zG9 {off:Nat}:zO env σ (.addr d x off)=(zHb σ off (ev env x)).map fun r=>(True,r):=by
 simp only[zO];generalize ev env x=a;cases a<;>simp only[zHb]<;>try rfl
 rename_i l n o;cases σ[l]? with
 | none=>rfl
 | some ob =>
  cases ob<;>try rfl
  simp only;split<;>rfl
@[simp] theorem qJ3 {off:Nat}:wpO P Qp K' (.addr d x off) env σ = zDk (zHb σ off (ev env x)) fun r=>K' (env.put d r) σ:=by show qY (zO env σ (.addr d x off)) _=_;rw[zG9,zEl];rfl
def zLx (σ : St)(sz:Nat)(a i:A)(J:A→Prop):Prop:=match a,i with
 | .sl n cs,.lit (.int _ j)=>((0≤j∧j<n)∧j.toNat*sz<cs.length)∧J (.rptr (cs.drop (j.toNat*sz)))
 | .fsl n cs,.lit (.int _ j)=>((0≤j∧j<n)∧j.toNat*sz<cs.length)∧J (.rptr (cs.drop (j.toNat*sz)))
 | .row l n,.lit (.int _ j)=>match σ[l]? with
  | some (.row _ _ s m _)=>if n=m∧s=sz then (0≤j∧j<n)∧J (.rwp l n (j.toNat*sz)) else False
  | _=>False
 | .win l n o k' _,.lit (.int _ j)=>match σ[l]? with
  | some (.row _ _ s m _)=>if n=m∧s=sz then (0≤j∧j<k')∧J (.rwp l n (o+j.toNat*sz)) else False
  | _=>False
 | _,_=>False
theorem zLY {sz:Nat}{J:A→Prop}:qY (zO env σ (.idx d x y sz)) J=zLx σ sz (ev env x) (ev env y) J:=by
 simp only[zO,zLx,qY];generalize ev env x=a;generalize ev env y=b;cases a<;>cases b<;>try rfl
 all_goals (rename_i v; cases v<;>try rfl)
 ·rename_i l n k j;simp only;cases σ[l]? with
  | none=>rfl
  | some ob =>
   cases ob<;>try rfl
   rename_i fz e s m cs;by_cases h:n=m∧s=sz<;>simp[h]
 ·rename_i l n o k' c k j;simp only;cases σ[l]? with
  | none=>rfl
  | some ob =>
   cases ob<;>try rfl
   rename_i fz e s m cs;by_cases h:n=m∧s=sz<;>simp[h]
@[simp] theorem qL7 {sz:Nat}:wpO P Qp K' (.idx d x y sz) env σ = zLx σ sz (ev env x) (ev env y) fun r=>K' (env.put d r) σ:=zLY (d:=d)
@[simp] theorem qK4 {sz n:Nat}{cs:List A}{k:IntKind}{j:Int}{J:A→Prop}:zLx σ sz (.sl n cs) (.lit (.int k j)) J=(((0≤j∧j<n)∧j.toNat*sz<cs.length)∧J (.rptr (cs.drop (j.toNat*sz)))):=rfl
@[simp] theorem qHB {sz n:Nat}{cs:List A}{k:IntKind}{j:Int}{J:A→Prop}:zLx σ sz (.fsl n cs) (.lit (.int k j)) J=(((0≤j∧j<n)∧j.toNat*sz<cs.length)∧J (.rptr (cs.drop (j.toNat*sz)))):=rfl
def zH1 (len sz:Nat)(a i:A)(J:A→Prop):Prop:=match a,i with
 | .ptr l o,.lit (.int _ j)=>(0≤j∧j<len)∧J (.ptr l (o+j.toNat*sz))
 | .rptr cs,.lit (.int _ j)=>((0≤j∧j<len)∧j.toNat*sz<cs.length)∧J (.rptr (cs.drop (j.toNat*sz)))
 | _,_=>False
@[simp] theorem zXC {len sz:Nat}{cs:List A}{k:IntKind}{j:Int}{J:A→Prop}:zH1 len sz (.rptr cs) (.lit (.int k j)) J=(((0≤j∧j<len)∧j.toNat*sz<cs.length)∧J (.rptr (cs.drop (j.toNat*sz)))):=rfl
@[simp] theorem zZL {len sz l o:Nat}{k:IntKind}{j:Int}{J:A→Prop}:zH1 len sz (.ptr l o) (.lit (.int k j)) J=((0≤j∧j<len)∧J (.ptr l (o+j.toNat*sz))):=rfl
theorem zMN {len sz:Nat}{J:A→Prop}:qY (zO env σ (.idxarr d x y len sz)) J=zH1 len sz (ev env x) (ev env y) J:=by
 simp only[zO,zH1,qY];generalize ev env x=a;generalize ev env y=b;cases a<;>first
  | rfl
  | (cases b<;>first
   | rfl
   | (rename_i v; cases v<;>rfl))
@[simp] theorem qCS {len sz:Nat}:wpO P Qp K' (.idxarr d x y len sz) env σ = zH1 len sz (ev env x) (ev env y) fun r=>K' (env.put d r) σ:=zMN (d:=d)
def zD9 (op:BinOp)(a b:A)(J:A→Prop):Prop:=match a,b with
 | .lit (.int k m),.lit (.int k' n)=>if k=k' then (match zDK op k m n with | some (p,r)=>p∧J r | none=>False) else False
 | .lit (.string s),.lit (.string t)=>(match zWf op s t with | some (p,r)=>p∧J r | none=>False)
 | _,_=>False
theorem zRH {op:BinOp}{J:A→Prop}:qY (zO env σ (.bin d op x y)) J=zD9 op (ev env x) (ev env y) J:=by
 simp only[zO,zD9,qY];generalize ev env x=a;generalize ev env y=b;cases a<;>try rfl
 rename_i u;cases b<;>try (cases u<;>rfl)
 rename_i v;cases u<;>cases v<;>try rfl
 case lit.lit.int.int k m k' n =>
  by_cases h:k=k'
  ·simp only[h,if_true];cases zDK op k' m n<;>rfl
  ·simp[h]
@[simp] theorem qL1 {op:BinOp}:wpO P Qp K' (.bin d op x y) env σ = zD9 op (ev env x) (ev env y) fun r=>K' (env.put d r) σ:=zRH (d:=d)
@[simp] theorem qGj {s t:ByteArray}{J:A→Prop}:zD9 .add (.lit (.string s)) (.lit (.string t)) J=(s.size+t.size≤1000000∧J (.lit (.string (s++t)))):=rfl
@[simp] theorem qGb {k:IntKind}{m n:Int}{J:A→Prop}:zD9 .add (.lit (.int k m)) (.lit (.int k n)) J=J (.lit (.int k (k.wrap (m+n)))):=by simp[zD9,zDK]
@[simp] theorem qGk {k:IntKind}{m n:Int}{J:A→Prop}:zD9 .sub (.lit (.int k m)) (.lit (.int k n)) J=J (.lit (.int k (k.wrap (m-n)))):=by simp[zD9,zDK]
@[simp] theorem qGg {k:IntKind}{m n:Int}{J:A→Prop}:zD9 .mul (.lit (.int k m)) (.lit (.int k n)) J=J (.lit (.int k (k.wrap (m*n)))):=by simp[zD9,zDK]
@[simp] theorem qGh {k:IntKind}{m n:Int}{J:A→Prop}:zD9 .quo (.lit (.int k m)) (.lit (.int k n)) J=(n≠0∧J (.lit (.int k (k.wrap (m.tdiv n))))):=by simp[zD9,zDK]
@[simp] theorem qGi {k:IntKind}{m n:Int}{J:A→Prop}:zD9 .rem (.lit (.int k m)) (.lit (.int k n)) J=(n≠0∧J (.lit (.int k (m.tmod n)))):=by simp[zD9,zDK]
@[simp] theorem qGf {k:IntKind}{m n:Int}{J:A→Prop}:zD9 .lss (.lit (.int k m)) (.lit (.int k n)) J=J (.lit (.bool (decide (m<n)))):=by simp[zD9,zDK]
@[simp] theorem qGe {k:IntKind}{m n:Int}{J:A→Prop}:zD9 .leq (.lit (.int k m)) (.lit (.int k n)) J=J (.lit (.bool (decide (m≤n)))):=by simp[zD9,zDK]
@[simp] theorem qGd {k:IntKind}{m n:Int}{J:A→Prop}:zD9 .gtr (.lit (.int k m)) (.lit (.int k n)) J=J (.lit (.bool (decide (n<m)))):=by simp[zD9,zDK]
@[simp] theorem qGc {k:IntKind}{m n:Int}{J:A→Prop}:zD9 .geq (.lit (.int k m)) (.lit (.int k n)) J=J (.lit (.bool (decide (n≤m)))):=by simp[zD9,zDK]
noncomputable def eqA (k:SK) (ng:Bool) (a b:A):Option A:=(zB6 k a b).map (zAJ ng)
noncomputable def zME (ks:List SK) (ng:Bool) (a b:A):Option A:=match a,b with
 | .agg xs,.agg ys=>(yT ks xs ys).map (zAJ ng)
 | _,_=>none
theorem zUM {k:SK}{ng:Bool}{J:A→Prop}:qY (zO env σ (.eqv d ng k x y)) J=zDk (eqA k ng (ev env x) (ev env y)) J:=by simp only[zO,eqA];cases zB6 k (ev env x) (ev env y)<;>simp[qY,zDk]
theorem zUL {ks:List SK}{ng:Bool}{J:A→Prop}:qY (zO env σ (.eqs d ng ks x y)) J=zDk (zME ks ng (ev env x) (ev env y)) J:=by
 simp only[zO,zME];generalize ev env x=a;generalize ev env y=b;cases a<;>cases b<;>try rfl
 rename_i xs ys;simp only;cases yT ks xs ys<;>simp[qY,zDk]
@[simp] theorem qL5 {k:SK}{ng:Bool}:wpO P Qp K' (.eqv d ng k x y) env σ = zDk (eqA k ng (ev env x) (ev env y)) fun r=>K' (env.put d r) σ:=zUM (d:=d)
@[simp] theorem qL4 {ks:List SK}{ng:Bool}:wpO P Qp K' (.eqs d ng ks x y) env σ = zDk (zME ks ng (ev env x) (ev env y)) fun r=>K' (env.put d r) σ:=zUL (d:=d)
@[simp] theorem qKw {k:IntKind}{m n:Int}:eqA .i false (.lit (.int k m)) (.lit (.int k n))=some (.lit (.bool (decide (m=n)))):=by simp[eqA,zB6,zAJ]
@[simp] theorem qH2 {k:IntKind}{m n:Int}:eqA .i true (.lit (.int k m)) (.lit (.int k n))=some (.lit (.bool (decide (m≠n)))):=by simp[eqA,zB6,zAJ]
@[simp] theorem qH1 {m n:Bool}:eqA .b false (.lit (.bool m)) (.lit (.bool n))=some (.lit (.bool (decide (m=n)))):=by simp[eqA,zB6,zAJ]
@[simp] theorem qDw {m n:Bool}:eqA .b true (.lit (.bool m)) (.lit (.bool n))=some (.lit (.bool (decide (m≠n)))):=by simp[eqA,zB6,zAJ]
def zXP (a:A)(J:A→Prop):Prop:=match a with | .lit (.int k m)=>J (.lit (.int k (k.wrap (0-m)))) | _=>False
@[simp] theorem qIq {k:IntKind}{m:Int}{J:A→Prop}:zXP (.lit (.int k m)) J=J (.lit (.int k (k.wrap (0-m)))):=rfl
theorem zV4 {J:A→Prop}:qY (zO env σ (.neg d x)) J=zXP (ev env x) J:=by
 simp only[zO,zXP];generalize ev env x=a;cases a<;>try rfl
 rename_i v; cases v<;>simp[qY]
@[simp] theorem qLF:wpO P Qp K' (.neg d x) env σ = zXP (ev env x) fun r=>K' (env.put d r) σ:=zV4 (d:=d)
def zXS (a:A)(J:A→Prop):Prop:=match a with | .lit (.bool b)=>J (.lit (.bool !b)) | _=>False
@[simp] theorem qDG {b:Bool}{J:A→Prop}:zXS (.lit (.bool b)) J=J (.lit (.bool !b)):=rfl
theorem zV8 {J:A→Prop}:qY (zO env σ (.not d x)) J=zXS (ev env x) J:=by
 simp only[zO,zXS];generalize ev env x=a;cases a<;>try rfl
 rename_i v; cases v<;>simp[qY]
@[simp] theorem qLG:wpO P Qp K' (.not d x) env σ = zXS (ev env x) fun r=>K' (env.put d r) σ:=zV8 (d:=d)
def zIs (σ : St)(a:A)(J:A→Prop):Prop:=match a with
 | .nil=>J (.lit (.int .i64 0))
 | .sl n _=>n≤maxLen→J (.lit (.int .i64 n))
 | .fsl n _=>n≤maxLen→J (.lit (.int .i64 n))
 | .row l n=>match σ[l]? with
  | some (.row _ _ _ m _)=>if n=m then J (.lit (.int .i64 n)) else False
  | _=>False
 | .win l n _ k _=>match σ[l]? with
  | some (.row _ _ _ m _)=>if n=m then J (.lit (.int .i64 k)) else False
  | _=>False
 | _=>False
@[simp] theorem qHX {J:A→Prop}:zIs σ .nil J=J (.lit (.int .i64 0)):=rfl
@[simp] theorem qKA {n:Nat}{cs:List A}{J:A→Prop}:zIs σ (.sl n cs) J=(n≤maxLen→J (.lit (.int .i64 n))):=rfl
@[simp] theorem qHW {n:Nat}{cs:List A}{J:A→Prop}:zIs σ (.fsl n cs) J=(n≤maxLen→J (.lit (.int .i64 n))):=rfl
@[simp] theorem qLB:wpO P Qp K' (.len d false x) env σ = zIs σ (ev env x) fun r=>K' (env.put d r) σ:=by
 simp only[wpO,zIs,zO];generalize ev env x=a;cases a<;>simp only[qY,true_and]
 ·rename_i l n;cases σ[l]? with
  | none=>rfl
  | some ob =>
   cases ob<;>try rfl
   rename_i fz e s m cs;by_cases h:n=m<;>simp[h]
 ·rename_i l n _ k _;cases σ[l]? with
  | none=>rfl
  | some ob =>
   cases ob<;>try rfl
   rename_i fz e s m cs;by_cases h:n=m<;>simp[h]
def zRk (a:A)(J:A→Prop):Prop:=match a with | .lit (.string s)=>J (.lit (.int .i64 s.size)) | _=>False
@[simp] theorem zXI {s:ByteArray}{J:A→Prop}:zRk (.lit (.string s)) J=J (.lit (.int .i64 s.size)):=rfl
theorem zSB {J:A→Prop}:qY (zO env σ (.len d true x)) J=zRk (ev env x) J:=by
 simp only[zO,zRk];generalize ev env x=a;cases a<;>try rfl
 rename_i v; cases v<;>simp[qY]
@[simp] theorem qJ6:wpO P Qp K' (.len d true x) env σ = zRk (ev env x) fun r=>K' (env.put d r) σ:=zSB (d:=d)
def mmA (mx:Bool):List A→Option A
 | .lit (.int k a)::rest=>zF7 mx a rest k
 | _=>none
@[simp] theorem zZR {k:IntKind}{m n:Int}:mmA true [.lit (.int k m),.lit (.int k n)]=some (.lit (.int k (if m<n then n else m))):=by simp[mmA,zF7]
@[simp] theorem zZS {k:IntKind}{m n:Int}:mmA false [.lit (.int k m),.lit (.int k n)]=some (.lit (.int k (if n<m then n else m))):=by simp[mmA,zF7]
theorem zRn {mx:Bool}{xs:List Operand}{J:A→Prop}:qY (zO env σ (.mm d mx xs)) J=zDk (mmA mx (xs.map (ev env))) J:=by
 simp only[zO];generalize xs.map (ev env)=l;cases l with
 | nil=>rfl
 | cons a l =>
  cases a<;>try rfl
  rename_i v;cases v<;>try rfl
  exact zEl
@[simp] theorem qPl {mx:Bool}{xs:List Operand}:wpO P Qp K' (.mm d mx xs) env σ = zDk (mmA mx (xs.map (ev env))) fun r=>K' (env.put d r) σ:=zRn (d:=d)
def zX4 (i:Nat)(a:A)(J:A→Prop):Prop:=match a with | .tup vs=>(match vs[i]? with | some r=>J r | none=>False) | _=>False
@[simp] theorem qH6 {i:Nat}{vs:List A}{J:A→Prop}:zX4 i (.tup vs) J=zDk vs[i]? J:=rfl
theorem zUV {i:Nat}{J:A→Prop}:qY (zO env σ (.ext d x i)) J=zX4 i (ev env x) J:=by
 simp only[zO,zX4];generalize ev env x=a;cases a<;>try rfl
 rename_i vs;simp only;cases vs[i]?<;>simp[qY]
@[simp] theorem qL6 {i:Nat}:wpO P Qp K' (.ext d x i) env σ = zX4 i (ev env x) fun r=>K' (env.put d r) σ:=zUV (d:=d)
@[simp] theorem qL3 {f:FuncId}{a b:List Operand}:wpO P Qp K' (.clo d f a b) env σ = K' (env.put d (.clo f (a.map (ev env)) (b.map (ev env)))) σ:=by simp[wpO,zO,qY,KOp.dst]
theorem zJL {zs:List Value}{ps:List (Nat×Nat×Operand)}{J:A→Prop}:qY (zO env σ (.build d zs ps)) J=zDk ((zAV (zs.map jC) (ps.map fun(o,s,x)=>(o,s,ev env x))).map .agg) J:=by simp only[zO];cases zAV (zs.map jC) (ps.map fun(o,s,x)=>(o,s,ev env x))<;>simp[qY,zDk]
def zPS (a:A)(neg:Bool)(J:A→Prop):Prop:=match a with
 | .lit (.pointer none)=>J (.lit (.bool !neg))
 | .rptr _=>J (.lit (.bool neg))
 | .ptr _ _=>J (.lit (.bool neg))
 | _=>False
@[simp] theorem qHJ {neg:Bool}{J:A→Prop}:zPS (.lit (.pointer none)) neg J=J (.lit (.bool !neg)):=rfl
@[simp] theorem qD8 {neg:Bool}{cs:List A}{J:A→Prop}:zPS (.rptr cs) neg J=J (.lit (.bool neg)):=rfl
@[simp] theorem qHK {neg:Bool}{l o:Nat}{J:A→Prop}:zPS (.ptr l o) neg J=J (.lit (.bool neg)):=rfl
@[simp] theorem qL9 {neg:Bool}:wpO P Qp K' (.isp d neg x) env σ = zPS (ev env x) neg fun r=>K' (env.put d r) σ:=by
 show qY (zO env σ (.isp d neg x)) _=_;simp only[zO];generalize ev env x=a;cases a with
 | lit v=>cases v with
  | pointer ad=>cases ad<;>simp[qY,zPS,KOp.dst]
  | _=>rfl
 | rptr cs=>simp[qY,zPS,KOp.dst]
 | ptr l o=>simp[qY,zPS,KOp.dst]
 | _=>rfl
def qIf (t:TypeId)(a:A):A:=match a with
 | .lit v=>.lit (.iface t v)
 | _=>.any
@[simp] theorem qIg {t:TypeId}{v:Value}:qIf t (.lit v)=.lit (.iface t v):=rfl
@[simp] theorem qLC {t:TypeId}:wpO P Qp K' (.mki d t x) env σ = K' (env.put d (qIf t (ev env x))) σ:=by simp only[wpO,zO,qY,KOp.dst,true_and];generalize ev env x=a;cases a<;>rfl
def qIC (Qp:Value→Env→St→Prop)(env:Env) (σ : St)(a:A):Prop:=match a with
 | .lit (.iface t v)=>Qp (.iface t v) env σ
 | _=>False
@[simp] theorem qID {t:TypeId}{v:Value}:qIC Qp env σ (.lit (.iface t v))=Qp (.iface t v) env σ:=rfl
@[simp] theorem qLH:wpO P Qp K' (.pan d x) env σ = qIC Qp env σ (ev env x):=rfl
@[simp] theorem qEQ {zs:List Value}{ps:List (Nat×Nat×Operand)}:wpO P Qp K' (.build d zs ps) env σ = zDk ((zAV (zs.map jC) (ps.map fun(o,s,x)=>(o,s,ev env x))).map .agg) fun r=>K' (env.put d r) σ:=zJL (d:=d)
@[simp] theorem qCR {e:TypeId}{sz n:Nat}{zs:List Value}{ps:List (Nat×Nat×Operand)}:wpO P Qp K' (.bslice d e sz n zs ps) env σ = zDk ((zAV (zs.map jC) (ps.map fun(o,s,x)=>(o,s,ev env x))).map (.fsl n)) fun r=>K' (env.put d r) σ:=by simp only[wpO,zDk];cases zAV (zs.map jC) (ps.map fun(o,s,x)=>(o,s,ev env x))<;>simp
@[simp] theorem qJ4 {e:TypeId}{sz n:Nat}{zs:List Value}{ps:List (Nat×Nat×Operand)}:wpO P Qp K' (.brow d e sz n zs ps) env σ = zSI (zAV (zs.map jC) (ps.map fun(o,s,x)=>(o,s,ev env x))) fun cs=>K' (env.put d (.row σ.length n)) (σ++[.row false e sz n cs]):=by simp only[wpO,zSI];cases zAV (zs.map jC) (ps.map fun(o,s,x)=>(o,s,ev env x))<;>simp
def zS7 (a:A)(neg:Bool)(J:A→Prop):Prop:=match a with
 | .nil=>J (.lit (.bool !neg))
 | .sl n _=>n≠0∧J (.lit (.bool neg))
 | .fsl n _=>n≠0∧J (.lit (.bool neg))
 | _=>False
@[simp] theorem qHI {neg:Bool}{J:A→Prop}:zS7 .nil neg J=J (.lit (.bool !neg)):=rfl
@[simp] theorem qK5 {neg:Bool}{n:Nat}{cs:List A}{J:A→Prop}:zS7 (.sl n cs) neg J=(n≠0∧J (.lit (.bool neg))):=rfl
@[simp] theorem qHH {neg:Bool}{n:Nat}{cs:List A}{J:A→Prop}:zS7 (.fsl n cs) neg J=(n≠0∧J (.lit (.bool neg))):=rfl
theorem zVm {neg:Bool}{J:A→Prop}:qY (zO env σ (.isn d neg x)) J=zS7 (ev env x) neg J:=by simp only[zO,zS7,qY];generalize ev env x=a;cases a<;>simp
def zXD (σ : St)(a:A)(neg:Bool)(J:A→Prop):Prop:=match a with
 | .nil=>J (.lit (.bool !neg))
 | .sl n _=>J (.lit (.bool neg))∧(n=0→J (.lit (.bool !neg)))
 | .row l n=>(match σ[l]? with
  | some (.row _ _ _ m _)=>n=m∧J (.lit (.bool neg))∧(n=0→J (.lit (.bool !neg)))
  | _=>False)
 | _=>False
@[simp] theorem qHL {neg:Bool}{J:A→Prop}:zXD σ .nil neg J=J (.lit (.bool !neg)):=rfl
@[simp] theorem qK6 {neg:Bool}{n:Nat}{cs:List A}{J:A→Prop}:zXD σ (.sl n cs) neg J=(J (.lit (.bool neg))∧(n=0→J (.lit (.bool !neg)))):=rfl
@[simp] theorem qLA {neg:Bool}:wpO P Qp K' (.isz d neg x) env σ = zXD σ (ev env x) neg fun r=>K' (env.put d r) σ:=by simp only[wpO,zXD];cases ev env x<;>rfl
@[simp] theorem qL8 {neg:Bool}:wpO P Qp K' (.isn d neg x) env σ = zS7 (ev env x) neg fun r=>K' (env.put d r) σ:=zVm (d:=d)
@[simp] theorem qDz {cs:List A}:zAV cs []=some cs:=rfl
def zZE (c:Option (List A))(o s:Nat)(cs:List A)(rest:List (Nat×Nat×A)):Option (List A):=match c with
 | some l=>if l.length=s∧o+s≤cs.length then zAV (cs.take o++l++cs.drop (o+s)) rest else none
 | none=>none
@[simp] theorem qBH {l:List A}{o s:Nat}{cs:List A}{rest:List (Nat×Nat×A)}:zZE (some l) o s cs rest=if l.length=s∧o+s≤cs.length then zAV (cs.take o++l++cs.drop (o+s)) rest else none:=rfl
@[simp] theorem qBG {cs:List A}{o s:Nat}{a:A}{rest:List (Nat×Nat×A)}:zAV cs ((o,s,a)::rest)=zZE (cellsOf a) o s cs rest:=rfl
def elP (σ : St)(sz:Nat)(a:A)(J:Nat→List A→Prop):Prop:=match zBU σ sz a with
 | some (m,ys)=>ys.length=m*sz∧J m ys
 | none=>False
@[simp] theorem qKt {sz:Nat}{J:Nat→List A→Prop}:elP σ sz .nil J=J 0 []:=by simp[elP,zBU]
@[simp] theorem qOo {sz n:Nat}{cs:List A}{J:Nat→List A→Prop}:elP σ sz (.sl n cs) J=(cs.length=n*sz∧J n cs):=rfl
@[simp] theorem qKs {sz n:Nat}{cs:List A}{J:Nat→List A→Prop}:elP σ sz (.fsl n cs) J=(cs.length=n*sz∧J n cs):=rfl
@[simp] theorem qKu {sz l n:Nat}{J:Nat→List A→Prop}:elP σ sz (.row l n) J=qAn σ[l]? n sz fun cs=>cs.length=n*sz∧J n cs:=by
 simp only[elP,zBU];cases σ[l]? with
 | none=>rfl
 | some o =>
  cases o<;>try rfl
  rename_i fz e s m cs;by_cases h:n=m∧s=sz
  ·simp[h]
  ·simp only[h,if_false,zQl,eq_iff_iff,false_iff];rintro⟨h1,h2,_⟩;exact h ⟨h1,h2⟩
def zTG (d:Option Nat)(K':Env→St→Prop)(env:Env) (σ : St)(e:TypeId)(sz bytes m:Nat)(ys:List A):A→Prop
 | .nil=>(m≤maxLen∧m*bytes≤140737488355328)∧K' (env.put d (.row σ.length m)) (σ++[AObj.row false e sz m ys])
 | .row l n=>(match σ[l]? with
  | some (.row fz e' s n' cs)=>if n=n'∧e'=e∧s=sz then (n+m≤maxLen∧(n+m)*bytes≤140737488355328)∧K' (env.put d (.row l (n+m))) (σ.set l (.row fz e sz (n+m) (cs++ys))) else False
  | _=>False)
 | .fsl n cs=>cs.length=n*sz∧(m=0→K' (env.put d (.fsl n cs)) σ)∧(m≠0→(n+m≤maxLen∧(n+m)*bytes≤140737488355328)∧K' (env.put d (.row σ.length (n+m))) (σ++[AObj.row false e sz (n+m) (cs++ys)]))
 | _=>False
@[simp] theorem qFY {e:TypeId}{sz bytes m:Nat}{ys:List A}:zTG d K' env σ e sz bytes m ys .nil=((m≤maxLen∧m*bytes≤140737488355328)∧K' (env.put d (.row σ.length m)) (σ++[AObj.row false e sz m ys])):=rfl
@[simp] theorem qFX {e:TypeId}{sz bytes m n:Nat}{ys cs:List A}:zTG d K' env σ e sz bytes m ys (.fsl n cs)=(cs.length=n*sz∧(m=0→K' (env.put d (.fsl n cs)) σ)∧(m≠0→(n+m≤maxLen∧(n+m)*bytes≤140737488355328)∧K' (env.put d (.row σ.length (n+m))) (σ++[AObj.row false e sz (n+m) (cs++ys)]))):=rfl
def qAo:Option AObj→Nat→TypeId→Nat→(Bool→List A→Prop)→Prop
 | some (.row fz e' s n' cs),n,e,sz,J=>(n=n'∧e'=e∧s=sz)∧J fz cs
 | _,_,_,_,_=>False
@[simp] theorem qC0 {fz:Bool}{e' e:TypeId}{s n' n sz:Nat}{cs:List A}{J:Bool→List A→Prop}:qAo (some (.row fz e' s n' cs)) n e sz J=((n=n'∧e'=e∧s=sz)∧J fz cs):=rfl
@[simp] theorem qFZ {e:TypeId}{sz bytes m l n:Nat}{ys:List A}:zTG d K' env σ e sz bytes m ys (.row l n)=qAo σ[l]? n e sz fun fz cs=>(n+m≤maxLen∧(n+m)*bytes≤140737488355328)∧K' (env.put d (.row l (n+m))) (σ.set l (.row fz e sz (n+m) (cs++ys))):=by
 simp only[zTG];cases σ[l]? with
 | none=>rfl
 | some o =>
  cases o<;>try rfl
  rename_i fz e' s n' cs;by_cases h:n=n'∧e'=e∧s=sz
  ·simp[h]
  ·simp[h]
@[simp] theorem qL0 {e:TypeId}{sz bytes:Nat}:wpO P Qp K' (.app d e sz bytes x y) env σ = elP σ sz (ev env y) fun m ys=>zTG d K' env σ e sz bytes m ys (ev env x):=by
 simp only[wpO,elP];cases zBU σ sz (ev env y)with
 | none=>rfl
 | some r =>
  obtain⟨m,ys⟩:=r;simp only;generalize ev env x=a;cases a<;>rfl
def zUg (P:Program)(Qp:Value→Env→St→Prop)(K':Env→St→Prop)(d:Option Nat)(f:A)(args:List A)(env:Env) (σ : St):Prop:=match f with
 | .clo g first cap=>zA P g=true∧yN P g (first++args++cap) σ (zHA d env K' Qp)
 | .lit (.func (.yield b) ⟨[]⟩ ⟨[]⟩)=>zIJ P b args σ (zHA d env K' Qp)
 | _=>False
@[simp] theorem qHi {b:Nat}{args:List A}:zUg P Qp K' d (yv b) args env σ = zIJ P b args σ (zHA d env K' Qp):=rfl
@[simp] theorem qDl {g:FuncId}{first cap args:List A}:zUg P Qp K' d (.clo g first cap) args env σ = (zA P g=true∧yN P g (first++args++cap) σ (zHA d env K' Qp)):=rfl
@[simp] theorem qJ5 {args:List Operand}:wpO P Qp K' (.call d x args) env σ = zUg P Qp K' d (ev env x) (args.map (ev env)) env σ:=rfl
@[simp] theorem qDe:zAU []=[]:=rfl
@[simp] theorem qDd {cs:List A}:zAU (.box cs::σ)=.box cs::zAU σ:=rfl
@[simp] theorem qDf {fz:Bool}{e:TypeId}{sz n:Nat}{cs:List A}:zAU (.row fz e sz n cs::σ)=.dead::zAU σ:=rfl
@[simp] theorem qGp {fr:Bool}{nk:Nat}{es:List (List Int×A)}:zAU (.mp fr nk es::σ)=.dead::zAU σ:=rfl
@[simp] theorem qDg:zAU (.rsv::σ)=.dead::zAU σ:=rfl
@[simp] theorem qGn {m n:Nat}{met:List Nat}:zAU (.it m n met::σ)=.dead::zAU σ:=rfl
@[simp] theorem qGo {b M:Nat}{r:Loop}{es:List (Nat×A)}:zAU (.lp b r M es::σ)=.dead::zAU σ:=rfl
@[simp] theorem zW7 {σ : St}:(zAU σ).length = σ.length:=by
 induction σ with
 | nil=>rfl
 | cons o σ ih=>cases o<;>simp[zAU,ih]
@[simp] theorem qEi {σ : St}:zDn 0 σ = σ:=rfl
@[simp] theorem qIX {σ : St}:zDn 1 σ = zAU σ:=rfl
@[simp] theorem qIZ {σ : St}:zDn 2 σ = []:=rfl
variable {fl k:Nat}
@[simp] theorem qIE {v:Value}:zK8 Q v σ = ∀e,Q (.pan v) e σ:=rfl
@[simp] theorem qLu:wpD P Qd K' [] env σ = K' env σ:=by simp only[wpD]
@[simp] theorem qOL {o:KOp}:zAP 0 o env=True:=rfl
@[simp] theorem qOM {o:KOp}:zAP 1 o env=True:=rfl
@[simp] theorem qON {o:KOp}:zAP 2 o env=True:=rfl
@[simp] theorem qOO {o:KOp}:zAP 3 o env=True:=rfl
@[simp] theorem qOP {o:KOp}:zAP 4 o env=True:=rfl
@[simp] theorem qOQ {n:Nat}:zAP 5 (.st d x y n) env=zLZ (ev env x):=rfl
@[simp] theorem qOR {n:Nat}:zAP 6 (.st d x y n) env=zMa (ev env x):=rfl
@[simp] theorem qLc {n:Nat}:zAP 6 (.idx d x y n) env=isRow (ev env x):=rfl
@[simp] theorem qD5 {l o:Nat}:zLZ (.ptr l o)=True:=rfl
@[simp] theorem qD7 {l n o:Nat}:zMa (.rwp l n o)=True:=rfl
@[simp] theorem qD6 {l n:Nat}:isRow (.row l n)=True:=rfl
@[simp] theorem qIY {σ : St}:zDn 6 σ = σ:=rfl
@[simp] theorem qJt {o:KOp}{l:List (Nat×Nat×KG)}:wpD P Qd K' ((k,fl,⟨none,o⟩)::l) env σ = (zAP fl o env∧jF P Qd fl (wpD P Qd K' l) o env σ):=rfl
@[simp] theorem qE4 {s:Nat}{want:Bool}{o:KOp}{l:List (Nat×Nat×KG)}:wpD P Qd K' ((k,fl,⟨some (s,want),o⟩)::l) env σ = (zAP fl o env∧zIq (env s) want (jF P Qd fl (wpD P Qd K' l) o) (zFK o.dst (wpD P Qd K' l)) env σ):=by
 simp only[wpD,zQ2,zIq];generalize env s=a;cases a<;>try rfl
 all_goals (rename_i v; cases v<;>rfl)
@[simp] theorem qCP:jF P Qd fl K' (.pick d x y z) env σ = wpO P zA8 K' (.pick d x y z) env σ:=by simp[jF,KOp.lite,KOp.keeps]
@[simp] theorem qCL {e sz n:Nat}{zs:List Value}{ps:List (Nat×Nat×Operand)}:jF P Qd fl K' (.brow d e sz n zs ps) env σ = wpO P zA8 K' (.brow d e sz n zs ps) env σ:=by simp[jF,KOp.lite,KOp.keeps]
@[simp] theorem qEJ {m:MOp}{xs:List Operand}:jF P Qd fl K' (.mop d m xs) env σ = (match zOq m (xs.map (ev env)) σ with
 | some (r,σ')=>K' (env.put d r) σ'
 | none=>False):=rfl
@[simp] theorem qEG {ng:Bool}:jF P Qd fl K' (.isp d ng x) env σ = wpO P zA8 K' (.isp d ng x) env σ:=by simp[jF,KOp.lite,KOp.keeps]
@[simp] theorem qEI {t:TypeId}:jF P Qd fl K' (.mki d t x) env σ = wpO P zA8 K' (.mki d t x) env σ:=by simp[jF,KOp.lite,KOp.keeps]
@[simp] theorem qEK:jF P Qd fl K' (.mov d x) env σ = wpO P zA8 K' (.mov d x) env σ:=by simp[jF,KOp.lite,KOp.keeps]
@[simp] theorem zY3 {len sz:Nat}:jF P Qd fl K' (.idxarr d x y len sz) env σ = wpO P zA8 K' (.idxarr d x y len sz) env σ:=by simp[jF,KOp.lite,KOp.keeps]
@[simp] theorem qE7 {op:BinOp}:jF P Qd fl K' (.bin d op x y) env σ = wpO P zA8 K' (.bin d op x y) env σ:=by simp[jF,KOp.lite,KOp.keeps]
@[simp] theorem qEB {k:SK}{ng:Bool}:jF P Qd fl K' (.eqv d ng k x y) env σ = wpO P zA8 K' (.eqv d ng k x y) env σ:=by simp[jF,KOp.lite,KOp.keeps]
@[simp] theorem qEA {ks:List SK}{ng:Bool}:jF P Qd fl K' (.eqs d ng ks x y) env σ = wpO P zA8 K' (.eqs d ng ks x y) env σ:=by simp[jF,KOp.lite,KOp.keeps]
@[simp] theorem qEL:jF P Qd fl K' (.neg d x) env σ = wpO P zA8 K' (.neg d x) env σ:=by simp[jF,KOp.lite,KOp.keeps]
@[simp] theorem qEM:jF P Qd fl K' (.not d x) env σ = wpO P zA8 K' (.not d x) env σ:=by simp[jF,KOp.lite,KOp.keeps]
@[simp] theorem qJw {mx:Bool}{xs:List Operand}:jF P Qd fl K' (.mm d mx xs) env σ = wpO P zA8 K' (.mm d mx xs) env σ:=by simp[jF,KOp.lite,KOp.keeps]
@[simp] theorem qCN:jF P Qd fl K' (.len d true x) env σ = wpO P zA8 K' (.len d true x) env σ:=by simp[jF,KOp.lite,KOp.keeps]
@[simp] theorem qEC {i:Nat}:jF P Qd fl K' (.ext d x i) env σ = wpO P zA8 K' (.ext d x i) env σ:=by simp[jF,KOp.lite,KOp.keeps]
@[simp] theorem qE9 {f:FuncId}{a b:List Operand}:jF P Qd fl K' (.clo d f a b) env σ = wpO P zA8 K' (.clo d f a b) env σ:=by simp[jF,KOp.lite,KOp.keeps]
@[simp] theorem qEN {sz:Nat}{lo hi mx:Option Operand}:jF P Qd fl K' (.slc d x sz lo hi mx) env σ = wpO P zA8 K' (.slc d x sz lo hi mx) env σ:=by simp[jF,KOp.lite,KOp.keeps]
@[simp] theorem qAw {zs:List Value}{ps:List (Nat×Nat×Operand)}:jF P Qd fl K' (.build d zs ps) env σ = wpO P zA8 K' (.build d zs ps) env σ:=by simp[jF,KOp.lite,KOp.keeps]
@[simp] theorem zY2 {e:TypeId}{sz n:Nat}{zs:List Value}{ps:List (Nat×Nat×Operand)}:jF P Qd fl K' (.bslice d e sz n zs ps) env σ = wpO P zA8 K' (.bslice d e sz n zs ps) env σ:=by simp[jF,KOp.lite,KOp.keeps]
@[simp] theorem qAv {zs:List Value}:jF P Qd fl K' (.alloc d zs) env σ = wpO P zA8 K' (.alloc d zs) env σ:=by simp[jF,KOp.lite,KOp.keeps]
@[simp] theorem qE8:jF P Qd fl K' (.box d x) env σ = wpO P zA8 K' (.box d x) env σ:=by simp[jF,KOp.lite,KOp.keeps]
@[simp] theorem qJx {n:Nat}:jF P Qd fl K' (.st d x y n) env σ = wpO P zA8 K' (.st d x y n) env σ:=by simp[jF,KOp.lite,KOp.keeps]
@[simp] theorem qE6 {e:TypeId}{sz bytes:Nat}:jF P Qd fl K' (.app d e sz bytes x y) env σ = wpO P zA8 K' (.app d e sz bytes x y) env σ:=by simp[jF,KOp.lite,KOp.keeps]
@[simp] theorem qED {off n:Nat}{agg:Bool}:jF P Qd fl K' (.fld d x off n agg) env σ = wpO P zA8 K' (.fld d x off n agg) env σ:=by simp[jF,KOp.lite,KOp.keeps]
@[simp] theorem qJu {len sz:Nat}{agg:Bool}:jF P Qd fl K' (.ix d x y len sz agg) env σ = wpO P zA8 K' (.ix d x y len sz agg) env σ:=by simp[jF,KOp.lite,KOp.keeps]
@[simp] theorem qEF {ng:Bool}:jF P Qd fl K' (.isn d ng x) env σ = wpO P zA8 K' (.isn d ng x) env σ:=by simp[jF,KOp.lite,KOp.keeps]
@[simp] theorem qJv {n:Nat}{agg:Bool}:jF P Qd fl K' (.ld d x n agg) env σ = zDk ((ldA (zDn fl σ) n (ev env x)).bind (zBq agg)) fun r=>K' (env.put d r) σ:=zEl
@[simp] theorem qCK {off:Nat}:jF P Qd fl K' (.addr d x off) env σ = zDk (zHb (zDn fl σ) off (ev env x)) fun r=>K' (env.put d r) σ:=by show qY (zO env (zDn fl σ) (.addr d x off)) _=_;rw[zG9,zEl]; rfl
@[simp] theorem qEE {sz:Nat}:jF P Qd fl K' (.idx d x y sz) env σ = zLx (zDn fl σ) sz (ev env x) (ev env y) fun r=>K' (env.put d r) σ:=zLY (d:=d)
def zLy (σ : St)(a:A)(J:A→Prop):Prop:=match a with
 | .nil=>J (.lit (.int .i64 0))
 | .sl n _=>J (.lit (.int .i64 n))
 | .fsl n _=>J (.lit (.int .i64 n))
 | .row l n=>match σ[l]? with
  | some (.row _ _ _ m _)=>if n=m then J (.lit (.int .i64 n)) else False
  | _=>False
 | .win l n _ k _=>match σ[l]? with
  | some (.row _ _ _ m _)=>if n=m then J (.lit (.int .i64 k)) else False
  | _=>False
 | _=>False
@[simp] theorem qHT {J:A→Prop}:zLy σ .nil J=J (.lit (.int .i64 0)):=rfl
@[simp] theorem qK9 {n:Nat}{cs:List A}{J:A→Prop}:zLy σ (.sl n cs) J=J (.lit (.int .i64 n)):=rfl
@[simp] theorem qHS {n:Nat}{cs:List A}{J:A→Prop}:zLy σ (.fsl n cs) J=J (.lit (.int .i64 n)):=rfl
def zPU (o:Option AObj)(n:Nat)(J:A→Prop):Prop:=match o with
 | some (.row _ _ _ m _)=>if n=m then J (.lit (.int .i64 n)) else False
 | _=>False
@[simp] theorem zZQ {fz:Bool}{e:TypeId}{s m n:Nat}{cs:List A}{J:A→Prop}:zPU (some (.row fz e s m cs)) n J=if n=m then J (.lit (.int .i64 n)) else False:=rfl
@[simp] theorem qHU {l n:Nat}{J:A→Prop}:zLy σ (.row l n) J=zPU σ[l]? n J:=by simp only[zLy,zPU]
theorem zSA {τ : St}{J:A→Prop}:qY (zO env τ (.len d false x)) J=zLy τ (ev env x) J:=by
 simp only[zLy,zO];generalize ev env x=a;cases a<;>simp only[qY,true_and]
 ·rename_i l n;cases τ[l]? with
  | none=>rfl
  | some ob =>
   cases ob<;>try rfl
   rename_i fz e s m cs;by_cases h:n=m<;>simp[h]
 ·rename_i l n _ k _;cases τ[l]? with
  | none=>rfl
  | some ob =>
   cases ob<;>try rfl
   rename_i fz e s m cs;by_cases h:n=m<;>simp[h]
@[simp] theorem qEH:jF P Qd fl K' (.len d false x) env σ = zLy (zDn fl σ) (ev env x) fun r=>K' (env.put d r) σ:=by show qY (zO env (zDn fl σ) (.len d false x)) _=_;exact zSA
def zGz (P:Program)(Qd:Value→St→Prop)(fl:Nat) (σ : St)(d:Option Nat)(K':Env→St→Prop)(f:A)(args:List A)(env:Env):Prop:=zWq P Qd fl σ d K' f args env
@[simp] theorem qCM {args:List Operand}:jF P Qd fl K' (.call d x args) env σ = zGz P Qd fl σ d K' (ev env x) (args.map (ev env)) env:=rfl
@[simp] theorem qKk {g:FuncId}{first cap args:List A}:zGz P Qd 0 σ d K' (.clo g first cap) args env=(zA P g=true∧zJC P σ d (fun e=>K' e σ) g (first++args++cap) env):=rfl
@[simp] theorem qKl {g:FuncId}{first cap args:List A}:zGz P Qd 1 σ d K' (.clo g first cap) args env=(zA P g=true∧zHQ P σ d (fun e=>K' e σ) g (first++args++cap) env):=rfl
@[simp] theorem qKm {g:FuncId}{first cap args:List A}:zGz P Qd 3 σ d K' (.clo g first cap) args env=(zA P g=true∧zPc P σ d K' g (first++args++cap) env):=rfl
@[simp] theorem qKo {g:FuncId}{first cap args:List A}:zGz P Qd 7 σ d K' (.clo g first cap) args env=(zA P g=true∧zHR P σ d K' g (first++args++cap) env):=rfl
@[simp] theorem qKp {g:FuncId}{first cap args:List A}:zGz P Qd 8 σ d K' (.clo g first cap) args env=(zA P g=true∧zLf P σ d K' g (first++args++cap) env):=rfl
@[simp] theorem qHg {g:FuncId}{first cap args:List A}:zGz P Qd 10 σ d K' (.clo g first cap) args env=(zA P g=true∧zHS P Qd σ d K' g (first++args++cap) env):=rfl
@[simp] theorem qKq {n:Nat}{g:FuncId}{first cap args:List A}(h1:10<n):zGz P Qd n σ d K' (.clo g first cap) args env=(zA P g=true∧(if 1000≤n∧n<2000 then zLe P (n-1000) σ d K' g (first++args++cap) env else if 3000≤n∧n<4000 then zLd P (n-3000) σ d K' g (first++args++cap) env else zFO P σ d K' g (first++args++cap) env)):=by obtain⟨m,rfl⟩:∃m,n=m+11:=⟨n-11,by omega⟩;rfl
@[simp] theorem qKn {g:FuncId}{first cap args:List A}:zGz P Qd 4 σ d K' (.clo g first cap) args env=(zA P g=true∧zFO P σ d K' g (first++args++cap) env):=rfl
@[simp] theorem qHh {b:Nat}{args:List A}:zGz P Qd 4 σ d K' (yv b) args env = ∃r σ',(zIJ P b args σ fun o τ=>o=.ret r∧τ = σ')∧K' (env.put d r) σ':=by show (4=4∧_)=_;simp
theorem jV {t:Bool}{A B:Env→St→Prop}(h1:t=true→A env σ)(h2:t=false→B env σ):zFb t A B env σ:=⟨h1,h2⟩
theorem zXN {S:Type}{W:(Ex→Env→St→Prop)→Env→St→Prop}(E:S→List (Nat×A))(T:S→St)(I:S→Prop) (μ : S→Nat)(s0:S)(h0:I s0)(start:zBz n0 (qT (E s0)) (T s0) env σ)
 (round:∀s,I s→W (rnd n0 (fun n e t=>∃s,I s∧μ s=n∧e=qT (E s)∧t=T s) (μ s) Q) (qT (E s)) (T s)):zNt n0 W Q env σ:=by
 refine⟨fun n e t=>∃s,I s∧μ s=n∧e=qT (E s)∧t=T s,⟨μ s0,_,_,start,s0,h0,rfl,rfl,rfl⟩,?_⟩;rintro n e t ⟨s,hs,rfl,rfl,rfl⟩;exact round s hs
theorem qCw {S:Type}{E:S→List (Nat×A)}{T:S→St}{I:S→Prop} {μ : S→Nat}{n:Nat}(s:S)(hs:I s)(hm : μ s<n)(hw:zBz n0 (qT (E s)) (T s) env σ) :
 rnd n0 (fun n e t=>∃s,I s∧μ s=n∧e=qT (E s)∧t=T s) n Q .norm env σ:=⟨μ s,hm,_,_,hw,s,hs,rfl,rfl,rfl⟩
@[simp] theorem qBY {i t:Nat}{a:A}{l:List (Nat×A)}:qT ((i,a)::l) t=if t=i then a else qT l t:=rfl
@[simp] theorem qDB {t:Nat}:qT [] t=.any:=rfl
end
end Go.Abs
