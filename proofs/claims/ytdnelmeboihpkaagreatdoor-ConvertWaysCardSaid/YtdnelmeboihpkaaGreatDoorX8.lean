/-
  The rules by which a walk over abstract states goes on, for simp.
  A choice of levels is kept; rows that are not kept become persistent.
-/
import Derived.Test.YtdnelmeboihpkaaGreatDoorX7
set_option linter.unusedVariables false
set_option maxHeartbeats 8000000
set_option maxRecDepth 100000
set_option linter.unusedSimpArgs false
namespace Go.Abs
def qNT (o:Option A)(d:Option Nat)(K:Env→St→Prop)(env:Env) (σ : St):Prop:=match o with
 | some r=>K (env.put d r) σ
 | none=>False
def qNS (o:Option A)(d:Option Nat)(K:Env→Prop)(env:Env):Prop:=match o with
 | some r=>K (env.put d r)
 | none=>False
def zTr (o:Option (List A))(J:List A→Prop):Prop:=match o with
 | some r=>J r
 | none=>False
def qB2 (o:Option St)(J:St→Prop):Prop:=match o with
 | some r=>J r
 | none=>False
section
variable {P:Program}{n0:Nat}{Qp:Value→Env→St→Prop}{Qd:Value→St→Prop}{K':Env→St→Prop}{KD:Env→Prop}{Q:Ex→Env→St→Prop}{env:Env} {σ : St}{d d':Option Nat}{x y z:Operand}
@[simp] theorem qDB {r:A}:qNT (some r) d K' env σ = K' (env.put d r) σ:=rfl
@[simp] theorem qD9 {r:A}:qNS (some r) d KD env=KD (env.put d r):=rfl
@[simp] theorem qD8 {r:List A}{J:List A→Prop}:zTr (some r) J=J r:=rfl
@[simp] theorem qDC {r:St}{J:St→Prop}:qB2 (some r) J=J r:=rfl
@[simp] theorem qIq {r:A}:env.put none r=env:=rfl
@[simp] theorem zXC {i t:Nat}{r:A}:(env.put (some i) r) t=if t=i then r else env t:=rfl
@[simp] theorem qNE {t:Nat}:ev env (.tmp t)=env t:=rfl
@[simp] theorem qKs {f:FuncId}:ev env (.func f)=.clo f [] []:=rfl
@[simp] theorem qNC {k:IntKind}{n:Int}:ev env (.const (.int k n))=.lit (.int k n):=rfl
@[simp] theorem qKr {b:Bool}:ev env (.const (.bool b))=.lit (.bool b):=rfl
@[simp] theorem qDc {s:ByteArray}:ev env (.const (.string s))=.lit (.string s):=rfl
@[simp] theorem qND:ev env (.const (.slice none 0 0))=.nil:=rfl
@[simp] theorem qAK:ev env (.const .nilFunc)=.lit .nilFunc:=rfl
@[simp] theorem qDb:ev env (.const (.pointer none))=.lit (.pointer none):=rfl
@[simp] theorem qNB {l:List Value}:ev env (.const (.agg ⟨l⟩))=if zAn l then .agg (l.map qS) else .any:=rfl
@[simp] theorem zZ2:zAn []=true:=rfl
@[simp] theorem zX7 {v:Value}{l:List Value}:zAn (v::l)=(v.oneCell'&&zAn l):=rfl
@[simp] theorem qKG {k:IntKind}{n:Int}:(Value.int k n).oneCell'=true:=rfl
@[simp] theorem qIj {b:Bool}:(Value.bool b).oneCell'=true:=rfl
@[simp] theorem qB1 {s:ByteArray}:(Value.string s).oneCell'=true:=rfl
@[simp] theorem qD7 {a:Option Addr}{n c:Nat}:(Value.slice a n c).oneCell'=true:=rfl
@[simp] theorem zZ4 {a:Option Addr}:(Value.pointer a).oneCell'=true:=rfl
@[simp] theorem zZ3:(Value.nilFunc).oneCell'=true:=rfl
@[simp] theorem qKH {r:Option Nat}:(Value.map r).oneCell'=true:=rfl
@[simp] theorem qBz {k:IntKind}{n:Int}:qS (.int k n)=.lit (.int k n):=rfl
@[simp] theorem zZ0 {b:Bool}:qS (.bool b)=.lit (.bool b):=rfl
@[simp] theorem zWx {s:ByteArray}:qS (.string s)=.lit (.string s):=rfl
@[simp] theorem qB0:qS (.slice none 0 0)=.nil:=rfl
@[simp] theorem zVD:qS .nilFunc=.lit .nilFunc:=rfl
@[simp] theorem zWw:qS (.pointer none)=.lit (.pointer none):=rfl
@[simp] theorem zWv:qS (.map none)=.lit (.map none):=rfl
@[simp] theorem zYM:cellsOf .nil=some [.nil]:=rfl
@[simp] theorem zYH {cs:List A}:cellsOf (.agg cs)=some cs:=rfl
@[simp] theorem zYK {v:Value}:cellsOf (.lit v)=if v.oneCell' then some [.lit v] else none:=rfl
@[simp] theorem qA2 {n:Nat}{cs:List A}:cellsOf (.sl n cs)=some [.sl n cs]:=rfl
@[simp] theorem zYJ {n:Nat}{cs:List A}:cellsOf (.fsl n cs)=some [.fsl n cs]:=rfl
@[simp] theorem zYO {l n:Nat}:cellsOf (.row l n)=some [.row l n]:=rfl
@[simp] theorem zYN {l n:Nat}:cellsOf (.ptr l n)=some [.ptr l n]:=rfl
@[simp] theorem zYL {l:Nat}:cellsOf (.map l)=some [.map l]:=rfl
@[simp] theorem zYR {l n o k c:Nat}:cellsOf (.win l n o k c)=some [.win l n o k c]:=rfl
@[simp] theorem zYP {l n o:Nat}:cellsOf (.rwp l n o)=some [.rwp l n o]:=rfl
@[simp] theorem zWD {cs:List A}:cellsOf (.rptr cs)=some [.rptr cs]:=rfl
@[simp] theorem zYI {f:FuncId}{a b:List A}:cellsOf (.clo f a b)=some [.clo f a b]:=rfl
@[simp] theorem qB3 {cs:List A}:zBO true cs=some (.agg cs):=rfl
@[simp] theorem zZ5 {c:A}:zBO false [c]=some c:=rfl
@[simp] theorem qH0 {cs:List A}{n:Nat}:ldA σ n (.rptr cs)=sub cs 0 n:=rfl
def zZh:Option AObj→Nat→Nat→Option (List A)
 | some (.box cs),off,n=>sub cs off n
 | _,_,_=>none
def zZi:Option AObj→Nat→Nat→Nat→Option (List A)
 | some (.row _ _ _ k cs),m,off,n=>if m=k then sub cs off n else none
 | _,_,_,_=>none
@[simp] theorem qBd {cs:List A}{off n:Nat}:zZh (some (.box cs)) off n=sub cs off n:=rfl
@[simp] theorem qBe {fz:Bool}{e:TypeId}{s k:Nat}{cs:List A}{m off n:Nat}:zZi (some (.row fz e s k cs)) m off n=if m=k then sub cs off n else none:=rfl
@[simp] theorem qK1 {l off n:Nat}:ldA σ n (.ptr l off)=zZh σ[l]? off n:=by
 simp only[ldA];cases σ[l]? with
 | none=>rfl
 | some o=>cases o<;>rfl
@[simp] theorem qK2 {l m off n:Nat}:ldA σ n (.rwp l m off)=zZi σ[l]? m off n:=by
 simp only[ldA];cases σ[l]? with
 | none=>rfl
 | some o=>cases o<;>rfl
@[simp] theorem qNY {cs:List A}{off n:Nat}:sub cs off n=if off+n≤cs.length then some ((cs.drop off).take n) else none:=rfl
def zZA:Option AObj→St→List A→Nat→Nat→Option St
 | some (.box ds),σ,cs,l,off=>if off+cs.length≤ds.length then some (σ.set l (.box (ds.take off++cs++ds.drop (off+cs.length)))) else none
 | _,_,_,_,_=>none
def zZB:Option AObj→St→List A→Nat→Nat→Nat→Option St
 | some (.row false e sz k ds),σ,cs,l,m,off=>if m=k∧off+cs.length≤ds.length then some (σ.set l (.row false e sz k (ds.take off++cs++ds.drop (off+cs.length)))) else none
 | _,_,_,_,_,_=>none
@[simp] theorem qBR {ds cs:List A}{l off:Nat}:zZA (some (.box ds)) σ cs l off=if off+cs.length≤ds.length then some (σ.set l (.box (ds.take off++cs++ds.drop (off+cs.length)))) else none:=rfl
@[simp] theorem qBS {e:TypeId}{sz k:Nat}{ds cs:List A}{l m off:Nat}:zZB (some (.row false e sz k ds)) σ cs l m off=if m=k∧off+cs.length≤ds.length then some (σ.set l (.row false e sz k (ds.take off++cs++ds.drop (off+cs.length)))) else none:=rfl
@[simp] theorem qKT {cs:List A}{l off:Nat}:stA σ cs (.ptr l off)=zZA σ[l]? σ cs l off:=by
 simp only[stA];cases σ[l]? with
 | none=>rfl
 | some o=>cases o<;>rfl
@[simp] theorem qKU {cs:List A}{l m off:Nat}:stA σ cs (.rwp l m off)=zZB σ[l]? σ cs l m off:=by
 simp only[stA];cases σ[l]? with
 | none=>rfl
 | some o =>
  cases o<;>try rfl
  rename_i fz e s n ds;cases fz<;>rfl
def zZ7:Option AObj→Nat→Nat→(List A→Prop)→Prop
 | some (.row _ _ s m cs),n,sz,J=>n=m∧s=sz∧J cs
 | _,_,_,_=>False
@[simp] theorem zQZ {fz:Bool}{e:TypeId}{s m n sz:Nat}{cs:List A}{J:List A→Prop}:zZ7 (some (.row fz e s m cs)) n sz J=(n=m∧s=sz∧J cs):=rfl
@[simp] theorem qCE {b:Bool}:(b==true)=b:=by cases b<;>rfl
@[simp] theorem qAC {A B:Env→St→Prop}:zFe true A B env σ = A env σ:=by simp[zFe]
@[simp] theorem zYY {A B:Env→St→Prop}:zFe false A B env σ = B env σ:=by simp[zFe]
@[simp] theorem qI9:zKU d K' env σ = K' (env.put d (.lit undef)) σ:=rfl
@[simp] theorem qIm {r:A}:outK d env K' Qp (.ret r) σ = K' (env.put d r) σ:=rfl
@[simp] theorem qIl {v:Value}:outK d env K' Qp (.pan v) σ = Qp v env σ:=rfl
@[simp] theorem qIM {J:Env→St→Prop}:thn J Q .norm=J:=rfl
@[simp] theorem qKX {J:Env→St→Prop}:thn J Q .ret=Q .ret:=rfl
@[simp] theorem qIL {J:Env→St→Prop}{i:Nat}:thn J Q (.exit i)=Q (.exit i):=rfl
@[simp] theorem qKW {J:Env→St→Prop}{v:Value}:thn J Q (.pan v)=Q (.pan v):=rfl
@[simp] theorem qF3 {id:Nat}:blk id Q .norm=Q .norm:=rfl
@[simp] theorem qJn {id:Nat}:blk id Q .ret=Q .ret:=rfl
@[simp] theorem qF2 {id i:Nat}:blk id Q (.exit i)=if i=id then Q .norm else Q (.exit i):=rfl
@[simp] theorem qJm {id:Nat}{v:Value}:blk id Q (.pan v)=Q (.pan v):=rfl
@[simp] theorem qKO {I:Nat→Env→St→Prop}{n:Nat}:rnd n0 I n Q .ret=Q .ret:=rfl
@[simp] theorem qIz {I:Nat→Env→St→Prop}{n i:Nat}:rnd n0 I n Q (.exit i)=Q (.exit i):=rfl
@[simp] theorem qKN {I:Nat→Env→St→Prop}{n:Nat}{v:Value}:rnd n0 I n Q (.pan v)=Q (.pan v):=rfl
@[simp] theorem qGX {rs:List RS}{R:Out→St→Prop}:fin rs R .norm=zKP rs R:=rfl
@[simp] theorem qKu {rs:List RS}{R:Out→St→Prop}:fin rs R .ret=zKP rs R:=rfl
@[simp] theorem qKt {rs:List RS}{R:Out→St→Prop}{v:Value}:fin rs R (.pan v) env σ = R (.pan v) σ:=rfl
@[simp] theorem qDI {t:Nat}{R:Out→St→Prop}:zKP [.slot t] R env σ = R (.ret (env t)) σ:=rfl
@[simp] theorem qIy {t u:Nat}{R:Out→St→Prop}:zKP [.slot t,.slot u] R env σ = R (.ret (.tup [env t,env u])) σ:=rfl
@[simp] theorem qBB {t u v:Nat}{R:Out→St→Prop}:zKP [.slot t,.slot u,.slot v] R env σ = R (.ret (.tup [env t,env u,env v])) σ:=rfl
@[simp] theorem zW5 {a:A}{l:List A}:zCB (a::l) 0=a:=rfl
@[simp] theorem zW4 {a:A}{l:List A}{n:Nat}:zCB (a::l) (n+1)=zCB l n:=by simp[zCB]
@[simp] theorem zY9 {n:Nat}:zCB [] n=.lit undef:=by simp[zCB]
@[simp] theorem qCx {k:K}{rs:List RS}{args:List A}{R:Out→St→Prop}:wpF P k rs args σ R=wpK P σ.length k (fin rs R) (zCB args) σ:=rfl
@[simp] theorem qJe:wpK P n0 .skip Q env σ = Q .norm env σ:=rfl
@[simp] theorem qLr:wpK P n0 .ret Q env σ = Q .ret env σ:=rfl
@[simp] theorem qJc {i:Nat}:wpK P n0 (.exit i) Q env σ = Q (.exit i) env σ:=rfl
@[simp] theorem qLt {a b:K}:wpK P n0 (.seq a b) Q env σ = wpK P n0 a (thn (wpK P n0 b Q) Q) env σ:=rfl
@[simp] theorem qE8 {i:Nat}{a:K}:wpK P n0 (.block i a) Q env σ = wpK P n0 a (blk i Q) env σ:=rfl
@[simp] theorem qJd {a:K}:wpK P n0 (.loop a) Q env σ = zNE n0 (wpK P n0 a) Q env σ:=rfl
@[simp] theorem qCy {a:K}:wpK P n0 (.wk a) Q env σ = Wk n0 (wpK P n0 a Q) env σ:=rfl
@[simp] theorem qLq {l:List KG}:wpK P n0 (.ops l) Q env σ = zC0 P (fun v=>Q (.pan v)) (Q .norm) l env σ:=rfl
@[simp] theorem qJb {l:List (Nat×Nat×KG)}:wpK P n0 (.dops l) Q env σ = wpD P (zKE Q) (Q .norm) l env σ:=rfl
@[simp] theorem qLs {ps:List Nat}{a b:K}:wpK P n0 (.rng x ps a b) Q env σ = zZQ P n0 x ps (fun n=>wpK P n a) (fun n=>wpK P n b) Q env σ:=rfl
@[simp] theorem qCB {S:St}{J:Env→St→Prop}:zW6 S J .norm env σ = (σ = S∧J env σ):=rfl
@[simp] theorem qCZ {S:St}:zWN n0 S .norm env σ = Wk n0 (fun _ σ'=>σ'=S) env σ:=rfl
@[simp] theorem qDE {xs:List A}:zFR env [] xs=env:=by cases xs<;>rfl
@[simp] theorem qB9 {p:Nat}{ps:List Nat}{a:A}{xs:List A}:zFR env (p::ps) (a::xs)=zFR (env.put (some p) a) ps xs:=rfl
@[simp] theorem qA3 {b:Nat}:cellsOf (yv b)=some [yv b]:=rfl
def zYZ (a:A)(A B:Env→St→Prop)(env:Env) (σ : St):Prop:=match a with
 | .lit (.bool t)=>zFe t A B env σ
 | _=>False
@[simp] theorem qAD {t:Bool}{A B:Env→St→Prop}:zYZ (.lit (.bool t)) A B env σ = zFe t A B env σ:=rfl
@[simp] theorem qJa {a b:K}:wpK P n0 (.cond x a b) Q env σ = zYZ (ev env x) (wpK P n0 a Q) (wpK P n0 b Q) env σ:=rfl
@[simp] theorem qEB:zC0 P Qp K' [] env σ = K' env σ:=rfl
@[simp] theorem qC1 {o:KOp}{l:List KG}:zC0 P Qp K' (⟨none,o⟩::l) env σ = wpO P Qp (zC0 P Qp K' l) o env σ:=rfl
def zI4 (a:A)(want:Bool)(A B:Env→St→Prop)(env:Env) (σ : St):Prop:=match a with
 | .lit (.bool b)=>zFe (b==want) A B env σ
 | .lit (.tuple _)=>B env σ
 | _=>False
@[simp] theorem zZd {b want:Bool}{A B:Env→St→Prop}:zI4 (.lit (.bool b)) want A B env σ = zFe (b==want) A B env σ:=rfl
@[simp] theorem zXi {want:Bool}{A B:Env→St→Prop}:zI4 (.lit undef) want A B env σ = B env σ:=rfl
@[simp] theorem zZG {s:Nat}{want:Bool}{o:KOp}{l:List KG}:zC0 P Qp K' (⟨some (s,want),o⟩::l) env σ = zI4 (env s) want (wpO P Qp (zC0 P Qp K' l) o) (zKU o.dst (zC0 P Qp K' l)) env σ:=by
 simp only[zC0,wpG,zI4];generalize env s=a;cases a<;>try rfl
 all_goals (rename_i v; cases v<;>rfl)
def zRW (a:A)(x y:A)(J:A→Prop):Prop:=match a with
 | .lit (.bool t)=>J (if t then x else y)
 | _=>False
@[simp] theorem qB4 {t:Bool}{a b:A}{J:A→Prop}:zRW (.lit (.bool t)) a b J=J (if t then a else b):=rfl
def zCY (o:Option A)(J:A→Prop):Prop:=match o with
 | some r=>J r
 | none=>False
@[simp] theorem qDA {r:A}{J:A→Prop}:zCY (some r) J=J r:=rfl
theorem zEo {o:Option A}{J:A→Prop}:qX (o.map fun r=>(True,r)) J=zCY o J:=by cases o<;>simp[qX,zCY]
@[simp] theorem qLA:wpO P Qp K' (.mov d x) env σ = K' (env.put d (ev env x)) σ:=by simp[wpO,qX,zJ,KOp.dst]
theorem zTv {J:A→Prop}:qX (zJ env σ (.pick d x y z)) J=zRW (ev env x) (ev env y) (ev env z) J:=by
 simp only[zJ,zRW,qX];generalize ev env x=a;cases a<;>try rfl
 rename_i v;cases v<;>simp
@[simp] theorem qJk:wpO P Qp K' (.pick d x y z) env σ = zRW (ev env x) (ev env y) (ev env z) fun r=>K' (env.put d r) σ:=zTv (d:=d)
@[simp] theorem qE9 {zs:List Value}:wpO P Qp K' (.alloc d zs) env σ = K' (env.put d (.ptr σ.length 0)) (σ++[.box (zs.map qS)]):=rfl
@[simp] theorem qLy:wpO P Qp K' (.box d x) env σ = zTr (cellsOf (ev env x)) fun cs=>K' (env.put d (.ptr σ.length 0)) (σ++[.box cs]):=rfl
@[simp] theorem qOs {n:Nat}{agg:Bool}:wpO P Qp K' (.ld d x n agg) env σ = zCY ((ldA σ n (ev env x)).bind (zBO agg)) fun r=>K' (env.put d r) σ:=zEo
@[simp] theorem qOu {n:Nat}:wpO P Qp K' (.st d x y n) env σ = zTr (cellsOf (ev env y)) fun cs=>cs.length=n∧qB2 (stA σ cs (ev env x)) fun σ'=>K' (env.put d (.lit undef)) σ':=by
 simp only[wpO,zTr,qB2];cases cellsOf (ev env y)with
 | none=>rfl
 | some cs =>
  simp only;by_cases h:cs.length=n
  ·simp only[h,if_true,true_and];cases stA σ cs (ev env x)<;>rfl
  ·simp[h]
def zIO (σ : St)(off:Nat):A→Option A
 | .ptr l o=>some (.ptr l (o+off))
 | .rptr cs=>some (.rptr (cs.drop off))
 | .rwp l n o=>match σ[l]? with
  | some (.row _ _ _ m _)=>if n=m then some (.rwp l n (o+off)) else none
  | _=>none
 | _=>none
@[simp] theorem qC6 {l o off:Nat}:zIO σ off (.ptr l o)=some (.ptr l (o+off)):=rfl
@[simp] theorem zZU {cs:List A}{off:Nat}:zIO σ off (.rptr cs)=some (.rptr (cs.drop off)):=rfl
theorem zJC {off:Nat}:zJ env σ (.addr d x off)=(zIO σ off (ev env x)).map fun r=>(True,r):=by
 simp only[zJ];generalize ev env x=a;cases a<;>simp only[zIO]<;>try rfl
 rename_i l n o;cases σ[l]? with
 | none=>rfl
 | some ob =>
  cases ob<;>try rfl
  simp only;split<;>rfl
@[simp] theorem qJf {off:Nat}:wpO P Qp K' (.addr d x off) env σ = zCY (zIO σ off (ev env x)) fun r=>K' (env.put d r) σ:=by show qX (zJ env σ (.addr d x off)) _=_;rw[zJC,zEo];rfl
def zFF (σ : St)(sz:Nat)(a i:A)(J:A→Prop):Prop:=match a,i with
 | .sl n cs,.lit (.int _ j)=>((0≤j∧j<n)∧j.toNat*sz<cs.length)∧J (.rptr (cs.drop (j.toNat*sz)))
 | .fsl n cs,.lit (.int _ j)=>((0≤j∧j<n)∧j.toNat*sz<cs.length)∧J (.rptr (cs.drop (j.toNat*sz)))
 | .row l n,.lit (.int _ j)=>match σ[l]? with
  | some (.row _ _ s m _)=>if n=m∧s=sz then (0≤j∧j<n)∧J (.rwp l n (j.toNat*sz)) else False
  | _=>False
 | .win l n o k' _,.lit (.int _ j)=>match σ[l]? with
  | some (.row _ _ s m _)=>if n=m∧s=sz then (0≤j∧j<k')∧J (.rwp l n (o+j.toNat*sz)) else False
  | _=>False
 | _,_=>False
theorem zMi {sz:Nat}{J:A→Prop}:qX (zJ env σ (.idx d x y sz)) J=zFF σ sz (ev env x) (ev env y) J:=by
 simp only[zJ,zFF,qX];generalize ev env x=a;generalize ev env y=b;cases a<;>cases b<;>try rfl
 all_goals (rename_i v; cases v<;>try rfl)
 ·rename_i l n k j;simp only;cases σ[l]? with
  | none=>rfl
  | some ob =>
   cases ob<;>try rfl
   rename_i fz e s m cs;by_cases h:n=m∧s=sz<;>simp[h]
 ·rename_i l n o k' c k j;simp only;cases σ[l]? with
  | none=>rfl
  | some ob =>
   cases ob<;>try rfl
   rename_i fz e s m cs;by_cases h:n=m∧s=sz<;>simp[h]
@[simp] theorem qL3 {sz:Nat}:wpO P Qp K' (.idx d x y sz) env σ = zFF σ sz (ev env x) (ev env y) fun r=>K' (env.put d r) σ:=zMi (d:=d)
@[simp] theorem qKy {sz n:Nat}{cs:List A}{k:IntKind}{j:Int}{J:A→Prop}:zFF σ sz (.sl n cs) (.lit (.int k j)) J=(((0≤j∧j<n)∧j.toNat*sz<cs.length)∧J (.rptr (cs.drop (j.toNat*sz)))):=rfl
@[simp] theorem qHi {sz n:Nat}{cs:List A}{k:IntKind}{j:Int}{J:A→Prop}:zFF σ sz (.fsl n cs) (.lit (.int k j)) J=(((0≤j∧j<n)∧j.toNat*sz<cs.length)∧J (.rptr (cs.drop (j.toNat*sz)))):=rfl
def zHH (len sz:Nat)(a i:A)(J:A→Prop):Prop:=match a,i with
 | .ptr l o,.lit (.int _ j)=>(0≤j∧j<len)∧J (.ptr l (o+j.toNat*sz))
 | .rptr cs,.lit (.int _ j)=>((0≤j∧j<len)∧j.toNat*sz<cs.length)∧J (.rptr (cs.drop (j.toNat*sz)))
 | _,_=>False
@[simp] theorem zXm {len sz:Nat}{cs:List A}{k:IntKind}{j:Int}{J:A→Prop}:zHH len sz (.rptr cs) (.lit (.int k j)) J=(((0≤j∧j<len)∧j.toNat*sz<cs.length)∧J (.rptr (cs.drop (j.toNat*sz)))):=rfl
@[simp] theorem zZe {len sz l o:Nat}{k:IntKind}{j:Int}{J:A→Prop}:zHH len sz (.ptr l o) (.lit (.int k j)) J=((0≤j∧j<len)∧J (.ptr l (o+j.toNat*sz))):=rfl
theorem zNc {len sz:Nat}{J:A→Prop}:qX (zJ env σ (.idxarr d x y len sz)) J=zHH len sz (ev env x) (ev env y) J:=by
 simp only[zJ,zHH,qX];generalize ev env x=a;generalize ev env y=b;cases a<;>first
  | rfl
  | (cases b<;>first
   | rfl
   | (rename_i v; cases v<;>rfl))
@[simp] theorem qC0 {len sz:Nat}:wpO P Qp K' (.idxarr d x y len sz) env σ = zHH len sz (ev env x) (ev env y) fun r=>K' (env.put d r) σ:=zNc (d:=d)
def zD3 (op:BinOp)(a b:A)(J:A→Prop):Prop:=match a,b with
 | .lit (.int k m),.lit (.int k' n)=>if k=k' then (match zEi op k m n with | some (p,r)=>p∧J r | none=>False) else False
 | .lit (.string s),.lit (.string t)=>(match zWg op s t with | some (p,r)=>p∧J r | none=>False)
 | _,_=>False
theorem zSm {op:BinOp}{J:A→Prop}:qX (zJ env σ (.bin d op x y)) J=zD3 op (ev env x) (ev env y) J:=by
 simp only[zJ,zD3,qX];generalize ev env x=a;generalize ev env y=b;cases a<;>try rfl
 rename_i u;cases b<;>try (cases u<;>rfl)
 rename_i v;cases u<;>cases v<;>try rfl
 case lit.lit.int.int k m k' n =>
  by_cases h:k=k'
  ·simp only[h,if_true];cases zEi op k' m n<;>rfl
  ·simp[h]
@[simp] theorem qLx {op:BinOp}:wpO P Qp K' (.bin d op x y) env σ = zD3 op (ev env x) (ev env y) fun r=>K' (env.put d r) σ:=zSm (d:=d)
@[simp] theorem qF0 {s t:ByteArray}{J:A→Prop}:zD3 .add (.lit (.string s)) (.lit (.string t)) J=(s.size+t.size≤1000000∧J (.lit (.string (s++t)))):=rfl
@[simp] theorem qFs {k:IntKind}{m n:Int}{J:A→Prop}:zD3 .add (.lit (.int k m)) (.lit (.int k n)) J=J (.lit (.int k (k.wrap (m+n)))):=by simp[zD3,zEi]
@[simp] theorem qF1 {k:IntKind}{m n:Int}{J:A→Prop}:zD3 .sub (.lit (.int k m)) (.lit (.int k n)) J=J (.lit (.int k (k.wrap (m-n)))):=by simp[zD3,zEi]
@[simp] theorem qFx {k:IntKind}{m n:Int}{J:A→Prop}:zD3 .mul (.lit (.int k m)) (.lit (.int k n)) J=J (.lit (.int k (k.wrap (m*n)))):=by simp[zD3,zEi]
@[simp] theorem qFy {k:IntKind}{m n:Int}{J:A→Prop}:zD3 .quo (.lit (.int k m)) (.lit (.int k n)) J=(n≠0∧J (.lit (.int k (k.wrap (m.tdiv n))))):=by simp[zD3,zEi]
@[simp] theorem qFz {k:IntKind}{m n:Int}{J:A→Prop}:zD3 .rem (.lit (.int k m)) (.lit (.int k n)) J=(n≠0∧J (.lit (.int k (m.tmod n)))):=by simp[zD3,zEi]
@[simp] theorem qFw {k:IntKind}{m n:Int}{J:A→Prop}:zD3 .lss (.lit (.int k m)) (.lit (.int k n)) J=J (.lit (.bool (decide (m<n)))):=by simp[zD3,zEi]
@[simp] theorem qFv {k:IntKind}{m n:Int}{J:A→Prop}:zD3 .leq (.lit (.int k m)) (.lit (.int k n)) J=J (.lit (.bool (decide (m≤n)))):=by simp[zD3,zEi]
@[simp] theorem qFu {k:IntKind}{m n:Int}{J:A→Prop}:zD3 .gtr (.lit (.int k m)) (.lit (.int k n)) J=J (.lit (.bool (decide (n<m)))):=by simp[zD3,zEi]
@[simp] theorem qFt {k:IntKind}{m n:Int}{J:A→Prop}:zD3 .geq (.lit (.int k m)) (.lit (.int k n)) J=J (.lit (.bool (decide (n≤m)))):=by simp[zD3,zEi]
noncomputable def eqA (k:SK) (ng:Bool) (a b:A):Option A:=(zBX k a b).map (zBs ng)
noncomputable def zMR (ks:List SK) (ng:Bool) (a b:A):Option A:=match a,b with
 | .agg xs,.agg ys=>(zAf ks xs ys).map (zBs ng)
 | _,_=>none
theorem zUK {k:SK}{ng:Bool}{J:A→Prop}:qX (zJ env σ (.eqv d ng k x y)) J=zCY (eqA k ng (ev env x) (ev env y)) J:=by simp only[zJ,eqA];cases zBX k (ev env x) (ev env y)<;>simp[qX,zCY]
theorem zUJ {ks:List SK}{ng:Bool}{J:A→Prop}:qX (zJ env σ (.eqs d ng ks x y)) J=zCY (zMR ks ng (ev env x) (ev env y)) J:=by
 simp only[zJ,zMR];generalize ev env x=a;generalize ev env y=b;cases a<;>cases b<;>try rfl
 rename_i xs ys;simp only;cases zAf ks xs ys<;>simp[qX,zCY]
@[simp] theorem qL1 {k:SK}{ng:Bool}:wpO P Qp K' (.eqv d ng k x y) env σ = zCY (eqA k ng (ev env x) (ev env y)) fun r=>K' (env.put d r) σ:=zUK (d:=d)
@[simp] theorem qL0 {ks:List SK}{ng:Bool}:wpO P Qp K' (.eqs d ng ks x y) env σ = zCY (zMR ks ng (ev env x) (ev env y)) fun r=>K' (env.put d r) σ:=zUJ (d:=d)
@[simp] theorem qKq {k:IntKind}{m n:Int}:eqA .i false (.lit (.int k m)) (.lit (.int k n))=some (.lit (.bool (decide (m=n)))):=by simp[eqA,zBX,zBs]
@[simp] theorem qGQ {k:IntKind}{m n:Int}:eqA .i true (.lit (.int k m)) (.lit (.int k n))=some (.lit (.bool (decide (m≠n)))):=by simp[eqA,zBX,zBs]
@[simp] theorem qGP {m n:Bool}:eqA .b false (.lit (.bool m)) (.lit (.bool n))=some (.lit (.bool (decide (m=n)))):=by simp[eqA,zBX,zBs]
@[simp] theorem qDa {m n:Bool}:eqA .b true (.lit (.bool m)) (.lit (.bool n))=some (.lit (.bool (decide (m≠n)))):=by simp[eqA,zBX,zBs]
def zXx (a:A)(J:A→Prop):Prop:=match a with | .lit (.int k m)=>J (.lit (.int k (k.wrap (0-m)))) | _=>False
@[simp] theorem qHR {k:IntKind}{m:Int}{J:A→Prop}:zXx (.lit (.int k m)) J=J (.lit (.int k (k.wrap (0-m)))):=rfl
theorem zV8 {J:A→Prop}:qX (zJ env σ (.neg d x)) J=zXx (ev env x) J:=by
 simp only[zJ,zXx];generalize ev env x=a;cases a<;>try rfl
 rename_i v; cases v<;>simp[qX]
@[simp] theorem qLB:wpO P Qp K' (.neg d x) env σ = zXx (ev env x) fun r=>K' (env.put d r) σ:=zV8 (d:=d)
def zXz (a:A)(J:A→Prop):Prop:=match a with | .lit (.bool b)=>J (.lit (.bool !b)) | _=>False
@[simp] theorem qDu {b:Bool}{J:A→Prop}:zXz (.lit (.bool b)) J=J (.lit (.bool !b)):=rfl
theorem zV9 {J:A→Prop}:qX (zJ env σ (.not d x)) J=zXz (ev env x) J:=by
 simp only[zJ,zXz];generalize ev env x=a;cases a<;>try rfl
 rename_i v; cases v<;>simp[qX]
@[simp] theorem qLC:wpO P Qp K' (.not d x) env σ = zXz (ev env x) fun r=>K' (env.put d r) σ:=zV9 (d:=d)
def zFm (σ : St)(a:A)(J:A→Prop):Prop:=match a with
 | .nil=>J (.lit (.int .i64 0))
 | .sl n _=>n≤maxLen→J (.lit (.int .i64 n))
 | .fsl n _=>n≤maxLen→J (.lit (.int .i64 n))
 | .row l n=>match σ[l]? with
  | some (.row _ _ _ m _)=>if n=m then J (.lit (.int .i64 n)) else False
  | _=>False
 | .win l n _ k _=>match σ[l]? with
  | some (.row _ _ _ m _)=>if n=m then J (.lit (.int .i64 k)) else False
  | _=>False
 | _=>False
@[simp] theorem qH6 {J:A→Prop}:zFm σ .nil J=J (.lit (.int .i64 0)):=rfl
@[simp] theorem qK4 {n:Nat}{cs:List A}{J:A→Prop}:zFm σ (.sl n cs) J=(n≤maxLen→J (.lit (.int .i64 n))):=rfl
@[simp] theorem qH5 {n:Nat}{cs:List A}{J:A→Prop}:zFm σ (.fsl n cs) J=(n≤maxLen→J (.lit (.int .i64 n))):=rfl
@[simp] theorem qL7:wpO P Qp K' (.len d false x) env σ = zFm σ (ev env x) fun r=>K' (env.put d r) σ:=by
 simp only[wpO,zFm,zJ];generalize ev env x=a;cases a<;>simp only[qX,true_and]
 ·rename_i l n;cases σ[l]? with
  | none=>rfl
  | some ob =>
   cases ob<;>try rfl
   rename_i fz e s m cs;by_cases h:n=m<;>simp[h]
 ·rename_i l n _ k _;cases σ[l]? with
  | none=>rfl
  | some ob =>
   cases ob<;>try rfl
   rename_i fz e s m cs;by_cases h:n=m<;>simp[h]
def zRN (a:A)(J:A→Prop):Prop:=match a with | .lit (.string s)=>J (.lit (.int .i64 s.size)) | _=>False
@[simp] theorem zXr {s:ByteArray}{J:A→Prop}:zRN (.lit (.string s)) J=J (.lit (.int .i64 s.size)):=rfl
theorem zTi {J:A→Prop}:qX (zJ env σ (.len d true x)) J=zRN (ev env x) J:=by
 simp only[zJ,zRN];generalize ev env x=a;cases a<;>try rfl
 rename_i v; cases v<;>simp[qX]
@[simp] theorem qJi:wpO P Qp K' (.len d true x) env σ = zRN (ev env x) fun r=>K' (env.put d r) σ:=zTi (d:=d)
def mmA (mx:Bool):List A→Option A
 | .lit (.int k a)::rest=>zFN mx a rest k
 | _=>none
@[simp] theorem zZk {k:IntKind}{m n:Int}:mmA true [.lit (.int k m),.lit (.int k n)]=some (.lit (.int k (if m<n then n else m))):=by simp[mmA,zFN]
@[simp] theorem zZl {k:IntKind}{m n:Int}:mmA false [.lit (.int k m),.lit (.int k n)]=some (.lit (.int k (if n<m then n else m))):=by simp[mmA,zFN]
theorem zXv {mx:Bool}{xs:List Operand}{J:A→Prop}:qX (zJ env σ (.mm d mx xs)) J=zCY (mmA mx (xs.map (ev env))) J:=by
 simp only[zJ];generalize xs.map (ev env)=l;cases l with
 | nil=>rfl
 | cons a l =>
  cases a<;>try rfl
  rename_i v;cases v<;>try rfl
  exact zEo
@[simp] theorem qOt {mx:Bool}{xs:List Operand}:wpO P Qp K' (.mm d mx xs) env σ = zCY (mmA mx (xs.map (ev env))) fun r=>K' (env.put d r) σ:=zXv (d:=d)
def zXd (i:Nat)(a:A)(J:A→Prop):Prop:=match a with | .tup vs=>(match vs[i]? with | some r=>J r | none=>False) | _=>False
@[simp] theorem qGV {i:Nat}{vs:List A}{J:A→Prop}:zXd i (.tup vs) J=zCY vs[i]? J:=rfl
theorem zUW {i:Nat}{J:A→Prop}:qX (zJ env σ (.ext d x i)) J=zXd i (ev env x) J:=by
 simp only[zJ,zXd];generalize ev env x=a;cases a<;>try rfl
 rename_i vs;simp only;cases vs[i]?<;>simp[qX]
@[simp] theorem qL2 {i:Nat}:wpO P Qp K' (.ext d x i) env σ = zXd i (ev env x) fun r=>K' (env.put d r) σ:=zUW (d:=d)
@[simp] theorem qLz {f:FuncId}{a b:List Operand}:wpO P Qp K' (.clo d f a b) env σ = K' (env.put d (.clo f (a.map (ev env)) (b.map (ev env)))) σ:=by simp[wpO,zJ,qX,KOp.dst]
theorem zPR {zs:List Value}{ps:List (Nat×Nat×Operand)}{J:A→Prop}:qX (zJ env σ (.build d zs ps)) J=zCY ((zB3 (zs.map qS) (ps.map fun(o,s,x)=>(o,s,ev env x))).map .agg) J:=by simp only[zJ];cases zB3 (zs.map qS) (ps.map fun(o,s,x)=>(o,s,ev env x))<;>simp[qX,zCY]
def zQ6 (a:A)(neg:Bool)(J:A→Prop):Prop:=match a with
 | .lit (.pointer none)=>J (.lit (.bool !neg))
 | .rptr _=>J (.lit (.bool neg))
 | .ptr _ _=>J (.lit (.bool neg))
 | _=>False
@[simp] theorem qHq {neg:Bool}{J:A→Prop}:zQ6 (.lit (.pointer none)) neg J=J (.lit (.bool !neg)):=rfl
@[simp] theorem qDm {neg:Bool}{cs:List A}{J:A→Prop}:zQ6 (.rptr cs) neg J=J (.lit (.bool neg)):=rfl
@[simp] theorem qHr {neg:Bool}{l o:Nat}{J:A→Prop}:zQ6 (.ptr l o) neg J=J (.lit (.bool neg)):=rfl
@[simp] theorem qL5 {neg:Bool}:wpO P Qp K' (.isp d neg x) env σ = zQ6 (ev env x) neg fun r=>K' (env.put d r) σ:=by
 show qX (zJ env σ (.isp d neg x)) _=_;simp only[zJ];generalize ev env x=a;cases a with
 | lit v=>cases v with
  | pointer ad=>cases ad<;>simp[qX,zQ6,KOp.dst]
  | _=>rfl
 | rptr cs=>simp[qX,zQ6,KOp.dst]
 | ptr l o=>simp[qX,zQ6,KOp.dst]
 | _=>rfl
def qHG (t:TypeId)(a:A):A:=match a with
 | .lit v=>.lit (.iface t v)
 | _=>.any
@[simp] theorem qHH {t:TypeId}{v:Value}:qHG t (.lit v)=.lit (.iface t v):=rfl
@[simp] theorem qL8 {t:TypeId}:wpO P Qp K' (.mki d t x) env σ = K' (env.put d (qHG t (ev env x))) σ:=by simp only[wpO,zJ,qX,KOp.dst,true_and];generalize ev env x=a;cases a<;>rfl
def qIn (Qp:Value→Env→St→Prop)(env:Env) (σ : St)(a:A):Prop:=match a with
 | .lit (.iface t v)=>Qp (.iface t v) env σ
 | _=>False
@[simp] theorem qIo {t:TypeId}{v:Value}:qIn Qp env σ (.lit (.iface t v))=Qp (.iface t v) env σ:=rfl
@[simp] theorem qLD:wpO P Qp K' (.pan d x) env σ = qIn Qp env σ (ev env x):=rfl
@[simp] theorem qEA {zs:List Value}{ps:List (Nat×Nat×Operand)}:wpO P Qp K' (.build d zs ps) env σ = zCY ((zB3 (zs.map qS) (ps.map fun(o,s,x)=>(o,s,ev env x))).map .agg) fun r=>K' (env.put d r) σ:=zPR (d:=d)
@[simp] theorem qCz {e:TypeId}{sz n:Nat}{zs:List Value}{ps:List (Nat×Nat×Operand)}:wpO P Qp K' (.bslice d e sz n zs ps) env σ = zCY ((zB3 (zs.map qS) (ps.map fun(o,s,x)=>(o,s,ev env x))).map (.fsl n)) fun r=>K' (env.put d r) σ:=by simp only[wpO,zCY];cases zB3 (zs.map qS) (ps.map fun(o,s,x)=>(o,s,ev env x))<;>simp
@[simp] theorem qJg {e:TypeId}{sz n:Nat}{zs:List Value}{ps:List (Nat×Nat×Operand)}:wpO P Qp K' (.brow d e sz n zs ps) env σ = zTr (zB3 (zs.map qS) (ps.map fun(o,s,x)=>(o,s,ev env x))) fun cs=>K' (env.put d (.row σ.length n)) (σ++[.row false e sz n cs]):=by simp only[wpO,zTr];cases zB3 (zs.map qS) (ps.map fun(o,s,x)=>(o,s,ev env x))<;>simp
def zTd (a:A)(neg:Bool)(J:A→Prop):Prop:=match a with
 | .nil=>J (.lit (.bool !neg))
 | .sl n _=>n≠0∧J (.lit (.bool neg))
 | .fsl n _=>n≠0∧J (.lit (.bool neg))
 | _=>False
@[simp] theorem qHp {neg:Bool}{J:A→Prop}:zTd .nil neg J=J (.lit (.bool !neg)):=rfl
@[simp] theorem qKz {neg:Bool}{n:Nat}{cs:List A}{J:A→Prop}:zTd (.sl n cs) neg J=(n≠0∧J (.lit (.bool neg))):=rfl
@[simp] theorem qHo {neg:Bool}{n:Nat}{cs:List A}{J:A→Prop}:zTd (.fsl n cs) neg J=(n≠0∧J (.lit (.bool neg))):=rfl
theorem zVr {neg:Bool}{J:A→Prop}:qX (zJ env σ (.isn d neg x)) J=zTd (ev env x) neg J:=by simp only[zJ,zTd,qX];generalize ev env x=a;cases a<;>simp
def zXP (o:Option AObj) (σ : St)(l n sz:Nat)(h:Int)(J:A→St→Prop):Prop:=match o with
 | some (.row false e s m cs)=>(n=m∧s=sz∧0≤h∧h≤n∧n≠0)∧J (.row σ.length h.toNat) (σ.set l .dead++[.row false e sz h.toNat (cs.take (h.toNat*sz))])
 | _=>False
@[simp] theorem qDU {e s m l n sz:Nat}{cs:List A}{h:Int}{J:A→St→Prop}:zXP (some (.row false e s m cs)) σ l n sz h J=((n=m∧s=sz∧0≤h∧h≤n∧n≠0)∧J (.row σ.length h.toNat) (σ.set l .dead++[.row false e sz h.toNat (cs.take (h.toNat*sz))])):=rfl
def qBN (σ : St)(sz:Nat)(a b:A)(J:A→St→Prop):Prop:=match a,b with
 | .row l n,.lit (.int _ h)=>zXP σ[l]? σ l n sz h J
 | _,_=>False
@[simp] theorem qI8 {l n sz:Nat}{k:IntKind}{h:Int}{J:A→St→Prop}:qBN σ sz (.row l n) (.lit (.int k h)) J=zXP σ[l]? σ l n sz h J:=rfl
@[simp] theorem qLE {sz:Nat}:wpO P Qp K' (.shr d x sz y) env σ = qBN σ sz (ev env x) (ev env y) fun r τ=>K' (env.put d r) τ:=by simp only[wpO,qBN,zXP];generalize ev env x=a;generalize ev env y=b;cases a<;>cases b<;>first | rfl | (rename_i v; cases v<;>rfl)
def zW3 (ob:Option AObj) (σ : St)(e:TypeId)(sz bytes:Nat)(l n o k c m:Nat)(ys:List A)(J:A→St→Prop):Prop:=match ob with
 | some (.row false e' s n' cs)=>(ys.length=m*sz∧m≠0∧n=n'∧e'=e∧s=sz∧c=sz∧o+k*sz=n*sz∧n+m≤maxLen∧(n+m)*bytes≤140737488355328) ∧
  J (.win l (n+m) o (k+m) sz) (σ.set l (.row false e sz (n+m) (cs++ys)))∧J (.win σ.length (k+m) 0 (k+m) sz) (σ++[.row false e sz (k+m) (cs.drop o++ys)])
 | _=>False
@[simp] theorem qC9 {e':TypeId}{s n':Nat}{cs:List A}{e:TypeId}{sz bytes l n o k c m:Nat}{ys:List A}{J:A→St→Prop}:zW3 (some (.row false e' s n' cs)) σ e sz bytes l n o k c m ys J=((ys.length=m*sz∧m≠0∧n=n'∧e'=e∧s=sz∧c=sz∧o+k*sz=n*sz∧n+m≤maxLen∧(n+m)*bytes≤140737488355328) ∧
 J (.win l (n+m) o (k+m) sz) (σ.set l (.row false e sz (n+m) (cs++ys)))∧J (.win σ.length (k+m) 0 (k+m) sz) (σ++[.row false e sz (k+m) (cs.drop o++ys)])):=rfl
def zZW (σ : St)(e:TypeId)(sz bytes:Nat)(el:Option (Nat×List A))(a:A)(J:A→St→Prop):Prop:=match el,a with
 | some (m,ys),.win l n o k c=>zW3 σ[l]? σ e sz bytes l n o k c m ys J
 | _,_=>False
@[simp] theorem qFp {e:TypeId}{sz bytes l n o k c m:Nat}{ys:List A}{J:A→St→Prop}:zZW σ e sz bytes (some (m,ys)) (.win l n o k c) J=zW3 σ[l]? σ e sz bytes l n o k c m ys J:=rfl
@[simp] theorem qLw {e:TypeId}{sz bytes:Nat}:wpO P Qp K' (.apq d e sz bytes x y) env σ = zZW σ e sz bytes (zB0 σ sz (ev env y)) (ev env x) fun r τ=>K' (env.put d r) τ:=by simp only[wpO,zZW,zW3];generalize zB0 σ sz (ev env y)=el;generalize ev env x=a;cases el<;>cases a<;>rfl
def zTe (σ : St)(a:A)(neg:Bool)(J:A→Prop):Prop:=match a with
 | .nil=>J (.lit (.bool !neg))
 | .sl n _=>J (.lit (.bool neg))∧(n=0→J (.lit (.bool !neg)))
 | .row l n=>(match σ[l]? with
  | some (.row _ _ _ m _)=>n=m∧J (.lit (.bool neg))∧(n=0→J (.lit (.bool !neg)))
  | _=>False)
 | _=>False
@[simp] theorem qHs {neg:Bool}{J:A→Prop}:zTe σ .nil neg J=J (.lit (.bool !neg)):=rfl
@[simp] theorem qK0 {neg:Bool}{n:Nat}{cs:List A}{J:A→Prop}:zTe σ (.sl n cs) neg J=(J (.lit (.bool neg))∧(n=0→J (.lit (.bool !neg)))):=rfl
@[simp] theorem qL6 {neg:Bool}:wpO P Qp K' (.isz d neg x) env σ = zTe σ (ev env x) neg fun r=>K' (env.put d r) σ:=by simp only[wpO,zTe];cases ev env x<;>rfl
@[simp] theorem qL4 {neg:Bool}:wpO P Qp K' (.isn d neg x) env σ = zTd (ev env x) neg fun r=>K' (env.put d r) σ:=zVr (d:=d)
@[simp] theorem qDd {cs:List A}:zB3 cs []=some cs:=rfl
def zZb (c:Option (List A))(o s:Nat)(cs:List A)(rest:List (Nat×Nat×A)):Option (List A):=match c with
 | some l=>if l.length=s∧o+s≤cs.length then zB3 (cs.take o++l++cs.drop (o+s)) rest else none
 | none=>none
@[simp] theorem qAS {l:List A}{o s:Nat}{cs:List A}{rest:List (Nat×Nat×A)}:zZb (some l) o s cs rest=if l.length=s∧o+s≤cs.length then zB3 (cs.take o++l++cs.drop (o+s)) rest else none:=rfl
@[simp] theorem qAR {cs:List A}{o s:Nat}{a:A}{rest:List (Nat×Nat×A)}:zB3 cs ((o,s,a)::rest)=zZb (cellsOf a) o s cs rest:=rfl
def elP (σ : St)(sz:Nat)(a:A)(J:Nat→List A→Prop):Prop:=match zB0 σ sz a with
 | some (m,ys)=>ys.length=m*sz∧J m ys
 | none=>False
@[simp] theorem qKn {sz:Nat}{J:Nat→List A→Prop}:elP σ sz .nil J=J 0 []:=by simp[elP,zB0]
@[simp] theorem qNA {sz n:Nat}{cs:List A}{J:Nat→List A→Prop}:elP σ sz (.sl n cs) J=(cs.length=n*sz∧J n cs):=rfl
@[simp] theorem qKm {sz n:Nat}{cs:List A}{J:Nat→List A→Prop}:elP σ sz (.fsl n cs) J=(cs.length=n*sz∧J n cs):=rfl
@[simp] theorem qKo {sz l n:Nat}{J:Nat→List A→Prop}:elP σ sz (.row l n) J=zZ7 σ[l]? n sz fun cs=>cs.length=n*sz∧J n cs:=by
 simp only[elP,zB0];cases σ[l]? with
 | none=>rfl
 | some o =>
  cases o<;>try rfl
  rename_i fz e s m cs;by_cases h:n=m∧s=sz
  ·simp[h]
  ·simp only[h,if_false,zQZ,eq_iff_iff,false_iff];rintro⟨h1,h2,_⟩;exact h ⟨h1,h2⟩
def zUg (d:Option Nat)(K':Env→St→Prop)(env:Env) (σ : St)(e:TypeId)(sz bytes m:Nat)(ys:List A):A→Prop
 | .nil=>(m≤maxLen∧m*bytes≤140737488355328)∧K' (env.put d (.row σ.length m)) (σ++[AObj.row false e sz m ys])
 | .row l n=>(match σ[l]? with
  | some (.row fz e' s n' cs)=>if n=n'∧e'=e∧s=sz then (n+m≤maxLen∧(n+m)*bytes≤140737488355328)∧K' (env.put d (.row l (n+m))) (σ.set l (.row fz e sz (n+m) (cs++ys))) else False
  | _=>False)
 | .fsl n cs=>cs.length=n*sz∧(m=0→K' (env.put d (.fsl n cs)) σ)∧(m≠0→(n+m≤maxLen∧(n+m)*bytes≤140737488355328)∧K' (env.put d (.row σ.length (n+m))) (σ++[AObj.row false e sz (n+m) (cs++ys)]))
 | _=>False
@[simp] theorem qFn {e:TypeId}{sz bytes m:Nat}{ys:List A}:zUg d K' env σ e sz bytes m ys .nil=((m≤maxLen∧m*bytes≤140737488355328)∧K' (env.put d (.row σ.length m)) (σ++[AObj.row false e sz m ys])):=rfl
@[simp] theorem qFm {e:TypeId}{sz bytes m n:Nat}{ys cs:List A}:zUg d K' env σ e sz bytes m ys (.fsl n cs)=(cs.length=n*sz∧(m=0→K' (env.put d (.fsl n cs)) σ)∧(m≠0→(n+m≤maxLen∧(n+m)*bytes≤140737488355328)∧K' (env.put d (.row σ.length (n+m))) (σ++[AObj.row false e sz (n+m) (cs++ys)]))):=rfl
def zZ8:Option AObj→Nat→TypeId→Nat→(Bool→List A→Prop)→Prop
 | some (.row fz e' s n' cs),n,e,sz,J=>(n=n'∧e'=e∧s=sz)∧J fz cs
 | _,_,_,_,_=>False
@[simp] theorem qBG {fz:Bool}{e' e:TypeId}{s n' n sz:Nat}{cs:List A}{J:Bool→List A→Prop}:zZ8 (some (.row fz e' s n' cs)) n e sz J=((n=n'∧e'=e∧s=sz)∧J fz cs):=rfl
@[simp] theorem qFo {e:TypeId}{sz bytes m l n:Nat}{ys:List A}:zUg d K' env σ e sz bytes m ys (.row l n)=zZ8 σ[l]? n e sz fun fz cs=>(n+m≤maxLen∧(n+m)*bytes≤140737488355328)∧K' (env.put d (.row l (n+m))) (σ.set l (.row fz e sz (n+m) (cs++ys))):=by
 simp only[zUg];cases σ[l]? with
 | none=>rfl
 | some o =>
  cases o<;>try rfl
  rename_i fz e' s n' cs;by_cases h:n=n'∧e'=e∧s=sz
  ·simp[h]
  ·simp[h]
@[simp] theorem qLv {e:TypeId}{sz bytes:Nat}:wpO P Qp K' (.app d e sz bytes x y) env σ = elP σ sz (ev env y) fun m ys=>zUg d K' env σ e sz bytes m ys (ev env x):=by
 simp only[wpO,elP];cases zB0 σ sz (ev env y)with
 | none=>rfl
 | some r =>
  obtain⟨m,ys⟩:=r;simp only;generalize ev env x=a;cases a<;>rfl
def zUs (P:Program)(Qp:Value→Env→St→Prop)(K':Env→St→Prop)(d:Option Nat)(f:A)(args:List A)(env:Env) (σ : St):Prop:=match f with
 | .clo g first cap=>zA P g=true∧yV P g (first++args++cap) σ (outK d env K' Qp)
 | .lit (.func (.yield b) ⟨[]⟩ ⟨[]⟩)=>zCg P b args σ (outK d env K' Qp)
 | _=>False
@[simp] theorem qG6 {b:Nat}{args:List A}:zUs P Qp K' d (yv b) args env σ = zCg P b args σ (outK d env K' Qp):=rfl
@[simp] theorem qCM {g:FuncId}{first cap args:List A}:zUs P Qp K' d (.clo g first cap) args env σ = (zA P g=true∧yV P g (first++args++cap) σ (outK d env K' Qp)):=rfl
@[simp] theorem qJh {args:List Operand}:wpO P Qp K' (.call d x args) env σ = zUs P Qp K' d (ev env x) (args.map (ev env)) env σ:=rfl
@[simp] theorem qCG:zAB []=[]:=rfl
@[simp] theorem qCF {cs:List A}:zAB (.box cs::σ)=.box cs::zAB σ:=rfl
@[simp] theorem qCH {fz:Bool}{e:TypeId}{sz n:Nat}{cs:List A}:zAB (.row fz e sz n cs::σ)=.dead::zAB σ:=rfl
@[simp] theorem qF8 {fr:Bool}{nk:Nat}{es:List (List Int×A)}:zAB (.mp fr nk es::σ)=.dead::zAB σ:=rfl
@[simp] theorem qCI:zAB (.rsv::σ)=.dead::zAB σ:=rfl
@[simp] theorem qF6 {m n:Nat}{met:List Nat}:zAB (.it m n met::σ)=.dead::zAB σ:=rfl
@[simp] theorem qF7 {b M:Nat}{r:Loop}{es:List (Nat×A)}:zAB (.lp b r M es::σ)=.dead::zAB σ:=rfl
theorem zHw {σ τ : St}:zAB (σ++τ)=zAB σ++zAB τ:=by
 induction σ with
 | nil=>rfl
 | cons o σ ih=>cases o<;>simp[zAB,ih]
@[simp] theorem zW7 {σ : St}:(zAB σ).length = σ.length:=by
 induction σ with
 | nil=>rfl
 | cons o σ ih=>cases o<;>simp[zAB,ih]
@[simp] theorem qDO {σ : St}:zDx 0 σ = σ:=rfl
@[simp] theorem qI4 {σ : St}:zDx 1 σ = zAB σ:=rfl
@[simp] theorem qI6 {σ : St}:zDx 2 σ = []:=rfl
variable {fl k:Nat}
@[simp] theorem qIp {v:Value}:zKE Q v σ = ∀e,Q (.pan v) e σ:=rfl
@[simp] theorem qLp:wpD P Qd K' [] env σ = K' env σ:=by simp only[wpD]
@[simp] theorem qNZ {o:KOp}:zBc 0 o env=True:=rfl
@[simp] theorem qOa {o:KOp}:zBc 1 o env=True:=rfl
@[simp] theorem qOb {o:KOp}:zBc 2 o env=True:=rfl
@[simp] theorem qOc {o:KOp}:zBc 3 o env=True:=rfl
@[simp] theorem qOd {o:KOp}:zBc 4 o env=True:=rfl
@[simp] theorem qOe {n:Nat}:zBc 5 (.st d x y n) env=zOL (ev env x):=rfl
@[simp] theorem qOf {n:Nat}:zBc 6 (.st d x y n) env=zOM (ev env x):=rfl
@[simp] theorem qKV {n:Nat}:zBc 6 (.idx d x y n) env=isRow (ev env x):=rfl
@[simp] theorem qDj {l o:Nat}:zOL (.ptr l o)=True:=rfl
@[simp] theorem qDl {l n o:Nat}:zOM (.rwp l n o)=True:=rfl
@[simp] theorem qDk {l n:Nat}:isRow (.row l n)=True:=rfl
@[simp] theorem qI5 {σ : St}:zDx 6 σ = σ:=rfl
@[simp] theorem qIV {o:KOp}{l:List (Nat×Nat×KG)}:wpD P Qd K' ((k,fl,⟨none,o⟩)::l) env σ = (zBc fl o env∧jI P Qd fl (wpD P Qd K' l) o env σ):=rfl
@[simp] theorem qEo {s:Nat}{want:Bool}{o:KOp}{l:List (Nat×Nat×KG)}:wpD P Qd K' ((k,fl,⟨some (s,want),o⟩)::l) env σ = (zBc fl o env∧zI4 (env s) want (jI P Qd fl (wpD P Qd K' l) o) (zKU o.dst (wpD P Qd K' l)) env σ):=by
 simp only[wpD,zWr,zI4];generalize env s=a;cases a<;>try rfl
 all_goals (rename_i v; cases v<;>rfl)
@[simp] theorem qCv:jI P Qd fl K' (.pick d x y z) env σ = wpO P zAN K' (.pick d x y z) env σ:=by simp[jI,KOp.lite,KOp.keeps]
@[simp] theorem qCr {e sz n:Nat}{zs:List Value}{ps:List (Nat×Nat×Operand)}:jI P Qd fl K' (.brow d e sz n zs ps) env σ = wpO P zAN K' (.brow d e sz n zs ps) env σ:=by simp[jI,KOp.lite,KOp.keeps]
@[simp] theorem qE3 {m:MOp}{xs:List Operand}:jI P Qd fl K' (.mop d m xs) env σ = (match zV6 m (xs.map (ev env)) σ with
 | some (r,σ')=>K' (env.put d r) σ'
 | none=>False):=rfl
@[simp] theorem qE0 {ng:Bool}:jI P Qd fl K' (.isp d ng x) env σ = wpO P zAN K' (.isp d ng x) env σ:=by simp[jI,KOp.lite,KOp.keeps]
@[simp] theorem qE2 {t:TypeId}:jI P Qd fl K' (.mki d t x) env σ = wpO P zAN K' (.mki d t x) env σ:=by simp[jI,KOp.lite,KOp.keeps]
@[simp] theorem qE4:jI P Qd fl K' (.mov d x) env σ = wpO P zAN K' (.mov d x) env σ:=by simp[jI,KOp.lite,KOp.keeps]
@[simp] theorem zXZ {len sz:Nat}:jI P Qd fl K' (.idxarr d x y len sz) env σ = wpO P zAN K' (.idxarr d x y len sz) env σ:=by simp[jI,KOp.lite,KOp.keeps]
@[simp] theorem qEr {op:BinOp}:jI P Qd fl K' (.bin d op x y) env σ = wpO P zAN K' (.bin d op x y) env σ:=by simp[jI,KOp.lite,KOp.keeps]
@[simp] theorem qEv {k:SK}{ng:Bool}:jI P Qd fl K' (.eqv d ng k x y) env σ = wpO P zAN K' (.eqv d ng k x y) env σ:=by simp[jI,KOp.lite,KOp.keeps]
@[simp] theorem qEu {ks:List SK}{ng:Bool}:jI P Qd fl K' (.eqs d ng ks x y) env σ = wpO P zAN K' (.eqs d ng ks x y) env σ:=by simp[jI,KOp.lite,KOp.keeps]
@[simp] theorem qE5:jI P Qd fl K' (.neg d x) env σ = wpO P zAN K' (.neg d x) env σ:=by simp[jI,KOp.lite,KOp.keeps]
@[simp] theorem qE6:jI P Qd fl K' (.not d x) env σ = wpO P zAN K' (.not d x) env σ:=by simp[jI,KOp.lite,KOp.keeps]
@[simp] theorem qIY {mx:Bool}{xs:List Operand}:jI P Qd fl K' (.mm d mx xs) env σ = wpO P zAN K' (.mm d mx xs) env σ:=by simp[jI,KOp.lite,KOp.keeps]
@[simp] theorem qCt:jI P Qd fl K' (.len d true x) env σ = wpO P zAN K' (.len d true x) env σ:=by simp[jI,KOp.lite,KOp.keeps]
@[simp] theorem qEw {i:Nat}:jI P Qd fl K' (.ext d x i) env σ = wpO P zAN K' (.ext d x i) env σ:=by simp[jI,KOp.lite,KOp.keeps]
@[simp] theorem qEt {f:FuncId}{a b:List Operand}:jI P Qd fl K' (.clo d f a b) env σ = wpO P zAN K' (.clo d f a b) env σ:=by simp[jI,KOp.lite,KOp.keeps]
@[simp] theorem qE7 {sz:Nat}{lo hi mx:Option Operand}:jI P Qd fl K' (.slc d x sz lo hi mx) env σ = wpO P zAN K' (.slc d x sz lo hi mx) env σ:=by simp[jI,KOp.lite,KOp.keeps]
@[simp] theorem zZF {zs:List Value}{ps:List (Nat×Nat×Operand)}:jI P Qd fl K' (.build d zs ps) env σ = wpO P zAN K' (.build d zs ps) env σ:=by simp[jI,KOp.lite,KOp.keeps]
@[simp] theorem zXY {e:TypeId}{sz n:Nat}{zs:List Value}{ps:List (Nat×Nat×Operand)}:jI P Qd fl K' (.bslice d e sz n zs ps) env σ = wpO P zAN K' (.bslice d e sz n zs ps) env σ:=by simp[jI,KOp.lite,KOp.keeps]
@[simp] theorem zZE {zs:List Value}:jI P Qd fl K' (.alloc d zs) env σ = wpO P zAN K' (.alloc d zs) env σ:=by simp[jI,KOp.lite,KOp.keeps]
@[simp] theorem qEs:jI P Qd fl K' (.box d x) env σ = wpO P zAN K' (.box d x) env σ:=by simp[jI,KOp.lite,KOp.keeps]
@[simp] theorem qIZ {n:Nat}:jI P Qd fl K' (.st d x y n) env σ = wpO P zAN K' (.st d x y n) env σ:=by simp[jI,KOp.lite,KOp.keeps]
@[simp] theorem qEq {e:TypeId}{sz bytes:Nat}:jI P Qd fl K' (.app d e sz bytes x y) env σ = wpO P zAN K' (.app d e sz bytes x y) env σ:=by simp[jI,KOp.lite,KOp.keeps]
@[simp] theorem qEx {off n:Nat}{agg:Bool}:jI P Qd fl K' (.fld d x off n agg) env σ = wpO P zAN K' (.fld d x off n agg) env σ:=by simp[jI,KOp.lite,KOp.keeps]
@[simp] theorem qIW {len sz:Nat}{agg:Bool}:jI P Qd fl K' (.ix d x y len sz agg) env σ = wpO P zAN K' (.ix d x y len sz agg) env σ:=by simp[jI,KOp.lite,KOp.keeps]
@[simp] theorem qEz {ng:Bool}:jI P Qd fl K' (.isn d ng x) env σ = wpO P zAN K' (.isn d ng x) env σ:=by simp[jI,KOp.lite,KOp.keeps]
@[simp] theorem qIX {n:Nat}{agg:Bool}:jI P Qd fl K' (.ld d x n agg) env σ = zCY ((ldA (zDx fl σ) n (ev env x)).bind (zBO agg)) fun r=>K' (env.put d r) σ:=zEo
@[simp] theorem qCq {off:Nat}:jI P Qd fl K' (.addr d x off) env σ = zCY (zIO (zDx fl σ) off (ev env x)) fun r=>K' (env.put d r) σ:=by show qX (zJ env (zDx fl σ) (.addr d x off)) _=_;rw[zJC,zEo]; rfl
@[simp] theorem qEy {sz:Nat}:jI P Qd fl K' (.idx d x y sz) env σ = zFF (zDx fl σ) sz (ev env x) (ev env y) fun r=>K' (env.put d r) σ:=zMi (d:=d)
def zLs (σ : St)(a:A)(J:A→Prop):Prop:=match a with
 | .nil=>J (.lit (.int .i64 0))
 | .sl n _=>J (.lit (.int .i64 n))
 | .fsl n _=>J (.lit (.int .i64 n))
 | .row l n=>match σ[l]? with
  | some (.row _ _ _ m _)=>if n=m then J (.lit (.int .i64 n)) else False
  | _=>False
 | .win l n _ k _=>match σ[l]? with
  | some (.row _ _ _ m _)=>if n=m then J (.lit (.int .i64 k)) else False
  | _=>False
 | _=>False
@[simp] theorem qH2 {J:A→Prop}:zLs σ .nil J=J (.lit (.int .i64 0)):=rfl
@[simp] theorem qK3 {n:Nat}{cs:List A}{J:A→Prop}:zLs σ (.sl n cs) J=J (.lit (.int .i64 n)):=rfl
@[simp] theorem qH1 {n:Nat}{cs:List A}{J:A→Prop}:zLs σ (.fsl n cs) J=J (.lit (.int .i64 n)):=rfl
def zQ8 (o:Option AObj)(n:Nat)(J:A→Prop):Prop:=match o with
 | some (.row _ _ _ m _)=>if n=m then J (.lit (.int .i64 n)) else False
 | _=>False
@[simp] theorem zZj {fz:Bool}{e:TypeId}{s m n:Nat}{cs:List A}{J:A→Prop}:zQ8 (some (.row fz e s m cs)) n J=if n=m then J (.lit (.int .i64 n)) else False:=rfl
@[simp] theorem qH3 {l n:Nat}{J:A→Prop}:zLs σ (.row l n) J=zQ8 σ[l]? n J:=by simp only[zLs,zQ8]
theorem zTh {τ : St}{J:A→Prop}:qX (zJ env τ (.len d false x)) J=zLs τ (ev env x) J:=by
 simp only[zLs,zJ];generalize ev env x=a;cases a<;>simp only[qX,true_and]
 ·rename_i l n;cases τ[l]? with
  | none=>rfl
  | some ob =>
   cases ob<;>try rfl
   rename_i fz e s m cs;by_cases h:n=m<;>simp[h]
 ·rename_i l n _ k _;cases τ[l]? with
  | none=>rfl
  | some ob =>
   cases ob<;>try rfl
   rename_i fz e s m cs;by_cases h:n=m<;>simp[h]
@[simp] theorem qE1:jI P Qd fl K' (.len d false x) env σ = zLs (zDx fl σ) (ev env x) fun r=>K' (env.put d r) σ:=by show qX (zJ env (zDx fl σ) (.len d false x)) _=_;exact zTh
def zFx (P:Program)(Qd:Value→St→Prop)(fl:Nat) (σ : St)(d:Option Nat)(K':Env→St→Prop)(f:A)(args:List A)(env:Env):Prop:=zXX P Qd fl σ d K' f args env
@[simp] theorem qCs {args:List Operand}:jI P Qd fl K' (.call d x args) env σ = zFx P Qd fl σ d K' (ev env x) (args.map (ev env)) env:=rfl
@[simp] theorem qKe {g:FuncId}{first cap args:List A}:zFx P Qd 0 σ d K' (.clo g first cap) args env=(zA P g=true∧zFc P σ d (fun e=>K' e σ) g (first++args++cap) env):=rfl
@[simp] theorem qKf {g:FuncId}{first cap args:List A}:zFx P Qd 1 σ d K' (.clo g first cap) args env=(zA P g=true∧zIf P σ d (fun e=>K' e σ) g (first++args++cap) env):=rfl
@[simp] theorem qKg {g:FuncId}{first cap args:List A}:zFx P Qd 3 σ d K' (.clo g first cap) args env=(zA P g=true∧zIg P σ d K' g (first++args++cap) env):=rfl
@[simp] theorem qKi {g:FuncId}{first cap args:List A}:zFx P Qd 7 σ d K' (.clo g first cap) args env=(zA P g=true∧zPA P σ d K' g (first++args++cap) env):=rfl
@[simp] theorem qKj {g:FuncId}{first cap args:List A}:zFx P Qd 8 σ d K' (.clo g first cap) args env=(zA P g=true∧zPB P σ d K' g (first++args++cap) env):=rfl
@[simp] theorem qG3 {g:FuncId}{first cap args:List A}:zFx P Qd 10 σ d K' (.clo g first cap) args env=(zA P g=true∧zIh P Qd σ d K' g (first++args++cap) env):=rfl
@[simp] theorem qG4 {g:FuncId}{first cap args:List A}:zFx P Qd 11 σ d K' (.clo g first cap) args env=(zA P g=true∧zLe P σ d K' g (first++args++cap) env):=rfl
@[simp] theorem qKk {n:Nat}{g:FuncId}{first cap args:List A}(h1:11<n):zFx P Qd n σ d K' (.clo g first cap) args env=(zA P g=true∧(if 1000≤n∧n<2000 then zLd P (n-1000) σ d K' g (first++args++cap) env else if 3000≤n∧n<4000 then zP9 P (n-3000) σ d K' g (first++args++cap) env else zIi P σ d K' g (first++args++cap) env)):=by obtain⟨m,rfl⟩:∃m,n=m+12:=⟨n-12,by omega⟩;rfl
@[simp] theorem qKh {g:FuncId}{first cap args:List A}:zFx P Qd 4 σ d K' (.clo g first cap) args env=(zA P g=true∧zIi P σ d K' g (first++args++cap) env):=rfl
@[simp] theorem qG5 {b:Nat}{args:List A}:zFx P Qd 4 σ d K' (yv b) args env = ∃r σ',(zCg P b args σ fun o τ=>o=.ret r∧τ = σ')∧K' (env.put d r) σ':=by show (4=4∧_)=_;simp
theorem qR {t:Bool}{A B:Env→St→Prop}(h1:t=true→A env σ)(h2:t=false→B env σ):zFe t A B env σ:=⟨h1,h2⟩
theorem zXt {S:Type}{W:(Ex→Env→St→Prop)→Env→St→Prop}(E:S→List (Nat×A))(T:S→St)(I:S→Prop) (μ : S→Nat)(s0:S)(h0:I s0)(start:zA4 n0 (qU (E s0)) (T s0) env σ)
 (round:∀s,I s→W (rnd n0 (fun n e t=>∃s,I s∧μ s=n∧e=qU (E s)∧t=T s) (μ s) Q) (qU (E s)) (T s)):zNE n0 W Q env σ:=by
 refine⟨fun n e t=>∃s,I s∧μ s=n∧e=qU (E s)∧t=T s,⟨μ s0,_,_,start,s0,h0,rfl,rfl,rfl⟩,?_⟩;rintro n e t ⟨s,hs,rfl,rfl,rfl⟩;exact round s hs
theorem qBC {S:Type}{E:S→List (Nat×A)}{T:S→St}{I:S→Prop} {μ : S→Nat}{n:Nat}(s:S)(hs:I s)(hm : μ s<n)(hw:zA4 n0 (qU (E s)) (T s) env σ) :
 rnd n0 (fun n e t=>∃s,I s∧μ s=n∧e=qU (E s)∧t=T s) n Q .norm env σ:=⟨μ s,hm,_,_,hw,s,hs,rfl,rfl,rfl⟩
theorem zIt {l:List (Nat×A)} {σ' τ : St}(he : σ = σ'++τ)(hn:n0≤σ'.length)(hl:∀p∈l,env p.1=p.2)(hb:∀p∈l,p.2.bnd σ'.length=true)(ho:∀o∈σ',o.bnd σ'.length=true) :
 zA4 n0 (qU l) σ' env σ:=by
 subst he;exact zA4.cut l hn hl hb ho
@[simp] theorem qBq {i t:Nat}{a:A}{l:List (Nat×A)}:qU ((i,a)::l) t=if t=i then a else qU l t:=rfl
@[simp] theorem qDp {t:Nat}:qU [] t=.any:=rfl
end
end Go.Abs
namespace Go.Abs
def zS1 (o k c:Nat):A→A
 | .sl _ cs=>if k=0 then .sl 0 [] else .sl k ((cs.drop o).take (k*c))
 | _=>.any
mutual
def vw (rf:Bool→Nat→Nat→A)(g:Nat→Option Nat):A→A
 | .ptr l o=>match g l with
  | some i=>.ptr i o
  | none=>rf true l o
 | .row l n=>match g l with
  | some i=>.row i n
  | none=>rf false l n
 | .rwp l n o=>match g l with
  | some i=>.rwp i n o
  | none=>.any
 | .map l=>match g l with
  | some i=>.map i
  | none=>.any
 | .win l n o k c=>match g l with
  | some i=>.win i n o k c
  | none=>zS1 o k c (rf false l n)
 | .agg cs=>.agg (vwL rf g cs)
 | .tup cs=>.tup (vwL rf g cs)
 | .sl n cs=>.sl n (vwL rf g cs)
 | .fsl n cs=>.fsl n (vwL rf g cs)
 | .rptr cs=>.rptr (vwL rf g cs)
 | .clo f a b=>.clo f (vwL rf g a) (vwL rf g b)
 | .any=>.any
 | .nil=>.nil
 | .lit v=>.lit v
def vwL (rf:Bool→Nat→Nat→A)(g:Nat→Option Nat):List A→List A
 | []=>[]
 | c::cs=>vw rf g c::vwL rf g cs
end
def seen (σ : St)(g:Nat→Option Nat):Nat→Bool→Nat→Nat→A
 | 0,_,_,_=>.any
 | k+1,false,l,n=>match σ[l]? with
  | some (.row _ _ _ m cs)=>if n=m then .sl n (vwL (seen σ g k) g cs) else .any
  | _=>.any
 | k+1,true,l,o=>match σ[l]? with
  | some (.box cs)=>.rptr ((vwL (seen σ g k) g cs).drop o)
  | _=>.any
def vwO (rf:Bool→Nat→Nat→A)(g:Nat→Option Nat):AObj→AObj
 | .dead=>.dead
 | .box cs=>.box (vwL rf g cs)
 | .row fz e sz n cs=>.row fz e sz n (vwL rf g cs)
 | .lp b r M es=>.lp b r M (es.map fun p=>(p.1,vw rf g p.2))
 | .mp fr nk es=>.mp fr nk (es.map fun p=>(p.1,vw rf g p.2))
 | .it m n met=>match g m with
  | some i=>.it i n met
  | none=>.dead
 | .rsv=>.rsv
def zG1:AObj→AObj
 | .dead=>.dead
 | .box cs=>.box (qV cs)
 | .row fz e sz n cs=>.row fz e sz n (qV cs)
 | .lp b r M es=>.lp b r M (es.map fun p=>(p.1,nrm0 p.2))
 | .mp fr nk es=>.mp fr nk (es.map fun p=>(p.1,nrm0 p.2))
 | .it m n met=>.it m n met
 | .rsv=>.rsv
def qA:List Nat→Nat→Option Nat
 | [],_=>none
 | k::ks,l=>if l=k then some 0 else (qA ks l).map (· + 1)
theorem zIE:∀{ks:List Nat} {l i:Nat},qA ks l=some i→ks[i]?=some l
 | [],l,i,h=>by simp[qA]at h
 | k::ks,l,i,h=>by
  simp only[qA]at h;split at h
  ·cases h; rename_i h; simp[h]
  ·simp only[jAe]at h;obtain⟨j,hj,rfl⟩:=h
   simpa using zIE hj
theorem zKG:∀{ks:List Nat} {l:Nat},qA ks l=none→l∉ks
 | [],l,_=>by simp
 | k::ks,l,h=>by
  simp only[qA]at h;split at h
  ·cases h
  ·rename_i hne;simp only[Option.map_eq_none_iff]at h;simp[hne,zKG h]
section
variable {P:Program}{H H':Mem}{L L':List LI} {σ : St}{w:World}
theorem zIA:∀{ks:List Nat} {i j x:Nat},ks.Nodup→ks[i]?=some x→ks[j]?=some x→i=j
 | [],i,j,x,_,h,_=>by simp at h
 | k::ks,i,j,x,hd,h1,h2=>by
  rw[jD9]at hd;cases i with
  | zero =>
   cases j with
   | zero=>rfl
   | succ j =>
    simp only[jAx,jBf,jA0]at h1 h2;subst h1;exact(hd.1 (jC2 h2)).elim
  | succ i =>
   cases j with
   | zero =>
    simp only[jAx,jBf,jA0]at h1 h2;subst h2;exact(hd.1 (jC2 h1)).elim
   | succ j =>
    simp only[jBf]at h1 h2;rw[zIA hd.2 h1 h2]
mutual
theorem Rel.vw {rf:Bool→Nat→Nat→A}{g:Nat→Option Nat}(hh:HLe H H')(hg:∀l i,g l=some i→L'[i]?=L[l]?)(hr:∀l n v,g l=none→Rel H L (.row l n) v→Rel H' L' (rf false l n) v)(hp:∀l n v,g l=none→Rel H L (.ptr l n) v→Rel H' L' (rf true l n) v) :
 ∀(a:A) {v:Value},Rel H L a v→Rel H' L' (vw rf g a) v
 | .ptr l o,v,h=>by
  simp only[Abs.vw];split
  ·rename_i i hi;simp only[Rel]at h⊢;rw[hg l i hi];exact h
  ·rename_i hi;exact hp l o v hi h
 | .row l n,v,h=>by
  simp only[Abs.vw];split
  ·rename_i i hi;simp only[Rel]at h⊢;rw[hg l i hi];exact h
  ·rename_i hi;exact hr l n v hi h
 | .rwp l n o,v,h=>by
  simp only[Abs.vw];split
  ·rename_i i hi;simp only[Rel]at h⊢;rw[hg l i hi];exact h
  ·simp[Rel]
 | .map l,v,h=>by
  simp only[Abs.vw];split
  ·rename_i i hi;simp only[Rel]at h⊢;rw[hg l i hi];exact h
  ·simp[Rel]
 | .win l n o k c,v,h=>by
  simp only[Abs.vw];split
  ·rename_i i hi;simp only[Rel]at h⊢;rw[hg l i hi];exact h
  ·rename_i hi;simp only[Rel]at h;obtain⟨h0,li,e,h1,h2,h3⟩:=h;by_cases hn:n=li.len
   ·obtain⟨g0,ad,cap,rfl,g1,g2,g3⟩:=h3 hn;have h4:=hr l n (match li.block with | none=>.slice none 0 0 | some b=>.slice (some ⟨b,0,none⟩) n li.cap) hi (by
     simp only[Rel];exact⟨by split<;>rfl,li,e,h1,h2,fun _=>rfl⟩)
    generalize rf false l n=x at h4;cases x<;>simp only[zS1]<;>try (simp only[Rel]; done)
    rename_i n' cs;split
    ·rename_i hk;subst hk;simp only[Rel];exact⟨ad,cap,rfl,jAs _,g2,.inl (by simp)⟩
    ·rename_i hk;replace g3:=zSk g1 g3;rcases g3 with g3 | ⟨b,g3,rfl⟩
     ·exact(hk g3).elim
     ·simp only[g3,Rel]at h4 ⊢;obtain⟨a',cap',k1,k2,k3,k4⟩:=h4;simp only[Value.slice.injEq]at k1;obtain⟨rfl,rfl,rfl⟩:=k1;refine⟨_,cap,rfl,g1,g2,?_⟩;rcases k4 with ⟨rfl,rfl⟩ | ⟨b',o',us,k5,k6,k7,k8⟩
      ·omega
      ·cases k5;refine .inr ⟨b,o,_,rfl,(k6.drop o).take (k*c),zAX k7,?_⟩;have:=(k8.drop o).take (k*c)
       rwa [jAq]at this
   ·have h4:=hr l n (.bool true) hi (by
     simp only[Rel];exact⟨rfl,li,e,h1,h2,fun e=>(hn e).elim⟩)
    generalize rf false l n=x at h4;cases x<;>simp only[zS1]<;>try (simp only[Rel]; done)
    simp only[Rel]at h4;obtain⟨_,_,h4,_⟩:=h4;cases h4
 | .agg cs,v,h=>by simp only[Rel,Abs.vw]at h⊢;obtain⟨vs,rfl,h1,h2⟩:=h;exact⟨vs,rfl,zQ.vw hh hg hr hp cs h1,h2⟩
 | .tup cs,v,h=>by simp only[Rel,Abs.vw]at h⊢;obtain⟨vs,rfl,h1⟩:=h;exact⟨vs,rfl,zQ.vw hh hg hr hp cs h1⟩
 | .sl n cs,v,h=>by
  simp only[Rel,Abs.vw]at h⊢;obtain⟨a,cap,rfl,h1,h2,h3⟩:=h;refine⟨a,cap,rfl,h1,h2,?_⟩;rcases h3 with ⟨h3,rfl⟩ | ⟨b,o,us,rfl,h4,h5,h6⟩
  ·exact .inl ⟨h3,by simp[vwL]⟩
  ·exact .inr ⟨b,o,us,rfl,zQ.vw hh hg hr hp cs h4,h5,h6.mono hh⟩
 | .fsl n cs,v,h=>by
  simp only[Rel,Abs.vw]at h⊢;obtain⟨a,rfl,h1,h3⟩:=h;refine⟨a,rfl,h1,?_⟩;rcases h3 with ⟨h3,rfl⟩ | ⟨b,o,us,rfl,h4,h5,h6⟩
  ·exact .inl ⟨h3,by simp[vwL]⟩
  ·exact .inr ⟨b,o,us,rfl,zQ.vw hh hg hr hp cs h4,h5,h6.mono hh⟩
 | .rptr cs,v,h=>by simp only[Rel,Abs.vw]at h⊢;obtain⟨b,o,us,rfl,h4,h5,h6⟩:=h;exact⟨b,o,us,rfl,zQ.vw hh hg hr hp cs h4,h5,h6.mono hh⟩
 | .clo f first cap,v,h=>by simp only[Rel,Abs.vw]at h⊢;obtain⟨fs,cs,rfl,h1,h2⟩:=h;exact⟨fs,cs,rfl,zQ.vw hh hg hr hp first h1,zQ.vw hh hg hr hp cap h2⟩
 | .any,_,_=>by simp[Rel,Abs.vw]
 | .nil,_,h=>by simpa [Rel,Abs.vw] using h
 | .lit _,_,h=>by simpa [Rel,Abs.vw] using h
theorem zQ.vw {rf:Bool→Nat→Nat→A}{g:Nat→Option Nat}(hh:HLe H H')(hg:∀l i,g l=some i→L'[i]?=L[l]?)(hr:∀l n v,g l=none→Rel H L (.row l n) v→Rel H' L' (rf false l n) v)(hp:∀l n v,g l=none→Rel H L (.ptr l n) v→Rel H' L' (rf true l n) v) :
 ∀(cs:List A) {vs:List Value},zQ H L cs vs→zQ H' L' (vwL rf g cs) vs
 | [],vs,h=>by simpa [zQ,vwL] using h
 | c::cs,vs,h=>by simp only[zQ,vwL]at h⊢;obtain⟨u,us,rfl,h1,h2⟩:=h;exact⟨u,us,rfl,Rel.vw hh hg hr hp c h1,zQ.vw hh hg hr hp cs h2⟩
end
def AObj.held:AObj→Nat
 | .row _ _ sz n _=>n*sz
 | .box cs=>cs.length
 | _=>0
def zNd (g:Nat→Option Nat)(L:List LI) (σ : St)(b o:Nat):Prop :=
 ∃(i:Nat) (li:LI) (ob:AObj),g i=none∧L[i]?=some li∧σ[i]?=some ob∧li.block=some b∧o<ob.held
open Classical in
noncomputable def zKr (g:Nat→Option Nat) (H:Mem) (L:List LI) (σ : St) (w:World):Mem:=⟨fun b o=>match H b o with
 | some v=>some v
 | none=>if zNd g L σ b o then w.cell? ⟨b,o,none⟩ else none,fun b o v h=>by simp only[H.2 b o v h]⟩
open Classical in
theorem zEP (g:Nat→Option Nat)(H:Mem)(L:List LI) (σ : St)(w:World)(b o:Nat):zKr g H L σ w b o=match H b o with
 | some v=>some v
 | none=>if zNd g L σ b o then w.cell? ⟨b,o,none⟩ else none:=rfl
theorem zEQ {g:Nat→Option Nat}:HLe H (zKr g H L σ w):=fun b o v h=>by rw[zEP,h]
theorem zOG {g:Nat→Option Nat}{b o:Nat}{v:Value}(h:zKr g H L σ w b o=some v):H b o=some v∨(zNd g L σ b o∧w.cell? ⟨b,o,none⟩=some v):=by
 rw[zEP]at h;split at h
 ·rename_i u hu; cases h; exact .inl hu
 ·split at h
  ·rename_i hr; exact .inr ⟨hr,h⟩
  ·cases h
theorem zOH {g:Nat→Option Nat}(hs:RelSt H L σ w){b o:Nat}{v:Value}(hx:zNd g L σ b o)(hc:w.cell? ⟨b,o,none⟩=some v):zKr g H L σ w b o=some v:=by
 rw[zEP];split
 ·rename_i x hx;have:=hs.pers b o x hx;rw[hc]at this;exact this.symm
 ·rw[if_pos hx];exact hc
theorem Rel.seen {g:Nat→Option Nat}(hs:RelSt H L σ w)(hg:∀l i,g l=some i→L'[i]?=L[l]?) :
 ∀(k:Nat),(∀(l n:Nat) (v:Value),g l=none→Rel H L (.row l n) v→Rel (zKr g H L σ w) L' (seen σ g k false l n) v)∧∀(l n:Nat) (v:Value),g l=none→Rel H L (.ptr l n) v→Rel (zKr g H L σ w) L' (seen σ g k true l n) v
 | 0=>⟨fun l n v _ _=>by simp[Abs.seen,Rel],fun l n v _ _=>by simp[Abs.seen,Rel]⟩
 | k+1=>by
  obtain⟨ih1,ih2⟩:=Rel.seen hs hg k;refine⟨fun l n v hl h=>?_,fun l n v hl h=>?_⟩
  ·simp only[Abs.seen];split
   ·rename_i fz e sz m cs hσ;split
    ·rename_i hn;subst hn;simp only[Rel]at h⊢;obtain⟨_,li,e1,e2,e3,hv⟩:=h;have hob:=hs.obj l li _ e1 hσ;simp only[zN]at hob;obtain⟨_,g1,g2,hob⟩:=hob;have hv:=hv g1.symm;rcases hob with ⟨hb,h0⟩ | ⟨b,cur,hb,k1,k2,k3,k4,k5,k6,k7⟩
     ·rw[hb]at hv;subst h0;have hcs:cs=[]:=jBn (by simpa using g2);exact⟨none,0,hv,jA _,jAs _,.inl ⟨rfl,by simp[hcs,vwL]⟩⟩
     ·rw[hb]at hv;refine⟨_,_,hv,k2,k3,.inr ⟨b,0,_,rfl,zQ.vw zEQ hg ih1 ih2 cs k5,k6,fun j u hu=>?_⟩⟩;have hj:j<n*sz:=by
       rw[jB6]at hu;split at hu
       ·assumption
       ·cases hu
      have hc:w.cell? ⟨b,j,none⟩=some u:=by
       rw[cell_of_row w b j cur e (0,0) k1];rw[jB6,if_pos hj]at hu
       simpa using hu
      simp only[jAq];exact zOH hs ⟨l,li,_,hl,e1,hσ,hb,hj⟩ hc
    ·simp[Rel]
   ·simp[Rel]
  ·simp only[Abs.seen];split
   ·rename_i cs hσ;simp only[Rel]at h⊢;obtain⟨li,b,e1,e2,e3,hv⟩:=h;have hob:=hs.obj l li _ e1 hσ;simp only[zN]at hob;obtain⟨_,b',vs,e,hb',hh,hr,h1,_⟩:=hob;rw[e2]at hb';cases hb';refine⟨b,n,vs.drop n,hv,(zQ.vw zEQ hg ih1 ih2 cs hr).drop n,fun u hu=>h1 u (jBm hu),fun j u hu=>?_⟩;rw[jD1]at hu;have hlt:n+j<cs.length:=by rw[←hr.length];exact(jA1.1 hu).1
    refine zOH hs ⟨l,li,_,hl,e1,hσ,e2,hlt⟩ ?_;rw[cell_of_row w b _ _ e (0,0) hh]
    simpa using hu
   ·simp[Rel]
def yR (σ : St)(rf:Bool→Nat→Nat→A)(g:Nat→Option Nat):List Nat→St→Prop
 | [],[]=>True
 | j::js,o'::os=>(match σ[j]? with
  | some o=>o'=vwO rf g o∨o'=zG1 (vwO rf g o)
  | none=>False)∧yR σ rf g js os
 | _,_=>False
theorem zEv {rf:Bool→Nat→Nat→A}{g:Nat→Option Nat}:∀{ks:List Nat} {σ':St},yR σ rf g ks σ'→σ'.length=ks.length
 | [],[],_=>rfl
 | _::_,_::_,h=>by simp[zEv h.2]
theorem zEu {rf:Bool→Nat→Nat→A}{g:Nat→Option Nat}:∀{ks:List Nat} {σ':St},yR σ rf g ks σ'→∀{i j:Nat} {o':AObj},ks[i]?=some j→σ'[i]?=some o'→∃o,σ[j]?=some o∧(o'=vwO rf g o∨o'=zG1 (vwO rf g o))
 | [],[],_,i,j,o',h,_=>by simp at h
 | k::ks,p::σ',h,i,j,o',h1,h2=>by
  cases i with
  | zero =>
   simp only[jAx,jA0]at h1 h2;subst h1; subst h2;have:=h.1;split at this
   ·rename_i o ho; exact⟨o,ho,this⟩
   ·exact this.elim
  | succ i =>
   simp only[jBf]at h1 h2;exact zEu h.2 h1 h2
theorem zN.nrm {li:LI}{o:AObj}(h:zN H L w li o):zN H L w li (zG1 o):=by
 cases o with
 | dead=>trivial
 | box cs =>
  simp only[zN,zG1]at h⊢;obtain⟨h0,b,vs,e,h1,h2,h3,h4,h5⟩:=h;exact⟨h0,b,vs,e,h1,h2,zQ.nrm0 _ h3,h4,h5⟩
 | row fz e sz n cs =>
  simp only[zN,zG1]at h⊢;obtain⟨h0,h1,h2,h3⟩:=h;have hl:∀cs:List A,(qV cs).length=cs.length:=fun cs=>by induction cs with
   | nil=>rfl
   | cons c cs ih=>simp[qV,ih]
  refine⟨h0,h1,by rw[hl]; exact h2,?_⟩;rcases h3 with h3 | ⟨b,cur,g1,g2,g3,g4,g5,g6,g7,g8⟩
  ·exact .inl h3
  ·exact .inr ⟨b,cur,g1,g2,g3,g4,g5,zQ.nrm0 _ g6,g7,g8⟩
 | lp b r M es =>
  simp only[zN,zG1]at h⊢;obtain⟨h0,h1,tmps,h2,h3,h4⟩:=h;exact⟨h0,h1,tmps,h2,h3,h4.map _ fun a v ha=>Rel.nrm0 a ha⟩
 | mp fr nk es =>
  simp only[zN,zG1]at h⊢;obtain⟨h0,b,ents,ck,h1,h2,h3,h4⟩:=h;exact⟨h0,b,ents,ck,h1,h2,zAk.map _ (fun p _ v hv=>Rel.nrm0 _ hv) h3,h4.1,zKx h4.2⟩
 | it m n met=>exact h
 | rsv=>exact h
theorem zHr {rf:Bool→Nat→Nat→A}{g:Nat→Option Nat}:∀{cs:List A},(vwL rf g cs).length=cs.length
 | []=>rfl
 | c::cs=>by simp[vwL,zHr]
theorem zRU {H0:Mem}{L0:List LI}{w0:World}(ks:List Nat)(fuel:Nat) {σ':St}(hk:∀i,i<L0.length→ks[i]?=some i)(hd:ks.Nodup)
 (ho:yR σ (Abs.seen σ (qA ks) fuel) (qA ks) ks σ')(h:Nxt H0 L0 w0 H L σ w) :
 ∃H' L',Nxt H0 L0 w0 H' L' σ' w∧HLe H H'∧∀a v,Rel H L a v→Rel H' L' (Abs.vw (Abs.seen σ (qA ks) fuel) (qA ks) a) v:=by
 have hs:=h.st;let g:=qA ks;let L':List LI:=ks.map fun k=>L.getD k ⟨none,0,0,false⟩
 have hin:∀(i j:Nat),ks[i]?=some j→∃li,L[j]?=some li∧L'[i]?=some li:=by
  intro i j hij;have hi:i < σ'.length:=by rw[zEv ho]; exact(jA1.1 hij).1
  obtain⟨o,hσ,_⟩:=zEu ho hij (jA2 hi);have hj:j<L.length:=by rw[hs.len]; exact(jA1.1 hσ).1
  refine⟨L[j],jA2 hj,?_⟩;simp[L',hij,hj]
 have hback:∀{i:Nat} {li:LI},L'[i]?=some li→∃j,ks[i]?=some j∧L[j]?=some li:=by
  intro i li hi;have hi':i<ks.length:=by simpa [L'] using (jA1.1 hi).1
  obtain⟨li',h1,h2⟩:=hin i ks[i] (jA2 hi');rw[hi]at h2;cases h2;exact⟨_,jA2 hi',h1⟩
 have hg:∀l i,g l=some i→L'[i]?=L[l]?:=by intro l i hl;obtain⟨li,h1,h2⟩:=hin i l (zIE hl);rw[h1,h2]
 have hrel:∀a v,Rel H L a v→Rel (zKr g H L σ w) L' (Abs.vw (Abs.seen σ g fuel) g a) v:=fun a v ha=>Rel.vw zEQ hg (Rel.seen hs hg fuel).1 (Rel.seen hs hg fuel).2 a ha
 have hrelL:∀cs vs,zQ H L cs vs→zQ (zKr g H L σ w) L' (vwL (Abs.seen σ g fuel) g cs) vs:=fun a v ha=>zQ.vw zEQ hg (Rel.seen hs hg fuel).1 (Rel.seen hs hg fuel).2 a ha
 have hkeep:∀(j:Nat) (li:LI) (b:Nat),j∈ks→L[j]?=some li→li.block=some b→∀o,zKr g H L σ w b o=H b o:=by
  intro j li b hj hL hb o;rw[zEP];cases hH:H b o with
  | some v=>rfl
  | none =>
   simp only;rw[if_neg];rintro⟨i,li',ob,g1,g2,g3,g4,g5⟩;have:=hs.inj i j li' li b g2 hL g4 hb;subst this;exact zKG g1 hj
 refine⟨zKr g H L σ w,L',⟨⟨fun b o v hv=>(zOG hv).elim (hs.pers b o v) fun h=>h.2,by simp[L',zEv ho],fun i li o hL hσ=>?_,fun i j x y b hi hj hx hy=>?_,fun i li b hi hb=>?_⟩,
  ⟨h.step.os,h.step.tape,h.step.output,h.step.size,h.step.keep,h.step.hle.trans zEQ,fun b o v hv=>?_,h.step.drawn,h.step.dfr⟩,fun i x hx=>?_,fun b ⟨i,x,hi,hx⟩=>?_⟩,zEQ,hrel⟩
 ·obtain⟨j,hj,hLj⟩:=hback hL;obtain⟨o0,hσ0,heq⟩:=zEu ho hj hσ;have hob:=hs.obj j li o0 hLj hσ0;have hjm:j∈ks:=jC2 hj;have key:zN (zKr g H L σ w) L' w li (vwO (Abs.seen σ g fuel) g o0):=by
   cases o0 with
   | dead=>trivial
   | box cs =>
    simp only[zN,vwO]at hob ⊢;obtain⟨h0,b,vs,e,h1,h2,h3,h4,h5⟩:=hob;exact⟨h0,b,vs,e,h1,h2,hrelL _ _ h3,h4,fun o=>by rw[hkeep j li b hjm hLj h1]; exact h5 o⟩
   | row fz e sz n cs =>
    simp only[zN,vwO]at hob ⊢;obtain⟨h0,h1,h2,h3⟩:=hob;refine⟨h0,h1,by rw[zHr]; exact h2,?_⟩;rcases h3 with h3 | ⟨b,cur,g1,g2,g3,g4,g5,g6,g7,g8⟩
    ·exact .inl h3
    ·refine .inr ⟨b,cur,g1,g2,g3,g4,g5,hrelL _ _ g6,g7,?_⟩;cases fz with
     | false=>exact fun o=>by rw[hkeep j li b hjm hLj g1]; exact g8 o
     | true=>exact⟨g8.1.mono zEQ,fun o ho=>by rw[hkeep j li b hjm hLj g1]; exact g8.2 o ho⟩
   | lp b r M es =>
    simp only[zN,vwO]at hob ⊢;obtain⟨h0,h1,tmps,h2,h3,h4⟩:=hob;exact⟨h0,h1,tmps,h2,h3,h4.map _ hrel⟩
   | mp fr nk es =>
    simp only[zN,vwO]at hob ⊢;obtain⟨h0,b,ents,ck,h1,h2,h3,h4⟩:=hob;exact⟨h0,b,ents,ck,h1,h2,zAk.map _ (fun p _ v hv=>hrel _ _ hv) h3,h4.1,zKx h4.2⟩
   | it m n met =>
    simp only[vwO];split
    ·rename_i i0 hi0;simp only[zN]at hob ⊢;obtain⟨h0,b,mb,lm,h1,h2,h3,h4,h5⟩:=hob;have hp:Rel H L (.ptr m 0) (.pointer (some ⟨mb,0,none⟩)):=by simp only[Rel]; exact⟨lm,mb,h2,h3,h4,rfl⟩
     have hp:=hrel _ _ hp;simp only[Abs.vw,hi0,Rel]at hp;obtain⟨lm',mb',k2,k3,k4,k5⟩:=hp;cases k5;exact⟨h0,b,mb,lm',h1,k2,k3,k4,h5⟩
    ·trivial
   | rsv=>exact hob
  rcases heq with rfl | rfl
  ·exact key
  ·exact key.nrm
 ·obtain⟨i',hi',hLi⟩:=hback hi;obtain⟨j',hj',hLj⟩:=hback hj;have:=hs.inj i' j' x y b hLi hLj hx hy;subst this;have hi1:=(jA1.1 hi').1;have hj1:=(jA1.1 hj').1;exact zIA hd hi' hj'
 ·obtain⟨j,_,hLj⟩:=hback hi;exact hs.lt j li b hLj hb
 ·rcases zOG hv with h1 | ⟨⟨i,li,_,_,hL,_,hb,_⟩,_⟩
  ·exact h.step.hnew b o v h1
  ·exact .inr (h.own b ⟨i,li,hL,hb⟩)
 ·obtain⟨x',hx',hr⟩:=h.lle i x hx;have hi:i<L0.length:=(jA1.1 hx).1;obtain⟨li,h1,h2⟩:=hin i i (hk i hi);rw[hx']at h1;cases h1;exact⟨_,h2,hr⟩
 ·obtain⟨j,_,hLj⟩:=hback hi;exact h.own b ⟨j,x,hLj,hx⟩
theorem zA4.sel {n0:Nat}{env:Env}(ks:List Nat)(fuel:Nat)(l:List (Nat×A)) {σ':St}(hk:∀i,i<n0→ks[i]?=some i)(hd:ks.Nodup)(ho:yR σ (Abs.seen σ (qA ks) fuel) (qA ks) ks σ')
 (hl:∀p∈l,p.2=Abs.vw (Abs.seen σ (qA ks) fuel) (qA ks) (env p.1)∨p.2=nrm0 (Abs.vw (Abs.seen σ (qA ks) fuel) (qA ks) (env p.1))):zA4 n0 (qU l) σ' env σ:=by
 intro H0 L0 w0 H L w N tmps h0 h1 h2;subst h0;obtain⟨H',L',g1,_,g3⟩:=zRU ks fuel hk hd ho h1;refine⟨H',L',g1,h2.1,fun t=>?_⟩;rcases zDi l t with h | h
 ·rw[h]; simp[Rel]
 ·have:=g3 _ _ (h2.2 t);rcases hl _ h with e | e
  ·simp only at e; rw[e]; exact this
  ·simp only at e; rw[e]; exact Rel.nrm0 _ this
end
end Go.Abs
