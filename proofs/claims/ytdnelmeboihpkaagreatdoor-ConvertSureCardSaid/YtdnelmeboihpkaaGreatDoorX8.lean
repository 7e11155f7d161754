/-
  The rules by which a walk over abstract states goes on, for simp.
  A choice of levels is kept; rows that are not kept become persistent.
-/
import Derived.Test.YtdnelmeboihpkaaGreatDoorX7
set_option linter.unusedVariables false
set_option maxHeartbeats 8000000
set_option maxRecDepth 100000
set_option linter.unusedSimpArgs false
namespace Go.Abs
def qOR (o:Option A)(d:Option Nat)(K:Env→St→Prop)(env:Env) (σ : St):Prop:=match o with
 | some r=>K (env.put d r) σ
 | none=>False
def qOQ (o:Option A)(d:Option Nat)(K:Env→Prop)(env:Env):Prop:=match o with
 | some r=>K (env.put d r)
 | none=>False
def zUk (o:Option (List A))(J:List A→Prop):Prop:=match o with
 | some r=>J r
 | none=>False
def qCI (o:Option St)(J:St→Prop):Prop:=match o with
 | some r=>J r
 | none=>False
section
variable {P:Program}{n0:Nat}{Qp:Value→Env→St→Prop}{Qd:Value→St→Prop}{K':Env→St→Prop}{KD:Env→Prop}{Q:Ex→Env→St→Prop}{env:Env} {σ : St}{d d':Option Nat}{x y z:Operand}
@[simp] theorem qEK {r:A}:qOR (some r) d K' env σ = K' (env.put d r) σ:=rfl
@[simp] theorem qEI {r:A}:qOQ (some r) d KD env=KD (env.put d r):=rfl
@[simp] theorem qEH {r:List A}{J:List A→Prop}:zUk (some r) J=J r:=rfl
@[simp] theorem qEL {r:St}{J:St→Prop}:qCI (some r) J=J r:=rfl
@[simp] theorem qJu {r:A}:env.put none r=env:=rfl
@[simp] theorem zYL {i t:Nat}{r:A}:(env.put (some i) r) t=if t=i then r else env t:=rfl
@[simp] theorem qOE {t:Nat}:ev env (.tmp t)=env t:=rfl
@[simp] theorem qLu {f:FuncId}:ev env (.func f)=.clo f [] []:=rfl
@[simp] theorem qOC {k:IntKind}{n:Int}:ev env (.const (.int k n))=.lit (.int k n):=rfl
@[simp] theorem qLt {b:Bool}:ev env (.const (.bool b))=.lit (.bool b):=rfl
@[simp] theorem qEl {s:ByteArray}:ev env (.const (.string s))=.lit (.string s):=rfl
@[simp] theorem qOD:ev env (.const (.slice none 0 0))=.nil:=rfl
@[simp] theorem qBY:ev env (.const .nilFunc)=.lit .nilFunc:=rfl
@[simp] theorem qEk:ev env (.const (.pointer none))=.lit (.pointer none):=rfl
@[simp] theorem qOB {l:List Value}:ev env (.const (.agg ⟨l⟩))=if zAk l then .agg (l.map qN) else .any:=rfl
@[simp] theorem qAG:zAk []=true:=rfl
@[simp] theorem zYF {v:Value}{l:List Value}:zAk (v::l)=(v.oneCell'&&zAk l):=rfl
@[simp] theorem qLI {k:IntKind}{n:Int}:(Value.int k n).oneCell'=true:=rfl
@[simp] theorem qJn {b:Bool}:(Value.bool b).oneCell'=true:=rfl
@[simp] theorem qCH {s:ByteArray}:(Value.string s).oneCell'=true:=rfl
@[simp] theorem qEG {a:Option Addr}{n c:Nat}:(Value.slice a n c).oneCell'=true:=rfl
@[simp] theorem qAI {a:Option Addr}:(Value.pointer a).oneCell'=true:=rfl
@[simp] theorem qAH:(Value.nilFunc).oneCell'=true:=rfl
@[simp] theorem qLJ {r:Option Nat}:(Value.map r).oneCell'=true:=rfl
@[simp] theorem qCF {k:IntKind}{n:Int}:qN (.int k n)=.lit (.int k n):=rfl
@[simp] theorem qAE {b:Bool}:qN (.bool b)=.lit (.bool b):=rfl
@[simp] theorem zXw {s:ByteArray}:qN (.string s)=.lit (.string s):=rfl
@[simp] theorem qCG:qN (.slice none 0 0)=.nil:=rfl
@[simp] theorem zW8:qN .nilFunc=.lit .nilFunc:=rfl
@[simp] theorem zXv:qN (.pointer none)=.lit (.pointer none):=rfl
@[simp] theorem zXu:qN (.map none)=.lit (.map none):=rfl
@[simp] theorem zZW:cellsOf .nil=some [.nil]:=rfl
@[simp] theorem zZR {cs:List A}:cellsOf (.agg cs)=some cs:=rfl
@[simp] theorem zZU {v:Value}:cellsOf (.lit v)=if v.oneCell' then some [.lit v] else none:=rfl
@[simp] theorem qBF {n:Nat}{cs:List A}:cellsOf (.sl n cs)=some [.sl n cs]:=rfl
@[simp] theorem zZT {n:Nat}{cs:List A}:cellsOf (.fsl n cs)=some [.fsl n cs]:=rfl
@[simp] theorem zZY {l n:Nat}:cellsOf (.row l n)=some [.row l n]:=rfl
@[simp] theorem zZX {l n:Nat}:cellsOf (.ptr l n)=some [.ptr l n]:=rfl
@[simp] theorem zZV {l:Nat}:cellsOf (.map l)=some [.map l]:=rfl
@[simp] theorem qAb {l n o k c:Nat}:cellsOf (.win l n o k c)=some [.win l n o k c]:=rfl
@[simp] theorem zZZ {l n o:Nat}:cellsOf (.rwp l n o)=some [.rwp l n o]:=rfl
@[simp] theorem zXF {cs:List A}:cellsOf (.rptr cs)=some [.rptr cs]:=rfl
@[simp] theorem zZS {f:FuncId}{a b:List A}:cellsOf (.clo f a b)=some [.clo f a b]:=rfl
@[simp] theorem qCJ {cs:List A}:zBx true cs=some (.agg cs):=rfl
@[simp] theorem qAJ {c:A}:zBx false [c]=some c:=rfl
@[simp] theorem qI4 {cs:List A}{n:Nat}:ldA σ n (.rptr cs)=sub cs 0 n:=rfl
def qAv:Option AObj→Nat→Nat→Option (List A)
 | some (.box cs),off,n=>sub cs off n
 | _,_,_=>none
def qAw:Option AObj→Nat→Nat→Nat→Option (List A)
 | some (.row _ _ _ k cs),m,off,n=>if m=k then sub cs off n else none
 | _,_,_,_=>none
@[simp] theorem qCs {cs:List A}{off n:Nat}:qAv (some (.box cs)) off n=sub cs off n:=rfl
@[simp] theorem qCt {fz:Bool}{e:TypeId}{s k:Nat}{cs:List A}{m off n:Nat}:qAw (some (.row fz e s k cs)) m off n=if m=k then sub cs off n else none:=rfl
@[simp] theorem qL3 {l off n:Nat}:ldA σ n (.ptr l off)=qAv σ[l]? off n:=by
 simp only[ldA];cases σ[l]? with
 | none=>rfl
 | some o=>cases o<;>rfl
@[simp] theorem qL4 {l m off n:Nat}:ldA σ n (.rwp l m off)=qAw σ[l]? m off n:=by
 simp only[ldA];cases σ[l]? with
 | none=>rfl
 | some o=>cases o<;>rfl
@[simp] theorem qOX {cs:List A}{off n:Nat}:sub cs off n=if off+n≤cs.length then some ((cs.drop off).take n) else none:=rfl
def qAP:Option AObj→St→List A→Nat→Nat→Option St
 | some (.box ds),σ,cs,l,off=>if off+cs.length≤ds.length then some (σ.set l (.box (ds.take off++cs++ds.drop (off+cs.length)))) else none
 | _,_,_,_,_=>none
def qAQ:Option AObj→St→List A→Nat→Nat→Nat→Option St
 | some (.row false e sz k ds),σ,cs,l,m,off=>if m=k∧off+cs.length≤ds.length then some (σ.set l (.row false e sz k (ds.take off++cs++ds.drop (off+cs.length)))) else none
 | _,_,_,_,_,_=>none
@[simp] theorem qDh {ds cs:List A}{l off:Nat}:qAP (some (.box ds)) σ cs l off=if off+cs.length≤ds.length then some (σ.set l (.box (ds.take off++cs++ds.drop (off+cs.length)))) else none:=rfl
@[simp] theorem qDi {e:TypeId}{sz k:Nat}{ds cs:List A}{l m off:Nat}:qAQ (some (.row false e sz k ds)) σ cs l m off=if m=k∧off+cs.length≤ds.length then some (σ.set l (.row false e sz k (ds.take off++cs++ds.drop (off+cs.length)))) else none:=rfl
@[simp] theorem qLV {cs:List A}{l off:Nat}:stA σ cs (.ptr l off)=qAP σ[l]? σ cs l off:=by
 simp only[stA];cases σ[l]? with
 | none=>rfl
 | some o=>cases o<;>rfl
@[simp] theorem qLW {cs:List A}{l m off:Nat}:stA σ cs (.rwp l m off)=qAQ σ[l]? σ cs l m off:=by
 simp only[stA];cases σ[l]? with
 | none=>rfl
 | some o =>
  cases o<;>try rfl
  rename_i fz e s n ds;cases fz<;>rfl
def qAL:Option AObj→Nat→Nat→(List A→Prop)→Prop
 | some (.row _ _ s m cs),n,sz,J=>n=m∧s=sz∧J cs
 | _,_,_,_=>False
@[simp] theorem zRF {fz:Bool}{e:TypeId}{s m n sz:Nat}{cs:List A}{J:List A→Prop}:qAL (some (.row fz e s m cs)) n sz J=(n=m∧s=sz∧J cs):=rfl
@[simp] theorem qDN {b:Bool}:(b==true)=b:=by cases b<;>rfl
@[simp] theorem qBP {A B:Env→St→Prop}:zFu true A B env σ = A env σ:=by simp[zFu]
@[simp] theorem qAi {A B:Env→St→Prop}:zFu false A B env σ = B env σ:=by simp[zFu]
@[simp] theorem qJC:zGn d K' env σ = K' (env.put d (.lit undef)) σ:=rfl
@[simp] theorem qJq {r:A}:zHp d env K' Qp (.ret r) σ = K' (env.put d r) σ:=rfl
@[simp] theorem qJp {v:Value}:zHp d env K' Qp (.pan v) σ = Qp v env σ:=rfl
@[simp] theorem qJQ {J:Env→St→Prop}:thn J Q .norm=J:=rfl
@[simp] theorem qLZ {J:Env→St→Prop}:thn J Q .ret=Q .ret:=rfl
@[simp] theorem qJP {J:Env→St→Prop}{i:Nat}:thn J Q (.exit i)=Q (.exit i):=rfl
@[simp] theorem qLY {J:Env→St→Prop}{v:Value}:thn J Q (.pan v)=Q (.pan v):=rfl
@[simp] theorem qGB {id:Nat}:blk id Q .norm=Q .norm:=rfl
@[simp] theorem qKs {id:Nat}:blk id Q .ret=Q .ret:=rfl
@[simp] theorem qGA {id i:Nat}:blk id Q (.exit i)=if i=id then Q .norm else Q (.exit i):=rfl
@[simp] theorem qKr {id:Nat}{v:Value}:blk id Q (.pan v)=Q (.pan v):=rfl
@[simp] theorem qLQ {I:Nat→Env→St→Prop}{n:Nat}:rnd n0 I n Q .ret=Q .ret:=rfl
@[simp] theorem qJ2 {I:Nat→Env→St→Prop}{n i:Nat}:rnd n0 I n Q (.exit i)=Q (.exit i):=rfl
@[simp] theorem qLP {I:Nat→Env→St→Prop}{n:Nat}{v:Value}:rnd n0 I n Q (.pan v)=Q (.pan v):=rfl
@[simp] theorem qIa {rs:List RS}{R:Out→St→Prop}:fin rs R .norm=zJJ rs R:=rfl
@[simp] theorem qLw {rs:List RS}{R:Out→St→Prop}:fin rs R .ret=zJJ rs R:=rfl
@[simp] theorem qLv {rs:List RS}{R:Out→St→Prop}{v:Value}:fin rs R (.pan v) env σ = R (.pan v) σ:=rfl
@[simp] theorem qER {t:Nat}{R:Out→St→Prop}:zJJ [.slot t] R env σ = R (.ret (env t)) σ:=rfl
@[simp] theorem qJ1 {t u:Nat}{R:Out→St→Prop}:zJJ [.slot t,.slot u] R env σ = R (.ret (.tup [env t,env u])) σ:=rfl
@[simp] theorem qCR {t u v:Nat}{R:Out→St→Prop}:zJJ [.slot t,.slot u,.slot v] R env σ = R (.ret (.tup [env t,env u,env v])) σ:=rfl
@[simp] theorem zX4 {a:A}{l:List A}:zCr (a::l) 0=a:=rfl
@[simp] theorem zX3 {a:A}{l:List A}{n:Nat}:zCr (a::l) (n+1)=zCr l n:=by simp[zCr]
@[simp] theorem zZJ {n:Nat}:zCr [] n=.lit undef:=by simp[zCr]
@[simp] theorem qD9 {k:K}{rs:List RS}{args:List A}{R:Out→St→Prop}:wpF P k rs args σ R=wpK P σ.length k (fin rs R) (zCr args) σ:=rfl
@[simp] theorem qKj:wpK P n0 .skip Q env σ = Q .norm env σ:=rfl
@[simp] theorem qMt:wpK P n0 .ret Q env σ = Q .ret env σ:=rfl
@[simp] theorem qKh {i:Nat}:wpK P n0 (.exit i) Q env σ = Q (.exit i) env σ:=rfl
@[simp] theorem qMv {a b:K}:wpK P n0 (.seq a b) Q env σ = wpK P n0 a (thn (wpK P n0 b Q) Q) env σ:=rfl
@[simp] theorem qFH {i:Nat}{a:K}:wpK P n0 (.block i a) Q env σ = wpK P n0 a (blk i Q) env σ:=rfl
@[simp] theorem qKi {a:K}:wpK P n0 (.loop a) Q env σ = zOm n0 (wpK P n0 a) Q env σ:=rfl
@[simp] theorem qDA {a:K}:wpK P n0 (.wk a) Q env σ = Wk n0 (wpK P n0 a Q) env σ:=rfl
@[simp] theorem qMs {l:List KG}:wpK P n0 (.ops l) Q env σ = zC7 P (fun v=>Q (.pan v)) (Q .norm) l env σ:=rfl
@[simp] theorem qKg {l:List (Nat×Nat×KG)}:wpK P n0 (.dops l) Q env σ = wpD P (zLf Q) (Q .norm) l env σ:=rfl
@[simp] theorem qMu {ps:List Nat}{a b:K}:wpK P n0 (.rng x ps a b) Q env σ = qBf P n0 x ps (fun n=>wpK P n a) (fun n=>wpK P n b) Q env σ:=rfl
@[simp] theorem qDK {S:St}{J:Env→St→Prop}:zX5 S J .norm env σ = (σ = S∧J env σ):=rfl
@[simp] theorem qEi {S:St}:zXQ n0 S .norm env σ = Wk n0 (fun _ σ'=>σ'=S) env σ:=rfl
@[simp] theorem qEN {xs:List A}:zGf env [] xs=env:=by cases xs<;>rfl
@[simp] theorem qCP {p:Nat}{ps:List Nat}{a:A}{xs:List A}:zGf env (p::ps) (a::xs)=zGf (env.put (some p) a) ps xs:=rfl
@[simp] theorem qBG {b:Nat}:cellsOf (yv b)=some [yv b]:=rfl
def qAj (a:A)(A B:Env→St→Prop)(env:Env) (σ : St):Prop:=match a with
 | .lit (.bool t)=>zFu t A B env σ
 | _=>False
@[simp] theorem qBQ {t:Bool}{A B:Env→St→Prop}:qAj (.lit (.bool t)) A B env σ = zFu t A B env σ:=rfl
@[simp] theorem qKf {a b:K}:wpK P n0 (.cond x a b) Q env σ = qAj (ev env x) (wpK P n0 a Q) (wpK P n0 b Q) env σ:=rfl
@[simp] theorem qFK:zC7 P Qp K' [] env σ = K' env σ:=rfl
@[simp] theorem qDD {o:KOp}{l:List KG}:zC7 P Qp K' (⟨none,o⟩::l) env σ = wpO P Qp (zC7 P Qp K' l) o env σ:=rfl
def zIH (a:A)(want:Bool)(A B:Env→St→Prop)(env:Env) (σ : St):Prop:=match a with
 | .lit (.bool b)=>zFu (b==want) A B env σ
 | .lit (.tuple _)=>B env σ
 | _=>False
@[simp] theorem qAq {b want:Bool}{A B:Env→St→Prop}:zIH (.lit (.bool b)) want A B env σ = zFu (b==want) A B env σ:=rfl
@[simp] theorem zYq {want:Bool}{A B:Env→St→Prop}:zIH (.lit undef) want A B env σ = B env σ:=rfl
@[simp] theorem qAV {s:Nat}{want:Bool}{o:KOp}{l:List KG}:zC7 P Qp K' (⟨some (s,want),o⟩::l) env σ = zIH (env s) want (wpO P Qp (zC7 P Qp K' l) o) (zGn o.dst (zC7 P Qp K' l)) env σ:=by
 simp only[zC7,wpG,zIH];generalize env s=a;cases a<;>try rfl
 all_goals (rename_i v; cases v<;>rfl)
def zSK (a:A)(x y:A)(J:A→Prop):Prop:=match a with
 | .lit (.bool t)=>J (if t then x else y)
 | _=>False
@[simp] theorem qCK {t:Bool}{a b:A}{J:A→Prop}:zSK (.lit (.bool t)) a b J=J (if t then a else b):=rfl
def zDk (o:Option A)(J:A→Prop):Prop:=match o with
 | some r=>J r
 | none=>False
@[simp] theorem qEJ {r:A}{J:A→Prop}:zDk (some r) J=J r:=rfl
theorem zE2 {o:Option A}{J:A→Prop}:qQ (o.map fun r=>(True,r)) J=zDk o J:=by cases o<;>simp[qQ,zDk]
@[simp] theorem qMC:wpO P Qp K' (.mov d x) env σ = K' (env.put d (ev env x)) σ:=by simp[wpO,qQ,zG,KOp.dst]
theorem zMN {J:A→Prop}:qQ (zG env σ (.pick d x y z)) J=zSK (ev env x) (ev env y) (ev env z) J:=by
 simp only[zG,zSK,qQ];generalize ev env x=a;cases a<;>try rfl
 rename_i v;cases v<;>simp
@[simp] theorem qKp:wpO P Qp K' (.pick d x y z) env σ = zSK (ev env x) (ev env y) (ev env z) fun r=>K' (env.put d r) σ:=zMN (d:=d)
@[simp] theorem qFI {zs:List Value}:wpO P Qp K' (.alloc d zs) env σ = K' (env.put d (.ptr σ.length 0)) (σ++[.box (zs.map qN)]):=rfl
@[simp] theorem qM0:wpO P Qp K' (.box d x) env σ = zUk (cellsOf (ev env x)) fun cs=>K' (env.put d (.ptr σ.length 0)) (σ++[.box cs]):=rfl
@[simp] theorem qPr {n:Nat}{agg:Bool}:wpO P Qp K' (.ld d x n agg) env σ = zDk ((ldA σ n (ev env x)).bind (zBx agg)) fun r=>K' (env.put d r) σ:=zE2
@[simp] theorem qPt {n:Nat}:wpO P Qp K' (.st d x y n) env σ = zUk (cellsOf (ev env y)) fun cs=>cs.length=n∧qCI (stA σ cs (ev env x)) fun σ'=>K' (env.put d (.lit undef)) σ':=by
 simp only[wpO,zUk,qCI];cases cellsOf (ev env y)with
 | none=>rfl
 | some cs =>
  simp only;by_cases h:cs.length=n
  ·simp only[h,if_true,true_and];cases stA σ cs (ev env x)<;>rfl
  ·simp[h]
def zH1 (σ : St)(off:Nat):A→Option A
 | .ptr l o=>some (.ptr l (o+off))
 | .rptr cs=>some (.rptr (cs.drop off))
 | .rwp l n o=>match σ[l]? with
  | some (.row _ _ _ m _)=>if n=m then some (.rwp l n (o+off)) else none
  | _=>none
 | _=>none
@[simp] theorem qDF {l o off:Nat}:zH1 σ off (.ptr l o)=some (.ptr l (o+off)):=rfl
@[simp] theorem qBj {cs:List A}{off:Nat}:zH1 σ off (.rptr cs)=some (.rptr (cs.drop off)):=rfl
theorem zGT {off:Nat}:zG env σ (.addr d x off)=(zH1 σ off (ev env x)).map fun r=>(True,r):=by
 simp only[zG];generalize ev env x=a;cases a<;>simp only[zH1]<;>try rfl
 rename_i l n o;cases σ[l]? with
 | none=>rfl
 | some ob =>
  cases ob<;>try rfl
  simp only;split<;>rfl
@[simp] theorem qKk {off:Nat}:wpO P Qp K' (.addr d x off) env σ = zDk (zH1 σ off (ev env x)) fun r=>K' (env.put d r) σ:=by show qQ (zG env σ (.addr d x off)) _=_;rw[zGT,zE2];rfl
def zFT (σ : St)(sz:Nat)(a i:A)(J:A→Prop):Prop:=match a,i with
 | .sl n cs,.lit (.int _ j)=>((0≤j∧j<n)∧j.toNat*sz<cs.length)∧J (.rptr (cs.drop (j.toNat*sz)))
 | .fsl n cs,.lit (.int _ j)=>((0≤j∧j<n)∧j.toNat*sz<cs.length)∧J (.rptr (cs.drop (j.toNat*sz)))
 | .row l n,.lit (.int _ j)=>match σ[l]? with
  | some (.row _ _ s m _)=>if n=m∧s=sz then (0≤j∧j<n)∧J (.rwp l n (j.toNat*sz)) else False
  | _=>False
 | .win l n o k' _,.lit (.int _ j)=>match σ[l]? with
  | some (.row _ _ s m _)=>if n=m∧s=sz then (0≤j∧j<k')∧J (.rwp l n (o+j.toNat*sz)) else False
  | _=>False
 | _,_=>False
theorem zMB {sz:Nat}{J:A→Prop}:qQ (zG env σ (.idx d x y sz)) J=zFT σ sz (ev env x) (ev env y) J:=by
 simp only[zG,zFT,qQ];generalize ev env x=a;generalize ev env y=b;cases a<;>cases b<;>try rfl
 all_goals (rename_i v; cases v<;>try rfl)
 ·rename_i l n k j;simp only;cases σ[l]? with
  | none=>rfl
  | some ob =>
   cases ob<;>try rfl
   rename_i fz e s m cs;by_cases h:n=m∧s=sz<;>simp[h]
 ·rename_i l n o k' c k j;simp only;cases σ[l]? with
  | none=>rfl
  | some ob =>
   cases ob<;>try rfl
   rename_i fz e s m cs;by_cases h:n=m∧s=sz<;>simp[h]
@[simp] theorem qM5 {sz:Nat}:wpO P Qp K' (.idx d x y sz) env σ = zFT σ sz (ev env x) (ev env y) fun r=>K' (env.put d r) σ:=zMB (d:=d)
@[simp] theorem qL0 {sz n:Nat}{cs:List A}{k:IntKind}{j:Int}{J:A→Prop}:zFT σ sz (.sl n cs) (.lit (.int k j)) J=(((0≤j∧j<n)∧j.toNat*sz<cs.length)∧J (.rptr (cs.drop (j.toNat*sz)))):=rfl
@[simp] theorem qIl {sz n:Nat}{cs:List A}{k:IntKind}{j:Int}{J:A→Prop}:zFT σ sz (.fsl n cs) (.lit (.int k j)) J=(((0≤j∧j<n)∧j.toNat*sz<cs.length)∧J (.rptr (cs.drop (j.toNat*sz)))):=rfl
def zHS (len sz:Nat)(a i:A)(J:A→Prop):Prop:=match a,i with
 | .ptr l o,.lit (.int _ j)=>(0≤j∧j<len)∧J (.ptr l (o+j.toNat*sz))
 | .rptr cs,.lit (.int _ j)=>((0≤j∧j<len)∧j.toNat*sz<cs.length)∧J (.rptr (cs.drop (j.toNat*sz)))
 | _,_=>False
@[simp] theorem zYu {len sz:Nat}{cs:List A}{k:IntKind}{j:Int}{J:A→Prop}:zHS len sz (.rptr cs) (.lit (.int k j)) J=(((0≤j∧j<len)∧j.toNat*sz<cs.length)∧J (.rptr (cs.drop (j.toNat*sz)))):=rfl
@[simp] theorem qAr {len sz l o:Nat}{k:IntKind}{j:Int}{J:A→Prop}:zHS len sz (.ptr l o) (.lit (.int k j)) J=((0≤j∧j<len)∧J (.ptr l (o+j.toNat*sz))):=rfl
theorem zNA {len sz:Nat}{J:A→Prop}:qQ (zG env σ (.idxarr d x y len sz)) J=zHS len sz (ev env x) (ev env y) J:=by
 simp only[zG,zHS,qQ];generalize ev env x=a;generalize ev env y=b;cases a<;>first
  | rfl
  | (cases b<;>first
   | rfl
   | (rename_i v; cases v<;>rfl))
@[simp] theorem qDC {len sz:Nat}:wpO P Qp K' (.idxarr d x y len sz) env σ = zHS len sz (ev env x) (ev env y) fun r=>K' (env.put d r) σ:=zNA (d:=d)
def zDH (op:BinOp)(a b:A)(J:A→Prop):Prop:=match a,b with
 | .lit (.int k m),.lit (.int k' n)=>if k=k' then (match zDT op k m n with | some (p,r)=>p∧J r | none=>False) else False
 | .lit (.string s),.lit (.string t)=>(match zXd op s t with | some (p,r)=>p∧J r | none=>False)
 | _,_=>False
theorem zTc {op:BinOp}{J:A→Prop}:qQ (zG env σ (.bin d op x y)) J=zDH op (ev env x) (ev env y) J:=by
 simp only[zG,zDH,qQ];generalize ev env x=a;generalize ev env y=b;cases a<;>try rfl
 rename_i u;cases b<;>try (cases u<;>rfl)
 rename_i v;cases u<;>cases v<;>try rfl
 case lit.lit.int.int k m k' n =>
  by_cases h:k=k'
  ·simp only[h,if_true];cases zDT op k' m n<;>rfl
  ·simp[h]
@[simp] theorem qMz {op:BinOp}:wpO P Qp K' (.bin d op x y) env σ = zDH op (ev env x) (ev env y) fun r=>K' (env.put d r) σ:=zTc (d:=d)
@[simp] theorem qG8 {s t:ByteArray}{J:A→Prop}:zDH .add (.lit (.string s)) (.lit (.string t)) J=(s.size+t.size≤1000000∧J (.lit (.string (s++t)))):=rfl
@[simp] theorem qG0 {k:IntKind}{m n:Int}{J:A→Prop}:zDH .add (.lit (.int k m)) (.lit (.int k n)) J=J (.lit (.int k (k.wrap (m+n)))):=by simp[zDH,zDT]
@[simp] theorem qG9 {k:IntKind}{m n:Int}{J:A→Prop}:zDH .sub (.lit (.int k m)) (.lit (.int k n)) J=J (.lit (.int k (k.wrap (m-n)))):=by simp[zDH,zDT]
@[simp] theorem qG5 {k:IntKind}{m n:Int}{J:A→Prop}:zDH .mul (.lit (.int k m)) (.lit (.int k n)) J=J (.lit (.int k (k.wrap (m*n)))):=by simp[zDH,zDT]
@[simp] theorem qG6 {k:IntKind}{m n:Int}{J:A→Prop}:zDH .quo (.lit (.int k m)) (.lit (.int k n)) J=(n≠0∧J (.lit (.int k (k.wrap (m.tdiv n))))):=by simp[zDH,zDT]
@[simp] theorem qG7 {k:IntKind}{m n:Int}{J:A→Prop}:zDH .rem (.lit (.int k m)) (.lit (.int k n)) J=(n≠0∧J (.lit (.int k (m.tmod n)))):=by simp[zDH,zDT]
@[simp] theorem qG4 {k:IntKind}{m n:Int}{J:A→Prop}:zDH .lss (.lit (.int k m)) (.lit (.int k n)) J=J (.lit (.bool (decide (m<n)))):=by simp[zDH,zDT]
@[simp] theorem qG3 {k:IntKind}{m n:Int}{J:A→Prop}:zDH .leq (.lit (.int k m)) (.lit (.int k n)) J=J (.lit (.bool (decide (m≤n)))):=by simp[zDH,zDT]
@[simp] theorem qG2 {k:IntKind}{m n:Int}{J:A→Prop}:zDH .gtr (.lit (.int k m)) (.lit (.int k n)) J=J (.lit (.bool (decide (n<m)))):=by simp[zDH,zDT]
@[simp] theorem qG1 {k:IntKind}{m n:Int}{J:A→Prop}:zDH .geq (.lit (.int k m)) (.lit (.int k n)) J=J (.lit (.bool (decide (n≤m)))):=by simp[zDH,zDT]
noncomputable def eqA (k:SK) (ng:Bool) (a b:A):Option A:=(zBF k a b).map (zAR ng)
noncomputable def zNz (ks:List SK) (ng:Bool) (a b:A):Option A:=match a,b with
 | .agg xs,.agg ys=>(yU ks xs ys).map (zAR ng)
 | _,_=>none
theorem zVK {k:SK}{ng:Bool}{J:A→Prop}:qQ (zG env σ (.eqv d ng k x y)) J=zDk (eqA k ng (ev env x) (ev env y)) J:=by simp only[zG,eqA];cases zBF k (ev env x) (ev env y)<;>simp[qQ,zDk]
theorem zVJ {ks:List SK}{ng:Bool}{J:A→Prop}:qQ (zG env σ (.eqs d ng ks x y)) J=zDk (zNz ks ng (ev env x) (ev env y)) J:=by
 simp only[zG,zNz];generalize ev env x=a;generalize ev env y=b;cases a<;>cases b<;>try rfl
 rename_i xs ys;simp only;cases yU ks xs ys<;>simp[qQ,zDk]
@[simp] theorem qM3 {k:SK}{ng:Bool}:wpO P Qp K' (.eqv d ng k x y) env σ = zDk (eqA k ng (ev env x) (ev env y)) fun r=>K' (env.put d r) σ:=zVK (d:=d)
@[simp] theorem qM2 {ks:List SK}{ng:Bool}:wpO P Qp K' (.eqs d ng ks x y) env σ = zDk (zNz ks ng (ev env x) (ev env y)) fun r=>K' (env.put d r) σ:=zVJ (d:=d)
@[simp] theorem qLs {k:IntKind}{m n:Int}:eqA .i false (.lit (.int k m)) (.lit (.int k n))=some (.lit (.bool (decide (m=n)))):=by simp[eqA,zBF,zAR]
@[simp] theorem qHT {k:IntKind}{m n:Int}:eqA .i true (.lit (.int k m)) (.lit (.int k n))=some (.lit (.bool (decide (m≠n)))):=by simp[eqA,zBF,zAR]
@[simp] theorem qHS {m n:Bool}:eqA .b false (.lit (.bool m)) (.lit (.bool n))=some (.lit (.bool (decide (m=n)))):=by simp[eqA,zBF,zAR]
@[simp] theorem qEj {m n:Bool}:eqA .b true (.lit (.bool m)) (.lit (.bool n))=some (.lit (.bool (decide (m≠n)))):=by simp[eqA,zBF,zAR]
def zY4 (a:A)(J:A→Prop):Prop:=match a with | .lit (.int k m)=>J (.lit (.int k (k.wrap (0-m)))) | _=>False
@[simp] theorem qIV {k:IntKind}{m:Int}{J:A→Prop}:zY4 (.lit (.int k m)) J=J (.lit (.int k (k.wrap (0-m)))):=rfl
theorem zW3 {J:A→Prop}:qQ (zG env σ (.neg d x)) J=zY4 (ev env x) J:=by
 simp only[zG,zY4];generalize ev env x=a;cases a<;>try rfl
 rename_i v; cases v<;>simp[qQ]
@[simp] theorem qMD:wpO P Qp K' (.neg d x) env σ = zY4 (ev env x) fun r=>K' (env.put d r) σ:=zW3 (d:=d)
def zY6 (a:A)(J:A→Prop):Prop:=match a with | .lit (.bool b)=>J (.lit (.bool !b)) | _=>False
@[simp] theorem qE3 {b:Bool}{J:A→Prop}:zY6 (.lit (.bool b)) J=J (.lit (.bool !b)):=rfl
theorem zW4 {J:A→Prop}:qQ (zG env σ (.not d x)) J=zY6 (ev env x) J:=by
 simp only[zG,zY6];generalize ev env x=a;cases a<;>try rfl
 rename_i v; cases v<;>simp[qQ]
@[simp] theorem qME:wpO P Qp K' (.not d x) env σ = zY6 (ev env x) fun r=>K' (env.put d r) σ:=zW4 (d:=d)
def zF1 (σ : St)(a:A)(J:A→Prop):Prop:=match a with
 | .nil=>J (.lit (.int .i64 0))
 | .sl n _=>n≤maxLen→J (.lit (.int .i64 n))
 | .fsl n _=>n≤maxLen→J (.lit (.int .i64 n))
 | .row l n=>match σ[l]? with
  | some (.row _ _ _ m _)=>if n=m then J (.lit (.int .i64 n)) else False
  | _=>False
 | .win l n _ k _=>match σ[l]? with
  | some (.row _ _ _ m _)=>if n=m then J (.lit (.int .i64 k)) else False
  | _=>False
 | _=>False
@[simp] theorem qIA {J:A→Prop}:zF1 σ .nil J=J (.lit (.int .i64 0)):=rfl
@[simp] theorem qL6 {n:Nat}{cs:List A}{J:A→Prop}:zF1 σ (.sl n cs) J=(n≤maxLen→J (.lit (.int .i64 n))):=rfl
@[simp] theorem qI9 {n:Nat}{cs:List A}{J:A→Prop}:zF1 σ (.fsl n cs) J=(n≤maxLen→J (.lit (.int .i64 n))):=rfl
@[simp] theorem qM9:wpO P Qp K' (.len d false x) env σ = zF1 σ (ev env x) fun r=>K' (env.put d r) σ:=by
 simp only[wpO,zF1,zG];generalize ev env x=a;cases a<;>simp only[qQ,true_and]
 ·rename_i l n;cases σ[l]? with
  | none=>rfl
  | some ob =>
   cases ob<;>try rfl
   rename_i fz e s m cs;by_cases h:n=m<;>simp[h]
 ·rename_i l n _ k _;cases σ[l]? with
  | none=>rfl
  | some ob =>
   cases ob<;>try rfl
   rename_i fz e s m cs;by_cases h:n=m<;>simp[h]
def zSA (a:A)(J:A→Prop):Prop:=match a with | .lit (.string s)=>J (.lit (.int .i64 s.size)) | _=>False
@[simp] theorem zYz {s:ByteArray}{J:A→Prop}:zSA (.lit (.string s)) J=J (.lit (.int .i64 s.size)):=rfl
theorem zUb {J:A→Prop}:qQ (zG env σ (.len d true x)) J=zSA (ev env x) J:=by
 simp only[zG,zSA];generalize ev env x=a;cases a<;>try rfl
 rename_i v; cases v<;>simp[qQ]
@[simp] theorem qKn:wpO P Qp K' (.len d true x) env σ = zSA (ev env x) fun r=>K' (env.put d r) σ:=zUb (d:=d)
def mmA (mx:Bool):List A→Option A
 | .lit (.int k a)::rest=>zGc mx a rest k
 | _=>none
@[simp] theorem qAy {k:IntKind}{m n:Int}:mmA true [.lit (.int k m),.lit (.int k n)]=some (.lit (.int k (if m<n then n else m))):=by simp[mmA,zGc]
@[simp] theorem qAz {k:IntKind}{m n:Int}:mmA false [.lit (.int k m),.lit (.int k n)]=some (.lit (.int k (if n<m then n else m))):=by simp[mmA,zGc]
theorem zSE {mx:Bool}{xs:List Operand}{J:A→Prop}:qQ (zG env σ (.mm d mx xs)) J=zDk (mmA mx (xs.map (ev env))) J:=by
 simp only[zG];generalize xs.map (ev env)=l;cases l with
 | nil=>rfl
 | cons a l =>
  cases a<;>try rfl
  rename_i v;cases v<;>try rfl
  exact zE2
@[simp] theorem qPs {mx:Bool}{xs:List Operand}:wpO P Qp K' (.mm d mx xs) env σ = zDk (mmA mx (xs.map (ev env))) fun r=>K' (env.put d r) σ:=zSE (d:=d)
def zYk (i:Nat)(a:A)(J:A→Prop):Prop:=match a with | .tup vs=>(match vs[i]? with | some r=>J r | none=>False) | _=>False
@[simp] theorem qHY {i:Nat}{vs:List A}{J:A→Prop}:zYk i (.tup vs) J=zDk vs[i]? J:=rfl
theorem zVT {i:Nat}{J:A→Prop}:qQ (zG env σ (.ext d x i)) J=zYk i (ev env x) J:=by
 simp only[zG,zYk];generalize ev env x=a;cases a<;>try rfl
 rename_i vs;simp only;cases vs[i]?<;>simp[qQ]
@[simp] theorem qM4 {i:Nat}:wpO P Qp K' (.ext d x i) env σ = zYk i (ev env x) fun r=>K' (env.put d r) σ:=zVT (d:=d)
@[simp] theorem qM1 {f:FuncId}{a b:List Operand}:wpO P Qp K' (.clo d f a b) env σ = K' (env.put d (.clo f (a.map (ev env)) (b.map (ev env)))) σ:=by simp[wpO,zG,qQ,KOp.dst]
theorem zKe {zs:List Value}{ps:List (Nat×Nat×Operand)}{J:A→Prop}:qQ (zG env σ (.build d zs ps)) J=zDk ((zBb (zs.map qN) (ps.map fun(o,s,x)=>(o,s,ev env x))).map .agg) J:=by simp only[zG];cases zBb (zs.map qN) (ps.map fun(o,s,x)=>(o,s,ev env x))<;>simp[qQ,zDk]
def zRl (a:A)(neg:Bool)(J:A→Prop):Prop:=match a with
 | .lit (.pointer none)=>J (.lit (.bool !neg))
 | .rptr _=>J (.lit (.bool neg))
 | .ptr _ _=>J (.lit (.bool neg))
 | _=>False
@[simp] theorem qIu {neg:Bool}{J:A→Prop}:zRl (.lit (.pointer none)) neg J=J (.lit (.bool !neg)):=rfl
@[simp] theorem qEv {neg:Bool}{cs:List A}{J:A→Prop}:zRl (.rptr cs) neg J=J (.lit (.bool neg)):=rfl
@[simp] theorem qIv {neg:Bool}{l o:Nat}{J:A→Prop}:zRl (.ptr l o) neg J=J (.lit (.bool neg)):=rfl
@[simp] theorem qM7 {neg:Bool}:wpO P Qp K' (.isp d neg x) env σ = zRl (ev env x) neg fun r=>K' (env.put d r) σ:=by
 show qQ (zG env σ (.isp d neg x)) _=_;simp only[zG];generalize ev env x=a;cases a with
 | lit v=>cases v with
  | pointer ad=>cases ad<;>simp[qQ,zRl,KOp.dst]
  | _=>rfl
 | rptr cs=>simp[qQ,zRl,KOp.dst]
 | ptr l o=>simp[qQ,zRl,KOp.dst]
 | _=>rfl
def qIK (t:TypeId)(a:A):A:=match a with
 | .lit v=>.lit (.iface t v)
 | _=>.any
@[simp] theorem qIL {t:TypeId}{v:Value}:qIK t (.lit v)=.lit (.iface t v):=rfl
@[simp] theorem qMA {t:TypeId}:wpO P Qp K' (.mki d t x) env σ = K' (env.put d (qIK t (ev env x))) σ:=by simp only[wpO,zG,qQ,KOp.dst,true_and];generalize ev env x=a;cases a<;>rfl
def qJr (Qp:Value→Env→St→Prop)(env:Env) (σ : St)(a:A):Prop:=match a with
 | .lit (.iface t v)=>Qp (.iface t v) env σ
 | _=>False
@[simp] theorem qJs {t:TypeId}{v:Value}:qJr Qp env σ (.lit (.iface t v))=Qp (.iface t v) env σ:=rfl
@[simp] theorem qMF:wpO P Qp K' (.pan d x) env σ = qJr Qp env σ (ev env x):=rfl
@[simp] theorem qFJ {zs:List Value}{ps:List (Nat×Nat×Operand)}:wpO P Qp K' (.build d zs ps) env σ = zDk ((zBb (zs.map qN) (ps.map fun(o,s,x)=>(o,s,ev env x))).map .agg) fun r=>K' (env.put d r) σ:=zKe (d:=d)
@[simp] theorem qDB {e:TypeId}{sz n:Nat}{zs:List Value}{ps:List (Nat×Nat×Operand)}:wpO P Qp K' (.bslice d e sz n zs ps) env σ = zDk ((zBb (zs.map qN) (ps.map fun(o,s,x)=>(o,s,ev env x))).map (.fsl n)) fun r=>K' (env.put d r) σ:=by simp only[wpO,zDk];cases zBb (zs.map qN) (ps.map fun(o,s,x)=>(o,s,ev env x))<;>simp
@[simp] theorem qKl {e:TypeId}{sz n:Nat}{zs:List Value}{ps:List (Nat×Nat×Operand)}:wpO P Qp K' (.brow d e sz n zs ps) env σ = zUk (zBb (zs.map qN) (ps.map fun(o,s,x)=>(o,s,ev env x))) fun cs=>K' (env.put d (.row σ.length n)) (σ++[.row false e sz n cs]):=by simp only[wpO,zUk];cases zBb (zs.map qN) (ps.map fun(o,s,x)=>(o,s,ev env x))<;>simp
def zTW (a:A)(neg:Bool)(J:A→Prop):Prop:=match a with
 | .nil=>J (.lit (.bool !neg))
 | .sl n _=>n≠0∧J (.lit (.bool neg))
 | .fsl n _=>n≠0∧J (.lit (.bool neg))
 | _=>False
@[simp] theorem qIt {neg:Bool}{J:A→Prop}:zTW .nil neg J=J (.lit (.bool !neg)):=rfl
@[simp] theorem qL1 {neg:Bool}{n:Nat}{cs:List A}{J:A→Prop}:zTW (.sl n cs) neg J=(n≠0∧J (.lit (.bool neg))):=rfl
@[simp] theorem qIs {neg:Bool}{n:Nat}{cs:List A}{J:A→Prop}:zTW (.fsl n cs) neg J=(n≠0∧J (.lit (.bool neg))):=rfl
theorem zWp {neg:Bool}{J:A→Prop}:qQ (zG env σ (.isn d neg x)) J=zTW (ev env x) neg J:=by simp only[zG,zTW,qQ];generalize ev env x=a;cases a<;>simp
def zYW (o:Option AObj) (σ : St)(l n sz:Nat)(h:Int)(J:A→St→Prop):Prop:=match o with
 | some (.row false e s m cs)=>(n=m∧s=sz∧0≤h∧h≤n∧n≠0)∧J (.row σ.length h.toNat) (σ.set l .dead++[.row false e sz h.toNat (cs.take (h.toNat*sz))])
 | _=>False
@[simp] theorem qFd {e s m l n sz:Nat}{cs:List A}{h:Int}{J:A→St→Prop}:zYW (some (.row false e s m cs)) σ l n sz h J=((n=m∧s=sz∧0≤h∧h≤n∧n≠0)∧J (.row σ.length h.toNat) (σ.set l .dead++[.row false e sz h.toNat (cs.take (h.toNat*sz))])):=rfl
def qDd (σ : St)(sz:Nat)(a b:A)(J:A→St→Prop):Prop:=match a,b with
 | .row l n,.lit (.int _ h)=>zYW σ[l]? σ l n sz h J
 | _,_=>False
@[simp] theorem qJB {l n sz:Nat}{k:IntKind}{h:Int}{J:A→St→Prop}:qDd σ sz (.row l n) (.lit (.int k h)) J=zYW σ[l]? σ l n sz h J:=rfl
@[simp] theorem qMG {sz:Nat}:wpO P Qp K' (.shr d x sz y) env σ = qDd σ sz (ev env x) (ev env y) fun r τ=>K' (env.put d r) τ:=by simp only[wpO,qDd,zYW];generalize ev env x=a;generalize ev env y=b;cases a<;>cases b<;>first | rfl | (rename_i v; cases v<;>rfl)
def zX2 (ob:Option AObj) (σ : St)(e:TypeId)(sz bytes:Nat)(l n o k c m:Nat)(ys:List A)(J:A→St→Prop):Prop:=match ob with
 | some (.row false e' s n' cs)=>(ys.length=m*sz∧m≠0∧n=n'∧e'=e∧s=sz∧c=sz∧o+k*sz=n*sz∧n+m≤maxLen∧(n+m)*bytes≤140737488355328) ∧
  J (.win l (n+m) o (k+m) sz) (σ.set l (.row false e sz (n+m) (cs++ys)))∧J (.win σ.length (k+m) 0 (k+m) sz) (σ++[.row false e sz (k+m) (cs.drop o++ys)])
 | _=>False
@[simp] theorem qDI {e':TypeId}{s n':Nat}{cs:List A}{e:TypeId}{sz bytes l n o k c m:Nat}{ys:List A}{J:A→St→Prop}:zX2 (some (.row false e' s n' cs)) σ e sz bytes l n o k c m ys J=((ys.length=m*sz∧m≠0∧n=n'∧e'=e∧s=sz∧c=sz∧o+k*sz=n*sz∧n+m≤maxLen∧(n+m)*bytes≤140737488355328) ∧
 J (.win l (n+m) o (k+m) sz) (σ.set l (.row false e sz (n+m) (cs++ys)))∧J (.win σ.length (k+m) 0 (k+m) sz) (σ++[.row false e sz (k+m) (cs.drop o++ys)])):=rfl
def qBl (σ : St)(e:TypeId)(sz bytes:Nat)(el:Option (Nat×List A))(a:A)(J:A→St→Prop):Prop:=match el,a with
 | some (m,ys),.win l n o k c=>zX2 σ[l]? σ e sz bytes l n o k c m ys J
 | _,_=>False
@[simp] theorem qGx {e:TypeId}{sz bytes l n o k c m:Nat}{ys:List A}{J:A→St→Prop}:qBl σ e sz bytes (some (m,ys)) (.win l n o k c) J=zX2 σ[l]? σ e sz bytes l n o k c m ys J:=rfl
@[simp] theorem qMy {e:TypeId}{sz bytes:Nat}:wpO P Qp K' (.apq d e sz bytes x y) env σ = qBl σ e sz bytes (zBr σ sz (ev env y)) (ev env x) fun r τ=>K' (env.put d r) τ:=by simp only[wpO,qBl,zX2];generalize zBr σ sz (ev env y)=el;generalize ev env x=a;cases el<;>cases a<;>rfl
def zTX (σ : St)(a:A)(neg:Bool)(J:A→Prop):Prop:=match a with
 | .nil=>J (.lit (.bool !neg))
 | .sl n _=>J (.lit (.bool neg))∧(n=0→J (.lit (.bool !neg)))
 | .row l n=>(match σ[l]? with
  | some (.row _ _ _ m _)=>n=m∧J (.lit (.bool neg))∧(n=0→J (.lit (.bool !neg)))
  | _=>False)
 | _=>False
@[simp] theorem qIw {neg:Bool}{J:A→Prop}:zTX σ .nil neg J=J (.lit (.bool !neg)):=rfl
@[simp] theorem qL2 {neg:Bool}{n:Nat}{cs:List A}{J:A→Prop}:zTX σ (.sl n cs) neg J=(J (.lit (.bool neg))∧(n=0→J (.lit (.bool !neg)))):=rfl
@[simp] theorem qM8 {neg:Bool}:wpO P Qp K' (.isz d neg x) env σ = zTX σ (ev env x) neg fun r=>K' (env.put d r) σ:=by simp only[wpO,zTX];cases ev env x<;>rfl
@[simp] theorem qM6 {neg:Bool}:wpO P Qp K' (.isn d neg x) env σ = zTW (ev env x) neg fun r=>K' (env.put d r) σ:=zWp (d:=d)
@[simp] theorem qEm {cs:List A}:zBb cs []=some cs:=rfl
def qAp (c:Option (List A))(o s:Nat)(cs:List A)(rest:List (Nat×Nat×A)):Option (List A):=match c with
 | some l=>if l.length=s∧o+s≤cs.length then zBb (cs.take o++l++cs.drop (o+s)) rest else none
 | none=>none
@[simp] theorem qCg {l:List A}{o s:Nat}{cs:List A}{rest:List (Nat×Nat×A)}:qAp (some l) o s cs rest=if l.length=s∧o+s≤cs.length then zBb (cs.take o++l++cs.drop (o+s)) rest else none:=rfl
@[simp] theorem qCf {cs:List A}{o s:Nat}{a:A}{rest:List (Nat×Nat×A)}:zBb cs ((o,s,a)::rest)=qAp (cellsOf a) o s cs rest:=rfl
def elP (σ : St)(sz:Nat)(a:A)(J:Nat→List A→Prop):Prop:=match zBr σ sz a with
 | some (m,ys)=>ys.length=m*sz∧J m ys
 | none=>False
@[simp] theorem qLp {sz:Nat}{J:Nat→List A→Prop}:elP σ sz .nil J=J 0 []:=by simp[elP,zBr]
@[simp] theorem qOA {sz n:Nat}{cs:List A}{J:Nat→List A→Prop}:elP σ sz (.sl n cs) J=(cs.length=n*sz∧J n cs):=rfl
@[simp] theorem qLo {sz n:Nat}{cs:List A}{J:Nat→List A→Prop}:elP σ sz (.fsl n cs) J=(cs.length=n*sz∧J n cs):=rfl
@[simp] theorem qLq {sz l n:Nat}{J:Nat→List A→Prop}:elP σ sz (.row l n) J=qAL σ[l]? n sz fun cs=>cs.length=n*sz∧J n cs:=by
 simp only[elP,zBr];cases σ[l]? with
 | none=>rfl
 | some o =>
  cases o<;>try rfl
  rename_i fz e s m cs;by_cases h:n=m∧s=sz
  ·simp[h]
  ·simp only[h,if_false,zRF,eq_iff_iff,false_iff];rintro⟨h1,h2,_⟩;exact h ⟨h1,h2⟩
def zUU (d:Option Nat)(K':Env→St→Prop)(env:Env) (σ : St)(e:TypeId)(sz bytes m:Nat)(ys:List A):A→Prop
 | .nil=>(m≤maxLen∧m*bytes≤140737488355328)∧K' (env.put d (.row σ.length m)) (σ++[AObj.row false e sz m ys])
 | .row l n=>(match σ[l]? with
  | some (.row fz e' s n' cs)=>if n=n'∧e'=e∧s=sz then (n+m≤maxLen∧(n+m)*bytes≤140737488355328)∧K' (env.put d (.row l (n+m))) (σ.set l (.row fz e sz (n+m) (cs++ys))) else False
  | _=>False)
 | .fsl n cs=>cs.length=n*sz∧(m=0→K' (env.put d (.fsl n cs)) σ)∧(m≠0→(n+m≤maxLen∧(n+m)*bytes≤140737488355328)∧K' (env.put d (.row σ.length (n+m))) (σ++[AObj.row false e sz (n+m) (cs++ys)]))
 | _=>False
@[simp] theorem qGv {e:TypeId}{sz bytes m:Nat}{ys:List A}:zUU d K' env σ e sz bytes m ys .nil=((m≤maxLen∧m*bytes≤140737488355328)∧K' (env.put d (.row σ.length m)) (σ++[AObj.row false e sz m ys])):=rfl
@[simp] theorem qGu {e:TypeId}{sz bytes m n:Nat}{ys cs:List A}:zUU d K' env σ e sz bytes m ys (.fsl n cs)=(cs.length=n*sz∧(m=0→K' (env.put d (.fsl n cs)) σ)∧(m≠0→(n+m≤maxLen∧(n+m)*bytes≤140737488355328)∧K' (env.put d (.row σ.length (n+m))) (σ++[AObj.row false e sz (n+m) (cs++ys)]))):=rfl
def qAM:Option AObj→Nat→TypeId→Nat→(Bool→List A→Prop)→Prop
 | some (.row fz e' s n' cs),n,e,sz,J=>(n=n'∧e'=e∧s=sz)∧J fz cs
 | _,_,_,_,_=>False
@[simp] theorem qCW {fz:Bool}{e' e:TypeId}{s n' n sz:Nat}{cs:List A}{J:Bool→List A→Prop}:qAM (some (.row fz e' s n' cs)) n e sz J=((n=n'∧e'=e∧s=sz)∧J fz cs):=rfl
@[simp] theorem qGw {e:TypeId}{sz bytes m l n:Nat}{ys:List A}:zUU d K' env σ e sz bytes m ys (.row l n)=qAM σ[l]? n e sz fun fz cs=>(n+m≤maxLen∧(n+m)*bytes≤140737488355328)∧K' (env.put d (.row l (n+m))) (σ.set l (.row fz e sz (n+m) (cs++ys))):=by
 simp only[zUU];cases σ[l]? with
 | none=>rfl
 | some o =>
  cases o<;>try rfl
  rename_i fz e' s n' cs;by_cases h:n=n'∧e'=e∧s=sz
  ·simp[h]
  ·simp[h]
@[simp] theorem qMx {e:TypeId}{sz bytes:Nat}:wpO P Qp K' (.app d e sz bytes x y) env σ = elP σ sz (ev env y) fun m ys=>zUU d K' env σ e sz bytes m ys (ev env x):=by
 simp only[wpO,elP];cases zBr σ sz (ev env y)with
 | none=>rfl
 | some r =>
  obtain⟨m,ys⟩:=r;simp only;generalize ev env x=a;cases a<;>rfl
def zVn (P:Program)(Qp:Value→Env→St→Prop)(K':Env→St→Prop)(d:Option Nat)(f:A)(args:List A)(env:Env) (σ : St):Prop:=match f with
 | .clo g first cap=>zA P g=true∧yY P g (first++args++cap) σ (zHp d env K' Qp)
 | .lit (.func (.yield b) ⟨[]⟩ ⟨[]⟩)=>zCp P b args σ (zHp d env K' Qp)
 | _=>False
@[simp] theorem qH9 {b:Nat}{args:List A}:zVn P Qp K' d (yv b) args env σ = zCp P b args σ (zHp d env K' Qp):=rfl
@[simp] theorem qDV {g:FuncId}{first cap args:List A}:zVn P Qp K' d (.clo g first cap) args env σ = (zA P g=true∧yY P g (first++args++cap) σ (zHp d env K' Qp)):=rfl
@[simp] theorem qKm {args:List Operand}:wpO P Qp K' (.call d x args) env σ = zVn P Qp K' d (ev env x) (args.map (ev env)) env σ:=rfl
@[simp] theorem qDP:zA6 []=[]:=rfl
@[simp] theorem qDO {cs:List A}:zA6 (.box cs::σ)=.box cs::zA6 σ:=rfl
@[simp] theorem qDQ {fz:Bool}{e:TypeId}{sz n:Nat}{cs:List A}:zA6 (.row fz e sz n cs::σ)=.dead::zA6 σ:=rfl
@[simp] theorem qGG {fr:Bool}{nk:Nat}{es:List (List Int×A)}:zA6 (.mp fr nk es::σ)=.dead::zA6 σ:=rfl
@[simp] theorem qDR:zA6 (.rsv::σ)=.dead::zA6 σ:=rfl
@[simp] theorem qGE {m n:Nat}{met:List Nat}:zA6 (.it m n met::σ)=.dead::zA6 σ:=rfl
@[simp] theorem qGF {b M:Nat}{r:Loop}{es:List (Nat×A)}:zA6 (.lp b r M es::σ)=.dead::zA6 σ:=rfl
theorem zH5 {σ τ : St}:zA6 (σ++τ)=zA6 σ++zA6 τ:=by
 induction σ with
 | nil=>rfl
 | cons o σ ih=>cases o<;>simp[zA6,ih]
@[simp] theorem zX6 {σ : St}:(zA6 σ).length = σ.length:=by
 induction σ with
 | nil=>rfl
 | cons o σ ih=>cases o<;>simp[zA6,ih]
@[simp] theorem qEX {σ : St}:zCS 0 σ = σ:=rfl
@[simp] theorem qJ7 {σ : St}:zCS 1 σ = zA6 σ:=rfl
@[simp] theorem qJ9 {σ : St}:zCS 2 σ = []:=rfl
variable {fl k:Nat}
@[simp] theorem qJt {v:Value}:zLf Q v σ = ∀e,Q (.pan v) e σ:=rfl
@[simp] theorem qMr:wpD P Qd K' [] env σ = K' env σ:=by simp only[wpD]
@[simp] theorem qOY {o:KOp}:zAQ 0 o env=True:=rfl
@[simp] theorem qOZ {o:KOp}:zAQ 1 o env=True:=rfl
@[simp] theorem qPa {o:KOp}:zAQ 2 o env=True:=rfl
@[simp] theorem qPb {o:KOp}:zAQ 3 o env=True:=rfl
@[simp] theorem qPc {o:KOp}:zAQ 4 o env=True:=rfl
@[simp] theorem qPd {n:Nat}:zAQ 5 (.st d x y n) env=zMC (ev env x):=rfl
@[simp] theorem qPe {n:Nat}:zAQ 6 (.st d x y n) env=zMD (ev env x):=rfl
@[simp] theorem qLX {n:Nat}:zAQ 6 (.idx d x y n) env=isRow (ev env x):=rfl
@[simp] theorem qEs {l o:Nat}:zMC (.ptr l o)=True:=rfl
@[simp] theorem qEu {l n o:Nat}:zMD (.rwp l n o)=True:=rfl
@[simp] theorem qEt {l n:Nat}:isRow (.row l n)=True:=rfl
@[simp] theorem qJ8 {σ : St}:zCS 6 σ = σ:=rfl
@[simp] theorem qKa {o:KOp}{l:List (Nat×Nat×KG)}:wpD P Qd K' ((k,fl,⟨none,o⟩)::l) env σ = (zAQ fl o env∧jE P Qd fl (wpD P Qd K' l) o env σ):=rfl
@[simp] theorem qFx {s:Nat}{want:Bool}{o:KOp}{l:List (Nat×Nat×KG)}:wpD P Qd K' ((k,fl,⟨some (s,want),o⟩)::l) env σ = (zAQ fl o env∧zIH (env s) want (jE P Qd fl (wpD P Qd K' l) o) (zGn o.dst (wpD P Qd K' l)) env σ):=by
 simp only[wpD,zRX,zIH];generalize env s=a;cases a<;>try rfl
 all_goals (rename_i v; cases v<;>rfl)
@[simp] theorem qD7:jE P Qd fl K' (.pick d x y z) env σ = wpO P zAC K' (.pick d x y z) env σ:=by simp[jE,KOp.lite,KOp.keeps]
@[simp] theorem qD3 {e sz n:Nat}{zs:List Value}{ps:List (Nat×Nat×Operand)}:jE P Qd fl K' (.brow d e sz n zs ps) env σ = wpO P zAC K' (.brow d e sz n zs ps) env σ:=by simp[jE,KOp.lite,KOp.keeps]
@[simp] theorem qFC {m:MOp}{xs:List Operand}:jE P Qd fl K' (.mop d m xs) env σ = (match zRy m (xs.map (ev env)) σ with
 | some (r,σ')=>K' (env.put d r) σ'
 | none=>False):=rfl
@[simp] theorem qF9 {ng:Bool}:jE P Qd fl K' (.isp d ng x) env σ = wpO P zAC K' (.isp d ng x) env σ:=by simp[jE,KOp.lite,KOp.keeps]
@[simp] theorem qFB {t:TypeId}:jE P Qd fl K' (.mki d t x) env σ = wpO P zAC K' (.mki d t x) env σ:=by simp[jE,KOp.lite,KOp.keeps]
@[simp] theorem qFD:jE P Qd fl K' (.mov d x) env σ = wpO P zAC K' (.mov d x) env σ:=by simp[jE,KOp.lite,KOp.keeps]
@[simp] theorem zZi {len sz:Nat}:jE P Qd fl K' (.idxarr d x y len sz) env σ = wpO P zAC K' (.idxarr d x y len sz) env σ:=by simp[jE,KOp.lite,KOp.keeps]
@[simp] theorem qF0 {op:BinOp}:jE P Qd fl K' (.bin d op x y) env σ = wpO P zAC K' (.bin d op x y) env σ:=by simp[jE,KOp.lite,KOp.keeps]
@[simp] theorem qF4 {k:SK}{ng:Bool}:jE P Qd fl K' (.eqv d ng k x y) env σ = wpO P zAC K' (.eqv d ng k x y) env σ:=by simp[jE,KOp.lite,KOp.keeps]
@[simp] theorem qF3 {ks:List SK}{ng:Bool}:jE P Qd fl K' (.eqs d ng ks x y) env σ = wpO P zAC K' (.eqs d ng ks x y) env σ:=by simp[jE,KOp.lite,KOp.keeps]
@[simp] theorem qFE:jE P Qd fl K' (.neg d x) env σ = wpO P zAC K' (.neg d x) env σ:=by simp[jE,KOp.lite,KOp.keeps]
@[simp] theorem qFF:jE P Qd fl K' (.not d x) env σ = wpO P zAC K' (.not d x) env σ:=by simp[jE,KOp.lite,KOp.keeps]
@[simp] theorem qKd {mx:Bool}{xs:List Operand}:jE P Qd fl K' (.mm d mx xs) env σ = wpO P zAC K' (.mm d mx xs) env σ:=by simp[jE,KOp.lite,KOp.keeps]
@[simp] theorem qD5:jE P Qd fl K' (.len d true x) env σ = wpO P zAC K' (.len d true x) env σ:=by simp[jE,KOp.lite,KOp.keeps]
@[simp] theorem qF5 {i:Nat}:jE P Qd fl K' (.ext d x i) env σ = wpO P zAC K' (.ext d x i) env σ:=by simp[jE,KOp.lite,KOp.keeps]
@[simp] theorem qF2 {f:FuncId}{a b:List Operand}:jE P Qd fl K' (.clo d f a b) env σ = wpO P zAC K' (.clo d f a b) env σ:=by simp[jE,KOp.lite,KOp.keeps]
@[simp] theorem qFG {sz:Nat}{lo hi mx:Option Operand}:jE P Qd fl K' (.slc d x sz lo hi mx) env σ = wpO P zAC K' (.slc d x sz lo hi mx) env σ:=by simp[jE,KOp.lite,KOp.keeps]
@[simp] theorem qAU {zs:List Value}{ps:List (Nat×Nat×Operand)}:jE P Qd fl K' (.build d zs ps) env σ = wpO P zAC K' (.build d zs ps) env σ:=by simp[jE,KOp.lite,KOp.keeps]
@[simp] theorem zZh {e:TypeId}{sz n:Nat}{zs:List Value}{ps:List (Nat×Nat×Operand)}:jE P Qd fl K' (.bslice d e sz n zs ps) env σ = wpO P zAC K' (.bslice d e sz n zs ps) env σ:=by simp[jE,KOp.lite,KOp.keeps]
@[simp] theorem qAT {zs:List Value}:jE P Qd fl K' (.alloc d zs) env σ = wpO P zAC K' (.alloc d zs) env σ:=by simp[jE,KOp.lite,KOp.keeps]
@[simp] theorem qF1:jE P Qd fl K' (.box d x) env σ = wpO P zAC K' (.box d x) env σ:=by simp[jE,KOp.lite,KOp.keeps]
@[simp] theorem qKe {n:Nat}:jE P Qd fl K' (.st d x y n) env σ = wpO P zAC K' (.st d x y n) env σ:=by simp[jE,KOp.lite,KOp.keeps]
@[simp] theorem qFz {e:TypeId}{sz bytes:Nat}:jE P Qd fl K' (.app d e sz bytes x y) env σ = wpO P zAC K' (.app d e sz bytes x y) env σ:=by simp[jE,KOp.lite,KOp.keeps]
@[simp] theorem qF6 {off n:Nat}{agg:Bool}:jE P Qd fl K' (.fld d x off n agg) env σ = wpO P zAC K' (.fld d x off n agg) env σ:=by simp[jE,KOp.lite,KOp.keeps]
@[simp] theorem qKb {len sz:Nat}{agg:Bool}:jE P Qd fl K' (.ix d x y len sz agg) env σ = wpO P zAC K' (.ix d x y len sz agg) env σ:=by simp[jE,KOp.lite,KOp.keeps]
@[simp] theorem qF8 {ng:Bool}:jE P Qd fl K' (.isn d ng x) env σ = wpO P zAC K' (.isn d ng x) env σ:=by simp[jE,KOp.lite,KOp.keeps]
@[simp] theorem qKc {n:Nat}{agg:Bool}:jE P Qd fl K' (.ld d x n agg) env σ = zDk ((ldA (zCS fl σ) n (ev env x)).bind (zBx agg)) fun r=>K' (env.put d r) σ:=zE2
@[simp] theorem qD2 {off:Nat}:jE P Qd fl K' (.addr d x off) env σ = zDk (zH1 (zCS fl σ) off (ev env x)) fun r=>K' (env.put d r) σ:=by show qQ (zG env (zCS fl σ) (.addr d x off)) _=_;rw[zGT,zE2]; rfl
@[simp] theorem qF7 {sz:Nat}:jE P Qd fl K' (.idx d x y sz) env σ = zFT (zCS fl σ) sz (ev env x) (ev env y) fun r=>K' (env.put d r) σ:=zMB (d:=d)
def zLH (σ : St)(a:A)(J:A→Prop):Prop:=match a with
 | .nil=>J (.lit (.int .i64 0))
 | .sl n _=>J (.lit (.int .i64 n))
 | .fsl n _=>J (.lit (.int .i64 n))
 | .row l n=>match σ[l]? with
  | some (.row _ _ _ m _)=>if n=m then J (.lit (.int .i64 n)) else False
  | _=>False
 | .win l n _ k _=>match σ[l]? with
  | some (.row _ _ _ m _)=>if n=m then J (.lit (.int .i64 k)) else False
  | _=>False
 | _=>False
@[simp] theorem qI6 {J:A→Prop}:zLH σ .nil J=J (.lit (.int .i64 0)):=rfl
@[simp] theorem qL5 {n:Nat}{cs:List A}{J:A→Prop}:zLH σ (.sl n cs) J=J (.lit (.int .i64 n)):=rfl
@[simp] theorem qI5 {n:Nat}{cs:List A}{J:A→Prop}:zLH σ (.fsl n cs) J=J (.lit (.int .i64 n)):=rfl
def zRo (o:Option AObj)(n:Nat)(J:A→Prop):Prop:=match o with
 | some (.row _ _ _ m _)=>if n=m then J (.lit (.int .i64 n)) else False
 | _=>False
@[simp] theorem qAx {fz:Bool}{e:TypeId}{s m n:Nat}{cs:List A}{J:A→Prop}:zRo (some (.row fz e s m cs)) n J=if n=m then J (.lit (.int .i64 n)) else False:=rfl
@[simp] theorem qI7 {l n:Nat}{J:A→Prop}:zLH σ (.row l n) J=zRo σ[l]? n J:=by simp only[zLH,zRo]
theorem zUa {τ : St}{J:A→Prop}:qQ (zG env τ (.len d false x)) J=zLH τ (ev env x) J:=by
 simp only[zLH,zG];generalize ev env x=a;cases a<;>simp only[qQ,true_and]
 ·rename_i l n;cases τ[l]? with
  | none=>rfl
  | some ob =>
   cases ob<;>try rfl
   rename_i fz e s m cs;by_cases h:n=m<;>simp[h]
 ·rename_i l n _ k _;cases τ[l]? with
  | none=>rfl
  | some ob =>
   cases ob<;>try rfl
   rename_i fz e s m cs;by_cases h:n=m<;>simp[h]
@[simp] theorem qFA:jE P Qd fl K' (.len d false x) env σ = zLH (zCS fl σ) (ev env x) fun r=>K' (env.put d r) σ:=by show qQ (zG env (zCS fl σ) (.len d false x)) _=_;exact zUa
def zFD (P:Program)(Qd:Value→St→Prop)(fl:Nat) (σ : St)(d:Option Nat)(K':Env→St→Prop)(f:A)(args:List A)(env:Env):Prop:=zXp P Qd fl σ d K' f args env
@[simp] theorem qD4 {args:List Operand}:jE P Qd fl K' (.call d x args) env σ = zFD P Qd fl σ d K' (ev env x) (args.map (ev env)) env:=rfl
@[simp] theorem qLg {g:FuncId}{first cap args:List A}:zFD P Qd 0 σ d K' (.clo g first cap) args env=(zA P g=true∧zOi P σ d (fun e=>K' e σ) g (first++args++cap) env):=rfl
@[simp] theorem qLh {g:FuncId}{first cap args:List A}:zFD P Qd 1 σ d K' (.clo g first cap) args env=(zA P g=true∧zIs P σ d (fun e=>K' e σ) g (first++args++cap) env):=rfl
@[simp] theorem qLi {g:FuncId}{first cap args:List A}:zFD P Qd 3 σ d K' (.clo g first cap) args env=(zA P g=true∧zIt P σ d K' g (first++args++cap) env):=rfl
@[simp] theorem qLk {g:FuncId}{first cap args:List A}:zFD P Qd 7 σ d K' (.clo g first cap) args env=(zA P g=true∧zQl P σ d K' g (first++args++cap) env):=rfl
@[simp] theorem qLl {g:FuncId}{first cap args:List A}:zFD P Qd 8 σ d K' (.clo g first cap) args env=(zA P g=true∧zQm P σ d K' g (first++args++cap) env):=rfl
@[simp] theorem qH6 {g:FuncId}{first cap args:List A}:zFD P Qd 10 σ d K' (.clo g first cap) args env=(zA P g=true∧zIu P Qd σ d K' g (first++args++cap) env):=rfl
@[simp] theorem qH7 {g:FuncId}{first cap args:List A}:zFD P Qd 11 σ d K' (.clo g first cap) args env=(zA P g=true∧zL4 P σ d K' g (first++args++cap) env):=rfl
@[simp] theorem qLm {n:Nat}{g:FuncId}{first cap args:List A}(h1:11<n):zFD P Qd n σ d K' (.clo g first cap) args env=(zA P g=true∧(if 1000≤n∧n<2000 then zL3 P (n-1000) σ d K' g (first++args++cap) env else if 3000≤n∧n<4000 then zQk P (n-3000) σ d K' g (first++args++cap) env else zIv P σ d K' g (first++args++cap) env)):=by obtain⟨m,rfl⟩:∃m,n=m+12:=⟨n-12,by omega⟩;rfl
@[simp] theorem qLj {g:FuncId}{first cap args:List A}:zFD P Qd 4 σ d K' (.clo g first cap) args env=(zA P g=true∧zIv P σ d K' g (first++args++cap) env):=rfl
@[simp] theorem qH8 {b:Nat}{args:List A}:zFD P Qd 4 σ d K' (yv b) args env = ∃r σ',(zCp P b args σ fun o τ=>o=.ret r∧τ = σ')∧K' (env.put d r) σ':=by show (4=4∧_)=_;simp
theorem qT {t:Bool}{A B:Env→St→Prop}(h1:t=true→A env σ)(h2:t=false→B env σ):zFu t A B env σ:=⟨h1,h2⟩
theorem zY1 {S:Type}{W:(Ex→Env→St→Prop)→Env→St→Prop}(E:S→List (Nat×A))(T:S→St)(I:S→Prop) (μ : S→Nat)(s0:S)(h0:I s0)(start:zA0 n0 (qC (E s0)) (T s0) env σ)
 (round:∀s,I s→W (rnd n0 (fun n e t=>∃s,I s∧μ s=n∧e=qC (E s)∧t=T s) (μ s) Q) (qC (E s)) (T s)):zOm n0 W Q env σ:=by
 refine⟨fun n e t=>∃s,I s∧μ s=n∧e=qC (E s)∧t=T s,⟨μ s0,_,_,start,s0,h0,rfl,rfl,rfl⟩,?_⟩;rintro n e t ⟨s,hs,rfl,rfl,rfl⟩;exact round s hs
theorem qCS {S:Type}{E:S→List (Nat×A)}{T:S→St}{I:S→Prop} {μ : S→Nat}{n:Nat}(s:S)(hs:I s)(hm : μ s<n)(hw:zA0 n0 (qC (E s)) (T s) env σ) :
 rnd n0 (fun n e t=>∃s,I s∧μ s=n∧e=qC (E s)∧t=T s) n Q .norm env σ:=⟨μ s,hm,_,_,hw,s,hs,rfl,rfl,rfl⟩
theorem zI5 {l:List (Nat×A)} {σ' τ : St}(he : σ = σ'++τ)(hn:n0≤σ'.length)(hl:∀p∈l,env p.1=p.2)(hb:∀p∈l,p.2.bnd σ'.length=true)(ho:∀o∈σ',o.bnd σ'.length=true) :
 zA0 n0 (qC l) σ' env σ:=by
 subst he;exact zA0.cut l hn hl hb ho
@[simp] theorem qC6 {i t:Nat}{a:A}{l:List (Nat×A)}:qC ((i,a)::l) t=if t=i then a else qC l t:=rfl
@[simp] theorem qEy {t:Nat}:qC [] t=.any:=rfl
end
end Go.Abs
namespace Go.Abs
def zTr (o k c:Nat):A→A
 | .sl _ cs=>if k=0 then .sl 0 [] else .sl k ((cs.drop o).take (k*c))
 | _=>.any
mutual
def vw (rf:Bool→Nat→Nat→A)(g:Nat→Option Nat):A→A
 | .ptr l o=>match g l with
  | some i=>.ptr i o
  | none=>rf true l o
 | .row l n=>match g l with
  | some i=>.row i n
  | none=>rf false l n
 | .rwp l n o=>match g l with
  | some i=>.rwp i n o
  | none=>.any
 | .map l=>match g l with
  | some i=>.map i
  | none=>.any
 | .win l n o k c=>match g l with
  | some i=>.win i n o k c
  | none=>zTr o k c (rf false l n)
 | .agg cs=>.agg (vwL rf g cs)
 | .tup cs=>.tup (vwL rf g cs)
 | .sl n cs=>.sl n (vwL rf g cs)
 | .fsl n cs=>.fsl n (vwL rf g cs)
 | .rptr cs=>.rptr (vwL rf g cs)
 | .clo f a b=>.clo f (vwL rf g a) (vwL rf g b)
 | .any=>.any
 | .nil=>.nil
 | .lit v=>.lit v
def vwL (rf:Bool→Nat→Nat→A)(g:Nat→Option Nat):List A→List A
 | []=>[]
 | c::cs=>vw rf g c::vwL rf g cs
end
def seen (σ : St)(g:Nat→Option Nat):Nat→Bool→Nat→Nat→A
 | 0,_,_,_=>.any
 | k+1,false,l,n=>match σ[l]? with
  | some (.row _ _ _ m cs)=>if n=m then .sl n (vwL (seen σ g k) g cs) else .any
  | _=>.any
 | k+1,true,l,o=>match σ[l]? with
  | some (.box cs)=>.rptr ((vwL (seen σ g k) g cs).drop o)
  | _=>.any
def vwO (rf:Bool→Nat→Nat→A)(g:Nat→Option Nat):AObj→AObj
 | .dead=>.dead
 | .box cs=>.box (vwL rf g cs)
 | .row fz e sz n cs=>.row fz e sz n (vwL rf g cs)
 | .lp b r M es=>.lp b r M (es.map fun p=>(p.1,vw rf g p.2))
 | .mp fr nk es=>.mp fr nk (es.map fun p=>(p.1,vw rf g p.2))
 | .it m n met=>match g m with
  | some i=>.it i n met
  | none=>.dead
 | .rsv=>.rsv
def zGC:AObj→AObj
 | .dead=>.dead
 | .box cs=>.box (qU cs)
 | .row fz e sz n cs=>.row fz e sz n (qU cs)
 | .lp b r M es=>.lp b r M (es.map fun p=>(p.1,nrm0 p.2))
 | .mp fr nk es=>.mp fr nk (es.map fun p=>(p.1,nrm0 p.2))
 | .it m n met=>.it m n met
 | .rsv=>.rsv
def zW:List Nat→Nat→Option Nat
 | [],_=>none
 | k::ks,l=>if l=k then some 0 else (zW ks l).map (· + 1)
theorem zIS:∀{ks:List Nat} {l i:Nat},zW ks l=some i→ks[i]?=some l
 | [],l,i,h=>by simp[zW]at h
 | k::ks,l,i,h=>by
  simp only[zW]at h;split at h
  ·cases h; rename_i h; simp[h]
  ·simp only[jAb]at h;obtain⟨j,hj,rfl⟩:=h
   simpa using zIS hj
theorem zLh:∀{ks:List Nat} {l:Nat},zW ks l=none→l∉ks
 | [],l,_=>by simp
 | k::ks,l,h=>by
  simp only[zW]at h;split at h
  ·cases h
  ·rename_i hne;simp only[Option.map_eq_none_iff]at h;simp[hne,zLh h]
section
variable {P:Program}{H H':Mem}{L L':List LI} {σ : St}{w:World}
theorem zIO:∀{ks:List Nat} {i j x:Nat},ks.Nodup→ks[i]?=some x→ks[j]?=some x→i=j
 | [],i,j,x,_,h,_=>by simp at h
 | k::ks,i,j,x,hd,h1,h2=>by
  rw[jD]at hd;cases i with
  | zero =>
   cases j with
   | zero=>rfl
   | succ j =>
    simp only[jAq,jBf,jA0]at h1 h2;subst h1;exact(hd.1 (jC1 h2)).elim
  | succ i =>
   cases j with
   | zero =>
    simp only[jAq,jBf,jA0]at h1 h2;subst h2;exact(hd.1 (jC1 h1)).elim
   | succ j =>
    simp only[jBf]at h1 h2;rw[zIO hd.2 h1 h2]
mutual
theorem Rel.vw {rf:Bool→Nat→Nat→A}{g:Nat→Option Nat}(hh:HLe H H')(hg:∀l i,g l=some i→L'[i]?=L[l]?)(hr:∀l n v,g l=none→Rel H L (.row l n) v→Rel H' L' (rf false l n) v)(hp:∀l n v,g l=none→Rel H L (.ptr l n) v→Rel H' L' (rf true l n) v) :
 ∀(a:A) {v:Value},Rel H L a v→Rel H' L' (vw rf g a) v
 | .ptr l o,v,h=>by
  simp only[Abs.vw];split
  ·rename_i i hi;simp only[Rel]at h⊢;rw[hg l i hi];exact h
  ·rename_i hi;exact hp l o v hi h
 | .row l n,v,h=>by
  simp only[Abs.vw];split
  ·rename_i i hi;simp only[Rel]at h⊢;rw[hg l i hi];exact h
  ·rename_i hi;exact hr l n v hi h
 | .rwp l n o,v,h=>by
  simp only[Abs.vw];split
  ·rename_i i hi;simp only[Rel]at h⊢;rw[hg l i hi];exact h
  ·simp[Rel]
 | .map l,v,h=>by
  simp only[Abs.vw];split
  ·rename_i i hi;simp only[Rel]at h⊢;rw[hg l i hi];exact h
  ·simp[Rel]
 | .win l n o k c,v,h=>by
  simp only[Abs.vw];split
  ·rename_i i hi;simp only[Rel]at h⊢;rw[hg l i hi];exact h
  ·rename_i hi;simp only[Rel]at h;obtain⟨h0,li,e,h1,h2,h3⟩:=h;by_cases hn:n=li.len
   ·obtain⟨g0,ad,cap,rfl,g1,g2,g3⟩:=h3 hn;have h4:=hr l n (match li.block with | none=>.slice none 0 0 | some b=>.slice (some ⟨b,0,none⟩) n li.cap) hi (by
     simp only[Rel];exact⟨by split<;>rfl,li,e,h1,h2,fun _=>rfl⟩)
    generalize rf false l n=x at h4;cases x<;>simp only[zTr]<;>try (simp only[Rel]; done)
    rename_i n' cs;split
    ·rename_i hk;subst hk;simp only[Rel];exact⟨ad,cap,rfl,jAv _,g2,.inl (by simp)⟩
    ·rename_i hk;replace g3:=zTa g1 g3;rcases g3 with g3 | ⟨b,g3,rfl⟩
     ·exact(hk g3).elim
     ·simp only[g3,Rel]at h4 ⊢;obtain⟨a',cap',k1,k2,k3,k4⟩:=h4;simp only[Value.slice.injEq]at k1;obtain⟨rfl,rfl,rfl⟩:=k1;refine⟨_,cap,rfl,g1,g2,?_⟩;rcases k4 with ⟨rfl,rfl⟩ | ⟨b',o',us,k5,k6,k7,k8⟩
      ·omega
      ·cases k5;refine .inr ⟨b,o,_,rfl,(k6.drop o).take (k*c),zAV k7,?_⟩;have:=(k8.drop o).take (k*c)
       rwa [jAr]at this
   ·have h4:=hr l n (.bool true) hi (by
     simp only[Rel];exact⟨rfl,li,e,h1,h2,fun e=>(hn e).elim⟩)
    generalize rf false l n=x at h4;cases x<;>simp only[zTr]<;>try (simp only[Rel]; done)
    simp only[Rel]at h4;obtain⟨_,_,h4,_⟩:=h4;cases h4
 | .agg cs,v,h=>by simp only[Rel,Abs.vw]at h⊢;obtain⟨vs,rfl,h1,h2⟩:=h;exact⟨vs,rfl,zN.vw hh hg hr hp cs h1,h2⟩
 | .tup cs,v,h=>by simp only[Rel,Abs.vw]at h⊢;obtain⟨vs,rfl,h1⟩:=h;exact⟨vs,rfl,zN.vw hh hg hr hp cs h1⟩
 | .sl n cs,v,h=>by
  simp only[Rel,Abs.vw]at h⊢;obtain⟨a,cap,rfl,h1,h2,h3⟩:=h;refine⟨a,cap,rfl,h1,h2,?_⟩;rcases h3 with ⟨h3,rfl⟩ | ⟨b,o,us,rfl,h4,h5,h6⟩
  ·exact .inl ⟨h3,by simp[vwL]⟩
  ·exact .inr ⟨b,o,us,rfl,zN.vw hh hg hr hp cs h4,h5,h6.mono hh⟩
 | .fsl n cs,v,h=>by
  simp only[Rel,Abs.vw]at h⊢;obtain⟨a,rfl,h1,h3⟩:=h;refine⟨a,rfl,h1,?_⟩;rcases h3 with ⟨h3,rfl⟩ | ⟨b,o,us,rfl,h4,h5,h6⟩
  ·exact .inl ⟨h3,by simp[vwL]⟩
  ·exact .inr ⟨b,o,us,rfl,zN.vw hh hg hr hp cs h4,h5,h6.mono hh⟩
 | .rptr cs,v,h=>by simp only[Rel,Abs.vw]at h⊢;obtain⟨b,o,us,rfl,h4,h5,h6⟩:=h;exact⟨b,o,us,rfl,zN.vw hh hg hr hp cs h4,h5,h6.mono hh⟩
 | .clo f first cap,v,h=>by simp only[Rel,Abs.vw]at h⊢;obtain⟨fs,cs,rfl,h1,h2⟩:=h;exact⟨fs,cs,rfl,zN.vw hh hg hr hp first h1,zN.vw hh hg hr hp cap h2⟩
 | .any,_,_=>by simp[Rel,Abs.vw]
 | .nil,_,h=>by simpa [Rel,Abs.vw] using h
 | .lit _,_,h=>by simpa [Rel,Abs.vw] using h
theorem zN.vw {rf:Bool→Nat→Nat→A}{g:Nat→Option Nat}(hh:HLe H H')(hg:∀l i,g l=some i→L'[i]?=L[l]?)(hr:∀l n v,g l=none→Rel H L (.row l n) v→Rel H' L' (rf false l n) v)(hp:∀l n v,g l=none→Rel H L (.ptr l n) v→Rel H' L' (rf true l n) v) :
 ∀(cs:List A) {vs:List Value},zN H L cs vs→zN H' L' (vwL rf g cs) vs
 | [],vs,h=>by simpa [zN,vwL] using h
 | c::cs,vs,h=>by simp only[zN,vwL]at h⊢;obtain⟨u,us,rfl,h1,h2⟩:=h;exact⟨u,us,rfl,Rel.vw hh hg hr hp c h1,zN.vw hh hg hr hp cs h2⟩
end
def AObj.held:AObj→Nat
 | .row _ _ sz n _=>n*sz
 | .box cs=>cs.length
 | _=>0
def zNB (g:Nat→Option Nat)(L:List LI) (σ : St)(b o:Nat):Prop :=
 ∃(i:Nat) (li:LI) (ob:AObj),g i=none∧L[i]?=some li∧σ[i]?=some ob∧li.block=some b∧o<ob.held
open Classical in
noncomputable def zKG (g:Nat→Option Nat) (H:Mem) (L:List LI) (σ : St) (w:World):Mem:=⟨fun b o=>match H b o with
 | some v=>some v
 | none=>if zNB g L σ b o then w.cell? ⟨b,o,none⟩ else none,fun b o v h=>by simp only[H.2 b o v h]⟩
open Classical in
theorem zEY (g:Nat→Option Nat)(H:Mem)(L:List LI) (σ : St)(w:World)(b o:Nat):zKG g H L σ w b o=match H b o with
 | some v=>some v
 | none=>if zNB g L σ b o then w.cell? ⟨b,o,none⟩ else none:=rfl
theorem zEZ {g:Nat→Option Nat}:HLe H (zKG g H L σ w):=fun b o v h=>by rw[zEY,h]
theorem zPq {g:Nat→Option Nat}{b o:Nat}{v:Value}(h:zKG g H L σ w b o=some v):H b o=some v∨(zNB g L σ b o∧w.cell? ⟨b,o,none⟩=some v):=by
 rw[zEY]at h;split at h
 ·rename_i u hu; cases h; exact .inl hu
 ·split at h
  ·rename_i hr; exact .inr ⟨hr,h⟩
  ·cases h
theorem zPr {g:Nat→Option Nat}(hs:RelSt H L σ w){b o:Nat}{v:Value}(hx:zNB g L σ b o)(hc:w.cell? ⟨b,o,none⟩=some v):zKG g H L σ w b o=some v:=by
 rw[zEY];split
 ·rename_i x hx;have:=hs.pers b o x hx;rw[hc]at this;exact this.symm
 ·rw[if_pos hx];exact hc
theorem Rel.seen {g:Nat→Option Nat}(hs:RelSt H L σ w)(hg:∀l i,g l=some i→L'[i]?=L[l]?) :
 ∀(k:Nat),(∀(l n:Nat) (v:Value),g l=none→Rel H L (.row l n) v→Rel (zKG g H L σ w) L' (seen σ g k false l n) v)∧∀(l n:Nat) (v:Value),g l=none→Rel H L (.ptr l n) v→Rel (zKG g H L σ w) L' (seen σ g k true l n) v
 | 0=>⟨fun l n v _ _=>by simp[Abs.seen,Rel],fun l n v _ _=>by simp[Abs.seen,Rel]⟩
 | k+1=>by
  obtain⟨ih1,ih2⟩:=Rel.seen hs hg k;refine⟨fun l n v hl h=>?_,fun l n v hl h=>?_⟩
  ·simp only[Abs.seen];split
   ·rename_i fz e sz m cs hσ;split
    ·rename_i hn;subst hn;simp only[Rel]at h⊢;obtain⟨_,li,e1,e2,e3,hv⟩:=h;have hob:=hs.obj l li _ e1 hσ;simp only[zL]at hob;obtain⟨_,g1,g2,hob⟩:=hob;have hv:=hv g1.symm;rcases hob with ⟨hb,h0⟩ | ⟨b,cur,hb,k1,k2,k3,k4,k5,k6,k7⟩
     ·rw[hb]at hv;subst h0;have hcs:cs=[]:=jBw (by simpa using g2);exact⟨none,0,hv,jA _,jAv _,.inl ⟨rfl,by simp[hcs,vwL]⟩⟩
     ·rw[hb]at hv;refine⟨_,_,hv,k2,k3,.inr ⟨b,0,_,rfl,zN.vw zEZ hg ih1 ih2 cs k5,k6,fun j u hu=>?_⟩⟩;have hj:j<n*sz:=by
       rw[jB5]at hu;split at hu
       ·assumption
       ·cases hu
      have hc:w.cell? ⟨b,j,none⟩=some u:=by
       rw[cell_of_row w b j cur e (0,0) k1];rw[jB5,if_pos hj]at hu
       simpa using hu
      simp only[jAr];exact zPr hs ⟨l,li,_,hl,e1,hσ,hb,hj⟩ hc
    ·simp[Rel]
   ·simp[Rel]
  ·simp only[Abs.seen];split
   ·rename_i cs hσ;simp only[Rel]at h⊢;obtain⟨li,b,e1,e2,e3,hv⟩:=h;have hob:=hs.obj l li _ e1 hσ;simp only[zL]at hob;obtain⟨_,b',vs,e,hb',hh,hr,h1,_⟩:=hob;rw[e2]at hb';cases hb';refine⟨b,n,vs.drop n,hv,(zN.vw zEZ hg ih1 ih2 cs hr).drop n,fun u hu=>h1 u (jBo hu),fun j u hu=>?_⟩;rw[jD3]at hu;have hlt:n+j<cs.length:=by rw[←hr.length];exact(jA1.1 hu).1
    refine zPr hs ⟨l,li,_,hl,e1,hσ,e2,hlt⟩ ?_;rw[cell_of_row w b _ _ e (0,0) hh]
    simpa using hu
   ·simp[Rel]
def yL (σ : St)(rf:Bool→Nat→Nat→A)(g:Nat→Option Nat):List Nat→St→Prop
 | [],[]=>True
 | j::js,o'::os=>(match σ[j]? with
  | some o=>o'=vwO rf g o∨o'=zGC (vwO rf g o)
  | none=>False)∧yL σ rf g js os
 | _,_=>False
theorem zE8 {rf:Bool→Nat→Nat→A}{g:Nat→Option Nat}:∀{ks:List Nat} {σ':St},yL σ rf g ks σ'→σ'.length=ks.length
 | [],[],_=>rfl
 | _::_,_::_,h=>by simp[zE8 h.2]
theorem zE7 {rf:Bool→Nat→Nat→A}{g:Nat→Option Nat}:∀{ks:List Nat} {σ':St},yL σ rf g ks σ'→∀{i j:Nat} {o':AObj},ks[i]?=some j→σ'[i]?=some o'→∃o,σ[j]?=some o∧(o'=vwO rf g o∨o'=zGC (vwO rf g o))
 | [],[],_,i,j,o',h,_=>by simp at h
 | k::ks,p::σ',h,i,j,o',h1,h2=>by
  cases i with
  | zero =>
   simp only[jAq,jA0]at h1 h2;subst h1; subst h2;have:=h.1;split at this
   ·rename_i o ho; exact⟨o,ho,this⟩
   ·exact this.elim
  | succ i =>
   simp only[jBf]at h1 h2;exact zE7 h.2 h1 h2
theorem zL.nrm {li:LI}{o:AObj}(h:zL H L w li o):zL H L w li (zGC o):=by
 cases o with
 | dead=>trivial
 | box cs =>
  simp only[zL,zGC]at h⊢;obtain⟨h0,b,vs,e,h1,h2,h3,h4,h5⟩:=h;exact⟨h0,b,vs,e,h1,h2,zN.nrm0 _ h3,h4,h5⟩
 | row fz e sz n cs =>
  simp only[zL,zGC]at h⊢;obtain⟨h0,h1,h2,h3⟩:=h;have hl:∀cs:List A,(qU cs).length=cs.length:=fun cs=>by induction cs with
   | nil=>rfl
   | cons c cs ih=>simp[qU,ih]
  refine⟨h0,h1,by rw[hl]; exact h2,?_⟩;rcases h3 with h3 | ⟨b,cur,g1,g2,g3,g4,g5,g6,g7,g8⟩
  ·exact .inl h3
  ·exact .inr ⟨b,cur,g1,g2,g3,g4,g5,zN.nrm0 _ g6,g7,g8⟩
 | lp b r M es =>
  simp only[zL,zGC]at h⊢;obtain⟨h0,h1,tmps,h2,h3,h4⟩:=h;exact⟨h0,h1,tmps,h2,h3,h4.map _ fun a v ha=>Rel.nrm0 a ha⟩
 | mp fr nk es =>
  simp only[zL,zGC]at h⊢;obtain⟨h0,b,ents,ck,h1,h2,h3,h4⟩:=h;exact⟨h0,b,ents,ck,h1,h2,zAh.map _ (fun p _ v hv=>Rel.nrm0 _ hv) h3,h4.1,zKM h4.2⟩
 | it m n met=>exact h
 | rsv=>exact h
theorem zHy {rf:Bool→Nat→Nat→A}{g:Nat→Option Nat}:∀{cs:List A},(vwL rf g cs).length=cs.length
 | []=>rfl
 | c::cs=>by simp[vwL,zHy]
theorem zSI {H0:Mem}{L0:List LI}{w0:World}(ks:List Nat)(fuel:Nat) {σ':St}(hk:∀i,i<L0.length→ks[i]?=some i)(hd:ks.Nodup)
 (ho:yL σ (Abs.seen σ (zW ks) fuel) (zW ks) ks σ')(h:Nxt H0 L0 w0 H L σ w) :
 ∃H' L',Nxt H0 L0 w0 H' L' σ' w∧HLe H H'∧∀a v,Rel H L a v→Rel H' L' (Abs.vw (Abs.seen σ (zW ks) fuel) (zW ks) a) v:=by
 have hs:=h.st;let g:=zW ks;let L':List LI:=ks.map fun k=>L.getD k ⟨none,0,0,false⟩
 have hin:∀(i j:Nat),ks[i]?=some j→∃li,L[j]?=some li∧L'[i]?=some li:=by
  intro i j hij;have hi:i < σ'.length:=by rw[zE8 ho]; exact(jA1.1 hij).1
  obtain⟨o,hσ,_⟩:=zE7 ho hij (jA2 hi);have hj:j<L.length:=by rw[hs.len]; exact(jA1.1 hσ).1
  refine⟨L[j],jA2 hj,?_⟩;simp[L',hij,hj]
 have hback:∀{i:Nat} {li:LI},L'[i]?=some li→∃j,ks[i]?=some j∧L[j]?=some li:=by
  intro i li hi;have hi':i<ks.length:=by simpa [L'] using (jA1.1 hi).1
  obtain⟨li',h1,h2⟩:=hin i ks[i] (jA2 hi');rw[hi]at h2;cases h2;exact⟨_,jA2 hi',h1⟩
 have hg:∀l i,g l=some i→L'[i]?=L[l]?:=by intro l i hl;obtain⟨li,h1,h2⟩:=hin i l (zIS hl);rw[h1,h2]
 have hrel:∀a v,Rel H L a v→Rel (zKG g H L σ w) L' (Abs.vw (Abs.seen σ g fuel) g a) v:=fun a v ha=>Rel.vw zEZ hg (Rel.seen hs hg fuel).1 (Rel.seen hs hg fuel).2 a ha
 have hrelL:∀cs vs,zN H L cs vs→zN (zKG g H L σ w) L' (vwL (Abs.seen σ g fuel) g cs) vs:=fun a v ha=>zN.vw zEZ hg (Rel.seen hs hg fuel).1 (Rel.seen hs hg fuel).2 a ha
 have hkeep:∀(j:Nat) (li:LI) (b:Nat),j∈ks→L[j]?=some li→li.block=some b→∀o,zKG g H L σ w b o=H b o:=by
  intro j li b hj hL hb o;rw[zEY];cases hH:H b o with
  | some v=>rfl
  | none =>
   simp only;rw[if_neg];rintro⟨i,li',ob,g1,g2,g3,g4,g5⟩;have:=hs.inj i j li' li b g2 hL g4 hb;subst this;exact zLh g1 hj
 refine⟨zKG g H L σ w,L',⟨⟨fun b o v hv=>(zPq hv).elim (hs.pers b o v) fun h=>h.2,by simp[L',zE8 ho],fun i li o hL hσ=>?_,fun i j x y b hi hj hx hy=>?_,fun i li b hi hb=>?_⟩,
  ⟨h.step.os,h.step.tape,h.step.output,h.step.size,h.step.keep,h.step.hle.trans zEZ,fun b o v hv=>?_,h.step.drawn,h.step.dfr⟩,fun i x hx=>?_,fun b ⟨i,x,hi,hx⟩=>?_⟩,zEZ,hrel⟩
 ·obtain⟨j,hj,hLj⟩:=hback hL;obtain⟨o0,hσ0,heq⟩:=zE7 ho hj hσ;have hob:=hs.obj j li o0 hLj hσ0;have hjm:j∈ks:=jC1 hj;have key:zL (zKG g H L σ w) L' w li (vwO (Abs.seen σ g fuel) g o0):=by
   cases o0 with
   | dead=>trivial
   | box cs =>
    simp only[zL,vwO]at hob ⊢;obtain⟨h0,b,vs,e,h1,h2,h3,h4,h5⟩:=hob;exact⟨h0,b,vs,e,h1,h2,hrelL _ _ h3,h4,fun o=>by rw[hkeep j li b hjm hLj h1]; exact h5 o⟩
   | row fz e sz n cs =>
    simp only[zL,vwO]at hob ⊢;obtain⟨h0,h1,h2,h3⟩:=hob;refine⟨h0,h1,by rw[zHy]; exact h2,?_⟩;rcases h3 with h3 | ⟨b,cur,g1,g2,g3,g4,g5,g6,g7,g8⟩
    ·exact .inl h3
    ·refine .inr ⟨b,cur,g1,g2,g3,g4,g5,hrelL _ _ g6,g7,?_⟩;cases fz with
     | false=>exact fun o=>by rw[hkeep j li b hjm hLj g1]; exact g8 o
     | true=>exact⟨g8.1.mono zEZ,fun o ho=>by rw[hkeep j li b hjm hLj g1]; exact g8.2 o ho⟩
   | lp b r M es =>
    simp only[zL,vwO]at hob ⊢;obtain⟨h0,h1,tmps,h2,h3,h4⟩:=hob;exact⟨h0,h1,tmps,h2,h3,h4.map _ hrel⟩
   | mp fr nk es =>
    simp only[zL,vwO]at hob ⊢;obtain⟨h0,b,ents,ck,h1,h2,h3,h4⟩:=hob;exact⟨h0,b,ents,ck,h1,h2,zAh.map _ (fun p _ v hv=>hrel _ _ hv) h3,h4.1,zKM h4.2⟩
   | it m n met =>
    simp only[vwO];split
    ·rename_i i0 hi0;simp only[zL]at hob ⊢;obtain⟨h0,b,mb,lm,h1,h2,h3,h4,h5⟩:=hob;have hp:Rel H L (.ptr m 0) (.pointer (some ⟨mb,0,none⟩)):=by simp only[Rel]; exact⟨lm,mb,h2,h3,h4,rfl⟩
     have hp:=hrel _ _ hp;simp only[Abs.vw,hi0,Rel]at hp;obtain⟨lm',mb',k2,k3,k4,k5⟩:=hp;cases k5;exact⟨h0,b,mb,lm',h1,k2,k3,k4,h5⟩
    ·trivial
   | rsv=>exact hob
  rcases heq with rfl | rfl
  ·exact key
  ·exact key.nrm
 ·obtain⟨i',hi',hLi⟩:=hback hi;obtain⟨j',hj',hLj⟩:=hback hj;have:=hs.inj i' j' x y b hLi hLj hx hy;subst this;have hi1:=(jA1.1 hi').1;have hj1:=(jA1.1 hj').1;exact zIO hd hi' hj'
 ·obtain⟨j,_,hLj⟩:=hback hi;exact hs.lt j li b hLj hb
 ·rcases zPq hv with h1 | ⟨⟨i,li,_,_,hL,_,hb,_⟩,_⟩
  ·exact h.step.hnew b o v h1
  ·exact .inr (h.own b ⟨i,li,hL,hb⟩)
 ·obtain⟨x',hx',hr⟩:=h.lle i x hx;have hi:i<L0.length:=(jA1.1 hx).1;obtain⟨li,h1,h2⟩:=hin i i (hk i hi);rw[hx']at h1;cases h1;exact⟨_,h2,hr⟩
 ·obtain⟨j,_,hLj⟩:=hback hi;exact h.own b ⟨j,x,hLj,hx⟩
theorem zA0.sel {n0:Nat}{env:Env}(ks:List Nat)(fuel:Nat)(l:List (Nat×A)) {σ':St}(hk:∀i,i<n0→ks[i]?=some i)(hd:ks.Nodup)(ho:yL σ (Abs.seen σ (zW ks) fuel) (zW ks) ks σ')
 (hl:∀p∈l,p.2=Abs.vw (Abs.seen σ (zW ks) fuel) (zW ks) (env p.1)∨p.2=nrm0 (Abs.vw (Abs.seen σ (zW ks) fuel) (zW ks) (env p.1))):zA0 n0 (qC l) σ' env σ:=by
 intro H0 L0 w0 H L w N tmps h0 h1 h2;subst h0;obtain⟨H',L',g1,_,g3⟩:=zSI ks fuel hk hd ho h1;refine⟨H',L',g1,h2.1,fun t=>?_⟩;rcases zDw l t with h | h
 ·rw[h]; simp[Rel]
 ·have:=g3 _ _ (h2.2 t);rcases hl _ h with e | e
  ·simp only at e; rw[e]; exact this
  ·simp only at e; rw[e]; exact Rel.nrm0 _ this
end
end Go.Abs
