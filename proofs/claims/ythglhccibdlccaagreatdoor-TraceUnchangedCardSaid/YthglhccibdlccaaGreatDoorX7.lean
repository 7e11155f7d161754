/-
  Rules for simp on levels and contracts; the steps that a prover takes at calls, loops and returns.
  Calls in regions that draw: of functions that work on objects of the caller's, and beside growing operations.
  Rules for simp: the operations on maps, and the look whether a pointer is nil.
  States that begin with a caller's, of a length that is not written out; calls of a yield; rows that are frozen; growing calls in regions that draw.
  IDs: how they are compared, and lists of them.
  slices.SortFunc: the kit's contracts as contracts over abstract states.
-/
import Derived.Test.YthglhccibdlccaaGreatDoorX6
import Derived.Test.YthglhccibdlccaaGreatDoorRows
import Derived.IntWalk
import Derived.Shelf.SlSortCmp.NoneTotal
set_option linter.unusedVariables false
set_option maxHeartbeats 8000000
set_option maxRecDepth 100000
set_option linter.unusedSimpArgs false
open Go.Proofs.Tryz (prog)
namespace Go.Abs
attribute [simp] KOp.dst
@[simp] theorem qDM {a b n:Nat}(h:a≤b):(a≤b+n)=True:=eq_true (by omega)
@[simp] def int (n:Int):A:=.lit (.int .i64 n)
@[simp] def bl (b:Bool):A:=.lit (.bool b)
section
variable {P:Program}{n0:Nat}{Qp:Value→Env→St→Prop}{K':Env→St→Prop}{KD:Env→Prop}{Q:Ex→Env→St→Prop}{env:Env} {σ : St}{d:Option Nat}
variable {rf:Bool→Nat→Nat→A}{g:Nat→Option Nat}
def lvl (o:Option Nat)(f:Nat→A)(b:A):A:=match o with
 | some i=>f i
 | none=>b
@[simp] theorem qKd {i:Nat}{f:Nat→A}{b:A}:lvl (some i) f b=f i:=rfl
@[simp] theorem qKc {f:Nat→A}{b:A}:lvl none f b=b:=rfl
@[simp] theorem qRs {l o:Nat}:vw rf g (.ptr l o)=lvl (g l) (.ptr · o) (rf true l o):=by simp only[vw,lvl];cases g l<;>rfl
@[simp] theorem qRt {l n:Nat}:vw rf g (.row l n)=lvl (g l) (.row · n) (rf false l n):=by simp only[vw,lvl];cases g l<;>rfl
@[simp] theorem qRu {l n o:Nat}:vw rf g (.rwp l n o)=lvl (g l) (.rwp · n o) .any:=by simp only[vw,lvl];cases g l<;>rfl
@[simp] theorem qRq {l:Nat}:vw rf g (.map l)=lvl (g l) .map .any:=by simp only[vw,lvl];cases g l<;>rfl
@[simp] theorem qRw {l n o k c:Nat}:vw rf g (.win l n o k c)=lvl (g l) (.win · n o k c) (zWb o k c (rf false l n)):=by simp only[vw,lvl];cases g l<;>rfl
@[simp] theorem qMy {n o k c:Nat}{cs:List A}:zWb o k c (.sl n cs)=if k=0 then .sl 0 [] else .sl k ((cs.drop o).take c):=rfl
@[simp] theorem qRl {cs:List A}:vw rf g (.agg cs)=.agg (vwL rf g cs):=by simp only[vw]
@[simp] theorem qRv {cs:List A}:vw rf g (.tup cs)=.tup (vwL rf g cs):=by simp only[vw]
@[simp] theorem qRJ {n:Nat}{cs:List A}:vw rf g (.sl n cs)=.sl n (vwL rf g cs):=by simp only[vw]
@[simp] theorem qRo {n:Nat}{cs:List A}:vw rf g (.fsl n cs)=.fsl n (vwL rf g cs):=by simp only[vw]
@[simp] theorem qN1 {cs:List A}:vw rf g (.rptr cs)=.rptr (vwL rf g cs):=by simp only[vw]
@[simp] theorem qRn {f:FuncId}{a b:List A}:vw rf g (.clo f a b)=.clo f (vwL rf g a) (vwL rf g b):=by simp only[vw]
@[simp] theorem qRm:vw rf g .any=.any:=by simp only[vw]
@[simp] theorem qRr:vw rf g .nil=.nil:=by simp only[vw]
@[simp] theorem qRp {v:Value}:vw rf g (.lit v)=.lit v:=by simp only[vw]
@[simp] theorem qRK {b:Nat}:vw rf g (yv b)=yv b:=by simp only[yv,vw]
@[simp] theorem qEP {b:Bool}{l n:Nat}:yA b l n=.any:=rfl
@[simp] theorem qNn:vwL rf g []=[]:=by simp only[vwL]
@[simp] theorem qLp {c:A}{cs:List A}:vwL rf g (c::cs)=vw rf g c::vwL rf g cs:=by simp only[vwL]
@[simp] theorem zMk {cs ds:List A}:vwL rf g (cs++ds)=vwL rf g cs++vwL rf g ds:=by
 induction cs with
 | nil=>simp
 | cons c cs ih=>simp[ih]
@[simp] theorem qLq {cs:List A}{n:Nat}:vwL rf g (cs.drop n)=(vwL rf g cs).drop n:=by
 induction cs generalizing n with
 | nil=>simp
 | cons c cs ih=>cases n<;>simp[ih]
@[simp] theorem qLr {cs:List A}{n:Nat}:vwL rf g (cs.take n)=(vwL rf g cs).take n:=by
 induction cs generalizing n with
 | nil=>simp
 | cons c cs ih=>cases n<;>simp[ih]
@[simp] theorem qK0 {l o:Nat}:nrm0 (.ptr l o)=.ptr l o:=by simp only[nrm0]
@[simp] theorem qK1 {l n:Nat}:nrm0 (.row l n)=.row l n:=by simp only[nrm0]
@[simp] theorem qK2 {l n o:Nat}:nrm0 (.rwp l n o)=.rwp l n o:=by simp only[nrm0]
@[simp] theorem qKy {l:Nat}:nrm0 (.map l)=.map l:=by simp only[nrm0]
@[simp] theorem qK4 {l n o k c:Nat}:nrm0 (.win l n o k c)=.win l n o k c:=by simp only[nrm0]
@[simp] theorem qKt {cs:List A}:nrm0 (.agg cs)=.agg (jK cs):=by simp only[nrm0]
@[simp] theorem qK3 {cs:List A}:nrm0 (.tup cs)=.tup (jK cs):=by simp only[nrm0]
@[simp] theorem qMO {n:Nat}{cs:List A}:nrm0 (.sl n cs)=.sl n (jK cs):=by simp only[nrm0]
@[simp] theorem qKw {n:Nat}{cs:List A}:nrm0 (.fsl n cs)=.sl n (jK cs):=by simp only[nrm0]
@[simp] theorem qFK {cs:List A}:nrm0 (.rptr cs)=.rptr (jK cs):=by simp only[nrm0]
@[simp] theorem qKv {f:FuncId}{a b:List A}:nrm0 (.clo f a b)=.clo f (jK a) (jK b):=by simp only[nrm0]
@[simp] theorem qKu:nrm0 .any=.any:=by simp only[nrm0]
@[simp] theorem qKz:nrm0 .nil=.sl 0 []:=by simp only[nrm0]
@[simp] theorem qKx {v:Value}:nrm0 (.lit v)=.lit v:=by simp only[nrm0]
@[simp] theorem qMP {b:Nat}:nrm0 (yv b)=yv b:=by simp only[yv,nrm0]
@[simp] theorem qFA:jK []=[]:=by simp only[jK]
@[simp] theorem qDS {c:A}{cs:List A}:jK (c::cs)=nrm0 c::jK cs:=by simp only[jK]
@[simp] theorem zIn {cs ds:List A}:jK (cs++ds)=jK cs++jK ds:=by
 induction cs with
 | nil=>simp
 | cons c cs ih=>simp[ih]
@[simp] theorem qDT {cs:List A}{n:Nat}:jK (cs.drop n)=(jK cs).drop n:=by
 induction cs generalizing n with
 | nil=>simp
 | cons c cs ih=>cases n<;>simp[ih]
@[simp] theorem qDU {cs:List A}{n:Nat}:jK (cs.take n)=(jK cs).take n:=by
 induction cs generalizing n with
 | nil=>simp
 | cons c cs ih=>cases n<;>simp[ih]
def jM (cs:List A):Prop:=jK cs=cs∧∀rf g,vwL rf g cs=cs
theorem jM.nil:jM []:=⟨by simp,by simp⟩
theorem jM.append {cs ds:List A}(h:jM cs)(k:jM ds):jM (cs++ds):=⟨by simp[h.1,k.1],fun rf g=>by simp[h.2,k.2]⟩
theorem jM.drop {cs:List A}(h:jM cs)(n:Nat):jM (cs.drop n):=⟨by simp[h.1],fun rf g=>by simp[h.2]⟩
theorem jM.take {cs:List A}(h:jM cs)(n:Nat):jM (cs.take n):=⟨by simp[h.1],fun rf g=>by simp[h.2]⟩
theorem jM.int {k:IntKind}{n:Int}{cs:List A}(h:jM cs):jM (.lit (.int k n)::cs):=⟨by simp[h.1],fun rf g=>by simp[h.2]⟩
theorem jM.lit {v:Value}{cs:List A}(h:jM cs):jM (.lit v::cs):=⟨by simp[h.1],fun rf g=>by simp[h.2]⟩
theorem jM.sl {n:Nat}{ds cs:List A}(k:jM ds)(h:jM cs):jM (.sl n ds::cs):=⟨by simp[h.1,k.1],fun rf g=>by simp[h.2,k.2]⟩
@[simp] theorem qFR {l:Nat}:qX [] l=none:=rfl
@[simp] theorem qEi {k l:Nat}{ks:List Nat}:qX (k::ks) l=if l=k then some 0 else (qX ks l).map (· + 1):=rfl
@[simp] theorem qIa {n l:Nat}:zDI [] n l=n+l:=by cases l<;>rfl
@[simp] theorem qET {j n:Nat}{js:List Nat}:zDI (j::js) n 0=j:=rfl
@[simp] theorem qES {j n l:Nat}{js:List Nat}:zDI (j::js) n (l+1)=zDI js n l:=rfl
@[simp] theorem qEj {s t:St}:jX s [] t=s++t:=by simp only[jX]
@[simp] theorem zPU {s os:St}{j:Nat}{js:List Nat}{o:AObj}:jX s (j::js) (o::os)=jX (s.set j o) js os:=rfl
@[simp] theorem qEQ {js:List Nat}:zBC js [] []:=trivial
@[simp] theorem qCx {js:List Nat}{a a':A}{aS aS':List A}:zBC js (a'::aS') (a::aS)=((a=vw yA (qX js) a'∨a=nrm0 (vw yA (qX js) a'))∧zBC js aS' aS):=rfl
def zPO (o:Option AObj)(J:AObj→Prop):Prop:=match o with
 | some o=>J o
 | none=>False
@[simp] theorem qDX {o:AObj}{J:AObj→Prop}:zPO (some o) J=J o:=rfl
@[simp] theorem qGh:zAB σ rf g [] []:=trivial
@[simp] theorem qEx {j:Nat}{js:List Nat}{o:AObj}{os:St}:zAB σ rf g (j::js) (o::os)=(zPO σ[j]? (fun p=>o=vwO rf g p∨o=zGX (vwO rf g p))∧zAB σ rf g js os):=by simp only[zAB,zPO];cases σ[j]?<;>rfl
@[simp] theorem qNo {cs:List A}:vwO rf g (.box cs)=.box (vwL rf g cs):=rfl
@[simp] theorem qNp {fz:Bool}{e:TypeId}{sz n:Nat}{cs:List A}:vwO rf g (.row fz e sz n cs)=.row fz e sz n (vwL rf g cs):=rfl
@[simp] theorem qRk {fr:Bool}{nk:Nat}{es:List (List Int×A)}:vwO rf g (.mp fr nk es)=.mp fr nk (es.map fun p=>(p.1,vw rf g p.2)):=rfl
@[simp] theorem qNq:vwO rf g .rsv=.rsv:=rfl
@[simp] theorem qK7:zGX .rsv=.rsv:=rfl
@[simp] theorem qKS {js:List Nat}{n:Nat}:zBM js n .rsv=.rsv:=rfl
@[simp] theorem qRi {m n:Nat}{met:List Nat}:vwO rf g (.it m n met)=(match g m with | some i=>AObj.it i n met | none=>.dead):=rfl
@[simp] theorem qMS {fr:Bool}{nk:Nat}{es:List (List Int×A)}:zGX (.mp fr nk es)=.mp fr nk (es.map fun p=>(p.1,nrm0 p.2)):=rfl
@[simp] theorem qMQ {m n:Nat}{met:List Nat}:zGX (.it m n met)=.it m n met:=rfl
@[simp] theorem qMZ {js:List Nat}{n:Nat}{fr:Bool}{nk:Nat}{es:List (List Int×A)}:zBM js n (.mp fr nk es)=.mp fr nk (es.map fun p=>(p.1,ren js n p.2)):=rfl
@[simp] theorem qMX {js:List Nat}{n m k:Nat}{met:List Nat}:zBM js n (.it m k met)=.it (zDI js n m) k met:=rfl
@[simp] theorem qRj {b M:Nat}{r:Loop}{es:List (Nat×A)}:vwO rf g (.lp b r M es)=.lp b r M (es.map fun p=>(p.1,vw rf g p.2)):=rfl
@[simp] theorem qMR {b M:Nat}{r:Loop}{es:List (Nat×A)}:zGX (.lp b r M es)=.lp b r M (es.map fun p=>(p.1,nrm0 p.2)):=rfl
@[simp] theorem qMY {js:List Nat}{n b M:Nat}{r:Loop}{es:List (Nat×A)}:zBM js n (.lp b r M es)=.lp b r M (es.map fun p=>(p.1,ren js n p.2)):=rfl
@[simp] theorem qK5 {cs:List A}:zGX (.box cs)=.box (jK cs):=rfl
@[simp] theorem qK6 {fz:Bool}{e:TypeId}{sz n:Nat}{cs:List A}:zGX (.row fz e sz n cs)=.row fz e sz n (jK cs):=rfl
@[simp] theorem qKQ {js:List Nat}{n:Nat}{cs:List A}:zBM js n (.box cs)=.box (qEm js n cs):=rfl
@[simp] theorem qKR {js:List Nat}{n:Nat}{fz:Bool}{e:TypeId}{sz m:Nat}{cs:List A}:zBM js n (.row fz e sz m cs)=.row fz e sz m (qEm js n cs):=rfl
@[simp] theorem qQY {js:List Nat}{n:Nat}{a:A}:ren js n a=vw yA (fun l=>some (zDI js n l)) a:=rfl
@[simp] theorem qMW {js:List Nat}{n:Nat}{cs:List A}:qEm js n cs=vwL yA (fun l=>some (zDI js n l)) cs:=rfl
def zX7 (k:Nat)(o:Option AObj)(n:Nat)(J:List A→A):A:=match o with
 | some (.row _ _ _ m cs)=>if n=m then J cs else .any
 | _=>.any
@[simp] theorem qEw {k n m:Nat}{fz:Bool}{e:TypeId}{sz:Nat}{cs:List A}{J:List A→A}:zX7 k (some (.row fz e sz m cs)) n J=if n=m then J cs else .any:=rfl
@[simp] theorem qGg {b:Bool}{l n:Nat}:seen σ g 0 b l n=.any:=rfl
@[simp] theorem qGf {k l n:Nat}:seen σ g (k+1) false l n=zX7 k σ[l]? n (fun cs=>.sl n (vwL (seen σ g k) g cs)):=by
 simp only[seen,zX7];cases σ[l]? with
 | none=>rfl
 | some o=>cases o<;>rfl
def zQk (o:Option AObj)(J:List A→A):A:=match o with
 | some (.box cs)=>J cs
 | _=>.any
@[simp] theorem qGd {cs:List A}{J:List A→A}:zQk (some (.box cs)) J=J cs:=rfl
@[simp] theorem qGe {fz:Bool}{e:TypeId}{sz n:Nat}{cs:List A}{J:List A→A}:zQk (some (.row fz e sz n cs)) J=.any:=rfl
@[simp] theorem qEv {J:List A→A}:zQk none J=.any:=rfl
@[simp] theorem qLc {k l n:Nat}:seen σ g (k+1) true l n=zQk σ[l]? (fun cs=>.rptr ((vwL (seen σ g k) g cs).drop n)):=by
 simp only[seen,zQk];cases σ[l]? with
 | none=>rfl
 | some o=>cases o<;>rfl
def zTd:List A→A
 | [x]=>x
 | l=>.tup l
@[simp] theorem qGl {x:A}:zTd [x]=x:=rfl
@[simp] theorem qGk:zTd []=.tup []:=rfl
@[simp] theorem qGm {x y:A}{l:List A}:zTd (x::y::l)=.tup (x::y::l):=rfl
def zLI (env:Env) (σ : St):List RS→(List A→Prop)→Prop
 | [],J=>J []
 | .slot t::rs,J=>zLI env σ rs fun l=>J (env t::l)
 | .cell a n agg::rs,J=>zD5 ((ldA σ n (env a)).bind (zBE agg)) fun r=>zLI env σ rs fun l=>J (r::l)
@[simp] theorem qKT {J:List A→Prop}:zLI env σ [] J=J []:=rfl
@[simp] theorem qFV {t:Nat}{rs:List RS}{J:List A→Prop}:zLI env σ (.slot t::rs) J=zLI env σ rs fun l=>J (env t::l):=rfl
@[simp] theorem qFU {a n:Nat}{agg:Bool}{rs:List RS}{J:List A→Prop}:zLI env σ (.cell a n agg::rs) J=zD5 ((ldA σ n (env a)).bind (zBE agg)) fun r=>zLI env σ rs fun l=>J (r::l):=rfl
theorem zOw:∀{rs:List RS} {J:List A→Prop},zLI env σ rs J=match zBc env σ rs with | some l=>J l | none=>False
 | [],J=>rfl
 | .slot t::rs,J=>by simp only[zLI,zBc,zEo];rw[zOw];cases zBc env σ rs<;>rfl
 | .cell a n agg::rs,J=>by
  simp only[zLI,zBc,zEo];cases (ldA σ n (env a)).bind (zBE agg)with
  | none=>rfl
  | some r =>
   simp only[zD5];rw[zOw];cases zBc env σ rs<;>rfl
@[simp] theorem qNa {rs:List RS}{R:Out→St→Prop}:zKi rs R env σ = zLI env σ rs fun l=>R (.ret (zTd l)) σ:=by
 rw[zOw,zKi,zRB];cases zBc env σ rs with
 | none=>rfl
 | some l =>
  cases l with
  | nil=>rfl
  | cons x l=>cases l<;>rfl
def zGS (n:Nat)(r:A) (σ1:St)(o:Out) (σ':St):Prop :=
 ∃(r':A) (ks:List Nat) (fuel:Nat),o=.ret r'∧(∀i,i<n→ks[i]?=some i)∧ks.Nodup∧zAB σ' (seen σ' (qX ks) fuel) (qX ks) ks σ1 ∧
  (r=vw (seen σ' (qX ks) fuel) (qX ks) r'∨r=nrm0 (vw (seen σ' (qX ks) fuel) (qX ks) r'))
theorem zK {f:FuncId}{fn:Func}{c:Code}{k:K}{rs:List RS}(hf:P.funcs[f]?=some fn)(hb:fn.body=some c)(hc:zL P fn.ntmps c=some k.erase)(hr:zB9 P fn.results.toList=some rs)
 {args:List A} {σ0 σ1:St}{r:A}(h:wpF P k rs args σ0 (zGS σ0.length r σ1)):Ret P f args σ0 r σ1:=zFu (zFL hf hb hc hr h)
theorem zI {hint:Nat→Option (List (Nat×Nat))}{f:FuncId}{fn:Func}{c:Code}{k:K}{rs:List RS}(hf:P.funcs[f]?=some fn)(hb:fn.body=some c)(hc:qD P fn.ntmps hint c=some k.erase)(hr:zB9 P fn.results.toList=some rs)
 {args:List A} {σ0 σ1:St}{r:A}(h:wpF P k rs args σ0 (zGS σ0.length r σ1)):Ret P f args σ0 r σ1:=zFu (zC3 hf hb hc hr h)
theorem zC {r r':A} {σ':St}(fuel:Nat)(h:r=vw (seen σ' (fun _=>none) fuel) (fun _=>none) r'∨r=nrm0 (vw (seen σ' (fun _=>none) fuel) (fun _=>none) r')):zGS 0 r [] (.ret r') σ' :=
 ⟨r',[],fuel,rfl,fun i hi=>by omega,by simp,trivial,h⟩
theorem zG {n:Nat}{r r':A} {σ1 σ':St}(ks:List Nat)(fuel:Nat)(hk:∀i,i<n→ks[i]?=some i)(hd:ks.Nodup)(ho:zAB σ' (seen σ' (qX ks) fuel) (qX ks) ks σ1)
 (h:r=vw (seen σ' (qX ks) fuel) (qX ks) r'∨r=nrm0 (vw (seen σ' (qX ks) fuel) (qX ks) r')):zGS n r σ1 (.ret r') σ':=⟨r',ks,fuel,rfl,hk,hd,ho,h⟩
theorem zQq:∀{s:St} {j:Nat} {o:AObj},s[j]?=some o→s.set j o=s
 | [],_,_,h=>by simp at h
 | x::s,0,o,h=>by simp at h; simp[h]
 | x::s,j+1,o,h=>by simp only[jB5]at h; simp[zQq h]
theorem zT {f:FuncId}{args args':List A}{r:A}(h:Ret P f args [] r [])(ha:zBC [] args' args)(hr:∀m,vw yA (fun l=>some (m+l)) r=r)(hq:K' (env.put d r) σ):yX P f args' σ (zIp d env K' Qp):=by
 refine zAF h [] (by simp) trivial ha ?_;have:ren [] σ.length r=r:=by
  have:=hr σ.length
  simpa [ren] using this
 rw[this]
 simpa [zIp] using hq
theorem qK {f:FuncId}{args args':List A}{r:A}(h:Ret P f args [] r [])(ha:zBC [] args' args)(hr:∀m,vw yA (fun l=>some (m+l)) r=r)(hq:KD (env.put d r)):zKz P σ d KD f args' env:=by
 refine⟨r,zAF h [] (by simp) trivial ha ?_,hq⟩;have:ren [] σ.length r=r:=by
  have:=hr σ.length
  simpa [ren] using this
 rw[this];simp
theorem zN {f:FuncId}{args args':List A} {σ0 σ1:St}{r:A}(h:Ret P f args σ0 r σ1)(js:List Nat)(hd:js.Nodup)(ho:zAB σ yA (qX js) js σ0)(ha:zBC js args' args)
 (hq:K' (env.put d (ren js σ.length r)) (jX σ js (σ1.map (zBM js σ.length)))):yX P f args' σ (zIp d env K' Qp):=zAF h js hd ho ha (by simpa [zIp] using hq)
def qBa {S:Type}(E:S→List (Nat×A))(T:S→St)(I:S→Prop) (μ : S→Nat)(n:Nat)(e:Env)(t:St):Prop:=∃s,I s∧μ s=n∧e=qT (E s)∧t=T s
theorem qW {S:Type}{W:(Ex→Env→St→Prop)→Env→St→Prop}(E:S→List (Nat×A))(T:S→St)(I:S→Prop) (μ : S→Nat)(s0:S)(h0:I s0)(start:zBL n0 (qT (E s0)) (T s0) env σ)
 (round:∀s,I s→W (rnd n0 (qBa E T I μ) (μ s) Q) (qT (E s)) (T s)):zOB n0 W Q env σ:=zZ5 E T I μ s0 h0 start round
theorem zU {S:Type}{E:S→List (Nat×A)}{T:S→St}{I:S→Prop} {μ : S→Nat}{n:Nat}(s:S)(hs:I s)(hm : μ s<n)(hw:zBL n0 (qT (E s)) (T s) env σ):rnd n0 (qBa E T I μ) n Q .norm env σ :=
 qEo s hs hm hw
theorem zR (ks:List Nat)(fuel:Nat){l:List (Nat×A)} {σ':St}(hk:∀i,i<n0→ks[i]?=some i)(hd:ks.Nodup)(ho:zAB σ (seen σ (qX ks) fuel) (qX ks) ks σ')
 (hl:∀p∈l,p.2=vw (seen σ (qX ks) fuel) (qX ks) (env p.1)∨p.2=nrm0 (vw (seen σ (qX ks) fuel) (qX ks) (env p.1))):zBL n0 (qT l) σ' env σ:=zBL.sel ks fuel l hk hd ho hl
end
end Go.Abs
namespace Go.Abs
section
variable {P:Program}{KD:Env→Prop}{env:Env} {σ : St}{d:Option Nat}
theorem zAw {f:FuncId}{args args':List A}{r:A}(h:Ret P f args [] r [])(ha:zBC [] args' args)(hr:∀m,vw yA (fun l=>some (m+l)) r=r)(hq:KD (env.put d r)):zI5 P σ d KD f args' env:=by
 refine⟨r,fun τ _=>zAF h [] (by simp) trivial ha ?_,hq⟩;have:ren [] τ.length r=r:=by
  have:=hr τ.length
  simpa [ren] using this
 rw[this];simp
def zFv (σ : St)(js:List Nat):List Nat→St→Prop
 | [],[]=>True
 | j::ks,o::os=>(zPO σ[j]? fun p=>(∃cs,p=.box cs)∧(∀n,zBM js n o=p)∧(o=vwO yA (qX js) p∨o=zGX (vwO yA (qX js) p)))∧zFv σ js ks os
 | _,_=>False
@[simp] theorem qEu {js:List Nat}:zFv σ js [] []:=trivial
@[simp] theorem qCe {js ks:List Nat}{j:Nat}{o:AObj}{os:St}:zFv σ js (j::ks) (o::os)=((zPO σ[j]? fun p=>(∃cs,p=.box cs)∧(∀n,zBM js n o=p)∧(o=vwO yA (qX js) p∨o=zGX (vwO yA (qX js) p)))∧zFv σ js ks os):=rfl
theorem zGn {js:List Nat} {τ : St}(hk:zAl σ τ):∀{ks:List Nat} {os:St},zFv σ js ks os→zFv τ js ks os
 | [],[],_=>trivial
 | j::ks,o::os,h=>by
  obtain⟨h1,h2⟩:=h;refine⟨?_,zGn hk h2⟩;cases hj : σ[j]? with
  | none=>rw[hj]at h1; exact h1.elim
  | some p =>
   rw[hj]at h1;obtain⟨⟨cs,rfl⟩,h3⟩:=h1;rw[hk j cs hj];exact⟨⟨cs,rfl⟩,h3⟩
 | [],_::_,h=>h.elim
 | _::_,[],h=>h.elim
theorem zLL {js:List Nat}:∀{ks:List Nat} {os:St},zFv σ js ks os→zAB σ yA (qX js) ks os
 | [],[],_=>trivial
 | j::ks,o::os,h=>by
  obtain⟨h1,h2⟩:=h;refine⟨?_,zLL h2⟩;cases hj : σ[j]? with
  | none=>rw[hj]at h1; exact h1.elim
  | some p=>rw[hj]at h1; exact h1.2.2
 | [],_::_,h=>h.elim
 | _::_,[],h=>h.elim
theorem zLK {js:List Nat}{n:Nat}:∀{ks:List Nat} {os:St},zFv σ js ks os→jX σ ks (os.map (zBM js n)) = σ
 | [],[],_=>by simp
 | j::ks,o::os,h=>by
  obtain⟨h1,h2⟩:=h;cases hj : σ[j]? with
  | none=>rw[hj]at h1; exact h1.elim
  | some p =>
   rw[hj]at h1;simp only[jAj,zPU];rw[h1.2.1 n,zQq hj];exact zLK h2
 | [],_::_,h=>h.elim
 | _::_,[],h=>h.elim
theorem zSy {f:FuncId}{args args':List A} {σ0:St}{r:A}(h:Ret P f args σ0 r σ0)(js:List Nat)(hd:js.Nodup)(ho:zFv σ js js σ0)(ha:zBC js args' args)(hr:∀n,ren js n r=r)(hq:KD (env.put d r)) :
 zI5 P σ d KD f args' env:=by
 refine⟨r,fun τ hk=>zAF h js hd (zLL (zGn hk ho)) ha ?_,hq⟩;rw[hr,zLK (zGn hk ho)];simp
end
end Go.Abs
namespace Go.Abs
section
variable {P:Program}{Qp:Value→Env→St→Prop}{Qd:Value→St→Prop}{K':Env→St→Prop}{env:Env} {σ : St}{d:Option Nat}{x y:Operand}
def zPF (a:A)(J:A→Prop):Prop:=match a with
 | .ptr l o=>J (.ptr l o)
 | .rptr cs=>J (.rptr cs)
 | _=>False
@[simp] theorem qF8 {l o:Nat}{J:A→Prop}:zPF (.ptr l o) J=J (.ptr l o):=rfl
@[simp] theorem qDR {cs:List A}{J:A→Prop}:zPF (.rptr cs) J=J (.rptr cs):=rfl
theorem zUo {J:A→Prop}:jG (zP env σ (.nilc d x)) J=zPF (ev env x) J:=by simp only[zP,zPF,jG];generalize ev env x=a;cases a<;>simp
@[simp] theorem qLB:wpO P Qp K' (.nilc d x) env σ = zPF (ev env x) fun r=>K' (env.put d r) σ:=zUo (d:=d)
@[simp] theorem qEG {fl:Nat}:jP P Qd fl K' (.nilc d x) env σ = wpO P zAR K' (.nilc d x) env σ:=by simp[jP,KOp.lite,KOp.keeps]
def zLn:List A→(List Int→Prop)→Prop
 | [],J=>J []
 | .lit (.int .i64 n)::l,J=>zLn l fun ks=>J (n::ks)
 | _,_=>False
@[simp] theorem qF2 {J:List Int→Prop}:zLn [] J=J []:=rfl
@[simp] theorem qDO {n:Int}{l:List A}{J:List Int→Prop}:zLn (.lit (.int .i64 n)::l) J=zLn l fun ks=>J (n::ks):=rfl
theorem zP4:∀(l:List A) (J:List Int→Prop),zLn l J=match zHf l with | some ks=>J ks | none=>False
 | [],J=>rfl
 | a::l,J=>by
  cases a<;>try rfl
  rename_i v;cases v<;>try rfl
  rename_i k n;cases k<;>try rfl
  simp only[zLn,zHf,zP4 l];cases zHf l<;>rfl
def zPx (nk:Nat)(k:A)(J:List Int→Prop):Prop:=match zIg nk k with
 | some ks=>J ks
 | none=>False
@[simp] theorem qJR {nk:Nat}{cs:List A}{J:List Int→Prop}:zPx nk (.agg cs) J=zLn cs fun ks=>ks.length=nk∧J ks:=by
 simp only[zPx,zIg,zP4];cases zHf cs with
 | none=>rfl
 | some ks =>
  simp only;by_cases h:ks.length=nk<;>simp[h]
def zJa (o:Option AObj)(J:Bool→Nat→List (List Int×A)→Prop):Prop:=match o with
 | some (.mp fr nk es)=>J fr nk es
 | _=>False
@[simp] theorem qF7 {fr:Bool}{nk:Nat}{es:List (List Int×A)}{J:Bool→Nat→List (List Int×A)→Prop}:zJa (some (.mp fr nk es)) J=J fr nk es:=rfl
def zWT (o:Option AObj)(J:Nat→Nat→List Nat→Prop):Prop:=match o with
 | some (.it m n met)=>J m n met
 | _=>False
@[simp] theorem qF1 {m n:Nat}{met:List Nat}{J:Nat→Nat→List Nat→Prop}:zWT (some (.it m n met)) J=J m n met:=rfl
@[simp] theorem qNL {m:MOp}{xs:List Operand}:wpO P Qp K' (.mop d m xs) env σ = zB0 m (xs.map (ev env)) (fun r τ=>K' (env.put d r) τ) σ:=by simp only[wpO]
variable {K:A→St→Prop}
@[simp] theorem qMN {nk:Nat}:zB0 (.mk nk) [] K σ = K (.map σ.length) (σ++[.mp true nk []]):=rfl
@[simp] theorem qKm {nk l:Nat}{z:Value}{ok:Bool}{k:A}:zB0 (.get nk z ok) [.map l,k] K σ = zPx nk k fun ks=>zJa σ[l]? fun _ nk' es=>nk'=nk∧K (zFY z ok (zAL ks es)) σ:=by
 simp only[zB0,zPx,zJa];cases zIg nk k with
 | none=>rfl
 | some ks =>
  cases σ[l]? with
  | none=>rfl
  | some o=>cases o<;>rfl
@[simp] theorem qKq {nk l:Nat}{k v:A}:zB0 (.set nk) [.map l,k,v] K σ = zPx nk k fun ks=>zJa σ[l]? fun fr nk' es=>nk'=nk∧K (.lit undef) (σ.set l (.mp fr nk (zD7 ks v es))):=by
 simp only[zB0,zPx,zJa];cases zIg nk k with
 | none=>rfl
 | some ks =>
  cases σ[l]? with
  | none=>rfl
  | some o=>cases o<;>rfl
@[simp] theorem qKk {nk l:Nat}{k:A}:zB0 (.del nk) [.map l,k] K σ = zPx nk k fun ks=>zJa σ[l]? fun _ nk' es=>nk'=nk∧K (.tup []) (σ.set l (.mp false nk (zII ks es))):=by
 simp only[zB0,zPx,zJa];cases zIg nk k with
 | none=>rfl
 | some ks =>
  cases σ[l]? with
  | none=>rfl
  | some o=>cases o<;>rfl
@[simp] theorem qKp {l:Nat}:zB0 .rng [.map l] K σ = zJa σ[l]? fun fr _ es=>fr=true∧K (.ptr σ.length 0) (σ++[.it l es.length []]):=by
 simp only[zB0,zJa];cases σ[l]? with
 | none=>rfl
 | some o =>
  cases o<;>try rfl
  rename_i fr nk es;cases fr<;>simp
@[simp] theorem qKo {j:Nat}:zB0 .nxt [.ptr j 0] K σ = zWT σ[j]? fun l n met=>zJa σ[l]? fun fr _ es=>fr=true∧n=es.length ∧
 (∀(i:Nat) (p:List Int×A),i∉met→es[i]?=some p→K (.tup [.lit (.bool true),zLk p.1,p.2]) (σ.set j (.it l n (met++[i]))))∧((∀i,i<n→i∈met)→K (.tup [.lit (.bool false)]) σ):=by
 simp only[zB0,zJa,zWT];cases σ[j]? with
 | none=>rfl
 | some o =>
  cases o<;>try rfl
  rename_i l n met;simp only;cases σ[l]? with
  | none=>rfl
  | some o =>
   cases o<;>try rfl
   rename_i fr nk es;cases fr<;>simp
@[simp] theorem qKl {j:Nat}:zB0 .ent [.ptr j 0] K σ = zWT σ[j]? fun l n met=>zJa σ[l]? fun fr _ es=>fr=true∧∃i p,met.getLast?=some i∧es[i]?=some p∧n=es.length∧K (.tup [zLk p.1,p.2]) σ:=by
 simp only[zB0,zJa,zWT];cases σ[j]? with
 | none=>rfl
 | some o =>
  cases o<;>try rfl
  rename_i l n met;simp only;cases σ[l]? with
  | none=>rfl
  | some o =>
   cases o<;>try (cases met.getLast?<;>rfl)
   rename_i fr nk es;cases fr
   ·cases met.getLast?<;>simp
   ·cases met.getLast? with
    | none=>simp
    | some i =>
     simp only;apply propext;cases hp:es[i]? with
     | none =>
      refine⟨fun h=>h.2.elim,?_⟩;rintro⟨_,i',p',h1,h2,_⟩;have h1:=jB4 h1;subst h1;rw[hp]at h2;exact absurd h2 (by simp)
     | some p =>
      refine⟨fun h=>⟨trivial,i,p,rfl,hp,h.1,h.2⟩,?_⟩;rintro⟨_,i',p',h1,h2,h3,h4⟩;have h1:=jB4 h1;subst h1;rw[hp]at h2;have h2:=jB4 h2;subst h2;exact⟨h3,h4⟩
@[simp] theorem qKi {sz:Nat}{zs:List Value}{l n o k c:Nat}:zB0 (.clr sz zs) [.win l n o k c] K σ = (match σ[l]? with
 | some (.row fz e s m cs)=>(n=m∧s=sz∧fz=false∧o+k*sz≤cs.length)∧K (.tup []) (σ.set l (.row false e sz n (cs.take o++(List.replicate k (zs.map jJ)).flatten++cs.drop (o+k*sz))))
 | _=>False):=rfl
@[simp] theorem qKn {e:TypeId}{sz bytes:Nat}{zs:List Value}{k k':IntKind}{n c:Int}:zB0 (.mks e sz bytes zs) [.lit (.int k n),.lit (.int k' c)] K σ = ((0≤n∧c=n∧n≤1000000000000∧bytes*n.toNat≤281474976710656)∧K (.row σ.length n.toNat) (σ++[.row false e sz n.toNat ((List.replicate n.toNat (zs.map jJ)).flatten)])):=rfl
@[simp] theorem qKj {k k':IntKind}{n:Int}:zB0 (.cvt k) [.lit (.int k' n)] K σ = K (.lit (.int k (k.wrap n))) σ:=rfl
@[simp] theorem qF6 {n:Nat}{cs:List A}:zB0 .str [.fsl n cs] K σ = (match zGd cs with
 | some xs=>(xs.length=n∧n≠0)∧K (.lit (.string (strOfNums xs))) σ
 | none=>False):=rfl
@[simp] theorem qF5 {xs:List A}:zB0 .boom xs K σ = False:=by cases xs<;>rfl
@[simp] theorem qN0 {rf:Bool→Nat→Nat→A}{g:Nat→Option Nat}(ks:List Int):vw rf g (zLk ks)=zLk ks:=by
 have:∀ks:List Int,vwL rf g (ks.map fun n=>A.lit (.int .i64 n))=ks.map fun n=>A.lit (.int .i64 n):=fun ks=>by
  induction ks with
  | nil=>rfl
  | cons k ks ih=>simp[vwL,ih]
 simp[zLk,this]
end
end Go.Abs
namespace Go.Abs
attribute [simp] A.bnd zDl AObj.bnd zJ6
@[simp] theorem qNR {b k:Nat}:(yv b).bnd k=true:=rfl
section
variable {P:Program}{Qp:Value→Env→St→Prop}{Qd:Value→St→Prop}{K':Env→St→Prop}{env:Env} {σ : St}{d:Option Nat}{x:Operand}
def qDN:A→Option Int
 | .lit (.int _ j)=>some j
 | _=>none
@[simp] theorem qKb {k:IntKind}{j:Int}:qDN (.lit (.int k j))=some j:=rfl
@[simp] theorem qBc {n:Nat}:qO env n none=some (n:Int):=rfl
@[simp] theorem qBd {n:Nat}:qO env n (some x)=qDN (ev env x):=by
 simp only[qO,qDN];cases ev env x with
 | lit u=>cases u<;>rfl
 | _=>rfl
def zEc (a b:Option Int)(J:Int→Int→Prop):Prop:=match a,b with
 | some l,some h=>J l h
 | _,_=>False
@[simp] theorem qCz {l h:Int}{J:Int→Int→Prop}:zEc (some l) (some h) J=J l h:=rfl
def zXD (a:A)(lo:Option Int)(hi:Nat→Option Int)(sz:Nat)(J:A→Prop):Prop:=match a with
 | .sl n cs=>zEc lo (hi n) fun l h=>(0≤l∧l≤h∧h≤n)∧J (.sl (h-l).toNat ((cs.drop (l.toNat*sz)).take ((h-l).toNat*sz)))
 | .fsl n cs=>zEc lo (hi n) fun l h=>(0≤l∧l≤h∧h≤n)∧J (.sl (h-l).toNat ((cs.drop (l.toNat*sz)).take ((h-l).toNat*sz)))
 | .nil=>zEc lo (hi 0) fun l h=>(l=0∧h=0)∧J .nil
 | _=>False
@[simp] theorem qNh {n:Nat}{cs:List A}{lo:Option Int}{hi:Nat→Option Int}{sz:Nat}{J:A→Prop}:zXD (.sl n cs) lo hi sz J=zEc lo (hi n) fun l h=>(0≤l∧l≤h∧h≤n)∧J (.sl (h-l).toNat ((cs.drop (l.toNat*sz)).take ((h-l).toNat*sz))):=rfl
@[simp] theorem qLe {n:Nat}{cs:List A}{lo:Option Int}{hi:Nat→Option Int}{sz:Nat}{J:A→Prop}:zXD (.fsl n cs) lo hi sz J=zEc lo (hi n) fun l h=>(0≤l∧l≤h∧h≤n)∧J (.sl (h-l).toNat ((cs.drop (l.toNat*sz)).take ((h-l).toNat*sz))):=rfl
@[simp] theorem qLf {lo:Option Int}{hi:Nat→Option Int}{sz:Nat}{J:A→Prop}:zXD .nil lo hi sz J=zEc lo (hi 0) fun l h=>(l=0∧h=0)∧J .nil:=rfl
@[simp] theorem qNQ {sz:Nat}{lo hi:Option Operand}:wpO P Qp K' (.slc d x sz lo hi none) env σ = zXD (ev env x) (qO env 0 lo) (fun n=>qO env n hi) sz fun r=>K' (env.put d r) σ:=by
 show jG (zP env σ (.slc d x sz lo hi none)) _=_;simp only[zP,zXD];generalize ev env x=a;cases a<;>try rfl
 all_goals
  simp only[zEc];generalize qO env _ lo=u;generalize qO env _ hi=v;cases u<;>cases v<;>rfl
def zF8 (o:Option AObj)(n sz:Nat)(J:Prop):Prop:=match o with
 | some (.row _ _ s m _)=>if n=m∧s=sz then J else False
 | _=>False
@[simp] theorem qEr {fz:Bool}{e s n m sz:Nat}{cs:List A}{J:Prop}:zF8 (some (.row fz e s m cs)) n sz J=((n=m∧s=sz)∧J):=by simp only[zF8];by_cases h:n=m∧s=sz<;>simp[h]
def zN3 (σ : St)(a:A)(lo:Option Int)(hi:Nat→Option Int)(sz:Nat)(J:A→Prop):Prop:=match a with
 | .row l n=>zF8 σ[l]? n sz (zEc lo (hi n) fun l' h=>(0≤l'∧l'≤h∧h≤n)∧J (.win l n (l'.toNat*sz) (h-l').toNat ((h-l').toNat*sz)))
 | .win l n o k _=>zF8 σ[l]? n sz (zEc lo (hi k) fun l' h=>(0≤l'∧l'≤h∧h≤k)∧J (.win l n (o+l'.toNat*sz) (h-l').toNat ((h-l').toNat*sz)))
 | _=>False
@[simp] theorem qFX {l n:Nat}{lo:Option Int}{hi:Nat→Option Int}{sz:Nat}{J:A→Prop}:zN3 σ (.row l n) lo hi sz J=zF8 σ[l]? n sz (zEc lo (hi n) fun l' h=>(0≤l'∧l'≤h∧h≤n)∧J (.win l n (l'.toNat*sz) (h-l').toNat ((h-l').toNat*sz))):=rfl
@[simp] theorem qFY {l n o k c:Nat}{lo:Option Int}{hi:Nat→Option Int}{sz:Nat}{J:A→Prop}:zN3 σ (.win l n o k c) lo hi sz J=zF8 σ[l]? n sz (zEc lo (hi k) fun l' h=>(0≤l'∧l'≤h∧h≤k)∧J (.win l n (o+l'.toNat*sz) (h-l').toNat ((h-l').toNat*sz))):=rfl
theorem zN4 {sz:Nat}{lo hi:Option Operand}{J:A→Prop}:jG (zP env σ (.rslc d x sz lo hi)) J=zN3 σ (ev env x) (qO env 0 lo) (fun n=>qO env n hi) sz J:=by
 simp only[zP,zN3];generalize ev env x=a;have key:∀(ob:Option AObj) (n k:Nat) (f:Int→Int→Prop×A),jG (match ob with
  | some (.row _ _ s m _)=>if n=m∧s=sz then (match qO env 0 lo,qO env k hi with
   | some l',some h=>some (f l' h)
   | _,_=>none) else none
  | _=>none) J=zF8 ob n sz (zEc (qO env 0 lo) (qO env k hi) fun l' h=>(f l' h).1∧J (f l' h).2):=by
  intro ob n k f;simp only[zF8,zEc];cases ob with
  | none=>rfl
  | some ob =>
   cases ob<;>try rfl
   simp only;split
   ·generalize qO env 0 lo=u;generalize qO env k hi=v;cases u<;>cases v<;>rfl
   ·rfl
 cases a<;>try rfl
 ·rename_i l n;exact key σ[l]? n n fun l' h=>(0≤l'∧l'≤h∧h≤n,.win l n (l'.toNat*sz) (h-l').toNat ((h-l').toNat*sz))
 ·rename_i l n o k c;exact key σ[l]? n k fun l' h=>(0≤l'∧l'≤h∧h≤k,.win l n (o+l'.toNat*sz) (h-l').toNat ((h-l').toNat*sz))
@[simp] theorem qLD {sz:Nat}{lo hi:Option Operand}:wpO P Qp K' (.rslc d x sz lo hi) env σ = zN3 σ (ev env x) (qO env 0 lo) (fun n=>qO env n hi) sz fun r=>K' (env.put d r) σ:=zN4 (d:=d)
@[simp] theorem qEI {fl sz:Nat}{lo hi:Option Operand}:jP P Qd fl K' (.rslc d x sz lo hi) env σ = zN3 (zD8 fl σ) (ev env x) (qO env 0 lo) (fun n=>qO env n hi) sz fun r=>K' (env.put d r) σ:=zN4 (d:=d)
@[simp] theorem qJD {sz l n:Nat}{k:IntKind}{j:Int}{J:A→Prop}:zM7 σ sz (.row l n) (.lit (.int k j)) J=zF8 σ[l]? n sz ((0≤j∧j<n)∧J (.rwp l n (j.toNat*sz))):=by
 simp only[zM7,zF8];cases σ[l]? with
 | none=>rfl
 | some o=>cases o<;>rfl
@[simp] theorem qJE {sz l n o k' c:Nat}{k:IntKind}{j:Int}{J:A→Prop}:zM7 σ sz (.win l n o k' c) (.lit (.int k j)) J=zF8 σ[l]? n sz ((0≤j∧j<k')∧J (.rwp l n (o+j.toNat*sz))):=by
 simp only[zM7,zF8];cases σ[l]? with
 | none=>rfl
 | some o=>cases o<;>rfl
def zKb (o:Option AObj)(n:Nat)(J:Prop):Prop:=match o with
 | some (.row _ _ _ m _)=>if n=m then J else False
 | _=>False
@[simp] theorem qEq {fz:Bool}{e s n m:Nat}{cs:List A}{J:Prop}:zKb (some (.row fz e s m cs)) n J=(n=m∧J):=by simp only[zKb];by_cases h:n=m<;>simp[h]
@[simp] theorem qJZ {l n:Nat}{J:A→Prop}:zIW σ (.row l n) J=zKb σ[l]? n (J (.lit (.int .i64 n))):=by
 simp only[zIW,zKb];cases σ[l]? with
 | none=>rfl
 | some o=>cases o<;>rfl
@[simp] theorem qKa {l n o k c:Nat}{J:A→Prop}:zIW σ (.win l n o k c) J=zKb σ[l]? n (J (.lit (.int .i64 k))):=by
 simp only[zIW,zKb];cases σ[l]? with
 | none=>rfl
 | some o=>cases o<;>rfl
@[simp] theorem qJW {l n o k c:Nat}{J:A→Prop}:zM8 σ (.win l n o k c) J=zKb σ[l]? n (J (.lit (.int .i64 k))):=by
 simp only[zM8,zKb];cases σ[l]? with
 | none=>rfl
 | some o=>cases o<;>rfl
def zVw (ob:Option AObj)(l n o off:Nat):Option A:=match ob with
 | some (.row _ _ _ m _)=>if n=m then some (.rwp l n (o+off)) else none
 | _=>none
@[simp] theorem qCv {fz:Bool}{e s n m l o off:Nat}{cs:List A}:zVw (some (.row fz e s m cs)) l n o off=if n=m then some (.rwp l n (o+off)) else none:=rfl
@[simp] theorem qEO {l n o off:Nat}:zHH σ off (.rwp l n o)=zVw σ[l]? l n o off:=by
 simp only[zHH,zVw];cases σ[l]? with
 | none=>rfl
 | some o=>cases o<;>rfl
end
mutual
theorem zXX {rf:Bool→Nat→Nat→A}{g:Nat→Option Nat}{k:Nat}(hg:∀l,l<k→g l=some l):∀(a:A),a.bnd k=true→vw rf g a=a
 | .any,_=>by simp
 | .nil,_=>by simp
 | .lit _,_=>by simp
 | .agg cs,h=>by simp[zEq hg cs h]
 | .tup cs,h=>by simp[zEq hg cs h]
 | .sl _ cs,h=>by simp[zEq hg cs h]
 | .fsl _ cs,h=>by simp[zEq hg cs h]
 | .rptr cs,h=>by simp[zEq hg cs h]
 | .ptr l _,h=>by simp[hg l (by simpa using h)]
 | .row l _,h=>by simp[hg l (by simpa using h)]
 | .rwp l _ _,h=>by simp[hg l (by simpa using h)]
 | .win l _ _ _ _,h=>by simp[hg l (by simpa [A.bnd] using h)]
 | .map l,h=>by simp only[vw]; rw[hg l (by simpa using h)]
 | .clo _ fs cs,h=>by simp only[A.bnd,jA6]at h;simp[zEq hg fs h.1,zEq hg cs h.2]
theorem zEq {rf:Bool→Nat→Nat→A}{g:Nat→Option Nat}{k:Nat}(hg:∀l,l<k→g l=some l):∀(cs:List A),zDl k cs=true→vwL rf g cs=cs
 | [],_=>by simp
 | c::cs,h=>by simp only[zDl,jA6]at h;simp[zXX hg c h.1,zEq hg cs h.2]
end
def Cl (m:Nat)(S:St):Prop:=S.length=m∧∀o∈S,o.bnd m=true
theorem Cl.app {m k:Nat}{S own:St}(h:Cl m S)(hk:own.length=k)(ho:∀o∈own,o.bnd (m+k)=true):Cl (m+k) (S++own):=by
 refine⟨by simp[h.1,hk],fun o hm=>?_⟩;rcases jA8.1 hm with hm | hm
 ·exact AObj.bnd_mono (Nat.le_add_right m k) _ (h.2 o hm)
 ·exact ho o hm
section
variable {P:Program}{n0:Nat}{Qp:Value→Env→St→Prop}{Qd:Value→St→Prop}{K':Env→St→Prop}{KD:Env→Prop}{Q:Ex→Env→St→Prop}{env:Env} {σ : St}{d:Option Nat}
theorem zZI {H:Mem}{L:List LI}{w:World}(hs:RelSt H L σ w){l n:Nat}{e:TypeId}{sz:Nat}{cs:List A}{v:Value}(hσ : σ[l]?=some (.row false e sz n cs))(hv:Rel H L (.row l n) v) :
 ∃H',Nxt H L w H' L (σ.set l (.row true e sz n cs)) w∧Rel H' L (.sl n cs) v:=by
 simp only[Rel]at hv;obtain⟨_,li,e1,e2,e3,hv⟩:=hv;have hob:=hs.obj l li _ e1 hσ;simp only[zW]at hob;obtain⟨_,hln,hcl,hob⟩:=hob;have hv:=hv hln.symm;rcases hob with ⟨hb,h0⟩ | ⟨b,cur,hb,hh,k1,k2,k3,k4,k5,k6⟩
 ·rw[hb]at hv;subst h0;have hcs:cs=[]:=jC (by simpa using hcl);refine⟨H,⟨⟨hs.pers,by simp[hs.len],fun i x o hL ho=>?_,hs.inj,hs.lt⟩,Step.refl _ _ _,LLe.refl _,fun _ h=>.inl h⟩,?_⟩
  ·by_cases hi:i=l
   ·subst hi;rw[e1]at hL;cases hL;rw[jAq (jA4.1 hσ).1]at ho;cases ho;simp only[zW];exact⟨e2,hln,hcl,.inl ⟨hb,trivial⟩⟩
   ·rw[jAf (Ne.symm hi)]at ho;exact hs.obj i x o hL ho
  ·simp only[Rel];exact⟨none,0,hv,jA _,jBo _,.inl ⟨trivial,hcs⟩⟩
 ·rw[hb]at hv;have hcell:∀(j:Nat) u,(cur.toList.take (n*sz))[j]?=some u→w.cell? ⟨b,j,none⟩=some u:=fun j u hu=>by
   rw[cell_of_row w b j cur e (0,0) hh];rw[jB3]at hu;split at hu
   ·simpa using hu
   ·cases hu
  have hA:=zFc (H:=H) (B:=b) (us:=cur.toList.take (n*sz)) (fun o v hv'=>by rw[k6]at hv'; cases hv');have hle:HLe H (zOb H b (cur.toList.take (n*sz))):=fun b' o' v' hv'=>by
   simp only[hA];split
   ·rename_i e; subst e; rw[k6]at hv'; cases hv'
   ·exact hv'
  have hat:At (zOb H b (cur.toList.take (n*sz))) b 0 (cur.toList.take (n*sz)):=fun i u hu=>by simp[hA,hu]
  refine⟨zOb H b (cur.toList.take (n*sz)),zGJ hs e1 hb rfl rfl rfl rfl (fun d=>by rw[hh]; simp) rfl (fun _ _=>rfl) hle (fun b' o' v' hv'=>?_) (fun o' v' hv'=>?_) ?_,?_⟩
  ·simp only[hA]at hv';split at hv'
   ·rename_i e; exact .inr e
   ·exact .inl hv'
  ·simp only[hA,if_true]at hv';exact hcell _ _ hv'
  ·simp only[zW];refine⟨e2,hln,hcl,.inr ⟨b,cur,hb,hh,k1,k2,k3,zY.mono hle (LLe.refl _) _ k4,k5,hat,fun o ho=>?_⟩⟩;simp only[hA,if_true];rw[jBj];simp only[jAt];omega
  ·simp only[Rel];exact⟨_,_,hv,k1,k2,.inr ⟨b,0,_,rfl,zY.mono hle (LLe.refl _) _ k4,k5,hat⟩⟩
theorem zJq {H:Mem}{L:List LI}{w:World}(hs:RelSt H L σ w){l:Nat}{o o':AObj}(hl : σ[l]?=some o)(h:∀li,zW H L w li o→zW H L w li o'):RelSt H L (σ.set l o') w:=by
 refine⟨hs.pers,by simp[hs.len],fun i x p hL hp=>?_,hs.inj,hs.lt⟩;by_cases hi:i=l
 ·subst hi;rw[jAq (jA4.1 hl).1]at hp;cases hp;exact h x (hs.obj i x o hL hl)
 ·rw[jAf (Ne.symm hi)]at hp;exact hs.obj i x p hL hp
theorem zAv {l o:Nat}{cs:List A}(hl : σ[l]?=some (.box cs))(hc:cs[o]?=some .nil)(e:TypeId)(sz:Nat):zBL n0 env (σ.set l (.box (cs.set o (.row σ.length 0)))++[AObj.row false e sz 0 []]) env σ:=by
 intro H0 L0 w0 H L w N tmps h0 h1 h2;have hn:=zCR h1.st e sz;have hlt:l < σ.length:=(jA4.1 hl).1;have hl':(σ++[AObj.row false e sz 0 []])[l]?=some (.box cs):=by rw[jAo hlt]; exact hl
 have hs:=zJq (o':=.box (cs.set o (.row σ.length 0))) hn.st hl' (fun li hob=>by
  simp only[zW]at hob ⊢;obtain⟨g0,b,vs,e',g1,g2,g3,g4,g5⟩:=hob;obtain⟨v,hv,hrel⟩:=g3.get hc;simp only[Rel]at hrel;subst hrel;have hset:vs=vs.set o (.slice none 0 0):=by
   apply jC9;intro i;by_cases hi:i=o
   ·subst hi; rw[jAq (jA4.1 hv).1,hv]
   ·rw[jAf (Ne.symm hi)]
  refine⟨g0,b,vs,e',g1,g2,?_,g4,g5⟩;rw[hset];refine g3.set o ?_;simp only[Rel];exact⟨rfl,⟨none,0,0,true⟩,by rw[←h1.st.len]; simp,rfl,jA _,fun _=>rfl⟩)
 rw[List.set_append_left _ _ hlt]at hs;have hm:=h1.trans hn;exact⟨H,_,⟨hs,hm.step,hm.lle,hm.own⟩,h2.1,fun x=>Rel.mono (HLe.refl _) hn.lle _ (h2.2 x)⟩
theorem zWc {K:Env→St→Prop}{f:FuncId}{args args':List A} {σ0:St}{Q0:Out→St→Prop}(h:yX P f args σ0 Q0)(js:List Nat)(hd:js.Nodup)(ho:zAB σ yA (qX js) js σ0)(ha:zBC js args' args)(hnp:∀v σ1,¬Q0 (.pan v) σ1)
 (hq:∀r σ1,Q0 (.ret r) σ1→zAl σ (jX σ js (σ1.map (zBM js σ.length)))∧K (env.put d (ren js σ.length r)) (jX σ js (σ1.map (zBM js σ.length)))):zMn P σ d K f args' env :=
 zMK (C:=fun vs w R=>Calls P f vs.toArray w R) (zEO P f) h js hd ho ha hnp fun r σ1 hr=>⟨_,rfl,hq r σ1 hr⟩
theorem zSv {K:Env→St→Prop}{f:FuncId}{args args':List A}{r:A} {σ1:St}(h:Ret P f args [] r σ1)(hn:∀o∈σ1,o≠AObj.rsv)(ha:zBC [] args' args)(hq:K (env.put d (ren [] σ.length r)) (σ++σ1.map (zBM [] σ.length))):zI6 P σ d K f args' env :=
 ⟨_,_,fun o ho=>by
  obtain⟨o',ho',rfl⟩:=jAi.1 ho;have:=hn o' ho';cases o'<;>first | (exact(this rfl).elim) | (simp only[zBM,vwO]; first | (split<;>simp) | simp),fun τ hl _=>by
  rw[←hl];exact zAF h [] (by simp) trivial ha ⟨rfl,by simp⟩,hq⟩
theorem zIu {rf:Bool→Nat→Nat→A}{g:Nat→Option Nat} {σ τ : St}(hk:zBO σ τ):∀{js:List Nat} {os:St},(∀o∈os,o≠AObj.rsv)→zAB σ rf g js os→zAB τ rf g js os
 | [],[],_,h=>h
 | j::js,o::os,hn,h=>by
  simp only[zAB]at h⊢;cases hj : σ[j]? with
  | none=>rw[hj]at h; exact h.1.elim
  | some x =>
   rw[hj]at h;have hx:x≠AObj.rsv:=fun e=>by
    subst e;rcases h.1 with e | e
    ·exact hn o (jAn ..) (by simpa [vwO] using e)
    ·exact hn o (jAn ..) (by simpa [vwO] using e)
   rw[hk j x hj hx];exact⟨h.1,zIu hk (fun o ho=>hn o (jAm _ ho)) h.2⟩
 | [],_::_,_,h=>h
 | _::_,[],_,h=>h
theorem zSw {K:Env→St→Prop}{f:FuncId}{args args':List A}{r:A}{s0:St}(h:Ret P f args s0 r s0)(js:List Nat)(hjs:js.Nodup)(hn:∀o∈s0,o≠AObj.rsv)(hd:zAB σ yA (qX js) js s0)(ha:zBC js args' args)
 (hput:∀τ : St,zBO σ τ→jX τ js (s0.map (zBM js τ.length)) = τ)(hq:K (env.put d (ren js σ.length r)) σ):zI6 P σ d K f args' env :=
 ⟨ren js σ.length r,[],fun o ho=>(by cases ho),fun τ hl hk=>by rw[←hl];exact zAF h js hjs (zIu hk hn hd) ha ⟨rfl,by simp[hput τ hk]⟩,by simpa using hq⟩
theorem zJm {c:Nat}:∀{js:List Nat} {σ s1:St},(∀j∈js,j<c)→(∀j∈js,j < σ.length)→s1.length=js.length→KA c σ (jX σ js s1)
 | [],σ,s1,_,_,hl=>by
  have:s1=[]:=jC hl;subst this
  simpa [jX] using KA.refl c σ
 | j::js,σ,o::s1,hc,hj,hl=>by have h1:=hc j (jAn ..);have ih:=zJm (c:=c) (js:=js) (σ:=σ.set j o) (s1:=s1) (fun i hi=>hc i (jAm _ hi)) (fun i hi=>by rw[jDn]; exact hj i (jAm _ hi)) (by simpa using hl);intro l cs hle hσ;exact ih l cs hle (by rw[jAf (by omega)]; exact hσ)
 | _::_,_,[],_,_,hl=>by simp at hl
theorem zA8 {K:Env→St→Prop}{f:FuncId}{args args':List A}{r:A}{s0 s1:St}(h:Ret P f args s0 r s1)(js:List Nat)(hjs:js.Nodup)(hd:zAB σ yA (qX js) js s0)(ha:zBC js args' args)
 (hq:K (env.put d (ren js σ.length r)) (jX σ js (s1.map (zBM js σ.length)))):zGx P σ d K f args' env:=⟨_,_,zAF h js hjs hd ha ⟨rfl,rfl⟩,hq⟩
theorem zAn {K:Env→St→Prop}{c:Nat}{f:FuncId}{args args':List A}{r:A}{s0 s1:St}(h:Ret P f args s0 r s1)(js:List Nat)(hjs:js.Nodup)(hd:zAB σ yA (qX js) js s0)(ha:zBC js args' args)
 (hc:∀j∈js,j<c)(hlt:∀j∈js,j < σ.length)(hl:s1.length=js.length)(hq:K (env.put d (ren js σ.length r)) (jX σ js (s1.map (zBM js σ.length)))):zMm P c σ d K f args' env :=
 ⟨_,_,zJm hc hlt (by simpa using hl),zAF h js hjs hd ha ⟨rfl,rfl⟩,hq⟩
theorem zSx {K:Env→St→Prop}{c:Nat}{f:FuncId}{args args':List A}{r:A}{s0 s1:St}(h:Ret P f args s0 r s1)(js:List Nat)(hjs:js.Nodup)(hd:zAB σ yA (qX js) js s0)(ha:zBC js args' args)
 (hc:∀j∈js,j<c)(hlt:∀j∈js,j < σ.length)(hl:s1.length=js.length)(hr:zMs σ (jX σ js (s1.map (zBM js σ.length))))(hq:K (env.put d (ren js σ.length r)) (jX σ js (s1.map (zBM js σ.length)))):zMl P c σ d K f args' env :=
 ⟨_,_,⟨zJm hc hlt (by simpa using hl),hr⟩,zAF h js hjs hd ha ⟨rfl,rfl⟩,hq⟩
end
end Go.Abs
namespace Go.Proofs.YthglhccibdlccaaGreatDoor
open Go.Abs
def K70:K:=G [kMb 2 false] (G [M 3 0,M 4 0,kQ 5 3 4 true,M 2 5] kr)
theorem c70:zL prog Tryz.f156.ntmps (Tryz.f156.body.getD .skip)=some K70.erase:=by kernel_rfl
@[simp] theorem qRD:zA prog 156=true:=by kernel_rfl
def K47:K:=G [kMi 4 0] (G [M 7 0,kC 8 156 [(kt 7)],M 5 8] (G [M 9 1,kC 10 156 [(kt 9)],M 6 10] (Z (G [M 11 5] (Y 11 (Z (G [M 12 6] (Y 12 (G [kMi 4 0] kr) ks)) (G [⟨none,.mov (some 4) (kc (-1))⟩] kr)) ks)) (Z (G [M 13 6] (Y 13 (G [kMi 4 1] kr) ks)) (Z (G [M 14 0,M 15 1,kB 16 14 15 .lss] (Y 16 (G [⟨none,.mov (some 4) (kc (-1))⟩] kr) ks)) (Z (G [M 17 0,M 18 1,kB 19 17 18 .gtr] (Y 19 (G [kMi 4 1] kr) ks)) (G [kMi 4 0] kr)))))))
theorem c47:zL prog Tryz.f135.ntmps (Tryz.f135.body.getD .skip)=some K47.erase:=by kernel_rfl
@[simp] theorem qRB:zA prog 135=true:=by kernel_rfl
def K46:K:=G [kMi 2 0] (G [kMi 3 0] (Z (G [M 6 0,kN 7 6,kMi 8 0] (K.block 0 (K.loop (G [kB 9 8 7 .lss] (Z (Y 9 ks (K.exit 0)) (Z (K.block 1 (G [kX 10 6 8 1,L 11 10 1,M 5 11] (G [M 12 5,M 13 3,kQ 14 12 13 true] (Y 14 (G [M 15 5,M 2 15] kr) ks)))) (K.ops [kBi 16 8 1 .add,M 8 16]))))))) (G [M 17 3,M 2 17] kr)))
theorem c46:zL prog Tryz.f134.ntmps (Tryz.f134.body.getD .skip)=some K46.erase:=by kernel_rfl
@[simp] theorem qRA:zA prog 134=true:=by kernel_rfl
def K27:K:=G [kO 2 0,kO 3 1,kMi 4 0] (Z (K.dops [(0,0,D 5 2 0),(1,0,L 6 5 1),(2,0,D 7 3 0),(3,0,L 8 7 1),(4,0,kC 9 135 [(kt 6),(kt 8)]),(5,0,D 10 2 1),(6,0,L 11 10 1),(7,0,D 12 3 1),(8,0,L 13 12 1),(9,0,kC 14 135 [(kt 11),(kt 13)]),(10,0,D 15 2 2),(11,0,L 16 15 1),(12,0,D 17 3 2),(13,0,L 18 17 1),(14,0,kC 19 135 [(kt 16),(kt 18)]),(15,0,kd 20 3 1 3 [ki,ki,ki] [(0,1,(kt 9)),(1,1,(kt 14)),(2,1,(kt 19))]),(16,0,kC 21 134 [(kt 20)]),(17,0,M 4 21)]) kr)
theorem c27:zL prog Tryz.f96.ntmps (Tryz.f96.body.getD .skip)=some K27.erase:=by kernel_rfl
@[simp] theorem qR8:zA prog 96=true:=by kernel_rfl
@[simp] theorem qRC:zA prog 110=true:=by kernel_rfl
@[simp] theorem qR7:zA prog 23=true:=by kernel_rfl
def K13:K:=G [kMb 4 false] (Z (G [M 6 0,kN 7 6,M 8 1,kN 9 8,kQ 10 7 9 true] (Y 10 (G [kMb 4 false] kr) ks)) (Z (G [kMi 5 0] (K.block 0 (K.loop (Z (G [M 11 5,M 12 0,kN 13 12,kB 14 11 13 .lss] (Y 14 ks (K.exit 0))) (Z (K.block 1 (Z (K.dops [(0,0,M 17 0),(1,0,M 18 5),(2,0,kX 19 17 18 3),(3,0,J 20 19 3),(4,0,M 21 1),(5,0,M 22 5),(6,0,kX 23 21 22 3),(7,0,J 24 23 3),(8,0,⟨none,.eqs (some 25) true [.i,.i,.i] (kt 20) (kt 24)⟩)]) (Y 25 (G [kMb 4 false] kr) ks))) (K.ops [M 15 5,kBi 16 15 1 .add,M 5 16])))))) (G [kMb 4 true] kr)))
theorem c13:zL prog Tryz.f20.ntmps (Tryz.f20.body.getD .skip)=some K13.erase:=by kernel_rfl
@[simp] theorem qR6:zA prog 20=true:=by kernel_rfl
theorem zPw (n:Int):Ret prog 156 [int n] [] (bl false) []:=by refine zK Tryz.func156 rfl c70 (rs:=[.slot 2]) (by kernel_rfl) ?_;unfold K70;simp;exact zC 0 (by simp)
def zBR (a b:Int):Int:=if a<b then -1 else if b<a then 1 else 0
theorem zCN (a b:Int):Ret prog 135 [int a,int b] [] (int (zBR a b)) []:=by
 refine zK Tryz.func135 rfl c47 (rs:=[.slot 4]) (by kernel_rfl) ?_;unfold K47;simp;refine zT (zPw a) (by simp) (by simp) ?_;simp;refine zT (zPw b) (by simp) (by simp) ?_;simp;refine yF (fun h=>?_) (fun h=>?_)<;>simp at h<;>simp
 ·exact zC 0 (by simp[zBR,h])
 refine yF (fun h'=>?_) (fun h'=>?_)<;>simp at h'<;>simp
 ·exact zC 0 (by simp[zBR,h',Int.not_lt.2 h])
 ·exact zC 0 (by simp[zBR,Int.not_lt.2 h,Int.not_lt.2 h'])
def orI:List Int→Int
 | []=>0
 | a::l=>if a=0 then orI l else a
def yH (l:List Int):List A:=l.map int
theorem zH2:∀(l:List Int),jM (yH l)
 | []=>jM.nil
 | _::l=>jM.lit (zH2 l)
@[simp] theorem qJF (l:List Int):(yH l).length=l.length:=by simp[yH]
@[simp] theorem qFJ (l:List Int):jK (yH l)=yH l:=(zH2 l).1
@[simp] theorem qNz {rf g}(l:List Int):vwL rf g (yH l)=yH l:=(zH2 l).2 _ _
@[simp] theorem qJG:yH []=[]:=rfl
@[simp] theorem qFw (n:Int)(l:List Int):yH (n::l)=.lit (.int .i64 n)::yH l:=rfl
@[simp] theorem zDj (a b:List Int):yH (a++b)=yH a++yH b:=by simp[yH]
theorem zE9 {l:List Int}{i:Nat}(h:i<l.length):(yH l).drop i=.lit (.int .i64 l[i])::yH (l.drop (i+1)):=by rw[yH,←List.map_drop,jB8 h]; rfl
theorem qA {i n:Nat}(h:i<n)(hn:n≤maxLen):IntKind.i64.wrap ((i:Int)+1)=(i:Int)+1:=IntWalk.i64_in _ (by simp[maxLen]at hn; omega)
theorem qBV (l:List Int):Ret prog 134 [.sl l.length (yH l)] [] (int (orI l)) []:=by
 refine zK Tryz.func134 rfl c46 (rs:=[.slot 2]) (by kernel_rfl) ?_;unfold K46;simp;intro hl;refine qW (S:=Nat) (fun i=>[(3,int 0),(6,.sl l.length (yH l)),(7,int l.length),(8,int i)]) (fun s=>[]) (fun i=>i≤l.length∧orI l=orI (l.drop i)) (fun i=>l.length-i) 0 (by simp)
  (zR [] 0 (by simp) (by simp) (by simp) (by simp)) ?_
 rintro i ⟨hi,ho⟩;simp;refine yF (fun h=>?_) (fun h=>?_)<;>simp at h
 ·simp[h,zE9 h];have hd:l.drop i=l[i]::l.drop (i+1):=jB8 h;refine yF (fun h'=>?_) (fun h'=>?_)<;>simp at h'<;>simp
  ·exact zC 0 (by rw[ho,hd]; simp[orI,h'])
  ·refine zU (i+1) ⟨h,by rw[ho,hd]; simp[orI,h']⟩ (by omega) (zR [] 0 (by simp) (by simp) (by simp) (by simp[qA h hl]))
 ·simp;have:i=l.length:=by omega
  exact zC 0 (by rw[ho,this]; simp[orI])
structure Id where
 a:Int
 b:Int
 c:Int
 deriving DecidableEq
theorem Id.eq_iff {x y:Id}:x=y↔x.a=y.a∧x.b=y.b∧x.c=y.c:=by cases x; cases y; simp
def jF (d:Id):List A:=[.lit (.int .i64 d.a),.lit (.int .i64 d.b),.lit (.int .i64 d.c)]
def zBz (d:Id):List Int:=[d.a,d.b,d.c]
def qE:List Id→List A
 | []=>[]
 | d::l=>.lit (.int .i64 d.a)::.lit (.int .i64 d.b)::.lit (.int .i64 d.c)::qE l
@[simp] theorem qCV:qE []=[]:=rfl
@[simp] theorem zEd (d:Id)(l:List Id):qE (d::l)=.lit (.int .i64 d.a)::.lit (.int .i64 d.b)::.lit (.int .i64 d.c)::qE l:=rfl
@[simp] theorem zQP:∀l:List Id,(qE l).length=l.length*3
 | []=>rfl
 | d::l=>by simp[zQP l]; omega
theorem jS:∀(a b:List Id),qE (a++b)=qE a++qE b
 | [],b=>rfl
 | d::a,b=>by simp[jS a b]
theorem zBY:∀(l:List Id),jM (qE l)
 | []=>jM.nil
 | _::l=>jM.lit (jM.lit (jM.lit (zBY l)))
@[simp] theorem qBJ (l:List Id):jK (qE l)=qE l:=(zBY l).1
@[simp] theorem qGr {rf g}(l:List Id):vwL rf g (qE l)=qE l:=(zBY l).2 _ _
theorem yS:∀{l:List Id} {i:Nat} (h:i<l.length),(qE l).drop (i*3)=.lit (.int .i64 l[i].a)::.lit (.int .i64 l[i].b)::.lit (.int .i64 l[i].c)::qE (l.drop (i+1))
 | v::l,0,h=>by simp
 | v::l,i+1,h=>by
  have e:(i+1)*3=i*3+3:=by omega
  rw[e,zEd]
  simpa using yS (l:=l) (i:=i) (by simpa using h)
theorem zJC:∀(l:List Id) (i:Nat),(qE l).take (i*3)=qE (l.take i)
 | [],i=>by simp
 | v::l,0=>by simp
 | v::l,i+1=>by
  have e:(i+1)*3=i*3+3:=by omega
  rw[e,zEd]
  simpa using zJC l i
def zFC (x y:Id):Int:=orI [zBR x.a y.a,zBR x.b y.b,zBR x.c y.c]
def zCj (x y:Id):Bool:=if x.a≠y.a then decide (x.a<y.a) else if x.b≠y.b then decide (x.b<y.b) else decide (x.c<y.c)
theorem zXw (x y:Id):Ret prog 96 [.agg (jF x),.agg (jF y)] [] (int (zFC x y)) []:=by refine zK Tryz.func96 rfl c27 (rs:=[.slot 4]) (by kernel_rfl) ?_;unfold K27;simp[jF];refine qK (zCN x.a y.a) (by simp) (by simp) ?_;simp;refine qK (zCN x.b y.b) (by simp) (by simp) ?_;simp;refine qK (zCN x.c y.c) (by simp) (by simp) ?_;simp;refine qK (qBV [zBR x.a y.a,zBR x.b y.b,zBR x.c y.c]) (by simp) (by simp) ?_;simp;exact zC 0 (by simp[zFC])
theorem zLM (a b:List Id):Ret prog 20 [.sl a.length (qE a),.sl b.length (qE b)] [] (bl (decide (a=b))) []:=by
 refine zK Tryz.func20 rfl c13 (rs:=[.slot 4]) (by kernel_rfl) ?_;unfold K13;by_cases hab:a.length=b.length
 ·have hab':(a.length:Int)=b.length:=by omega
  simp[hab];intro hlb;refine qW (S:=Nat) (fun i=>[(0,.sl a.length (qE a)),(1,.sl b.length (qE b)),(5,int i)]) (fun s=>[]) (fun i=>i≤a.length∧a.take i=b.take i) (fun i=>a.length-i) 0 (by simp)
   (zR [] 0 (by simp) (by simp) (by simp) (by simp[hab])) ?_
  rintro i ⟨hi,hn⟩;by_cases h:i<a.length
  ·have hb:i<b.length:=by omega
   simp[h,hb,yS h,yS hb];intro hl;refine yF (fun h'=>?_) (fun h'=>?_)<;>simp at h'<;>simp
   ·have hx:a[i]≠b[i]:=fun e=>by rw[e]at h'; simp at h'
    have hne:a≠b:=fun e=>hx (by subst e; rfl)
    exact zC 0 (by simp[hne])
   ·have hx:a[i]=b[i]:=Id.eq_iff.2 h';refine zU (i+1) ⟨h,?_⟩ (by omega) (zR [] 0 (by simp) (by simp) (by simp) (by simp[qA h hl]));rw[jA9 h,jA9 hb,hn,hx]
  ·have:i=a.length:=by omega
   subst this;simp;have:a=b:=by rw[jAp,hab,jAp]at hn; exact hn
   exact fun _=>zC 0 (by simp[this])
 ·have hne:a≠b:=fun e=>hab (by rw[e])
  have hab':¬(a.length:Int)=b.length:=by omega
  simp[hab'];exact fun _ _=>zC 0 (by simp[hne])
end Go.Proofs.YthglhccibdlccaaGreatDoor
namespace Go.Abs
open Go.Sort Go.Proofs
section
variable {P:Program} {β : Type}{H:Mem}{L:List LI}{w:World}
theorem zP0 {g:FuncId}{args:List A}{r:Int}(h:Ret P g args [] (int r) []){vs:List Value}{W:World}(hH:∀b o v,H b o=some v→W.cell? ⟨b,o,none⟩=some v)(hvs:zY H [] args vs) :
 Calls P g vs.toArray W fun e w'=>e=.returned (.int .i64 r)∧∃q os',w'=grow (W.drewN q) os':=by
 have hs:RelSt H [] [] W:=⟨hH,rfl,fun i l o hl=>by simp at hl,fun i j l l' b hl=>by simp at hl,fun i l b hl=>by simp at hl⟩;refine(h H [] W vs hs hvs).mono fun e w' hh=>?_
 obtain⟨o,σ',H',L',ho,hn,rfl,rfl⟩:=hh;obtain⟨v,rfl,hv⟩:=ho;simp only[int,Rel]at hv;subst hv;refine⟨rfl,w'.drawn-W.drawn,w'.heap.extract W.heap.size w'.heap.size,?_⟩;have hh:w'.heap=W.heap++w'.heap.extract W.heap.size w'.heap.size:=by
  apply Array.ext_getElem?;intro k;rcases jB2 k W.heap.size with hk | hk
  ·rw[jDv hk];exact hn.step.keep k hk (fun⟨i,l,hi,_⟩=>by simp at hi)
  ·rw[Array.getElem?_append_right hk,Array.getElem?_extract];split
   ·congr 1; omega
   ·rw[Array.getElem?_eq_none]; omega
 have h1:=hn.step.os;have h2:=hn.step.tape;have h3:=hn.step.output;have h4:=hn.step.drawn;cases w' with
 | mk heap tape drawn os output =>
  cases W with
  | mk heap' tape' drawn' os' output' =>
   simp only at h1 h2 h3 h4 hh;simp only[grow,World.drewN,World.mk.injEq];exact⟨hh,h2,by omega,h1,h3⟩
def zDs (us:List (β×List Value)):List Value:=us.flatMap (·.2)
@[simp] theorem qFs:zDs ([]:List (β×List Value))=[]:=rfl
@[simp] theorem zRh {p : β×List Value}{us:List (β×List Value)}:zDs (p::us)=p.2++zDs us:=rfl
def zVu (H:Mem)(encA : β→List A)(us:List (β×List Value)):Prop:=∀p∈us,zY H [] (encA p.1) p.2∧∀v∈p.2,one v
theorem zKd {encA : β→List A}(hb:∀b,zDl 0 (encA b)=true):∀(l:List β) (vs:List Value),zY H L (l.flatMap encA) vs→(∀v∈vs,one v)→∃us:List (β×List Value),us.map (·.1)=l∧zDs us=vs∧zVu H encA us
 | [],vs,h,_=>⟨[],rfl,(jR h).symm,fun p hp=>by simp at hp⟩
 | b::l,vs,h,h1=>by
  rw[jBc]at h;obtain⟨us,ws,rfl,k1,k2⟩:=h.split;obtain⟨rest,r1,r2,r3⟩:=zKd hb l ws k2 (fun v hv=>h1 v (List.mem_append_right _ hv));refine⟨(b,us)::rest,by simp[r1],by simp[r2],fun p hp=>?_⟩;rcases jA3.1 hp with rfl | hp
  ·exact⟨zY.levels (k:=0) (fun l hl=>by omega) _ (hb b) k1,fun v hv=>h1 v (jBn _ hv)⟩
  ·exact r3 p hp
theorem zLi {encA : β→List A}(hb:∀b,zDl 0 (encA b)=true):∀{us:List (β×List Value)},zVu H encA us→zY H L ((us.map (·.1)).flatMap encA) (zDs us)∧∀v∈zDs us,one v
 | [],_=>⟨jZ,by simp⟩
 | p::us,h=>by
  obtain⟨k1,k2⟩:=h p (jAn ..);obtain⟨r1,r2⟩:=zLi hb (us:=us) fun q hq=>h q (jAm _ hq)
  refine⟨?_,fun v hv=>?_⟩
  ·simp only[jAj,jBc,zRh];exact(zY.levels (k:=0) (fun l hl=>by omega) _ (hb p.1) k1).append r1
  ·rcases jA8.1 hv with hv | hv
   ·exact k2 v hv
   ·exact r2 v hv
theorem zIc {encA : β→List A}{sz:Nat}(hlen:∀b,(encA b).length=sz):∀{us:List (β×List Value)},zVu H encA us→(zDs us).length=us.length*sz
 | [],_=>by simp
 | p::us,h=>by have:=(h p (jAn ..)).1.length;simp[this,hlen,zIc hlen (us:=us) fun q hq=>h q (jAm _ hq),jC8,jD3]
def zQD (P:Program)(f g:FuncId)(encA : β→List A)(cf : β→β→Int):Prop :=
 ∀(H:Mem) (w:World) (b cap:Nat) (us:List (β×List Value)),(∀b o v,H b o=some v→w.cell? ⟨b,o,none⟩=some v)→(∀o,H b o=none)→b<w.heap.size→us≠[]→us.length<4611686018427387904→zVu H encA us →
  (∀j u,(zDs us)[j]?=some u→w.cell? ⟨b,j,none⟩=some u∧w.frozen? ⟨b,j,none⟩=false) →
  Calls P f #[.slice (some ⟨b,0,none⟩) us.length cap,.func (.func g) #[] #[]] w fun e w'=>e=.returned (.tuple #[]) ∧
   ∃(us':List (β×List Value)) (n:Nat) (os:Array Obj),us'.Perm us∧us'.Pairwise (fun x y=>¬cf y.1 x.1<0)∧w'=grow (putRow id (Go.Sort.ahead w n) b 0 (zDs us').toArray) os
def zDv (cf : β→β→Int)(l:List β):List β:=l.mergeSort fun x y=>!decide (cf y x<0)
structure Ord (cf : β→β→Int):Prop where
 irrefl:∀x,¬cf x x<0
 trans:∀x y z,cf x y<0→cf y z<0→cf x z<0
 ntrans:∀x y z,¬cf x y<0→¬cf y z<0→¬cf x z<0
 anti:∀x y,¬cf x y<0→¬cf y x<0→x=y
theorem zO4 {cf : β→β→Int}(ho:Ord cf){l l':List β}(hp:l'.Perm l)(hs:l'.Pairwise fun x y=>¬cf y x<0):l'=zDv cf l:=by
 have h1:=List.pairwise_mergeSort (le:=fun x y=>!decide (cf y x<0)) (fun a b c h1 h2=>by simp only[jBr,decide_eq_false_iff_not]at *; exact ho.ntrans c b a h2 h1)
  (fun a b=>by
   simp only[jB7,jBr,decide_eq_false_iff_not];by_cases h:cf b a<0
   ·exact .inr fun h'=>ho.irrefl _ (ho.trans _ _ _ h h')
   ·exact .inl h) l
 refine List.Perm.eq_of_pairwise (le:=fun x y=>¬cf y x<0) (fun a b _ _ h1 h2=>ho.anti a b h2 h1) hs ?_ (hp.trans (List.mergeSort_perm l _).symm);exact h1.imp (fun h=>by simpa using h)
theorem zPV {b:Nat}{cur:Array Value}{e:TypeId}(hh:w.heap[b]?=some (.cells cur e (0,0)))(n:Nat)(F:Array Value)(os:Array Obj) :
 (grow (putRow id (Go.Sort.ahead w n) b 0 F) os).heap[b]?=some (.cells (putCells id 0 F cur) e (0,0)):=by
 have hlt:b<w.heap.size:=(jD2.1 hh).1;simp only[grow];rw[jDv (by simpa [Go.Sort.ahead] using hlt)];simp only[putRow,mapBlock,Array.getElem?_modify,if_true];simp only[Go.Sort.ahead,hh,jBs,onCells]
theorem zIr {b k:Nat}(hk:k<w.heap.size)(hne:k≠b)(n:Nat)(F:Array Value)(os:Array Obj):(grow (putRow id (Go.Sort.ahead w n) b 0 F) os).heap[k]?=w.heap[k]?:=by simp only[grow];rw[jDv (by simpa [Go.Sort.ahead] using hk)];simp only[putRow,mapBlock,Array.getElem?_modify,Go.Sort.ahead];rw[if_neg (Ne.symm hne)]
theorem zMA {F cur:Array Value}(h:F.size≤cur.size):(putCells id 0 F cur).size=cur.size∧(putCells id 0 F cur).toList.take F.size=F.toList:=by
 have hsz:(putCells id 0 F cur).size=cur.size:=by simp[putCells]
 refine⟨hsz,?_⟩;apply jC9;intro i;rw[jB3];split
 ·rename_i hi;have hi2:i<cur.size:=by omega
  simp[putCells,hi,hi2]
 ·rename_i hi;rw[jBj (by simp; omega)]
theorem zXr {σ : St}(hs:RelSt H L σ w){l:Nat}{li:LI}{b:Nat}{o:AObj}{w':World}(hl:L[l]?=some li)(hb:li.block=some b)
 (hos:w'.os=w.os)(htape:w'.tape=w.tape)(hout:w'.output=w.output)(hdr:w.drawn≤w'.drawn)(hnd:∀d,w.heap[b]?≠some (.deferred d))(hsz:w.heap.size≤w'.heap.size)(hkeep:∀k,k<w.heap.size→k≠b→w'.heap[k]?=w.heap[k]?)
 (hnone:∀o',H b o'=none)(ho:zW H L w' li o):Nxt H L w H L (σ.set l o) w':=by
 have hne:∀(i:Nat) l' b',L[i]?=some l'→l'.block=some b'→i≠l→b'≠b:=fun i l' b' h1 h2 hi e=>hi (hs.inj i l l' li b' h1 hl h2 (by rw[hb,e]))
 refine⟨⟨fun b' o' v hv=>?_,by simp[hs.len],fun i l' o' hL hσ=>?_,hs.inj,fun i l' b' h1 h2=>jBv (hs.lt i l' b' h1 h2) hsz⟩,
  ⟨hos,htape,hout,hsz,fun k hk hn=>hkeep k hk (fun e=>hn ⟨l,li,hl,by rw[hb,e]⟩),HLe.refl _,fun _ _ _ h=>.inl h,hdr,fun k d hk=>?_⟩,LLe.refl _,fun _ h=>.inl h⟩
 ·have hbb:b'≠b:=fun e=>by subst e; rw[hnone]at hv; cases hv
  have hc:=hs.pers b' o' v hv;have hlt:=hs.h_lt hv;simp only[World.cell?]at hc ⊢;rw[hkeep b' hlt hbb];exact hc
 ·by_cases hi:i=l
  ·subst hi;rw[hl]at hL;cases hL;rw[jAq (by rw[←hs.len]; exact(jA4.1 hl).1)]at hσ;cases hσ;exact ho
  ·rw[jAf (Ne.symm hi)]at hσ;exact(hs.obj i l' o' hL hσ).carry (fun b' hb'=>hkeep b' (hs.lt i l' b' hL hb') (hne i l' b' hL hb' hi)) (HLe.refl _) (LLe.refl _) (fun _ _ _=>rfl)
 ·have hks:=(jD2.1 hk).1;by_cases hkb:k=b
  ·subst hkb; exact(hnd d hk).elim
  ·rw[hkeep k hks hkb]; exact hk
theorem zXG {f g:FuncId}{encA : β→List A}{cf : β→β→Int}{sz:Nat}(hsz:0<sz)(hlen:∀b,(encA b).length=sz)(hb:∀b,zDl 0 (encA b)=true)(ho:Ord cf)(e:TypeId)
 (hS:zQD P f g encA cf)(hnone:∀(p:Option Addr)(cap:Nat)(fv:Value)(w:World),Calls P f #[.slice p 0 cap,fv] w fun e w'=>e=.returned (.tuple #[])∧w'=w)(l:List β)(hmx:l.length<4611686018427387904) :
 Ret P f [.row 0 l.length,.clo g [] []] [.row false e sz l.length (l.flatMap encA)] (.tup []) [.row false e sz l.length ((zDv cf l).flatMap encA)]:=by
 intro H L w vs hs hvs;obtain⟨v,vs',rfl,h1,h2⟩:=qB hvs;obtain⟨fv,vs'',rfl,h3,h4⟩:=qB h2;have:=jR h4;subst this;simp only[Rel]at h3;obtain⟨fs,cs,rfl,k1,k2⟩:=h3;have:=jR k1;subst this;have:=jR k2;subst this;simp only[Rel]at h1;obtain⟨_,li,e1,e2,e3,hv⟩:=h1;have hob:=hs.obj 0 li _ e1 rfl;simp only[zW]at hob;obtain⟨_,hln,hcl,hob⟩:=hob;have hv:=hv hln.symm;have htup:Rel H L (.tup []) (.tuple #[]):=by simp[Rel,zY]
 by_cases hl:l=[]
 ·subst hl;have hsl:∃p cap,v=.slice p 0 cap:=by
   rw[hv];split
   ·exact⟨_,_,rfl⟩
   ·exact⟨_,_,rfl⟩
  obtain⟨p,cap,rfl⟩:=hsl;refine(hnone p cap _ w).mono fun e' w' hh=>?_
  obtain⟨rfl,rfl⟩:=hh;exact⟨.ret (.tup []),_,H,L,⟨_,rfl,htup⟩,Nxt.refl hs,rfl,by simp[zDv]⟩
 ·rcases hob with ⟨hbk,h0⟩ | ⟨b,cur,hbk,hh,g1,g2,g3,g4,g5,g6⟩
  ·exact(hl (jC h0)).elim
  ·rw[hbk]at hv;subst hv;obtain⟨us,u1,u2,u3⟩:=zKd hb l _ g4 g5;have hul:us.length=l.length:=by rw[←u1]; simp
   have hus:us≠[]:=fun h=>hl (by rw[←u1,h]; rfl)
   have hlt:=hs.lt 0 li b e1 hbk;have hcell:∀j u,(zDs us)[j]?=some u→w.cell? ⟨b,j,none⟩=some u∧w.frozen? ⟨b,j,none⟩=false:=fun j u hu=>by
    rw[u2,jB3]at hu;split at hu
    ·refine⟨?_,by simp[World.frozen?,hh]⟩;rw[cell_of_row w b j cur e (0,0) hh]
     simpa using hu
    ·cases hu
   have hmax:us.length<4611686018427387904:=by rw[hul]; exact hmx
   have hc:=hS H w b li.cap us (fun b o v=>hs.pers b o v) g6 hlt hus hmax u3 hcell;rw[hul]at hc;refine hc.mono fun e' w' hx=>?_
   obtain⟨rfl,us',n,os,hp,hsrt,rfl⟩:=hx;have u3':zVu H encA us':=fun p hp'=>u3 p (hp.mem_iff.1 hp')
   have hl':(us'.map (·.1))=zDv cf l:=by refine zO4 ho (by rw[←u1]; exact hp.map _) ?_;rw[jD0];exact hsrt
   obtain⟨j1,j2⟩:=zLi (L:=L) hb u3';rw[hl']at j1;have hfl:(zDs us').length=l.length*sz:=by rw[zIc hlen u3',hp.length_eq,hul]
   have hfit:(zDs us').toArray.size≤cur.size:=by rw[jCa,hfl,g3];exact jBl _ g1
   obtain⟨p1,p2⟩:=zMA hfit;rw[jCa,hfl]at p2;have hnx:=zXr hs e1 hbk (o:=.row false e sz l.length ((zDv cf l).flatMap encA)) (w':=grow (putRow id (Go.Sort.ahead w n) b 0 (zDs us').toArray) os) rfl rfl rfl (by simp[grow,Go.Sort.ahead]) (fun d=>by rw[hh]; simp) (by simp[grow,Go.Sort.ahead]) (fun k hk hne=>zIr hk hne n _ os) g6 (by
    simp only[zW];refine⟨e2,hln,?_,.inr ⟨b,_,hbk,zPV hh n _ os,g1,g2,by rw[p1]; exact g3,?_,?_,g6⟩⟩
    ·rw[←j1.length,hfl]
    ·rw[p2]; exact j1
    ·rw[p2]; exact j2)
   exact⟨.ret (.tup []),_,H,L,⟨_,rfl,htup⟩,hnx,rfl,rfl⟩
theorem zPi {α : Type}{enc : α→List Value}{k:Nat}(hk:∀x,(enc x).length=k):∀(l:List α) (i j:Nat) (hi:i<l.length),j<k→(l.flatMap enc)[i*k+j]?=(enc l[i])[j]?
 | [],i,j,hi,_=>by simp at hi
 | x::l,0,j,_,hj=>by rw[jBc,jAo (by rw[hk]; omega)];simp
 | x::l,i+1,j,hi,hj=>by
  have hi':i<l.length:=by simpa using hi
  rw[jBc,jBg (by rw[hk,jC8]; omega),hk];have:(i+1)*k+j-k=i*k+j:=by rw[jC8]; omega
  rw[this,zPi hk l i j hi' hj];rfl
theorem zJN {α : Type}{enc : α→List Value}{k:Nat}(hk:∀x,(enc x).length=k):∀(l:List α),(l.flatMap enc).length=l.length*k
 | []=>by simp
 | x::l=>by rw[jBc,jA5,hk,zJN hk l,jAd,jC8,jD3]
theorem zRg {α : Type} [Inhabited α]{enc : α→List Value}{k:Nat}(hk:∀x,(enc x).length=k)(d:Array α):(flatK enc k d).toList=d.toList.flatMap enc:=by
 apply jC9;intro t;rcases jB2 t (d.size*k)with ht | ht
 ·have k0:0<k:=by
   rcases Nat.eq_zero_or_pos k with h | h
   ·subst h; simp at ht
   ·exact h
  have hq:t / k<d.toList.length:=by rw[jAy]; exact Nat.div_lt_of_lt_mul (by rw[Nat.mul_comm]; exact ht)
  have hm:=Nat.mod_lt t k0;have he:t=t / k*k+t % k:=by rw[Nat.mul_comm]; exact(Nat.div_add_mod t k).symm
  have h1:(flatK enc k d)[t]! = (enc d[t / k]!)[t % k]! := get_flatK enc k d t ht;have hts:t<(flatK enc k d).size:=by rw[size_flatK]; exact ht
  have h2:(d.toList.flatMap enc)[t]?=(enc d.toList[t / k])[t % k]?:=by
   conv=>lhs; rw[he]
   exact zPi hk _ _ _ hq hm
  rw[h2];have hq':t / k<d.size:=by simpa using hq
  have hmm:t % k<(enc d[t / k]).length:=by rw[hk]; exact hm
  rw[getElem!_pos _ t hts,getElem!_pos d (t / k) hq',getElem!_pos _ (t % k) hmm]at h1;rw[jCs,Array.getElem?_eq_getElem hts,h1];simp[hmm]
 ·rw[jBj (by simpa using ht),jBj (by rw[zJN hk]; simpa using ht)]
theorem zPS {α : Type} [Inhabited α]{d d':Array α}(h:PermIn 0 d.size d d'):d'.toList.Perm d.toList:=by
 obtain⟨h1,_,h3⟩:=h;have e1:d'.extract 0 d.size=d':=by rw[←h1]; simp
 rw[e1]at h3
 simpa using h3
theorem zMC {α : Type} [Inhabited α]{lt : α→α→Bool}{d:Array α}{n:Nat}(hn:n=d.size)(h:SortedIn lt 0 n d):d.toList.Pairwise fun x y=>lt y x=false:=by
 subst hn;rw[jCd];intro i j hi hj hij;have hi':i<d.size:=by simpa using hi
 have hj':j<d.size:=by simpa using hj
 have:=h i j (jBo _) hij hj';rw[getElem!_pos d i hi',getElem!_pos d j hj']at this
 simpa using this
theorem qE4 {β : Type}{cf : β→β→Int}(ho:Ord cf) {α : Type}(p : α→β):SWO (Go.Proofs.ltOf fun x y : α=>cf (p x) (p y)) where
 irrefl x:=by simpa [Go.Proofs.ltOf] using ho.irrefl (p x)
 trans x y z h1 h2:=by simp only[Go.Proofs.ltOf,decide_eq_true_eq]at *; exact ho.trans _ _ _ h1 h2
 ntrans x y z h1 h2:=by simp only[Go.Proofs.ltOf,decide_eq_false_iff_not]at *; exact ho.ntrans _ _ _ h1 h2
theorem zT1 {b b' o:Nat}{F:Array Value}{n:Nat}{os:Array Obj}{v:Value}(hne:b'≠b)(h:w.cell? ⟨b',o,none⟩=some v):(grow (putRow id (Go.Sort.ahead w n) b 0 F) os).cell? ⟨b',o,none⟩=some v:=by have hlt:=World.block_lt_of_cell? w _ h;simp only[World.cell?]at h⊢;rw[zIr hlt hne];exact h
theorem qEy {f g:FuncId}{encA : β→List A}{cf : β→β→Int}{k:Nat}(hlen:∀b,(encA b).length=k)(ho:Ord cf)(hcmp:∀a b,Ret P g [.agg (encA a),.agg (encA b)] [] (int (cf a b)) [])
 (hkit:∀(α : Type) [Inhabited α](enc : α→List Value)(_:∀x,(enc x).length=k)(_:∀x,∀v∈enc x,v.oneCell'=true)(cf : α→α→Int)(_:SWO (Go.Proofs.ltOf cf))(blk off cap:Nat)(d:Array α)(w:World)
  (_:Go.Proofs.CmpLays P g #[] enc k cf blk off d.size w)(_:HoldsK enc k w blk off d)(_:blk<w.heap.size)(_:d.size<4611686018427387904),
  Calls P f #[.slice (some ⟨blk,off,none⟩) d.size cap,.func (.func g) #[] #[]] w fun e w'=>e=.returned (.tuple #[])∧∃d' n os,PermIn 0 d.size d d'∧SortedIn (Go.Proofs.ltOf cf) 0 d.size d'∧w'=sortWorldK enc k w blk off n d' os):zQD P f g encA cf:=by
 intro H w b cap us hH hnone hlt hus hmax hrel hcell;let α:={p : β×List Value // (zY H [] (encA p.1) p.2∧∀v∈p.2,one v)};let d:Array α:=(us.attach.map fun p=>(⟨p.1,hrel p.1 p.2⟩ : α)).toArray;have hdm:d.toList.map (·.1)=us:=by simp only[d,jCv,Function.comp_def];exact(List.attach_map_val (f:=id)).trans (List.map_id us)
 have hds:d.size=us.length:=by simp[d]
 have:Inhabited α:=⟨⟨us.head hus,hrel _ (List.head_mem hus)⟩⟩;let enc : α→List Value:=fun x=>x.1.2
 have hk:∀x,(enc x).length=k:=fun x=>by rw[←hlen x.1.1]; exact x.2.1.length
 have hflat:∀dd:Array α,(flatK enc k dd).toList=zDs (dd.toList.map (·.1)):=fun dd=>by rw[zRg hk,zDs,List.flatMap_map]
 have hne:∀b' o v,H b' o=some v→b'≠b:=fun b' o v h e=>by subst e; rw[hnone]at h; cases h
 have hk2:=hkit α enc hk (fun x v hv=>x.2.2 v hv) (fun x y=>cf x.1.1 y.1.1) (qE4 ho fun x : α=>x.1.1) b 0 cap d w ?_ ?_ hlt (by rw[hds]; exact hmax)
 ·rw[hds]at hk2;refine hk2.mono fun e w' hx=>?_
  obtain⟨rfl,d',n,os,hp,hs,rfl⟩:=hx;refine⟨rfl,d'.toList.map (·.1),n,os,?_,?_,?_⟩
  ·rw[←hds]at hp;have:=(zPS hp).map (·.1);rw[hdm]at this;exact this
  ·rw[jD0];have hsz':us.length=d'.size:=by rw[hp.1,hds]
   exact(zMC hsz' hs).imp fun h=>by simpa [Go.Proofs.ltOf] using h
  ·simp only[sortWorldK,putRowK];rw[←hflat d']
 ·intro m os dk hsz x y;have hW:∀b' o v,H b' o=some v→(sortWorldK enc k w b 0 m dk os).cell? ⟨b',o,none⟩=some v:=fun b' o v h=>zT1 (hne b' o v h) (hH b' o v h)
  have:=zP0 (hcmp x.1.1 y.1.1) hW (vs:=[.agg (enc x).toArray,.agg (enc y).toArray]) (by
   refine qR ?_ (qR ?_ jZ)
   ·simp only[Rel]; exact⟨_,rfl,x.2.1,x.2.2⟩
   ·simp only[Rel]; exact⟨_,rfl,y.2.1,y.2.2⟩)
  simpa using this
 ·intro j hj;have hj':j<(flatK enc k d).toList.length:=by simpa using hj
  have h1:(zDs us)[j]?=some ((flatK enc k d)[j]!):=by rw[←hdm,←hflat d,jA2 hj',getElem!_pos _ j hj];simp
  simpa using hcell j _ h1
end
end Go.Abs
