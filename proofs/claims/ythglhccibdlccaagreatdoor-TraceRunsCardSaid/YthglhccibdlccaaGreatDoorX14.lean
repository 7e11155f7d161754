/-
  Rules for simp on levels and contracts; the steps that a prover takes at calls, loops and returns.
  Calls in regions that draw: of functions that work on objects of the caller's, and beside growing operations.
  Rules for simp: the operations on maps, and the look whether a pointer is nil.
-/
import Derived.Test.YthglhccibdlccaaGreatDoorX12
import Derived.Test.YthglhccibdlccaaGreatDoorX13
set_option linter.unusedVariables false
set_option linter.unusedSimpArgs false
namespace Go.Abs
attribute [simp] KOp.dst
@[simp] theorem qBU {a b n:Nat}(h:a≤b):(a≤b+n)=True:=eq_true (by omega)
@[simp] def int (n:Int):A:=.lit (.int .i64 n)
@[simp] def bl (b:Bool):A:=.lit (.bool b)
section
variable {P:Program}{n0:Nat}{Qp:Value→Env→St→Prop}{K':Env→St→Prop}{KD:Env→Prop}{Q:Ex→Env→St→Prop}{env:Env} {σ : St}{d:Option Nat}
variable {rf:Bool→Nat→Nat→A}{g:Nat→Option Nat}
def lvl (o:Option Nat)(f:Nat→A)(b:A):A:=match o with
 | some i=>f i
 | none=>b
@[simp] theorem qIc {i:Nat}{f:Nat→A}{b:A}:lvl (some i) f b=f i:=rfl
@[simp] theorem qIb {f:Nat→A}{b:A}:lvl none f b=b:=rfl
@[simp] theorem qPc {l o:Nat}:vw rf g (.ptr l o)=lvl (g l) (.ptr · o) (rf true l o):=by simp only[vw,lvl];cases g l<;>rfl
@[simp] theorem qPd {l n:Nat}:vw rf g (.row l n)=lvl (g l) (.row · n) (rf false l n):=by simp only[vw,lvl];cases g l<;>rfl
@[simp] theorem qPe {l n o:Nat}:vw rf g (.rwp l n o)=lvl (g l) (.rwp · n o) .any:=by simp only[vw,lvl];cases g l<;>rfl
@[simp] theorem qPa {l:Nat}:vw rf g (.map l)=lvl (g l) .map .any:=by simp only[vw,lvl];cases g l<;>rfl
@[simp] theorem qPg {l n o k c:Nat}:vw rf g (.win l n o k c)=lvl (g l) (.win · n o k c) (zUv o k c (rf false l n)):=by simp only[vw,lvl];cases g l<;>rfl
@[simp] theorem qKr {n o k c:Nat}{cs:List A}:zUv o k c (.sl n cs)=if k=0 then .sl 0 [] else .sl k ((cs.drop o).take c):=rfl
@[simp] theorem qOV {cs:List A}:vw rf g (.agg cs)=.agg (vwL rf g cs):=by simp only[vw]
@[simp] theorem qPf {cs:List A}:vw rf g (.tup cs)=.tup (vwL rf g cs):=by simp only[vw]
@[simp] theorem qP2 {n:Nat}{cs:List A}:vw rf g (.sl n cs)=.sl n (vwL rf g cs):=by simp only[vw]
@[simp] theorem qOY {n:Nat}{cs:List A}:vw rf g (.fsl n cs)=.fsl n (vwL rf g cs):=by simp only[vw]
@[simp] theorem qLt {cs:List A}:vw rf g (.rptr cs)=.rptr (vwL rf g cs):=by simp only[vw]
@[simp] theorem qOX {f:FuncId}{a b:List A}:vw rf g (.clo f a b)=.clo f (vwL rf g a) (vwL rf g b):=by simp only[vw]
@[simp] theorem qOW:vw rf g .any=.any:=by simp only[vw]
@[simp] theorem qPb:vw rf g .nil=.nil:=by simp only[vw]
@[simp] theorem qOZ {v:Value}:vw rf g (.lit v)=.lit v:=by simp only[vw]
@[simp] theorem qP3 {b:Nat}:vw rf g (yv b)=yv b:=by simp only[yv,vw]
@[simp] theorem qCX {b:Bool}{l n:Nat}:jQ b l n=.any:=rfl
@[simp] theorem qLf:vwL rf g []=[]:=by simp only[vwL]
@[simp] theorem qJm {c:A}{cs:List A}:vwL rf g (c::cs)=vw rf g c::vwL rf g cs:=by simp only[vwL]
@[simp] theorem zQ1 {cs ds:List A}:vwL rf g (cs++ds)=vwL rf g cs++vwL rf g ds:=by
 induction cs with
 | nil=>simp
 | cons c cs ih=>simp[ih]
@[simp] theorem qJn {cs:List A}{n:Nat}:vwL rf g (cs.drop n)=(vwL rf g cs).drop n:=by
 induction cs generalizing n with
 | nil=>simp
 | cons c cs ih=>cases n<;>simp[ih]
@[simp] theorem qJo {cs:List A}{n:Nat}:vwL rf g (cs.take n)=(vwL rf g cs).take n:=by
 induction cs generalizing n with
 | nil=>simp
 | cons c cs ih=>cases n<;>simp[ih]
@[simp] theorem qIy {l o:Nat}:nrm0 (.ptr l o)=.ptr l o:=by simp only[nrm0]
@[simp] theorem qIz {l n:Nat}:nrm0 (.row l n)=.row l n:=by simp only[nrm0]
@[simp] theorem qI0 {l n o:Nat}:nrm0 (.rwp l n o)=.rwp l n o:=by simp only[nrm0]
@[simp] theorem qIw {l:Nat}:nrm0 (.map l)=.map l:=by simp only[nrm0]
@[simp] theorem qI2 {l n o k c:Nat}:nrm0 (.win l n o k c)=.win l n o k c:=by simp only[nrm0]
@[simp] theorem qIr {cs:List A}:nrm0 (.agg cs)=.agg (jG cs):=by simp only[nrm0]
@[simp] theorem qI1 {cs:List A}:nrm0 (.tup cs)=.tup (jG cs):=by simp only[nrm0]
@[simp] theorem qKH {n:Nat}{cs:List A}:nrm0 (.sl n cs)=.sl n (jG cs):=by simp only[nrm0]
@[simp] theorem qIu {n:Nat}{cs:List A}:nrm0 (.fsl n cs)=.sl n (jG cs):=by simp only[nrm0]
@[simp] theorem qDR {cs:List A}:nrm0 (.rptr cs)=.rptr (jG cs):=by simp only[nrm0]
@[simp] theorem qIt {f:FuncId}{a b:List A}:nrm0 (.clo f a b)=.clo f (jG a) (jG b):=by simp only[nrm0]
@[simp] theorem qIs:nrm0 .any=.any:=by simp only[nrm0]
@[simp] theorem qIx:nrm0 .nil=.sl 0 []:=by simp only[nrm0]
@[simp] theorem qIv {v:Value}:nrm0 (.lit v)=.lit v:=by simp only[nrm0]
@[simp] theorem qKI {b:Nat}:nrm0 (yv b)=yv b:=by simp only[yv,nrm0]
@[simp] theorem qDH:jG []=[]:=by simp only[jG]
@[simp] theorem qCa {c:A}{cs:List A}:jG (c::cs)=nrm0 c::jG cs:=by simp only[jG]
@[simp] theorem zMV {cs ds:List A}:jG (cs++ds)=jG cs++jG ds:=by
 induction cs with
 | nil=>simp
 | cons c cs ih=>simp[ih]
@[simp] theorem qCb {cs:List A}{n:Nat}:jG (cs.drop n)=(jG cs).drop n:=by
 induction cs generalizing n with
 | nil=>simp
 | cons c cs ih=>cases n<;>simp[ih]
@[simp] theorem qCc {cs:List A}{n:Nat}:jG (cs.take n)=(jG cs).take n:=by
 induction cs generalizing n with
 | nil=>simp
 | cons c cs ih=>cases n<;>simp[ih]
def jE (cs:List A):Prop:=jG cs=cs∧∀rf g,vwL rf g cs=cs
theorem jE.nil:jE []:=⟨by simp,by simp⟩
theorem jE.append {cs ds:List A}(h:jE cs)(k:jE ds):jE (cs++ds):=⟨by simp[h.1,k.1],fun rf g=>by simp[h.2,k.2]⟩
theorem jE.drop {cs:List A}(h:jE cs)(n:Nat):jE (cs.drop n):=⟨by simp[h.1],fun rf g=>by simp[h.2]⟩
theorem jE.take {cs:List A}(h:jE cs)(n:Nat):jE (cs.take n):=⟨by simp[h.1],fun rf g=>by simp[h.2]⟩
theorem jE.int {k:IntKind}{n:Int}{cs:List A}(h:jE cs):jE (.lit (.int k n)::cs):=⟨by simp[h.1],fun rf g=>by simp[h.2]⟩
theorem jE.lit {v:Value}{cs:List A}(h:jE cs):jE (.lit v::cs):=⟨by simp[h.1],fun rf g=>by simp[h.2]⟩
theorem jE.sl {n:Nat}{ds cs:List A}(k:jE ds)(h:jE cs):jE (.sl n ds::cs):=⟨by simp[h.1,k.1],fun rf g=>by simp[h.2,k.2]⟩
@[simp] theorem qDY {l:Nat}:qU [] l=none:=rfl
@[simp] theorem qCq {k l:Nat}{ks:List Nat}:qU (k::ks) l=if l=k then some 0 else (qU ks l).map (· + 1):=rfl
@[simp] theorem qGa {n l:Nat}:zDx [] n l=n+l:=by cases l<;>rfl
@[simp] theorem qDb {j n:Nat}{js:List Nat}:zDx (j::js) n 0=j:=rfl
@[simp] theorem qDa {j n l:Nat}{js:List Nat}:zDx (j::js) n (l+1)=zDx js n l:=rfl
@[simp] theorem qCr {s t:St}:jO s [] t=s++t:=by simp only[jO]
@[simp] theorem zO6 {s os:St}{j:Nat}{js:List Nat}{o:AObj}:jO s (j::js) (o::os)=jO (s.set j o) js os:=rfl
@[simp] theorem qCY {js:List Nat}:zBo js [] []:=trivial
@[simp] theorem qA9 {js:List Nat}{a a':A}{aS aS':List A}:zBo js (a'::aS') (a::aS)=((a=vw jQ (qU js) a'∨a=nrm0 (vw jQ (qU js) a'))∧zBo js aS' aS):=rfl
def zO1 (o:Option AObj)(J:AObj→Prop):Prop:=match o with
 | some o=>J o
 | none=>False
@[simp] theorem qCf {o:AObj}{J:AObj→Prop}:zO1 (some o) J=J o:=rfl
@[simp] theorem qEn:zAt σ rf g [] []:=trivial
@[simp] theorem qC5 {j:Nat}{js:List Nat}{o:AObj}{os:St}:zAt σ rf g (j::js) (o::os)=(zO1 σ[j]? (fun p=>o=vwO rf g p∨o=zGw (vwO rf g p))∧zAt σ rf g js os):=by simp only[zAt,zO1];cases σ[j]?<;>rfl
@[simp] theorem qLg {cs:List A}:vwO rf g (.box cs)=.box (vwL rf g cs):=rfl
@[simp] theorem qLh {fz:Bool}{e:TypeId}{sz n:Nat}{cs:List A}:vwO rf g (.row fz e sz n cs)=.row fz e sz n (vwL rf g cs):=rfl
@[simp] theorem qOU {fr:Bool}{nk:Nat}{es:List (List Int×A)}:vwO rf g (.mp fr nk es)=.mp fr nk (es.map fun p=>(p.1,vw rf g p.2)):=rfl
@[simp] theorem qLi:vwO rf g .rsv=.rsv:=rfl
@[simp] theorem qI5:zGw .rsv=.rsv:=rfl
@[simp] theorem qIQ {js:List Nat}{n:Nat}:zB0 js n .rsv=.rsv:=rfl
@[simp] theorem qOS {m n:Nat}{met:List Nat}:vwO rf g (.it m n met)=(match g m with | some i=>AObj.it i n met | none=>.dead):=rfl
@[simp] theorem qKL {fr:Bool}{nk:Nat}{es:List (List Int×A)}:zGw (.mp fr nk es)=.mp fr nk (es.map fun p=>(p.1,nrm0 p.2)):=rfl
@[simp] theorem qKJ {m n:Nat}{met:List Nat}:zGw (.it m n met)=.it m n met:=rfl
@[simp] theorem qKS {js:List Nat}{n:Nat}{fr:Bool}{nk:Nat}{es:List (List Int×A)}:zB0 js n (.mp fr nk es)=.mp fr nk (es.map fun p=>(p.1,ren js n p.2)):=rfl
@[simp] theorem qKQ {js:List Nat}{n m k:Nat}{met:List Nat}:zB0 js n (.it m k met)=.it (zDx js n m) k met:=rfl
@[simp] theorem qOT {b M:Nat}{r:Loop}{es:List (Nat×A)}:vwO rf g (.lp b r M es)=.lp b r M (es.map fun p=>(p.1,vw rf g p.2)):=rfl
@[simp] theorem qKK {b M:Nat}{r:Loop}{es:List (Nat×A)}:zGw (.lp b r M es)=.lp b r M (es.map fun p=>(p.1,nrm0 p.2)):=rfl
@[simp] theorem qKR {js:List Nat}{n b M:Nat}{r:Loop}{es:List (Nat×A)}:zB0 js n (.lp b r M es)=.lp b r M (es.map fun p=>(p.1,ren js n p.2)):=rfl
@[simp] theorem qI3 {cs:List A}:zGw (.box cs)=.box (jG cs):=rfl
@[simp] theorem qI4 {fz:Bool}{e:TypeId}{sz n:Nat}{cs:List A}:zGw (.row fz e sz n cs)=.row fz e sz n (jG cs):=rfl
@[simp] theorem qIO {js:List Nat}{n:Nat}{cs:List A}:zB0 js n (.box cs)=.box (qCu js n cs):=rfl
@[simp] theorem qIP {js:List Nat}{n:Nat}{fz:Bool}{e:TypeId}{sz m:Nat}{cs:List A}:zB0 js n (.row fz e sz m cs)=.row fz e sz m (qCu js n cs):=rfl
@[simp] theorem qOI {js:List Nat}{n:Nat}{a:A}:ren js n a=vw jQ (fun l=>some (zDx js n l)) a:=rfl
@[simp] theorem qKP {js:List Nat}{n:Nat}{cs:List A}:qCu js n cs=vwL jQ (fun l=>some (zDx js n l)) cs:=rfl
def zVS (k:Nat)(o:Option AObj)(n:Nat)(J:List A→A):A:=match o with
 | some (.row _ _ _ m cs)=>if n=m then J cs else .any
 | _=>.any
@[simp] theorem qC4 {k n m:Nat}{fz:Bool}{e:TypeId}{sz:Nat}{cs:List A}{J:List A→A}:zVS k (some (.row fz e sz m cs)) n J=if n=m then J cs else .any:=rfl
@[simp] theorem qEm {b:Bool}{l n:Nat}:seen σ g 0 b l n=.any:=rfl
@[simp] theorem qEl {k l n:Nat}:seen σ g (k+1) false l n=zVS k σ[l]? n (fun cs=>.sl n (vwL (seen σ g k) g cs)):=by
 simp only[seen,zVS];cases σ[l]? with
 | none=>rfl
 | some o=>cases o<;>rfl
def zOL (o:Option AObj)(J:List A→A):A:=match o with
 | some (.box cs)=>J cs
 | _=>.any
@[simp] theorem qEj {cs:List A}{J:List A→A}:zOL (some (.box cs)) J=J cs:=rfl
@[simp] theorem qEk {fz:Bool}{e:TypeId}{sz n:Nat}{cs:List A}{J:List A→A}:zOL (some (.row fz e sz n cs)) J=.any:=rfl
@[simp] theorem qC3 {J:List A→A}:zOL none J=.any:=rfl
@[simp] theorem qJa {k l n:Nat}:seen σ g (k+1) true l n=zOL σ[l]? (fun cs=>.rptr ((vwL (seen σ g k) g cs).drop n)):=by
 simp only[seen,zOL];cases σ[l]? with
 | none=>rfl
 | some o=>cases o<;>rfl
def zR8:List A→A
 | [x]=>x
 | l=>.tup l
@[simp] theorem qEr {x:A}:zR8 [x]=x:=rfl
@[simp] theorem qEq:zR8 []=.tup []:=rfl
@[simp] theorem qEs {x y:A}{l:List A}:zR8 (x::y::l)=.tup (x::y::l):=rfl
def zKI (env:Env) (σ : St):List RS→(List A→Prop)→Prop
 | [],J=>J []
 | .slot t::rs,J=>zKI env σ rs fun l=>J (env t::l)
 | .cell a n agg::rs,J=>zDk ((ldA σ n (env a)).bind (zBq agg)) fun r=>zKI env σ rs fun l=>J (r::l)
@[simp] theorem qIR {J:List A→Prop}:zKI env σ [] J=J []:=rfl
@[simp] theorem qEb {t:Nat}{rs:List RS}{J:List A→Prop}:zKI env σ (.slot t::rs) J=zKI env σ rs fun l=>J (env t::l):=rfl
@[simp] theorem qEa {a n:Nat}{agg:Bool}{rs:List RS}{J:List A→Prop}:zKI env σ (.cell a n agg::rs) J=zDk ((ldA σ n (env a)).bind (zBq agg)) fun r=>zKI env σ rs fun l=>J (r::l):=rfl
theorem zNe:∀{rs:List RS} {J:List A→Prop},zKI env σ rs J=match zAI env σ rs with | some l=>J l | none=>False
 | [],J=>rfl
 | .slot t::rs,J=>by simp only[zKI,zAI,zDO];rw[zNe];cases zAI env σ rs<;>rfl
 | .cell a n agg::rs,J=>by
  simp only[zKI,zAI,zDO];cases (ldA σ n (env a)).bind (zBq agg)with
  | none=>rfl
  | some r =>
   simp only[zDk];rw[zNe];cases zAI env σ rs<;>rfl
@[simp] theorem qKT {rs:List RS}{R:Out→St→Prop}:zJx rs R env σ = zKI env σ rs fun l=>R (.ret (zR8 l)) σ:=by
 rw[zNe,zJx,zQi];cases zAI env σ rs with
 | none=>rfl
 | some l =>
  cases l with
  | nil=>rfl
  | cons x l=>cases l<;>rfl
def zHa (n:Nat)(r:A) (σ1:St)(o:Out) (σ':St):Prop :=
 ∃(r':A) (ks:List Nat) (fuel:Nat),o=.ret r'∧(∀i,i<n→ks[i]?=some i)∧ks.Nodup∧zAt σ' (seen σ' (qU ks) fuel) (qU ks) ks σ1 ∧
  (r=vw (seen σ' (qU ks) fuel) (qU ks) r'∨r=nrm0 (vw (seen σ' (qU ks) fuel) (qU ks) r'))
theorem zK {f:FuncId}{fn:Func}{c:Code}{k:K}{rs:List RS}(hf:P.funcs[f]?=some fn)(hb:fn.body=some c)(hc:zL P fn.ntmps c=some k.erase)(hr:zBl P fn.results.toList=some rs)
 {args:List A} {σ0 σ1:St}{r:A}(h:wpF P k rs args σ0 (zHa σ0.length r σ1)):Ret P f args σ0 r σ1:=zES (zFq hf hb hc hr h)
theorem zH {hint:Nat→Option (List (Nat×Nat))}{f:FuncId}{fn:Func}{c:Code}{k:K}{rs:List RS}(hf:P.funcs[f]?=some fn)(hb:fn.body=some c)(hc:qC P fn.ntmps hint c=some k.erase)(hr:zBl P fn.results.toList=some rs)
 {args:List A} {σ0 σ1:St}{r:A}(h:wpF P k rs args σ0 (zHa σ0.length r σ1)):Ret P f args σ0 r σ1:=zES (zCm hf hb hc hr h)
theorem zC {r r':A} {σ':St}(fuel:Nat)(h:r=vw (seen σ' (fun _=>none) fuel) (fun _=>none) r'∨r=nrm0 (vw (seen σ' (fun _=>none) fuel) (fun _=>none) r')):zHa 0 r [] (.ret r') σ' :=
 ⟨r',[],fuel,rfl,fun i hi=>by omega,by simp,trivial,h⟩
theorem zG {n:Nat}{r r':A} {σ1 σ':St}(ks:List Nat)(fuel:Nat)(hk:∀i,i<n→ks[i]?=some i)(hd:ks.Nodup)(ho:zAt σ' (seen σ' (qU ks) fuel) (qU ks) ks σ1)
 (h:r=vw (seen σ' (qU ks) fuel) (qU ks) r'∨r=nrm0 (vw (seen σ' (qU ks) fuel) (qU ks) r')):zHa n r σ1 (.ret r') σ':=⟨r',ks,fuel,rfl,hk,hd,ho,h⟩
theorem zOR:∀{s:St} {j:Nat} {o:AObj},s[j]?=some o→s.set j o=s
 | [],_,_,h=>by simp at h
 | x::s,0,o,h=>by simp at h; simp[h]
 | x::s,j+1,o,h=>by simp only[List.getElem?_cons_succ]at h; simp[zOR h]
theorem zR {f:FuncId}{args args':List A}{r:A}(h:Ret P f args [] r [])(ha:zBo [] args' args)(hr:∀m,vw jQ (fun l=>some (m+l)) r=r)(hq:K' (env.put d r) σ):yN P f args' σ (zHA d env K' Qp):=by
 refine zAw h [] (by simp) trivial ha ?_;have:ren [] σ.length r=r:=by
  have:=hr σ.length
  simpa [ren] using this
 rw[this]
 simpa [zHA] using hq
theorem qE {f:FuncId}{args args':List A}{r:A}(h:Ret P f args [] r [])(ha:zBo [] args' args)(hr:∀m,vw jQ (fun l=>some (m+l)) r=r)(hq:KD (env.put d r)):zJC P σ d KD f args' env:=by
 refine⟨r,zAw h [] (by simp) trivial ha ?_,hq⟩;have:ren [] σ.length r=r:=by
  have:=hr σ.length
  simpa [ren] using this
 rw[this];simp
theorem zN {f:FuncId}{args args':List A} {σ0 σ1:St}{r:A}(h:Ret P f args σ0 r σ1)(js:List Nat)(hd:js.Nodup)(ho:zAt σ jQ (qU js) js σ0)(ha:zBo js args' args)
 (hq:K' (env.put d (ren js σ.length r)) (jO σ js (σ1.map (zB0 js σ.length)))):yN P f args' σ (zHA d env K' Qp):=zAw h js hd ho ha (by simpa [zHA] using hq)
def zZo {S:Type}(E:S→List (Nat×A))(T:S→St)(I:S→Prop) (μ : S→Nat)(n:Nat)(e:Env)(t:St):Prop:=∃s,I s∧μ s=n∧e=qT (E s)∧t=T s
theorem qZ {S:Type}{W:(Ex→Env→St→Prop)→Env→St→Prop}(E:S→List (Nat×A))(T:S→St)(I:S→Prop) (μ : S→Nat)(s0:S)(h0:I s0)(start:zBz n0 (qT (E s0)) (T s0) env σ)
 (round:∀s,I s→W (rnd n0 (zZo E T I μ) (μ s) Q) (qT (E s)) (T s)):zNt n0 W Q env σ:=zXN E T I μ s0 h0 start round
theorem zT {S:Type}{E:S→List (Nat×A)}{T:S→St}{I:S→Prop} {μ : S→Nat}{n:Nat}(s:S)(hs:I s)(hm : μ s<n)(hw:zBz n0 (qT (E s)) (T s) env σ):rnd n0 (zZo E T I μ) n Q .norm env σ :=
 qCw s hs hm hw
theorem zS (ks:List Nat)(fuel:Nat){l:List (Nat×A)} {σ':St}(hk:∀i,i<n0→ks[i]?=some i)(hd:ks.Nodup)(ho:zAt σ (seen σ (qU ks) fuel) (qU ks) ks σ')
 (hl:∀p∈l,p.2=vw (seen σ (qU ks) fuel) (qU ks) (env p.1)∨p.2=nrm0 (vw (seen σ (qU ks) fuel) (qU ks) (env p.1))):zBz n0 (qT l) σ' env σ:=zBz.sel ks fuel l hk hd ho hl
end
end Go.Abs
namespace Go.Abs
section
variable {P:Program}{KD:Env→Prop}{env:Env} {σ : St}{d:Option Nat}
theorem zA3 {f:FuncId}{args args':List A}{r:A}(h:Ret P f args [] r [])(ha:zBo [] args' args)(hr:∀m,vw jQ (fun l=>some (m+l)) r=r)(hq:KD (env.put d r)):zHQ P σ d KD f args' env:=by
 refine⟨r,fun τ _=>zAw h [] (by simp) trivial ha ?_,hq⟩;have:ren [] τ.length r=r:=by
  have:=hr τ.length
  simpa [ren] using this
 rw[this];simp
def zET (σ : St)(js:List Nat):List Nat→St→Prop
 | [],[]=>True
 | j::ks,o::os=>(zO1 σ[j]? fun p=>(∃cs,p=.box cs)∧(∀n,zB0 js n o=p)∧(o=vwO jQ (qU js) p∨o=zGw (vwO jQ (qU js) p)))∧zET σ js ks os
 | _,_=>False
@[simp] theorem qC2 {js:List Nat}:zET σ js [] []:=trivial
@[simp] theorem qAq {js ks:List Nat}{j:Nat}{o:AObj}{os:St}:zET σ js (j::ks) (o::os)=((zO1 σ[j]? fun p=>(∃cs,p=.box cs)∧(∀n,zB0 js n o=p)∧(o=vwO jQ (qU js) p∨o=zGw (vwO jQ (qU js) p)))∧zET σ js ks os):=rfl
theorem zFG {js:List Nat} {τ : St}(hk:yW σ τ):∀{ks:List Nat} {os:St},zET σ js ks os→zET τ js ks os
 | [],[],_=>trivial
 | j::ks,o::os,h=>by
  obtain⟨h1,h2⟩:=h;refine⟨?_,zFG hk h2⟩;cases hj : σ[j]? with
  | none=>rw[hj]at h1; exact h1.elim
  | some p =>
   rw[hj]at h1;obtain⟨⟨cs,rfl⟩,h3⟩:=h1;rw[hk j cs hj];exact⟨⟨cs,rfl⟩,h3⟩
 | [],_::_,h=>h.elim
 | _::_,[],h=>h.elim
theorem zKL {js:List Nat}:∀{ks:List Nat} {os:St},zET σ js ks os→zAt σ jQ (qU js) ks os
 | [],[],_=>trivial
 | j::ks,o::os,h=>by
  obtain⟨h1,h2⟩:=h;refine⟨?_,zKL h2⟩;cases hj : σ[j]? with
  | none=>rw[hj]at h1; exact h1.elim
  | some p=>rw[hj]at h1; exact h1.2.2
 | [],_::_,h=>h.elim
 | _::_,[],h=>h.elim
theorem zKK {js:List Nat}{n:Nat}:∀{ks:List Nat} {os:St},zET σ js ks os→jO σ ks (os.map (zB0 js n)) = σ
 | [],[],_=>by simp
 | j::ks,o::os,h=>by
  obtain⟨h1,h2⟩:=h;cases hj : σ[j]? with
  | none=>rw[hj]at h1; exact h1.elim
  | some p =>
   rw[hj]at h1;simp only[List.map_cons,zO6];rw[h1.2.1 n,zOR hj];exact zKK h2
 | [],_::_,h=>h.elim
 | _::_,[],h=>h.elim
theorem zQU {f:FuncId}{args args':List A} {σ0:St}{r:A}(h:Ret P f args σ0 r σ0)(js:List Nat)(hd:js.Nodup)(ho:zET σ js js σ0)(ha:zBo js args' args)(hr:∀n,ren js n r=r)(hq:KD (env.put d r)) :
 zHQ P σ d KD f args' env:=by
 refine⟨r,fun τ hk=>zAw h js hd (zKL (zFG hk ho)) ha ?_,hq⟩;rw[hr,zKK (zFG hk ho)];simp
end
end Go.Abs
namespace Go.Abs
section
variable {P:Program}{Qp:Value→Env→St→Prop}{Qd:Value→St→Prop}{K':Env→St→Prop}{env:Env} {σ : St}{d:Option Nat}{x y:Operand}
def zOu (a:A)(J:A→Prop):Prop:=match a with
 | .ptr l o=>J (.ptr l o)
 | .rptr cs=>J (.rptr cs)
 | _=>False
@[simp] theorem qDF {l o:Nat}{J:A→Prop}:zOu (.ptr l o) J=J (.ptr l o):=rfl
@[simp] theorem qBZ {cs:List A}{J:A→Prop}:zOu (.rptr cs) J=J (.rptr cs):=rfl
theorem zSD {J:A→Prop}:qY (zO env σ (.nilc d x)) J=zOu (ev env x) J:=by simp only[zO,zOu,qY];generalize ev env x=a;cases a<;>simp
@[simp] theorem qJ7:wpO P Qp K' (.nilc d x) env σ = zOu (ev env x) fun r=>K' (env.put d r) σ:=zSD (d:=d)
@[simp] theorem qCO {fl:Nat}:jF P Qd fl K' (.nilc d x) env σ = wpO P zA8 K' (.nilc d x) env σ:=by simp[jF,KOp.lite,KOp.keeps]
def zKr:List A→(List Int→Prop)→Prop
 | [],J=>J []
 | .lit (.int .i64 n)::l,J=>zKr l fun ks=>J (n::ks)
 | _,_=>False
@[simp] theorem qDA {J:List Int→Prop}:zKr [] J=J []:=rfl
@[simp] theorem qBW {n:Int}{l:List A}{J:List Int→Prop}:zKr (.lit (.int .i64 n)::l) J=zKr l fun ks=>J (n::ks):=rfl
theorem zOl:∀(l:List A) (J:List Int→Prop),zKr l J=match zG3 l with | some ks=>J ks | none=>False
 | [],J=>rfl
 | a::l,J=>by
  cases a<;>try rfl
  rename_i v;cases v<;>try rfl
  rename_i k n;cases k<;>try rfl
  simp only[zKr,zG3,zOl l];cases zG3 l<;>rfl
def zOf (nk:Nat)(k:A)(J:List Int→Prop):Prop:=match zH2 nk k with
 | some ks=>J ks
 | none=>False
@[simp] theorem qHQ {nk:Nat}{cs:List A}{J:List Int→Prop}:zOf nk (.agg cs) J=zKr cs fun ks=>ks.length=nk∧J ks:=by
 simp only[zOf,zH2,zOl];cases zG3 cs with
 | none=>rfl
 | some ks =>
  simp only;by_cases h:ks.length=nk<;>simp[h]
def zIw (o:Option AObj)(J:Bool→Nat→List (List Int×A)→Prop):Prop:=match o with
 | some (.mp fr nk es)=>J fr nk es
 | _=>False
@[simp] theorem qDE {fr:Bool}{nk:Nat}{es:List (List Int×A)}{J:Bool→Nat→List (List Int×A)→Prop}:zIw (some (.mp fr nk es)) J=J fr nk es:=rfl
def zVn (o:Option AObj)(J:Nat→Nat→List Nat→Prop):Prop:=match o with
 | some (.it m n met)=>J m n met
 | _=>False
@[simp] theorem qD9 {m n:Nat}{met:List Nat}{J:Nat→Nat→List Nat→Prop}:zVn (some (.it m n met)) J=J m n met:=rfl
@[simp] theorem qLD {m:MOp}{xs:List Operand}:wpO P Qp K' (.mop d m xs) env σ = zBc m (xs.map (ev env)) (fun r τ=>K' (env.put d r) τ) σ:=by simp only[wpO]
variable {K:A→St→Prop}
@[simp] theorem qKG {nk:Nat}:zBc (.mk nk) [] K σ = K (.map σ.length) (σ++[.mp true nk []]):=rfl
@[simp] theorem qIl {nk l:Nat}{z:Value}{ok:Bool}{k:A}:zBc (.get nk z ok) [.map l,k] K σ = zOf nk k fun ks=>zIw σ[l]? fun _ nk' es=>nk'=nk∧K (zF1 z ok (zA1 ks es)) σ:=by
 simp only[zBc,zOf,zIw];cases zH2 nk k with
 | none=>rfl
 | some ks =>
  cases σ[l]? with
  | none=>rfl
  | some o=>cases o<;>rfl
@[simp] theorem qIp {nk l:Nat}{k v:A}:zBc (.set nk) [.map l,k,v] K σ = zOf nk k fun ks=>zIw σ[l]? fun fr nk' es=>nk'=nk∧K (.lit undef) (σ.set l (.mp fr nk (zDm ks v es))):=by
 simp only[zBc,zOf,zIw];cases zH2 nk k with
 | none=>rfl
 | some ks =>
  cases σ[l]? with
  | none=>rfl
  | some o=>cases o<;>rfl
@[simp] theorem qIj {nk l:Nat}{k:A}:zBc (.del nk) [.map l,k] K σ = zOf nk k fun ks=>zIw σ[l]? fun _ nk' es=>nk'=nk∧K (.tup []) (σ.set l (.mp false nk (zIe ks es))):=by
 simp only[zBc,zOf,zIw];cases zH2 nk k with
 | none=>rfl
 | some ks =>
  cases σ[l]? with
  | none=>rfl
  | some o=>cases o<;>rfl
@[simp] theorem qIo {l:Nat}:zBc .rng [.map l] K σ = zIw σ[l]? fun fr _ es=>fr=true∧K (.ptr σ.length 0) (σ++[.it l es.length []]):=by
 simp only[zBc,zIw];cases σ[l]? with
 | none=>rfl
 | some o =>
  cases o<;>try rfl
  rename_i fr nk es;cases fr<;>simp
@[simp] theorem qIn {j:Nat}:zBc .nxt [.ptr j 0] K σ = zVn σ[j]? fun l n met=>zIw σ[l]? fun fr _ es=>fr=true∧n=es.length ∧
 (∀(i:Nat) (p:List Int×A),i∉met→es[i]?=some p→K (.tup [.lit (.bool true),zKo p.1,p.2]) (σ.set j (.it l n (met++[i]))))∧((∀i,i<n→i∈met)→K (.tup [.lit (.bool false)]) σ):=by
 simp only[zBc,zIw,zVn];cases σ[j]? with
 | none=>rfl
 | some o =>
  cases o<;>try rfl
  rename_i l n met;simp only;cases σ[l]? with
  | none=>rfl
  | some o =>
   cases o<;>try rfl
   rename_i fr nk es;cases fr<;>simp
@[simp] theorem qIk {j:Nat}:zBc .ent [.ptr j 0] K σ = zVn σ[j]? fun l n met=>zIw σ[l]? fun fr _ es=>fr=true∧∃i p,met.getLast?=some i∧es[i]?=some p∧n=es.length∧K (.tup [zKo p.1,p.2]) σ:=by
 simp only[zBc,zIw,zVn];cases σ[j]? with
 | none=>rfl
 | some o =>
  cases o<;>try rfl
  rename_i l n met;simp only;cases σ[l]? with
  | none=>rfl
  | some o =>
   cases o<;>try (cases met.getLast?<;>rfl)
   rename_i fr nk es;cases fr
   ·cases met.getLast?<;>simp
   ·cases met.getLast? with
    | none=>simp
    | some i =>
     simp only;apply propext;cases hp:es[i]? with
     | none =>
      refine⟨fun h=>h.2.elim,?_⟩;rintro⟨_,i',p',h1,h2,_⟩;have h1:=Option.some.inj h1;subst h1;rw[hp]at h2;exact absurd h2 (by simp)
     | some p =>
      refine⟨fun h=>⟨trivial,i,p,rfl,hp,h.1,h.2⟩,?_⟩;rintro⟨_,i',p',h1,h2,h3,h4⟩;have h1:=Option.some.inj h1;subst h1;rw[hp]at h2;have h2:=Option.some.inj h2;subst h2;exact⟨h3,h4⟩
@[simp] theorem qIh {sz:Nat}{zs:List Value}{l n o k c:Nat}:zBc (.clr sz zs) [.win l n o k c] K σ = (match σ[l]? with
 | some (.row fz e s m cs)=>(n=m∧s=sz∧fz=false∧o+k*sz≤cs.length)∧K (.tup []) (σ.set l (.row false e sz n (cs.take o++(List.replicate k (zs.map jC)).flatten++cs.drop (o+k*sz))))
 | _=>False):=rfl
@[simp] theorem qIm {e:TypeId}{sz bytes:Nat}{zs:List Value}{k k':IntKind}{n c:Int}:zBc (.mks e sz bytes zs) [.lit (.int k n),.lit (.int k' c)] K σ = ((0≤n∧c=n∧n≤1000000000000∧bytes*n.toNat≤281474976710656)∧K (.row σ.length n.toNat) (σ++[.row false e sz n.toNat ((List.replicate n.toNat (zs.map jC)).flatten)])):=rfl
@[simp] theorem qIi {k k':IntKind}{n:Int}:zBc (.cvt k) [.lit (.int k' n)] K σ = K (.lit (.int k (k.wrap n))) σ:=rfl
@[simp] theorem qDD {n:Nat}{cs:List A}:zBc .str [.fsl n cs] K σ = (match zG4 cs with
 | some xs=>(xs.length=n∧n≠0)∧K (.lit (.string (strOfNums xs))) σ
 | none=>False):=rfl
@[simp] theorem qDC {xs:List A}:zBc .boom xs K σ = False:=by cases xs<;>rfl
@[simp] theorem qLs {rf:Bool→Nat→Nat→A}{g:Nat→Option Nat}(ks:List Int):vw rf g (zKo ks)=zKo ks:=by
 have:∀ks:List Int,vwL rf g (ks.map fun n=>A.lit (.int .i64 n))=ks.map fun n=>A.lit (.int .i64 n):=fun ks=>by
  induction ks with
  | nil=>rfl
  | cons k ks ih=>simp[vwL,ih]
 simp[zKo,this]
end
end Go.Abs
