/-
  Rules for simp on levels and contracts; the steps that a prover takes at calls, loops and returns.
  Calls in regions that draw: of functions that work on objects of the caller's, and beside growing operations.
  Rules for simp: the operations on maps, and the look whether a pointer is nil.
-/
import Derived.Test.YthglhccibdlccaaGreatDoorX12
import Derived.Test.YthglhccibdlccaaGreatDoorX13
set_option linter.unusedVariables false
set_option linter.unusedSimpArgs false
namespace Go.Abs
attribute [simp] KOp.dst
@[simp] theorem qCv {a b n:Nat}(h:a≤b):(a≤b+n)=True:=eq_true (by omega)
@[simp] def int (n:Int):A:=.lit (.int .i64 n)
@[simp] def bl (b:Bool):A:=.lit (.bool b)
section
variable {P:Program}{n0:Nat}{Qp:Value→Env→St→Prop}{K':Env→St→Prop}{KD:Env→Prop}{Q:Ex→Env→St→Prop}{env:Env} {σ : St}{d:Option Nat}
variable {rf:Bool→Nat→Nat→A}{g:Nat→Option Nat}
def lvl (o:Option Nat)(f:Nat→A)(b:A):A:=match o with
 | some i=>f i
 | none=>b
@[simp] theorem qFW {i:Nat}{f:Nat→A}{b:A}:lvl (some i) f b=f i:=rfl
@[simp] theorem qI1 {f:Nat→A}{b:A}:lvl none f b=b:=rfl
@[simp] theorem qMP {l o:Nat}:vw rf g (.ptr l o)=lvl (g l) (.ptr · o) (rf true l o):=by simp only[vw,lvl];cases g l<;>rfl
@[simp] theorem qMK {l n:Nat}:vw rf g (.row l n)=lvl (g l) (.row · n) (rf false l n):=by simp only[vw,lvl];cases g l<;>rfl
@[simp] theorem qML {l n o:Nat}:vw rf g (.rwp l n o)=lvl (g l) (.rwp · n o) .any:=by simp only[vw,lvl];cases g l<;>rfl
@[simp] theorem qO5 {l:Nat}:vw rf g (.map l)=lvl (g l) .map .any:=by simp only[vw,lvl];cases g l<;>rfl
@[simp] theorem qNU {l n o k c:Nat}:vw rf g (.win l n o k c)=lvl (g l) (.win · n o k c) (zVM o k c (rf false l n)):=by simp only[vw,lvl];cases g l<;>rfl
@[simp] theorem qJ8 {n o k c:Nat}{cs:List A}:zVM o k c (.sl n cs)=if k=0 then .sl 0 [] else .sl k ((cs.drop o).take c):=rfl
@[simp] theorem qNy {cs:List A}:vw rf g (.agg cs)=.agg (vwL rf g cs):=by simp only[vw]
@[simp] theorem qM6 {cs:List A}:vw rf g (.tup cs)=.tup (vwL rf g cs):=by simp only[vw]
@[simp] theorem qOW {n:Nat}{cs:List A}:vw rf g (.sl n cs)=.sl n (vwL rf g cs):=by simp only[vw]
@[simp] theorem qLQ {n:Nat}{cs:List A}:vw rf g (.fsl n cs)=.fsl n (vwL rf g cs):=by simp only[vw]
@[simp] theorem qKX {cs:List A}:vw rf g (.rptr cs)=.rptr (vwL rf g cs):=by simp only[vw]
@[simp] theorem qMn {f:FuncId}{a b:List A}:vw rf g (.clo f a b)=.clo f (vwL rf g a) (vwL rf g b):=by simp only[vw]
@[simp] theorem qMg:vw rf g .any=.any:=by simp only[vw]
@[simp] theorem qMZ:vw rf g .nil=.nil:=by simp only[vw]
@[simp] theorem qMA {v:Value}:vw rf g (.lit v)=.lit v:=by simp only[vw]
@[simp] theorem qPa {b:Nat}:vw rf g (yv b)=yv b:=by simp only[yv,vw]
@[simp] theorem qEG {b:Bool}{l n:Nat}:jW b l n=.any:=rfl
@[simp] theorem qKu:vwL rf g []=[]:=by simp only[vwL]
@[simp] theorem qG5 {c:A}{cs:List A}:vwL rf g (c::cs)=vw rf g c::vwL rf g cs:=by simp only[vwL]
@[simp] theorem zQj {cs ds:List A}:vwL rf g (cs++ds)=vwL rf g cs++vwL rf g ds:=by
 induction cs with
 | nil=>simp
 | cons c cs ih=>simp[ih]
@[simp] theorem qFA {cs:List A}{n:Nat}:vwL rf g (cs.drop n)=(vwL rf g cs).drop n:=by
 induction cs generalizing n with
 | nil=>simp
 | cons c cs ih=>cases n<;>simp[ih]
@[simp] theorem qF4 {cs:List A}{n:Nat}:vwL rf g (cs.take n)=(vwL rf g cs).take n:=by
 induction cs generalizing n with
 | nil=>simp
 | cons c cs ih=>cases n<;>simp[ih]
@[simp] theorem qHE {l o:Nat}:nrm0 (.ptr l o)=.ptr l o:=by simp only[nrm0]
@[simp] theorem qGD {l n:Nat}:nrm0 (.row l n)=.row l n:=by simp only[nrm0]
@[simp] theorem qHI {l n o:Nat}:nrm0 (.rwp l n o)=.rwp l n o:=by simp only[nrm0]
@[simp] theorem qGs {l:Nat}:nrm0 (.map l)=.map l:=by simp only[nrm0]
@[simp] theorem qIe {l n o k c:Nat}:nrm0 (.win l n o k c)=.win l n o k c:=by simp only[nrm0]
@[simp] theorem qHT {cs:List A}:nrm0 (.agg cs)=.agg (jG cs):=by simp only[nrm0]
@[simp] theorem qFO {cs:List A}:nrm0 (.tup cs)=.tup (jG cs):=by simp only[nrm0]
@[simp] theorem qJM {n:Nat}{cs:List A}:nrm0 (.sl n cs)=.sl n (jG cs):=by simp only[nrm0]
@[simp] theorem qGu {n:Nat}{cs:List A}:nrm0 (.fsl n cs)=.sl n (jG cs):=by simp only[nrm0]
@[simp] theorem qEq {cs:List A}:nrm0 (.rptr cs)=.rptr (jG cs):=by simp only[nrm0]
@[simp] theorem qID {f:FuncId}{a b:List A}:nrm0 (.clo f a b)=.clo f (jG a) (jG b):=by simp only[nrm0]
@[simp] theorem qIk:nrm0 .any=.any:=by simp only[nrm0]
@[simp] theorem qIT:nrm0 .nil=.sl 0 []:=by simp only[nrm0]
@[simp] theorem qHJ {v:Value}:nrm0 (.lit v)=.lit v:=by simp only[nrm0]
@[simp] theorem qKi {b:Nat}:nrm0 (yv b)=yv b:=by simp only[yv,nrm0]
@[simp] theorem qDA:jG []=[]:=by simp only[jG]
@[simp] theorem qBy {c:A}{cs:List A}:jG (c::cs)=nrm0 c::jG cs:=by simp only[jG]
@[simp] theorem zM2 {cs ds:List A}:jG (cs++ds)=jG cs++jG ds:=by
 induction cs with
 | nil=>simp
 | cons c cs ih=>simp[ih]
@[simp] theorem qB2 {cs:List A}{n:Nat}:jG (cs.drop n)=(jG cs).drop n:=by
 induction cs generalizing n with
 | nil=>simp
 | cons c cs ih=>cases n<;>simp[ih]
@[simp] theorem qAz {cs:List A}{n:Nat}:jG (cs.take n)=(jG cs).take n:=by
 induction cs generalizing n with
 | nil=>simp
 | cons c cs ih=>cases n<;>simp[ih]
def jF (cs:List A):Prop:=jG cs=cs∧∀rf g,vwL rf g cs=cs
theorem jF.nil:jF []:=⟨by simp,by simp⟩
theorem jF.append {cs ds:List A}(h:jF cs)(k:jF ds):jF (cs++ds):=⟨by simp[h.1,k.1],fun rf g=>by simp[h.2,k.2]⟩
theorem jF.drop {cs:List A}(h:jF cs)(n:Nat):jF (cs.drop n):=⟨by simp[h.1],fun rf g=>by simp[h.2]⟩
theorem jF.take {cs:List A}(h:jF cs)(n:Nat):jF (cs.take n):=⟨by simp[h.1],fun rf g=>by simp[h.2]⟩
theorem jF.int {k:IntKind}{n:Int}{cs:List A}(h:jF cs):jF (.lit (.int k n)::cs):=⟨by simp[h.1],fun rf g=>by simp[h.2]⟩
theorem jF.lit {v:Value}{cs:List A}(h:jF cs):jF (.lit v::cs):=⟨by simp[h.1],fun rf g=>by simp[h.2]⟩
theorem jF.sl {n:Nat}{ds cs:List A}(k:jF ds)(h:jF cs):jF (.sl n ds::cs):=⟨by simp[h.1,k.1],fun rf g=>by simp[h.2,k.2]⟩
@[simp] theorem qDa {l:Nat}:qW [] l=none:=rfl
@[simp] theorem qC3 {k l:Nat}{ks:List Nat}:qW (k::ks) l=if l=k then some 0 else (qW ks l).map (· + 1):=rfl
@[simp] theorem qG7 {n l:Nat}:zD1 [] n l=n+l:=by cases l<;>rfl
@[simp] theorem qEp {j n:Nat}{js:List Nat}:zD1 (j::js) n 0=j:=rfl
@[simp] theorem qCV {j n l:Nat}{js:List Nat}:zD1 (j::js) n (l+1)=zD1 js n l:=rfl
@[simp] theorem qBc {s t:St}:yB s [] t=s++t:=by simp only[yB]
@[simp] theorem zO5 {s os:St}{j:Nat}{js:List Nat}{o:AObj}:yB s (j::js) (o::os)=yB (s.set j o) js os:=rfl
@[simp] theorem qDY {js:List Nat}:zCi js [] []:=trivial
@[simp] theorem qAy {js:List Nat}{a a':A}{aS aS':List A}:zCi js (a'::aS') (a::aS)=((a=vw jW (qW js) a'∨a=nrm0 (vw jW (qW js) a'))∧zCi js aS' aS):=rfl
def zN4 (o:Option AObj)(J:AObj→Prop):Prop:=match o with
 | some o=>J o
 | none=>False
@[simp] theorem qCq {o:AObj}{J:AObj→Prop}:zN4 (some o) J=J o:=rfl
@[simp] theorem qDP:zAK σ rf g [] []:=trivial
@[simp] theorem qB5 {j:Nat}{js:List Nat}{o:AObj}{os:St}:zAK σ rf g (j::js) (o::os)=(zN4 σ[j]? (fun p=>o=vwO rf g p∨o=zGf (vwO rf g p))∧zAK σ rf g js os):=by simp only[zAK,zN4];cases σ[j]?<;>rfl
@[simp] theorem qK9 {cs:List A}:vwO rf g (.box cs)=.box (vwL rf g cs):=rfl
@[simp] theorem qKp {fz:Bool}{e:TypeId}{sz n:Nat}{cs:List A}:vwO rf g (.row fz e sz n cs)=.row fz e sz n (vwL rf g cs):=rfl
@[simp] theorem qOq {fr:Bool}{nk:Nat}{es:List (List Int×A)}:vwO rf g (.mp fr nk es)=.mp fr nk (es.map fun p=>(p.1,vw rf g p.2)):=rfl
@[simp] theorem qLb:vwO rf g .rsv=.rsv:=rfl
@[simp] theorem qIs:zGf .rsv=.rsv:=rfl
@[simp] theorem qIO {js:List Nat}{n:Nat}:zBZ js n .rsv=.rsv:=rfl
@[simp] theorem qOR {m n:Nat}{met:List Nat}:vwO rf g (.it m n met)=(match g m with | some i=>AObj.it i n met | none=>.dead):=rfl
@[simp] theorem qJH {fr:Bool}{nk:Nat}{es:List (List Int×A)}:zGf (.mp fr nk es)=.mp fr nk (es.map fun p=>(p.1,nrm0 p.2)):=rfl
@[simp] theorem qK8 {m n:Nat}{met:List Nat}:zGf (.it m n met)=.it m n met:=rfl
@[simp] theorem qKO {js:List Nat}{n:Nat}{fr:Bool}{nk:Nat}{es:List (List Int×A)}:zBZ js n (.mp fr nk es)=.mp fr nk (es.map fun p=>(p.1,ren js n p.2)):=rfl
@[simp] theorem qLr {js:List Nat}{n m k:Nat}{met:List Nat}:zBZ js n (.it m k met)=.it (zD1 js n m) k met:=rfl
@[simp] theorem qMO {b M:Nat}{r:Loop}{es:List (Nat×A)}:vwO rf g (.lp b r M es)=.lp b r M (es.map fun p=>(p.1,vw rf g p.2)):=rfl
@[simp] theorem qJ2 {b M:Nat}{r:Loop}{es:List (Nat×A)}:zGf (.lp b r M es)=.lp b r M (es.map fun p=>(p.1,nrm0 p.2)):=rfl
@[simp] theorem qK5 {js:List Nat}{n b M:Nat}{r:Loop}{es:List (Nat×A)}:zBZ js n (.lp b r M es)=.lp b r M (es.map fun p=>(p.1,ren js n p.2)):=rfl
@[simp] theorem qH9 {cs:List A}:zGf (.box cs)=.box (jG cs):=rfl
@[simp] theorem qIq {fz:Bool}{e:TypeId}{sz n:Nat}{cs:List A}:zGf (.row fz e sz n cs)=.row fz e sz n (jG cs):=rfl
@[simp] theorem qFF {js:List Nat}{n:Nat}{cs:List A}:zBZ js n (.box cs)=.box (qAP js n cs):=rfl
@[simp] theorem qFd {js:List Nat}{n:Nat}{fz:Bool}{e:TypeId}{sz m:Nat}{cs:List A}:zBZ js n (.row fz e sz m cs)=.row fz e sz m (qAP js n cs):=rfl
@[simp] theorem qMv {js:List Nat}{n:Nat}{a:A}:ren js n a=vw jW (fun l=>some (zD1 js n l)) a:=rfl
@[simp] theorem qLc {js:List Nat}{n:Nat}{cs:List A}:qAP js n cs=vwL jW (fun l=>some (zD1 js n l)) cs:=rfl
def zVm (k:Nat)(o:Option AObj)(n:Nat)(J:List A→A):A:=match o with
 | some (.row _ _ _ m cs)=>if n=m then J cs else .any
 | _=>.any
@[simp] theorem qAJ {k n m:Nat}{fz:Bool}{e:TypeId}{sz:Nat}{cs:List A}{J:List A→A}:zVm k (some (.row fz e sz m cs)) n J=if n=m then J cs else .any:=rfl
@[simp] theorem qCT {b:Bool}{l n:Nat}:seen σ g 0 b l n=.any:=rfl
@[simp] theorem qEt {k l n:Nat}:seen σ g (k+1) false l n=zVm k σ[l]? n (fun cs=>.sl n (vwL (seen σ g k) g cs)):=by
 simp only[seen,zVm];cases σ[l]? with
 | none=>rfl
 | some o=>cases o<;>rfl
def zOr (o:Option AObj)(J:List A→A):A:=match o with
 | some (.box cs)=>J cs
 | _=>.any
@[simp] theorem qDm {cs:List A}{J:List A→A}:zOr (some (.box cs)) J=J cs:=rfl
@[simp] theorem qEv {fz:Bool}{e:TypeId}{sz n:Nat}{cs:List A}{J:List A→A}:zOr (some (.row fz e sz n cs)) J=.any:=rfl
@[simp] theorem qA9 {J:List A→A}:zOr none J=.any:=rfl
@[simp] theorem qFM {k l n:Nat}:seen σ g (k+1) true l n=zOr σ[l]? (fun cs=>.rptr ((vwL (seen σ g k) g cs).drop n)):=by
 simp only[seen,zOr];cases σ[l]? with
 | none=>rfl
 | some o=>cases o<;>rfl
def zRh:List A→A
 | [x]=>x
 | l=>.tup l
@[simp] theorem qDz {x:A}:zRh [x]=x:=rfl
@[simp] theorem qDb:zRh []=.tup []:=rfl
@[simp] theorem qE1 {x y:A}{l:List A}:zRh (x::y::l)=.tup (x::y::l):=rfl
def zKs (env:Env) (σ : St):List RS→(List A→Prop)→Prop
 | [],J=>J []
 | .slot t::rs,J=>zKs env σ rs fun l=>J (env t::l)
 | .cell a n agg::rs,J=>zDg ((ldA σ n (env a)).bind (zBv agg)) fun r=>zKs env σ rs fun l=>J (r::l)
@[simp] theorem qGX {J:List A→Prop}:zKs env σ [] J=J []:=rfl
@[simp] theorem qEa {t:Nat}{rs:List RS}{J:List A→Prop}:zKs env σ (.slot t::rs) J=zKs env σ rs fun l=>J (env t::l):=rfl
@[simp] theorem qCS {a n:Nat}{agg:Bool}{rs:List RS}{J:List A→Prop}:zKs env σ (.cell a n agg::rs) J=zDg ((ldA σ n (env a)).bind (zBv agg)) fun r=>zKs env σ rs fun l=>J (r::l):=rfl
theorem zMl:∀{rs:List RS} {J:List A→Prop},zKs env σ rs J=match zBx env σ rs with | some l=>J l | none=>False
 | [],J=>rfl
 | .slot t::rs,J=>by simp only[zKs,zBx,zFU];rw[zMl];cases zBx env σ rs<;>rfl
 | .cell a n agg::rs,J=>by
  simp only[zKs,zBx,zFU];cases (ldA σ n (env a)).bind (zBv agg)with
  | none=>rfl
  | some r =>
   simp only[zDg];rw[zMl];cases zBx env σ rs<;>rfl
@[simp] theorem qKy {rs:List RS}{R:Out→St→Prop}:zJk rs R env σ = zKs env σ rs fun l=>R (.ret (zRh l)) σ:=by
 rw[zMl,zJk,zUr];cases zBx env σ rs with
 | none=>rfl
 | some l =>
  cases l with
  | nil=>rfl
  | cons x l=>cases l<;>rfl
def zG0 (n:Nat)(r:A) (σ1:St)(o:Out) (σ':St):Prop :=
 ∃(r':A) (ks:List Nat) (fuel:Nat),o=.ret r'∧(∀i,i<n→ks[i]?=some i)∧ks.Nodup∧zAK σ' (seen σ' (qW ks) fuel) (qW ks) ks σ1 ∧
  (r=vw (seen σ' (qW ks) fuel) (qW ks) r'∨r=nrm0 (vw (seen σ' (qW ks) fuel) (qW ks) r'))
theorem zK {f:FuncId}{fn:Func}{c:Code}{k:K}{rs:List RS}(hf:P.funcs[f]?=some fn)(hb:fn.body=some c)(hc:zN P fn.ntmps c=some k.erase)(hr:zBL P fn.results.toList=some rs)
 {args:List A} {σ0 σ1:St}{r:A}(h:wpF P k rs args σ0 (zG0 σ0.length r σ1)):Ret P f args σ0 r σ1:=zGy (zO1 hf hb hc hr h)
theorem zJ {hint:Nat→Option (List (Nat×Nat))}{f:FuncId}{fn:Func}{c:Code}{k:K}{rs:List RS}(hf:P.funcs[f]?=some fn)(hb:fn.body=some c)(hc:qJ P fn.ntmps hint c=some k.erase)(hr:zBL P fn.results.toList=some rs)
 {args:List A} {σ0 σ1:St}{r:A}(h:wpF P k rs args σ0 (zG0 σ0.length r σ1)):Ret P f args σ0 r σ1:=zGy (zDh hf hb hc hr h)
theorem zA {r r':A} {σ':St}(fuel:Nat)(h:r=vw (seen σ' (fun _=>none) fuel) (fun _=>none) r'∨r=nrm0 (vw (seen σ' (fun _=>none) fuel) (fun _=>none) r')):zG0 0 r [] (.ret r') σ' :=
 ⟨r',[],fuel,rfl,fun i hi=>by omega,by simp,trivial,h⟩
theorem zF {n:Nat}{r r':A} {σ1 σ':St}(ks:List Nat)(fuel:Nat)(hk:∀i,i<n→ks[i]?=some i)(hd:ks.Nodup)(ho:zAK σ' (seen σ' (qW ks) fuel) (qW ks) ks σ1)
 (h:r=vw (seen σ' (qW ks) fuel) (qW ks) r'∨r=nrm0 (vw (seen σ' (qW ks) fuel) (qW ks) r')):zG0 n r σ1 (.ret r') σ':=⟨r',ks,fuel,rfl,hk,hd,ho,h⟩
theorem zNp:∀{s:St} {j:Nat} {o:AObj},s[j]?=some o→s.set j o=s
 | [],_,_,h=>by simp at h
 | x::s,0,o,h=>by simp at h; simp[h]
 | x::s,j+1,o,h=>by simp only[List.getElem?_cons_succ]at h; simp[zNp h]
theorem zR {f:FuncId}{args args':List A}{r:A}(h:Ret P f args [] r [])(ha:zCi [] args' args)(hr:∀m,vw jW (fun l=>some (m+l)) r=r)(hq:K' (env.put d r) σ):zAd P f args' σ (zIi d env K' Qp):=by
 refine zA4 h [] (by simp) trivial ha ?_;have:ren [] σ.length r=r:=by
  have:=hr σ.length
  simpa [ren] using this
 rw[this]
 simpa [zIi] using hq
theorem qI {f:FuncId}{args args':List A}{r:A}(h:Ret P f args [] r [])(ha:zCi [] args' args)(hr:∀m,vw jW (fun l=>some (m+l)) r=r)(hq:KD (env.put d r)):zJo P σ d KD f args' env:=by
 refine⟨r,zA4 h [] (by simp) trivial ha ?_,hq⟩;have:ren [] σ.length r=r:=by
  have:=hr σ.length
  simpa [ren] using this
 rw[this];simp
theorem zM {f:FuncId}{args args':List A} {σ0 σ1:St}{r:A}(h:Ret P f args σ0 r σ1)(js:List Nat)(hd:js.Nodup)(ho:zAK σ jW (qW js) js σ0)(ha:zCi js args' args)
 (hq:K' (env.put d (ren js σ.length r)) (yB σ js (σ1.map (zBZ js σ.length)))):zAd P f args' σ (zIi d env K' Qp):=zA4 h js hd ho ha (by simpa [zIi] using hq)
def zYJ {S:Type}(E:S→List (Nat×A))(T:S→St)(I:S→Prop) (μ : S→Nat)(n:Nat)(e:Env)(t:St):Prop:=∃s,I s∧μ s=n∧e=jB (E s)∧t=T s
theorem qP {S:Type}{W:(Ex→Env→St→Prop)→Env→St→Prop}(E:S→List (Nat×A))(T:S→St)(I:S→Prop) (μ : S→Nat)(s0:S)(h0:I s0)(start:zBY n0 (jB (E s0)) (T s0) env σ)
 (round:∀s,I s→W (rnd n0 (zYJ E T I μ) (μ s) Q) (jB (E s)) (T s)):zN1 n0 W Q env σ:=zXk E T I μ s0 h0 start round
theorem zW {S:Type}{E:S→List (Nat×A)}{T:S→St}{I:S→Prop} {μ : S→Nat}{n:Nat}(s:S)(hs:I s)(hm : μ s<n)(hw:zBY n0 (jB (E s)) (T s) env σ):rnd n0 (zYJ E T I μ) n Q .norm env σ :=
 qCB s hs hm hw
theorem zV (ks:List Nat)(fuel:Nat){l:List (Nat×A)} {σ':St}(hk:∀i,i<n0→ks[i]?=some i)(hd:ks.Nodup)(ho:zAK σ (seen σ (qW ks) fuel) (qW ks) ks σ')
 (hl:∀p∈l,p.2=vw (seen σ (qW ks) fuel) (qW ks) (env p.1)∨p.2=nrm0 (vw (seen σ (qW ks) fuel) (qW ks) (env p.1))):zBY n0 (jB l) σ' env σ:=zBY.sel ks fuel l hk hd ho hl
end
end Go.Abs
namespace Go.Abs
section
variable {P:Program}{KD:Env→Prop}{env:Env} {σ : St}{d:Option Nat}
theorem zAn {f:FuncId}{args args':List A}{r:A}(h:Ret P f args [] r [])(ha:zCi [] args' args)(hr:∀m,vw jW (fun l=>some (m+l)) r=r)(hq:KD (env.put d r)):zHC P σ d KD f args' env:=by
 refine⟨r,fun τ _=>zA4 h [] (by simp) trivial ha ?_,hq⟩;have:ren [] τ.length r=r:=by
  have:=hr τ.length
  simpa [ren] using this
 rw[this];simp
def zE5 (σ : St)(js:List Nat):List Nat→St→Prop
 | [],[]=>True
 | j::ks,o::os=>(zN4 σ[j]? fun p=>(∃cs,p=.box cs)∧(∀n,zBZ js n o=p)∧(o=vwO jW (qW js) p∨o=zGf (vwO jW (qW js) p)))∧zE5 σ js ks os
 | _,_=>False
@[simp] theorem qCr {js:List Nat}:zE5 σ js [] []:=trivial
@[simp] theorem zYC {js ks:List Nat}{j:Nat}{o:AObj}{os:St}:zE5 σ js (j::ks) (o::os)=((zN4 σ[j]? fun p=>(∃cs,p=.box cs)∧(∀n,zBZ js n o=p)∧(o=vwO jW (qW js) p∨o=zGf (vwO jW (qW js) p)))∧zE5 σ js ks os):=rfl
theorem zFq {js:List Nat} {τ : St}(hk:zAc σ τ):∀{ks:List Nat} {os:St},zE5 σ js ks os→zE5 τ js ks os
 | [],[],_=>trivial
 | j::ks,o::os,h=>by
  obtain⟨h1,h2⟩:=h;refine⟨?_,zFq hk h2⟩;cases hj : σ[j]? with
  | none=>rw[hj]at h1; exact h1.elim
  | some p =>
   rw[hj]at h1;obtain⟨⟨cs,rfl⟩,h3⟩:=h1;rw[hk j cs hj];exact⟨⟨cs,rfl⟩,h3⟩
 | [],_::_,h=>h.elim
 | _::_,[],h=>h.elim
theorem zKE {js:List Nat}:∀{ks:List Nat} {os:St},zE5 σ js ks os→zAK σ jW (qW js) ks os
 | [],[],_=>trivial
 | j::ks,o::os,h=>by
  obtain⟨h1,h2⟩:=h;refine⟨?_,zKE h2⟩;cases hj : σ[j]? with
  | none=>rw[hj]at h1; exact h1.elim
  | some p=>rw[hj]at h1; exact h1.2.2
 | [],_::_,h=>h.elim
 | _::_,[],h=>h.elim
theorem zJH {js:List Nat}{n:Nat}:∀{ks:List Nat} {os:St},zE5 σ js ks os→yB σ ks (os.map (zBZ js n)) = σ
 | [],[],_=>by simp
 | j::ks,o::os,h=>by
  obtain⟨h1,h2⟩:=h;cases hj : σ[j]? with
  | none=>rw[hj]at h1; exact h1.elim
  | some p =>
   rw[hj]at h1;simp only[List.map_cons,zO5];rw[h1.2.1 n,zNp hj];exact zJH h2
 | [],_::_,h=>h.elim
 | _::_,[],h=>h.elim
theorem zRf {f:FuncId}{args args':List A} {σ0:St}{r:A}(h:Ret P f args σ0 r σ0)(js:List Nat)(hd:js.Nodup)(ho:zE5 σ js js σ0)(ha:zCi js args' args)(hr:∀n,ren js n r=r)(hq:KD (env.put d r)) :
 zHC P σ d KD f args' env:=by
 refine⟨r,fun τ hk=>zA4 h js hd (zKE (zFq hk ho)) ha ?_,hq⟩;rw[hr,zJH (zFq hk ho)];simp
end
end Go.Abs
namespace Go.Abs
section
variable {P:Program}{Qp:Value→Env→St→Prop}{K':Env→St→Prop}{env:Env} {σ : St}{d:Option Nat}{x y:Operand}
def zNJ (a:A)(J:A→Prop):Prop:=match a with
 | .ptr l o=>J (.ptr l o)
 | .rptr cs=>J (.rptr cs)
 | _=>False
@[simp] theorem qDn {l o:Nat}{J:A→Prop}:zNJ (.ptr l o) J=J (.ptr l o):=rfl
@[simp] theorem qBC {cs:List A}{J:A→Prop}:zNJ (.rptr cs) J=J (.rptr cs):=rfl
theorem zSn {J:A→Prop}:jC (zT env σ (.nilc d x)) J=zNJ (ev env x) J:=by simp only[zT,zNJ,jC];generalize ev env x=a;cases a<;>simp
@[simp] theorem qGP:wpO P Qp K' (.nilc d x) env σ = zNJ (ev env x) fun r=>K' (env.put d r) σ:=zSn (d:=d)
@[simp] theorem qCs {fl:Nat}:jI P fl K' (.nilc d x) env σ = wpO P zAO K' (.nilc d x) env σ:=by simp[jI,KOp.lite,KOp.keeps]
def zJN:List A→(List Int→Prop)→Prop
 | [],J=>J []
 | .lit (.int .i64 n)::l,J=>zJN l fun ks=>J (n::ks)
 | _,_=>False
@[simp] theorem qDt {J:List Int→Prop}:zJN [] J=J []:=rfl
@[simp] theorem qAT {n:Int}{l:List A}{J:List Int→Prop}:zJN (.lit (.int .i64 n)::l) J=zJN l fun ks=>J (n::ks):=rfl
theorem zOM:∀(l:List A) (J:List Int→Prop),zJN l J=match zGk l with | some ks=>J ks | none=>False
 | [],J=>rfl
 | a::l,J=>by
  cases a<;>try rfl
  rename_i v;cases v<;>try rfl
  rename_i k n;cases k<;>try rfl
  simp only[zJN,zGk,zOM l];cases zGk l<;>rfl
def zOY (nk:Nat)(k:A)(J:List Int→Prop):Prop:=match zGM nk k with
 | some ks=>J ks
 | none=>False
@[simp] theorem qJh {nk:Nat}{cs:List A}{J:List Int→Prop}:zOY nk (.agg cs) J=zJN cs fun ks=>ks.length=nk∧J ks:=by
 simp only[zOY,zGM,zOM];cases zGk cs with
 | none=>rfl
 | some ks =>
  simp only;by_cases h:ks.length=nk<;>simp[h]
def zHO (o:Option AObj)(J:Bool→Nat→List (List Int×A)→Prop):Prop:=match o with
 | some (.mp fr nk es)=>J fr nk es
 | _=>False
@[simp] theorem qD4 {fr:Bool}{nk:Nat}{es:List (List Int×A)}{J:Bool→Nat→List (List Int×A)→Prop}:zHO (some (.mp fr nk es)) J=J fr nk es:=rfl
def zUd (o:Option AObj)(J:Nat→Nat→List Nat→Prop):Prop:=match o with
 | some (.it m n met)=>J m n met
 | _=>False
@[simp] theorem qDk {m n:Nat}{met:List Nat}{J:Nat→Nat→List Nat→Prop}:zUd (some (.it m n met)) J=J m n met:=rfl
@[simp] theorem qK7 {m:MOp}{xs:List Operand}:wpO P Qp K' (.mop d m xs) env σ = zAX m (xs.map (ev env)) (fun r τ=>K' (env.put d r) τ) σ:=by simp only[wpO]
variable {K:A→St→Prop}
@[simp] theorem qJ0 {nk:Nat}:zAX (.mk nk) [] K σ = K (.map σ.length) (σ++[.mp true nk []]):=rfl
@[simp] theorem qFD {nk l:Nat}{z:Value}{ok:Bool}{k:A}:zAX (.get nk z ok) [.map l,k] K σ = zOY nk k fun ks=>zHO σ[l]? fun _ nk' es=>nk'=nk∧K (zFi z ok (zA7 ks es)) σ:=by
 simp only[zAX,zOY,zHO];cases zGM nk k with
 | none=>rfl
 | some ks =>
  cases σ[l]? with
  | none=>rfl
  | some o=>cases o<;>rfl
@[simp] theorem qFw {nk l:Nat}{k v:A}:zAX (.set nk) [.map l,k,v] K σ = zOY nk k fun ks=>zHO σ[l]? fun fr nk' es=>nk'=nk∧K (.lit undef) (σ.set l (.mp fr nk (zDj ks v es))):=by
 simp only[zAX,zOY,zHO];cases zGM nk k with
 | none=>rfl
 | some ks =>
  cases σ[l]? with
  | none=>rfl
  | some o=>cases o<;>rfl
@[simp] theorem qF0 {nk l:Nat}{k:A}:zAX (.del nk) [.map l,k] K σ = zOY nk k fun ks=>zHO σ[l]? fun _ nk' es=>nk'=nk∧K (.tup []) (σ.set l (.mp false nk (zI8 ks es))):=by
 simp only[zAX,zOY,zHO];cases zGM nk k with
 | none=>rfl
 | some ks =>
  cases σ[l]? with
  | none=>rfl
  | some o=>cases o<;>rfl
@[simp] theorem qG0 {l:Nat}:zAX .rng [.map l] K σ = zHO σ[l]? fun fr _ es=>fr=true∧K (.ptr σ.length 0) (σ++[.it l es.length []]):=by
 simp only[zAX,zHO];cases σ[l]? with
 | none=>rfl
 | some o =>
  cases o<;>try rfl
  rename_i fr nk es;cases fr<;>simp
@[simp] theorem qGq {j:Nat}:zAX .nxt [.ptr j 0] K σ = zUd σ[j]? fun l n met=>zHO σ[l]? fun fr _ es=>fr=true∧n=es.length ∧
 (∀(i:Nat) (p:List Int×A),i∉met→es[i]?=some p→K (.tup [.lit (.bool true),zKh p.1,p.2]) (σ.set j (.it l n (met++[i]))))∧((∀i,i<n→i∈met)→K (.tup [.lit (.bool false)]) σ):=by
 simp only[zAX,zHO,zUd];cases σ[j]? with
 | none=>rfl
 | some o =>
  cases o<;>try rfl
  rename_i l n met;simp only;cases σ[l]? with
  | none=>rfl
  | some o =>
   cases o<;>try rfl
   rename_i fr nk es;cases fr<;>simp
@[simp] theorem qGQ {j:Nat}:zAX .ent [.ptr j 0] K σ = zUd σ[j]? fun l n met=>zHO σ[l]? fun fr _ es=>fr=true∧∃i p,met.getLast?=some i∧es[i]?=some p∧n=es.length∧K (.tup [zKh p.1,p.2]) σ:=by
 simp only[zAX,zHO,zUd];cases σ[j]? with
 | none=>rfl
 | some o =>
  cases o<;>try rfl
  rename_i l n met;simp only;cases σ[l]? with
  | none=>rfl
  | some o =>
   cases o<;>try (cases met.getLast?<;>rfl)
   rename_i fr nk es;cases fr
   ·cases met.getLast?<;>simp
   ·cases met.getLast? with
    | none=>simp
    | some i =>
     simp only;apply propext;cases hp:es[i]? with
     | none =>
      refine⟨fun h=>h.2.elim,?_⟩;rintro⟨_,i',p',h1,h2,_⟩;have h1:=Option.some.inj h1;subst h1;rw[hp]at h2;exact absurd h2 (by simp)
     | some p =>
      refine⟨fun h=>⟨trivial,i,p,rfl,hp,h.1,h.2⟩,?_⟩;rintro⟨_,i',p',h1,h2,h3,h4⟩;have h1:=Option.some.inj h1;subst h1;rw[hp]at h2;have h2:=Option.some.inj h2;subst h2;exact⟨h3,h4⟩
@[simp] theorem qGV {sz:Nat}{zs:List Value}{l n o k c:Nat}:zAX (.clr sz zs) [.win l n o k c] K σ = (match σ[l]? with
 | some (.row fz e s m cs)=>(n=m∧s=sz∧fz=false∧o+k*sz≤cs.length)∧K (.tup []) (σ.set l (.row false e sz n (cs.take o++(List.replicate k (zs.map jE)).flatten++cs.drop (o+k*sz))))
 | _=>False):=rfl
@[simp] theorem qJx {e:TypeId}{sz bytes:Nat}{zs:List Value}{k k':IntKind}{n c:Int}:zAX (.mks e sz bytes zs) [.lit (.int k n),.lit (.int k' c)] K σ = ((0≤n∧c=n∧n≤1000000000000∧bytes*n.toNat≤281474976710656)∧K (.row σ.length n.toNat) (σ++[.row false e sz n.toNat ((List.replicate n.toNat (zs.map jE)).flatten)])):=rfl
@[simp] theorem qIU {k k':IntKind}{n:Int}:zAX (.cvt k) [.lit (.int k' n)] K σ = K (.lit (.int k (k.wrap n))) σ:=rfl
@[simp] theorem qDv {n:Nat}{cs:List A}:zAX .str [.fsl n cs] K σ = (match zGi cs with
 | some xs=>(xs.length=n∧n≠0)∧K (.lit (.string (strOfNums xs))) σ
 | none=>False):=rfl
@[simp] theorem qDQ {xs:List A}:zAX .boom xs K σ = False:=by cases xs<;>rfl
@[simp] theorem qKJ {rf:Bool→Nat→Nat→A}{g:Nat→Option Nat}(ks:List Int):vw rf g (zKh ks)=zKh ks:=by
 have:∀ks:List Int,vwL rf g (ks.map fun n=>A.lit (.int .i64 n))=ks.map fun n=>A.lit (.int .i64 n):=fun ks=>by
  induction ks with
  | nil=>rfl
  | cons k ks ih=>simp[vwL,ih]
 simp[zKh,this]
end
end Go.Abs
