/-
  Rules for simp on levels and contracts; the steps that a prover takes at calls, loops and returns.
  Calls in regions that draw: of functions that work on objects of the caller's, and beside growing operations.
  Rules for simp: the operations on maps, and the look whether a pointer is nil.
-/
import Derived.Test.YthglhccibdlccaaGreatDoorX13
import Derived.Test.YthglhccibdlccaaGreatDoorX14
set_option linter.unusedVariables false
set_option linter.unusedSimpArgs false
namespace Go.Abs
attribute [simp] KOp.dst
@[simp] theorem qBq {a b n:Nat}(h:a≤b):(a≤b+n)=True:=eq_true (by omega)
@[simp] def int (n:Int):A:=.lit (.int .i64 n)
@[simp] def bl (b:Bool):A:=.lit (.bool b)
section
variable {P:Program}{n0:Nat}{Qp:Value→Env→St→Prop}{K':Env→St→Prop}{KD:Env→Prop}{Q:Ex→Env→St→Prop}{env:Env} {σ : St}{d:Option Nat}
variable {rf:Bool→Nat→Nat→A}{g:Nat→Option Nat}
def lvl (o:Option Nat)(f:Nat→A)(b:A):A:=match o with
 | some i=>f i
 | none=>b
@[simp] theorem qHn {i:Nat}{f:Nat→A}{b:A}:lvl (some i) f b=f i:=rfl
@[simp] theorem qHm {f:Nat→A}{b:A}:lvl none f b=b:=rfl
@[simp] theorem qOa {l o:Nat}:vw rf g (.ptr l o)=lvl (g l) (.ptr · o) (rf true l o):=by simp only[vw,lvl];cases g l<;>rfl
@[simp] theorem qOb {l n:Nat}:vw rf g (.row l n)=lvl (g l) (.row · n) (rf false l n):=by simp only[vw,lvl];cases g l<;>rfl
@[simp] theorem qOc {l n o:Nat}:vw rf g (.rwp l n o)=lvl (g l) (.rwp · n o) .any:=by simp only[vw,lvl];cases g l<;>rfl
@[simp] theorem qNY {l:Nat}:vw rf g (.map l)=lvl (g l) .map .any:=by simp only[vw,lvl];cases g l<;>rfl
@[simp] theorem qOe {l n o k c:Nat}:vw rf g (.win l n o k c)=lvl (g l) (.win · n o k c) (zUb o k c (rf false l n)):=by simp only[vw,lvl];cases g l<;>rfl
@[simp] theorem qJ0 {n o k c:Nat}{cs:List A}:zUb o k c (.sl n cs)=if k=0 then .sl 0 [] else .sl k ((cs.drop o).take c):=rfl
@[simp] theorem qNT {cs:List A}:vw rf g (.agg cs)=.agg (vwL rf g cs):=by simp only[vw]
@[simp] theorem qOd {cs:List A}:vw rf g (.tup cs)=.tup (vwL rf g cs):=by simp only[vw]
@[simp] theorem qO1 {n:Nat}{cs:List A}:vw rf g (.sl n cs)=.sl n (vwL rf g cs):=by simp only[vw]
@[simp] theorem qNW {n:Nat}{cs:List A}:vw rf g (.fsl n cs)=.fsl n (vwL rf g cs):=by simp only[vw]
@[simp] theorem qK1 {cs:List A}:vw rf g (.rptr cs)=.rptr (vwL rf g cs):=by simp only[vw]
@[simp] theorem qNV {f:FuncId}{a b:List A}:vw rf g (.clo f a b)=.clo f (vwL rf g a) (vwL rf g b):=by simp only[vw]
@[simp] theorem qNU:vw rf g .any=.any:=by simp only[vw]
@[simp] theorem qNZ:vw rf g .nil=.nil:=by simp only[vw]
@[simp] theorem qNX {v:Value}:vw rf g (.lit v)=.lit v:=by simp only[vw]
@[simp] theorem qO2 {b:Nat}:vw rf g (yv b)=yv b:=by simp only[yv,vw]
@[simp] theorem qCs {b:Bool}{l n:Nat}:jO b l n=.any:=rfl
@[simp] theorem qKn:vwL rf g []=[]:=by simp only[vwL]
@[simp] theorem qIy {c:A}{cs:List A}:vwL rf g (c::cs)=vw rf g c::vwL rf g cs:=by simp only[vwL]
@[simp] theorem zKy {cs ds:List A}:vwL rf g (cs++ds)=vwL rf g cs++vwL rf g ds:=by
 induction cs with
 | nil=>simp
 | cons c cs ih=>simp[ih]
@[simp] theorem qIz {cs:List A}{n:Nat}:vwL rf g (cs.drop n)=(vwL rf g cs).drop n:=by
 induction cs generalizing n with
 | nil=>simp
 | cons c cs ih=>cases n<;>simp[ih]
@[simp] theorem qI0 {cs:List A}{n:Nat}:vwL rf g (cs.take n)=(vwL rf g cs).take n:=by
 induction cs generalizing n with
 | nil=>simp
 | cons c cs ih=>cases n<;>simp[ih]
@[simp] theorem qHC {l o:Nat}:nrm0 (.ptr l o)=.ptr l o:=by simp only[nrm0]
@[simp] theorem qHD {l n:Nat}:nrm0 (.row l n)=.row l n:=by simp only[nrm0]
@[simp] theorem qHE {l n o:Nat}:nrm0 (.rwp l n o)=.rwp l n o:=by simp only[nrm0]
@[simp] theorem qHA {l:Nat}:nrm0 (.map l)=.map l:=by simp only[nrm0]
@[simp] theorem qHG {l n o k c:Nat}:nrm0 (.win l n o k c)=.win l n o k c:=by simp only[nrm0]
@[simp] theorem qH5 {cs:List A}:nrm0 (.agg cs)=.agg (qV cs):=by simp only[nrm0]
@[simp] theorem qHF {cs:List A}:nrm0 (.tup cs)=.tup (qV cs):=by simp only[nrm0]
@[simp] theorem qJQ {n:Nat}{cs:List A}:nrm0 (.sl n cs)=.sl n (qV cs):=by simp only[nrm0]
@[simp] theorem qH8 {n:Nat}{cs:List A}:nrm0 (.fsl n cs)=.sl n (qV cs):=by simp only[nrm0]
@[simp] theorem qDm {cs:List A}:nrm0 (.rptr cs)=.rptr (qV cs):=by simp only[nrm0]
@[simp] theorem qH7 {f:FuncId}{a b:List A}:nrm0 (.clo f a b)=.clo f (qV a) (qV b):=by simp only[nrm0]
@[simp] theorem qH6:nrm0 .any=.any:=by simp only[nrm0]
@[simp] theorem qHB:nrm0 .nil=.sl 0 []:=by simp only[nrm0]
@[simp] theorem qH9 {v:Value}:nrm0 (.lit v)=.lit v:=by simp only[nrm0]
@[simp] theorem qJR {b:Nat}:nrm0 (yv b)=yv b:=by simp only[yv,nrm0]
@[simp] theorem qDc:qV []=[]:=by simp only[qV]
@[simp] theorem qBw {c:A}{cs:List A}:qV (c::cs)=nrm0 c::qV cs:=by simp only[qV]
@[simp] theorem zHe {cs ds:List A}:qV (cs++ds)=qV cs++qV ds:=by
 induction cs with
 | nil=>simp
 | cons c cs ih=>simp[ih]
@[simp] theorem qBx {cs:List A}{n:Nat}:qV (cs.drop n)=(qV cs).drop n:=by
 induction cs generalizing n with
 | nil=>simp
 | cons c cs ih=>cases n<;>simp[ih]
@[simp] theorem qBy {cs:List A}{n:Nat}:qV (cs.take n)=(qV cs).take n:=by
 induction cs generalizing n with
 | nil=>simp
 | cons c cs ih=>cases n<;>simp[ih]
def qW (cs:List A):Prop:=qV cs=cs∧∀rf g,vwL rf g cs=cs
theorem qW.nil:qW []:=⟨by simp,by simp⟩
theorem qW.append {cs ds:List A}(h:qW cs)(k:qW ds):qW (cs++ds):=⟨by simp[h.1,k.1],fun rf g=>by simp[h.2,k.2]⟩
theorem qW.drop {cs:List A}(h:qW cs)(n:Nat):qW (cs.drop n):=⟨by simp[h.1],fun rf g=>by simp[h.2]⟩
theorem qW.take {cs:List A}(h:qW cs)(n:Nat):qW (cs.take n):=⟨by simp[h.1],fun rf g=>by simp[h.2]⟩
theorem qW.int {k:IntKind}{n:Int}{cs:List A}(h:qW cs):qW (.lit (.int k n)::cs):=⟨by simp[h.1],fun rf g=>by simp[h.2]⟩
theorem qW.lit {v:Value}{cs:List A}(h:qW cs):qW (.lit v::cs):=⟨by simp[h.1],fun rf g=>by simp[h.2]⟩
theorem qW.sl {n:Nat}{ds cs:List A}(k:qW ds)(h:qW cs):qW (.sl n ds::cs):=⟨by simp[h.1,k.1],fun rf g=>by simp[h.2,k.2]⟩
@[simp] theorem qDt {l:Nat}:qQ [] l=none:=rfl
@[simp] theorem qBC {k l:Nat}{ks:List Nat}:qQ (k::ks) l=if l=k then some 0 else (qQ ks l).map (· + 1):=rfl
@[simp] theorem qFs {n l:Nat}:zDe [] n l=n+l:=by cases l<;>rfl
@[simp] theorem qCw {j n:Nat}{js:List Nat}:zDe (j::js) n 0=j:=rfl
@[simp] theorem qCv {j n l:Nat}{js:List Nat}:zDe (j::js) n (l+1)=zDe js n l:=rfl
@[simp] theorem qBD {s t:St}:jU s [] t=s++t:=by simp only[jU]
@[simp] theorem zOg {s os:St}{j:Nat}{js:List Nat}{o:AObj}:jU s (j::js) (o::os)=jU (s.set j o) js os:=rfl
@[simp] theorem qCt {js:List Nat}:zBA js [] []:=trivial
@[simp] theorem zZV {js:List Nat}{a a':A}{aS aS':List A}:zBA js (a'::aS') (a::aS)=((a=vw jO (qQ js) a'∨a=nrm0 (vw jO (qQ js) a'))∧zBA js aS' aS):=rfl
def zNY (o:Option AObj)(J:AObj→Prop):Prop:=match o with
 | some o=>J o
 | none=>False
@[simp] theorem qB1 {o:AObj}{J:AObj→Prop}:zNY (some o) J=J o:=rfl
@[simp] theorem qD8:zA3 σ rf g [] []:=trivial
@[simp] theorem qBR {j:Nat}{js:List Nat}{o:AObj}{os:St}:zA3 σ rf g (j::js) (o::os)=(zNY σ[j]? (fun p=>o=vwO rf g p∨o=zFK (vwO rf g p))∧zA3 σ rf g js os):=by simp only[zA3,zNY];cases σ[j]?<;>rfl
@[simp] theorem qKo {cs:List A}:vwO rf g (.box cs)=.box (vwL rf g cs):=rfl
@[simp] theorem qKp {fz:Bool}{e:TypeId}{sz n:Nat}{cs:List A}:vwO rf g (.row fz e sz n cs)=.row fz e sz n (vwL rf g cs):=rfl
@[simp] theorem qNS {fr:Bool}{nk:Nat}{es:List (List Int×A)}:vwO rf g (.mp fr nk es)=.mp fr nk (es.map fun p=>(p.1,vw rf g p.2)):=rfl
@[simp] theorem qKq:vwO rf g .rsv=.rsv:=rfl
@[simp] theorem qHJ:zFK .rsv=.rsv:=rfl
@[simp] theorem qIe {js:List Nat}{n:Nat}:zBD js n .rsv=.rsv:=rfl
@[simp] theorem qNQ {m n:Nat}{met:List Nat}:vwO rf g (.it m n met)=(match g m with | some i=>AObj.it i n met | none=>.dead):=rfl
@[simp] theorem qJU {fr:Bool}{nk:Nat}{es:List (List Int×A)}:zFK (.mp fr nk es)=.mp fr nk (es.map fun p=>(p.1,nrm0 p.2)):=rfl
@[simp] theorem qJS {m n:Nat}{met:List Nat}:zFK (.it m n met)=.it m n met:=rfl
@[simp] theorem qKb {js:List Nat}{n:Nat}{fr:Bool}{nk:Nat}{es:List (List Int×A)}:zBD js n (.mp fr nk es)=.mp fr nk (es.map fun p=>(p.1,ren js n p.2)):=rfl
@[simp] theorem qJZ {js:List Nat}{n m k:Nat}{met:List Nat}:zBD js n (.it m k met)=.it (zDe js n m) k met:=rfl
@[simp] theorem qNR {b M:Nat}{r:Loop}{es:List (Nat×A)}:vwO rf g (.lp b r M es)=.lp b r M (es.map fun p=>(p.1,vw rf g p.2)):=rfl
@[simp] theorem qJT {b M:Nat}{r:Loop}{es:List (Nat×A)}:zFK (.lp b r M es)=.lp b r M (es.map fun p=>(p.1,nrm0 p.2)):=rfl
@[simp] theorem qKa {js:List Nat}{n b M:Nat}{r:Loop}{es:List (Nat×A)}:zBD js n (.lp b r M es)=.lp b r M (es.map fun p=>(p.1,ren js n p.2)):=rfl
@[simp] theorem qHH {cs:List A}:zFK (.box cs)=.box (qV cs):=rfl
@[simp] theorem qHI {fz:Bool}{e:TypeId}{sz n:Nat}{cs:List A}:zFK (.row fz e sz n cs)=.row fz e sz n (qV cs):=rfl
@[simp] theorem qIc {js:List Nat}{n:Nat}{cs:List A}:zBD js n (.box cs)=.box (qBG js n cs):=rfl
@[simp] theorem qId {js:List Nat}{n:Nat}{fz:Bool}{e:TypeId}{sz m:Nat}{cs:List A}:zBD js n (.row fz e sz m cs)=.row fz e sz m (qBG js n cs):=rfl
@[simp] theorem qNG {js:List Nat}{n:Nat}{a:A}:ren js n a=vw jO (fun l=>some (zDe js n l)) a:=rfl
@[simp] theorem qJY {js:List Nat}{n:Nat}{cs:List A}:qBG js n cs=vwL jO (fun l=>some (zDe js n l)) cs:=rfl
def zVt (k:Nat)(o:Option AObj)(n:Nat)(J:List A→A):A:=match o with
 | some (.row _ _ _ m cs)=>if n=m then J cs else .any
 | _=>.any
@[simp] theorem qBQ {k n m:Nat}{fz:Bool}{e:TypeId}{sz:Nat}{cs:List A}{J:List A→A}:zVt k (some (.row fz e sz m cs)) n J=if n=m then J cs else .any:=rfl
@[simp] theorem qD7 {b:Bool}{l n:Nat}:seen σ g 0 b l n=.any:=rfl
@[simp] theorem qD6 {k l n:Nat}:seen σ g (k+1) false l n=zVt k σ[l]? n (fun cs=>.sl n (vwL (seen σ g k) g cs)):=by
 simp only[seen,zVt];cases σ[l]? with
 | none=>rfl
 | some o=>cases o<;>rfl
def zOu (o:Option AObj)(J:List A→A):A:=match o with
 | some (.box cs)=>J cs
 | _=>.any
@[simp] theorem qD4 {cs:List A}{J:List A→A}:zOu (some (.box cs)) J=J cs:=rfl
@[simp] theorem qD5 {fz:Bool}{e:TypeId}{sz n:Nat}{cs:List A}{J:List A→A}:zOu (some (.row fz e sz n cs)) J=.any:=rfl
@[simp] theorem qBP {J:List A→A}:zOu none J=.any:=rfl
@[simp] theorem qIm {k l n:Nat}:seen σ g (k+1) true l n=zOu σ[l]? (fun cs=>.rptr ((vwL (seen σ g k) g cs).drop n)):=by
 simp only[seen,zOu];cases σ[l]? with
 | none=>rfl
 | some o=>cases o<;>rfl
def zRg:List A→A
 | [x]=>x
 | l=>.tup l
@[simp] theorem qDC {x:A}:zRg [x]=x:=rfl
@[simp] theorem qDB:zRg []=.tup []:=rfl
@[simp] theorem qDD {x y:A}{l:List A}:zRg (x::y::l)=.tup (x::y::l):=rfl
def zKd (env:Env) (σ : St):List RS→(List A→Prop)→Prop
 | [],J=>J []
 | .slot t::rs,J=>zKd env σ rs fun l=>J (env t::l)
 | .cell a n agg::rs,J=>zCU ((ldA σ n (env a)).bind (zBm agg)) fun r=>zKd env σ rs fun l=>J (r::l)
@[simp] theorem qIf {J:List A→Prop}:zKd env σ [] J=J []:=rfl
@[simp] theorem qDx {t:Nat}{rs:List RS}{J:List A→Prop}:zKd env σ (.slot t::rs) J=zKd env σ rs fun l=>J (env t::l):=rfl
@[simp] theorem qDw {a n:Nat}{agg:Bool}{rs:List RS}{J:List A→Prop}:zKd env σ (.cell a n agg::rs) J=zCU ((ldA σ n (env a)).bind (zBm agg)) fun r=>zKd env σ rs fun l=>J (r::l):=rfl
theorem zMy:∀{rs:List RS} {J:List A→Prop},zKd env σ rs J=match zBn env σ rs with | some l=>J l | none=>False
 | [],J=>rfl
 | .slot t::rs,J=>by simp only[zKd,zBn,zFB];rw[zMy];cases zBn env σ rs<;>rfl
 | .cell a n agg::rs,J=>by
  simp only[zKd,zBn,zFB];cases (ldA σ n (env a)).bind (zBm agg)with
  | none=>rfl
  | some r =>
   simp only[zCU];rw[zMy];cases zBn env σ rs<;>rfl
@[simp] theorem qKc {rs:List RS}{R:Out→St→Prop}:zIJ rs R env σ = zKd env σ rs fun l=>R (.ret (zRg l)) σ:=by
 rw[zMy,zIJ,zVm];cases zBn env σ rs with
 | none=>rfl
 | some l =>
  cases l with
  | nil=>rfl
  | cons x l=>cases l<;>rfl
def zHy (n:Nat)(r:A) (σ1:St)(o:Out) (σ':St):Prop :=
 ∃(r':A) (ks:List Nat) (fuel:Nat),o=.ret r'∧(∀i,i<n→ks[i]?=some i)∧ks.Nodup∧zA3 σ' (seen σ' (qQ ks) fuel) (qQ ks) ks σ1 ∧
  (r=vw (seen σ' (qQ ks) fuel) (qQ ks) r'∨r=nrm0 (vw (seen σ' (qQ ks) fuel) (qQ ks) r'))
theorem zI {f:FuncId}{fn:Func}{c:Code}{k:K}{rs:List RS}(hf:P.funcs[f]?=some fn)(hb:fn.body=some c)(hc:zL P fn.ntmps c=some k.erase)(hr:zB5 P fn.results.toList=some rs)
 {args:List A} {σ0 σ1:St}{r:A}(h:wpF P k rs args σ0 (zHy σ0.length r σ1)):Ret P f args σ0 r σ1:=zGs (zMQ hf hb hc hr h)
theorem zH {hint:Nat→Option (List (Nat×Nat))}{f:FuncId}{fn:Func}{c:Code}{k:K}{rs:List RS}(hf:P.funcs[f]?=some fn)(hb:fn.body=some c)(hc:qC P fn.ntmps hint c=some k.erase)(hr:zB5 P fn.results.toList=some rs)
 {args:List A} {σ0 σ1:St}{r:A}(h:wpF P k rs args σ0 (zHy σ0.length r σ1)):Ret P f args σ0 r σ1:=zGs (zCS hf hb hc hr h)
theorem zC {r r':A} {σ':St}(fuel:Nat)(h:r=vw (seen σ' (fun _=>none) fuel) (fun _=>none) r'∨r=nrm0 (vw (seen σ' (fun _=>none) fuel) (fun _=>none) r')):zHy 0 r [] (.ret r') σ' :=
 ⟨r',[],fuel,rfl,fun i hi=>by omega,by simp,trivial,h⟩
theorem zG {n:Nat}{r r':A} {σ1 σ':St}(ks:List Nat)(fuel:Nat)(hk:∀i,i<n→ks[i]?=some i)(hd:ks.Nodup)(ho:zA3 σ' (seen σ' (qQ ks) fuel) (qQ ks) ks σ1)
 (h:r=vw (seen σ' (qQ ks) fuel) (qQ ks) r'∨r=nrm0 (vw (seen σ' (qQ ks) fuel) (qQ ks) r')):zHy n r σ1 (.ret r') σ':=⟨r',ks,fuel,rfl,hk,hd,ho,h⟩
theorem zO0:∀{s:St} {j:Nat} {o:AObj},s[j]?=some o→s.set j o=s
 | [],_,_,h=>by simp at h
 | x::s,0,o,h=>by simp at h; simp[h]
 | x::s,j+1,o,h=>by simp only[List.getElem?_cons_succ]at h; simp[zO0 h]
theorem zQ {f:FuncId}{args args':List A}{r:A}(h:Ret P f args [] r [])(ha:zBA [] args' args)(hr:∀m,vw jO (fun l=>some (m+l)) r=r)(hq:K' (env.put d r) σ):yR P f args' σ (zIH d env K' Qp):=by
 refine zAw h [] (by simp) trivial ha ?_;have:ren [] σ.length r=r:=by
  have:=hr σ.length
  simpa [ren] using this
 rw[this]
 simpa [zIH] using hq
theorem qO {f:FuncId}{args args':List A}{r:A}(h:Ret P f args [] r [])(ha:zBA [] args' args)(hr:∀m,vw jO (fun l=>some (m+l)) r=r)(hq:KD (env.put d r)):zIX P σ d KD f args' env:=by
 refine⟨r,zAw h [] (by simp) trivial ha ?_,hq⟩;have:ren [] σ.length r=r:=by
  have:=hr σ.length
  simpa [ren] using this
 rw[this];simp
theorem zN {f:FuncId}{args args':List A} {σ0 σ1:St}{r:A}(h:Ret P f args σ0 r σ1)(js:List Nat)(hd:js.Nodup)(ho:zA3 σ jO (qQ js) js σ0)(ha:zBA js args' args)
 (hq:K' (env.put d (ren js σ.length r)) (jU σ js (σ1.map (zBD js σ.length)))):yR P f args' σ (zIH d env K' Qp):=zAw h js hd ho ha (by simpa [zIH] using hq)
def zYA {S:Type}(E:S→List (Nat×A))(T:S→St)(I:S→Prop) (μ : S→Nat)(n:Nat)(e:Env)(t:St):Prop:=∃s,I s∧μ s=n∧e=qR (E s)∧t=T s
theorem qY {S:Type}{W:(Ex→Env→St→Prop)→Env→St→Prop}(E:S→List (Nat×A))(T:S→St)(I:S→Prop) (μ : S→Nat)(s0:S)(h0:I s0)(start:zBG n0 (qR (E s0)) (T s0) env σ)
 (round:∀s,I s→W (rnd n0 (zYA E T I μ) (μ s) Q) (qR (E s)) (T s)):zMH n0 W Q env σ:=zXg E T I μ s0 h0 start round
theorem zT {S:Type}{E:S→List (Nat×A)}{T:S→St}{I:S→Prop} {μ : S→Nat}{n:Nat}(s:S)(hs:I s)(hm : μ s<n)(hw:zBG n0 (qR (E s)) (T s) env σ):rnd n0 (zYA E T I μ) n Q .norm env σ :=
 qBI s hs hm hw
theorem zR (ks:List Nat)(fuel:Nat){l:List (Nat×A)} {σ':St}(hk:∀i,i<n0→ks[i]?=some i)(hd:ks.Nodup)(ho:zA3 σ (seen σ (qQ ks) fuel) (qQ ks) ks σ')
 (hl:∀p∈l,p.2=vw (seen σ (qQ ks) fuel) (qQ ks) (env p.1)∨p.2=nrm0 (vw (seen σ (qQ ks) fuel) (qQ ks) (env p.1))):zBG n0 (qR l) σ' env σ:=zBG.sel ks fuel l hk hd ho hl
end
end Go.Abs
namespace Go.Abs
section
variable {P:Program}{KD:Env→Prop}{env:Env} {σ : St}{d:Option Nat}
theorem zAr {f:FuncId}{args args':List A}{r:A}(h:Ret P f args [] r [])(ha:zBA [] args' args)(hr:∀m,vw jO (fun l=>some (m+l)) r=r)(hq:KD (env.put d r)):zHu P σ d KD f args' env:=by
 refine⟨r,fun τ _=>zAw h [] (by simp) trivial ha ?_,hq⟩;have:ren [] τ.length r=r:=by
  have:=hr τ.length
  simpa [ren] using this
 rw[this];simp
def zE5 (σ : St)(js:List Nat):List Nat→St→Prop
 | [],[]=>True
 | j::ks,o::os=>(zNY σ[j]? fun p=>(∃cs,p=.box cs)∧(∀n,zBD js n o=p)∧(o=vwO jO (qQ js) p∨o=zFK (vwO jO (qQ js) p)))∧zE5 σ js ks os
 | _,_=>False
@[simp] theorem qBO {js:List Nat}:zE5 σ js [] []:=trivial
@[simp] theorem zZE {js ks:List Nat}{j:Nat}{o:AObj}{os:St}:zE5 σ js (j::ks) (o::os)=((zNY σ[j]? fun p=>(∃cs,p=.box cs)∧(∀n,zBD js n o=p)∧(o=vwO jO (qQ js) p∨o=zFK (vwO jO (qQ js) p)))∧zE5 σ js ks os):=rfl
theorem zFj {js:List Nat} {τ : St}(hk:yS σ τ):∀{ks:List Nat} {os:St},zE5 σ js ks os→zE5 τ js ks os
 | [],[],_=>trivial
 | j::ks,o::os,h=>by
  obtain⟨h1,h2⟩:=h;refine⟨?_,zFj hk h2⟩;cases hj : σ[j]? with
  | none=>rw[hj]at h1; exact h1.elim
  | some p =>
   rw[hj]at h1;obtain⟨⟨cs,rfl⟩,h3⟩:=h1;rw[hk j cs hj];exact⟨⟨cs,rfl⟩,h3⟩
 | [],_::_,h=>h.elim
 | _::_,[],h=>h.elim
theorem zKf {js:List Nat}:∀{ks:List Nat} {os:St},zE5 σ js ks os→zA3 σ jO (qQ js) ks os
 | [],[],_=>trivial
 | j::ks,o::os,h=>by
  obtain⟨h1,h2⟩:=h;refine⟨?_,zKf h2⟩;cases hj : σ[j]? with
  | none=>rw[hj]at h1; exact h1.elim
  | some p=>rw[hj]at h1; exact h1.2.2
 | [],_::_,h=>h.elim
 | _::_,[],h=>h.elim
theorem zKe {js:List Nat}{n:Nat}:∀{ks:List Nat} {os:St},zE5 σ js ks os→jU σ ks (os.map (zBD js n)) = σ
 | [],[],_=>by simp
 | j::ks,o::os,h=>by
  obtain⟨h1,h2⟩:=h;cases hj : σ[j]? with
  | none=>rw[hj]at h1; exact h1.elim
  | some p =>
   rw[hj]at h1;simp only[List.map_cons,zOg];rw[h1.2.1 n,zO0 hj];exact zKe h2
 | [],_::_,h=>h.elim
 | _::_,[],h=>h.elim
theorem zQ0 {f:FuncId}{args args':List A} {σ0:St}{r:A}(h:Ret P f args σ0 r σ0)(js:List Nat)(hd:js.Nodup)(ho:zE5 σ js js σ0)(ha:zBA js args' args)(hr:∀n,ren js n r=r)(hq:KD (env.put d r)) :
 zHu P σ d KD f args' env:=by
 refine⟨r,fun τ hk=>zAw h js hd (zKf (zFj hk ho)) ha ?_,hq⟩;rw[hr,zKe (zFj hk ho)];simp
end
end Go.Abs
namespace Go.Abs
section
variable {P:Program}{Qp:Value→Env→St→Prop}{Qd:Value→St→Prop}{K':Env→St→Prop}{env:Env} {σ : St}{d:Option Nat}{x y:Operand}
def zNP (a:A)(J:A→Prop):Prop:=match a with
 | .ptr l o=>J (.ptr l o)
 | .rptr cs=>J (.rptr cs)
 | _=>False
@[simp] theorem qDa {l o:Nat}{J:A→Prop}:zNP (.ptr l o) J=J (.ptr l o):=rfl
@[simp] theorem qBv {cs:List A}{J:A→Prop}:zNP (.rptr cs) J=J (.rptr cs):=rfl
theorem zSp {J:A→Prop}:qP (zK env σ (.nilc d x)) J=zNP (ev env x) J:=by simp only[zK,zNP,qP];generalize ev env x=a;cases a<;>simp
@[simp] theorem qIJ:wpO P Qp K' (.nilc d x) env σ = zNP (ev env x) fun r=>K' (env.put d r) σ:=zSp (d:=d)
@[simp] theorem qCj {fl:Nat}:qZ P Qd fl K' (.nilc d x) env σ = wpO P zA2 K' (.nilc d x) env σ:=by simp[qZ,KOp.lite,KOp.keeps]
def zJD:List A→(List Int→Prop)→Prop
 | [],J=>J []
 | .lit (.int .i64 n)::l,J=>zJD l fun ks=>J (n::ks)
 | _,_=>False
@[simp] theorem qCU {J:List Int→Prop}:zJD [] J=J []:=rfl
@[simp] theorem qBs {n:Int}{l:List A}{J:List Int→Prop}:zJD (.lit (.int .i64 n)::l) J=zJD l fun ks=>J (n::ks):=rfl
theorem zND:∀(l:List A) (J:List Int→Prop),zJD l J=match zFR l with | some ks=>J ks | none=>False
 | [],J=>rfl
 | a::l,J=>by
  cases a<;>try rfl
  rename_i v;cases v<;>try rfl
  rename_i k n;cases k<;>try rfl
  simp only[zJD,zFR,zND l];cases zFR l<;>rfl
def zN6 (nk:Nat)(k:A)(J:List Int→Prop):Prop:=match zGV nk k with
 | some ks=>J ks
 | none=>False
@[simp] theorem qHb {nk:Nat}{cs:List A}{J:List Int→Prop}:zN6 nk (.agg cs) J=zJD cs fun ks=>ks.length=nk∧J ks:=by
 simp only[zN6,zGV,zND];cases zFR cs with
 | none=>rfl
 | some ks =>
  simp only;by_cases h:ks.length=nk<;>simp[h]
def zHP (o:Option AObj)(J:Bool→Nat→List (List Int×A)→Prop):Prop:=match o with
 | some (.mp fr nk es)=>J fr nk es
 | _=>False
@[simp] theorem qCZ {fr:Bool}{nk:Nat}{es:List (List Int×A)}{J:Bool→Nat→List (List Int×A)→Prop}:zHP (some (.mp fr nk es)) J=J fr nk es:=rfl
def zUI (o:Option AObj)(J:Nat→Nat→List Nat→Prop):Prop:=match o with
 | some (.it m n met)=>J m n met
 | _=>False
@[simp] theorem qCT {m n:Nat}{met:List Nat}{J:Nat→Nat→List Nat→Prop}:zUI (some (.it m n met)) J=J m n met:=rfl
@[simp] theorem qKL {m:MOp}{xs:List Operand}:wpO P Qp K' (.mop d m xs) env σ = zAZ m (xs.map (ev env)) (fun r τ=>K' (env.put d r) τ) σ:=by simp only[wpO]
variable {K:A→St→Prop}
@[simp] theorem qJP {nk:Nat}:zAZ (.mk nk) [] K σ = K (.map σ.length) (σ++[.mp true nk []]):=rfl
@[simp] theorem qHw {nk l:Nat}{z:Value}{ok:Bool}{k:A}:zAZ (.get nk z ok) [.map l,k] K σ = zN6 nk k fun ks=>zHP σ[l]? fun _ nk' es=>nk'=nk∧K (zEX z ok (zAx ks es)) σ:=by
 simp only[zAZ,zN6,zHP];cases zGV nk k with
 | none=>rfl
 | some ks =>
  cases σ[l]? with
  | none=>rfl
  | some o=>cases o<;>rfl
@[simp] theorem qH0 {nk l:Nat}{k v:A}:zAZ (.set nk) [.map l,k,v] K σ = zN6 nk k fun ks=>zHP σ[l]? fun fr nk' es=>nk'=nk∧K (.lit undef) (σ.set l (.mp fr nk (zCW ks v es))):=by
 simp only[zAZ,zN6,zHP];cases zGV nk k with
 | none=>rfl
 | some ks =>
  cases σ[l]? with
  | none=>rfl
  | some o=>cases o<;>rfl
@[simp] theorem qHu {nk l:Nat}{k:A}:zAZ (.del nk) [.map l,k] K σ = zN6 nk k fun ks=>zHP σ[l]? fun _ nk' es=>nk'=nk∧K (.tup []) (σ.set l (.mp false nk (zH9 ks es))):=by
 simp only[zAZ,zN6,zHP];cases zGV nk k with
 | none=>rfl
 | some ks =>
  cases σ[l]? with
  | none=>rfl
  | some o=>cases o<;>rfl
@[simp] theorem qHz {l:Nat}:zAZ .rng [.map l] K σ = zHP σ[l]? fun fr _ es=>fr=true∧K (.ptr σ.length 0) (σ++[.it l es.length []]):=by
 simp only[zAZ,zHP];cases σ[l]? with
 | none=>rfl
 | some o =>
  cases o<;>try rfl
  rename_i fr nk es;cases fr<;>simp
@[simp] theorem qHy {j:Nat}:zAZ .nxt [.ptr j 0] K σ = zUI σ[j]? fun l n met=>zHP σ[l]? fun fr _ es=>fr=true∧n=es.length ∧
 (∀(i:Nat) (p:List Int×A),i∉met→es[i]?=some p→K (.tup [.lit (.bool true),zJ8 p.1,p.2]) (σ.set j (.it l n (met++[i]))))∧((∀i,i<n→i∈met)→K (.tup [.lit (.bool false)]) σ):=by
 simp only[zAZ,zHP,zUI];cases σ[j]? with
 | none=>rfl
 | some o =>
  cases o<;>try rfl
  rename_i l n met;simp only;cases σ[l]? with
  | none=>rfl
  | some o =>
   cases o<;>try rfl
   rename_i fr nk es;cases fr<;>simp
@[simp] theorem qHv {j:Nat}:zAZ .ent [.ptr j 0] K σ = zUI σ[j]? fun l n met=>zHP σ[l]? fun fr _ es=>fr=true∧∃i p,met.getLast?=some i∧es[i]?=some p∧n=es.length∧K (.tup [zJ8 p.1,p.2]) σ:=by
 simp only[zAZ,zHP,zUI];cases σ[j]? with
 | none=>rfl
 | some o =>
  cases o<;>try rfl
  rename_i l n met;simp only;cases σ[l]? with
  | none=>rfl
  | some o =>
   cases o<;>try (cases met.getLast?<;>rfl)
   rename_i fr nk es;cases fr
   ·cases met.getLast?<;>simp
   ·cases met.getLast? with
    | none=>simp
    | some i =>
     simp only;apply propext;cases hp:es[i]? with
     | none =>
      refine⟨fun h=>h.2.elim,?_⟩;rintro⟨_,i',p',h1,h2,_⟩;have h1:=Option.some.inj h1;subst h1;rw[hp]at h2;exact absurd h2 (by simp)
     | some p =>
      refine⟨fun h=>⟨trivial,i,p,rfl,hp,h.1,h.2⟩,?_⟩;rintro⟨_,i',p',h1,h2,h3,h4⟩;have h1:=Option.some.inj h1;subst h1;rw[hp]at h2;have h2:=Option.some.inj h2;subst h2;exact⟨h3,h4⟩
@[simp] theorem qHs {sz:Nat}{zs:List Value}{l n o k c:Nat}:zAZ (.clr sz zs) [.win l n o k c] K σ = (match σ[l]? with
 | some (.row fz e s m cs)=>(n=m∧s=sz∧fz=false∧o+k*sz≤cs.length)∧K (.tup []) (σ.set l (.row false e sz n (cs.take o++(List.replicate k (zs.map qX)).flatten++cs.drop (o+k*sz))))
 | _=>False):=rfl
@[simp] theorem qHx {e:TypeId}{sz bytes:Nat}{zs:List Value}{k k':IntKind}{n c:Int}:zAZ (.mks e sz bytes zs) [.lit (.int k n),.lit (.int k' c)] K σ = ((0≤n∧c=n∧n≤1000000000000∧bytes*n.toNat≤281474976710656)∧K (.row σ.length n.toNat) (σ++[.row false e sz n.toNat ((List.replicate n.toNat (zs.map qX)).flatten)])):=rfl
@[simp] theorem qHt {k k':IntKind}{n:Int}:zAZ (.cvt k) [.lit (.int k' n)] K σ = K (.lit (.int k (k.wrap n))) σ:=rfl
@[simp] theorem qCY {n:Nat}{cs:List A}:zAZ .str [.fsl n cs] K σ = (match zFc cs with
 | some xs=>(xs.length=n∧n≠0)∧K (.lit (.string (strOfNums xs))) σ
 | none=>False):=rfl
@[simp] theorem qCX {xs:List A}:zAZ .boom xs K σ = False:=by cases xs<;>rfl
@[simp] theorem qK0 {rf:Bool→Nat→Nat→A}{g:Nat→Option Nat}(ks:List Int):vw rf g (zJ8 ks)=zJ8 ks:=by
 have:∀ks:List Int,vwL rf g (ks.map fun n=>A.lit (.int .i64 n))=ks.map fun n=>A.lit (.int .i64 n):=fun ks=>by
  induction ks with
  | nil=>rfl
  | cons k ks ih=>simp[vwL,ih]
 simp[zJ8,this]
end
end Go.Abs
