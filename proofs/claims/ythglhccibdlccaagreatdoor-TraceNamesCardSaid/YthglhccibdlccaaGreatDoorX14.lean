/-
  Rules for simp on levels and contracts; the steps that a prover takes at calls, loops and returns.
  Calls in regions that draw: of functions that work on objects of the caller's, and beside growing operations.
  Rules for simp: the operations on maps, and the look whether a pointer is nil.
-/
import Derived.Test.YthglhccibdlccaaGreatDoorX12
import Derived.Test.YthglhccibdlccaaGreatDoorX13
set_option linter.unusedVariables false
set_option linter.unusedSimpArgs false
namespace Go.Abs
attribute [simp] KOp.dst
@[simp] theorem qCB {a b n:Nat}(h:a≤b):(a≤b+n)=True:=eq_true (by omega)
@[simp] def int (n:Int):A:=.lit (.int .i64 n)
@[simp] def bl (b:Bool):A:=.lit (.bool b)
section
variable {P:Program}{n0:Nat}{Qp:Value→Env→St→Prop}{K':Env→St→Prop}{KD:Env→Prop}{Q:Ex→Env→St→Prop}{env:Env} {σ : St}{d:Option Nat}
variable {rf:Bool→Nat→Nat→A}{g:Nat→Option Nat}
def lvl (o:Option Nat)(f:Nat→A)(b:A):A:=match o with
 | some i=>f i
 | none=>b
@[simp] theorem qIA {i:Nat}{f:Nat→A}{b:A}:lvl (some i) f b=f i:=rfl
@[simp] theorem qI9 {f:Nat→A}{b:A}:lvl none f b=b:=rfl
@[simp] theorem qPs {l o:Nat}:vw rf g (.ptr l o)=lvl (g l) (.ptr · o) (rf true l o):=by simp only[vw,lvl];cases g l<;>rfl
@[simp] theorem qPt {l n:Nat}:vw rf g (.row l n)=lvl (g l) (.row · n) (rf false l n):=by simp only[vw,lvl];cases g l<;>rfl
@[simp] theorem qPu {l n o:Nat}:vw rf g (.rwp l n o)=lvl (g l) (.rwp · n o) .any:=by simp only[vw,lvl];cases g l<;>rfl
@[simp] theorem qPq {l:Nat}:vw rf g (.map l)=lvl (g l) .map .any:=by simp only[vw,lvl];cases g l<;>rfl
@[simp] theorem qPw {l n o k c:Nat}:vw rf g (.win l n o k c)=lvl (g l) (.win · n o k c) (zVi o k c (rf false l n)):=by simp only[vw,lvl];cases g l<;>rfl
@[simp] theorem qKL {n o k c:Nat}{cs:List A}:zVi o k c (.sl n cs)=if k=0 then .sl 0 [] else .sl k ((cs.drop o).take c):=rfl
@[simp] theorem qPl {cs:List A}:vw rf g (.agg cs)=.agg (vwL rf g cs):=by simp only[vw]
@[simp] theorem qPv {cs:List A}:vw rf g (.tup cs)=.tup (vwL rf g cs):=by simp only[vw]
@[simp] theorem qPJ {n:Nat}{cs:List A}:vw rf g (.sl n cs)=.sl n (vwL rf g cs):=by simp only[vw]
@[simp] theorem qPo {n:Nat}{cs:List A}:vw rf g (.fsl n cs)=.fsl n (vwL rf g cs):=by simp only[vw]
@[simp] theorem qLL {cs:List A}:vw rf g (.rptr cs)=.rptr (vwL rf g cs):=by simp only[vw]
@[simp] theorem qPn {f:FuncId}{a b:List A}:vw rf g (.clo f a b)=.clo f (vwL rf g a) (vwL rf g b):=by simp only[vw]
@[simp] theorem qPm:vw rf g .any=.any:=by simp only[vw]
@[simp] theorem qPr:vw rf g .nil=.nil:=by simp only[vw]
@[simp] theorem qPp {v:Value}:vw rf g (.lit v)=.lit v:=by simp only[vw]
@[simp] theorem qPK {b:Nat}:vw rf g (yv b)=yv b:=by simp only[yv,vw]
@[simp] theorem qDF {b:Bool}{l n:Nat}:jR b l n=.any:=rfl
@[simp] theorem qL7:vwL rf g []=[]:=by simp only[vwL]
@[simp] theorem qJJ {c:A}{cs:List A}:vwL rf g (c::cs)=vw rf g c::vwL rf g cs:=by simp only[vwL]
@[simp] theorem zLa {cs ds:List A}:vwL rf g (cs++ds)=vwL rf g cs++vwL rf g ds:=by
 induction cs with
 | nil=>simp
 | cons c cs ih=>simp[ih]
@[simp] theorem qJK {cs:List A}{n:Nat}:vwL rf g (cs.drop n)=(vwL rf g cs).drop n:=by
 induction cs generalizing n with
 | nil=>simp
 | cons c cs ih=>cases n<;>simp[ih]
@[simp] theorem qJL {cs:List A}{n:Nat}:vwL rf g (cs.take n)=(vwL rf g cs).take n:=by
 induction cs generalizing n with
 | nil=>simp
 | cons c cs ih=>cases n<;>simp[ih]
@[simp] theorem qIX {l o:Nat}:nrm0 (.ptr l o)=.ptr l o:=by simp only[nrm0]
@[simp] theorem qIY {l n:Nat}:nrm0 (.row l n)=.row l n:=by simp only[nrm0]
@[simp] theorem qIZ {l n o:Nat}:nrm0 (.rwp l n o)=.rwp l n o:=by simp only[nrm0]
@[simp] theorem qIV {l:Nat}:nrm0 (.map l)=.map l:=by simp only[nrm0]
@[simp] theorem qJb {l n o k c:Nat}:nrm0 (.win l n o k c)=.win l n o k c:=by simp only[nrm0]
@[simp] theorem qIQ {cs:List A}:nrm0 (.agg cs)=.agg (qU cs):=by simp only[nrm0]
@[simp] theorem qJa {cs:List A}:nrm0 (.tup cs)=.tup (qU cs):=by simp only[nrm0]
@[simp] theorem qLl {n:Nat}{cs:List A}:nrm0 (.sl n cs)=.sl n (qU cs):=by simp only[nrm0]
@[simp] theorem qIT {n:Nat}{cs:List A}:nrm0 (.fsl n cs)=.sl n (qU cs):=by simp only[nrm0]
@[simp] theorem qE9 {cs:List A}:nrm0 (.rptr cs)=.rptr (qU cs):=by simp only[nrm0]
@[simp] theorem qIS {f:FuncId}{a b:List A}:nrm0 (.clo f a b)=.clo f (qU a) (qU b):=by simp only[nrm0]
@[simp] theorem qIR:nrm0 .any=.any:=by simp only[nrm0]
@[simp] theorem qIW:nrm0 .nil=.sl 0 []:=by simp only[nrm0]
@[simp] theorem qIU {v:Value}:nrm0 (.lit v)=.lit v:=by simp only[nrm0]
@[simp] theorem qLm {b:Nat}:nrm0 (yv b)=yv b:=by simp only[yv,nrm0]
@[simp] theorem qEz:qU []=[]:=by simp only[qU]
@[simp] theorem qCH {c:A}{cs:List A}:qU (c::cs)=nrm0 c::qU cs:=by simp only[qU]
@[simp] theorem zDi {cs ds:List A}:qU (cs++ds)=qU cs++qU ds:=by
 induction cs with
 | nil=>simp
 | cons c cs ih=>simp[ih]
@[simp] theorem qCI {cs:List A}{n:Nat}:qU (cs.drop n)=(qU cs).drop n:=by
 induction cs generalizing n with
 | nil=>simp
 | cons c cs ih=>cases n<;>simp[ih]
@[simp] theorem qCJ {cs:List A}{n:Nat}:qU (cs.take n)=(qU cs).take n:=by
 induction cs generalizing n with
 | nil=>simp
 | cons c cs ih=>cases n<;>simp[ih]
def qX (cs:List A):Prop:=qU cs=cs∧∀rf g,vwL rf g cs=cs
theorem qX.nil:qX []:=⟨by simp,by simp⟩
theorem qX.append {cs ds:List A}(h:qX cs)(k:qX ds):qX (cs++ds):=⟨by simp[h.1,k.1],fun rf g=>by simp[h.2,k.2]⟩
theorem qX.drop {cs:List A}(h:qX cs)(n:Nat):qX (cs.drop n):=⟨by simp[h.1],fun rf g=>by simp[h.2]⟩
theorem qX.take {cs:List A}(h:qX cs)(n:Nat):qX (cs.take n):=⟨by simp[h.1],fun rf g=>by simp[h.2]⟩
theorem qX.int {k:IntKind}{n:Int}{cs:List A}(h:qX cs):qX (.lit (.int k n)::cs):=⟨by simp[h.1],fun rf g=>by simp[h.2]⟩
theorem qX.lit {v:Value}{cs:List A}(h:qX cs):qX (.lit v::cs):=⟨by simp[h.1],fun rf g=>by simp[h.2]⟩
theorem qX.sl {n:Nat}{ds cs:List A}(k:qX ds)(h:qX cs):qX (.sl n ds::cs):=⟨by simp[h.1,k.1],fun rf g=>by simp[h.2,k.2]⟩
@[simp] theorem qEG {l:Nat}:qS [] l=none:=rfl
@[simp] theorem qCY {k l:Nat}{ks:List Nat}:qS (k::ks) l=if l=k then some 0 else (qS ks l).map (· + 1):=rfl
@[simp] theorem qGG {n l:Nat}:zDs [] n l=n+l:=by cases l<;>rfl
@[simp] theorem qDJ {j n:Nat}{js:List Nat}:zDs (j::js) n 0=j:=rfl
@[simp] theorem qDI {j n l:Nat}{js:List Nat}:zDs (j::js) n (l+1)=zDs js n l:=rfl
@[simp] theorem qCZ {s t:St}:jW s [] t=s++t:=by simp only[jW]
@[simp] theorem zOX {s os:St}{j:Nat}{js:List Nat}{o:AObj}:jW s (j::js) (o::os)=jW (s.set j o) js os:=rfl
@[simp] theorem qDG {js:List Nat}:zBN js [] []:=trivial
@[simp] theorem qBp {js:List Nat}{a a':A}{aS aS':List A}:zBN js (a'::aS') (a::aS)=((a=vw jR (qS js) a'∨a=nrm0 (vw jR (qS js) a'))∧zBN js aS' aS):=rfl
def zOR (o:Option AObj)(J:AObj→Prop):Prop:=match o with
 | some o=>J o
 | none=>False
@[simp] theorem qCM {o:AObj}{J:AObj→Prop}:zOR (some o) J=J o:=rfl
@[simp] theorem qEU:zA8 σ rf g [] []:=trivial
@[simp] theorem qDo {j:Nat}{js:List Nat}{o:AObj}{os:St}:zA8 σ rf g (j::js) (o::os)=(zOR σ[j]? (fun p=>o=vwO rf g p∨o=zGc (vwO rf g p))∧zA8 σ rf g js os):=by simp only[zA8,zOR];cases σ[j]?<;>rfl
@[simp] theorem qL8 {cs:List A}:vwO rf g (.box cs)=.box (vwL rf g cs):=rfl
@[simp] theorem qL9 {fz:Bool}{e:TypeId}{sz n:Nat}{cs:List A}:vwO rf g (.row fz e sz n cs)=.row fz e sz n (vwL rf g cs):=rfl
@[simp] theorem qPk {fr:Bool}{nk:Nat}{es:List (List Int×A)}:vwO rf g (.mp fr nk es)=.mp fr nk (es.map fun p=>(p.1,vw rf g p.2)):=rfl
@[simp] theorem qLA:vwO rf g .rsv=.rsv:=rfl
@[simp] theorem qJe:zGc .rsv=.rsv:=rfl
@[simp] theorem qJz {js:List Nat}{n:Nat}:zBS js n .rsv=.rsv:=rfl
@[simp] theorem qPi {m n:Nat}{met:List Nat}:vwO rf g (.it m n met)=(match g m with | some i=>AObj.it i n met | none=>.dead):=rfl
@[simp] theorem qLp {fr:Bool}{nk:Nat}{es:List (List Int×A)}:zGc (.mp fr nk es)=.mp fr nk (es.map fun p=>(p.1,nrm0 p.2)):=rfl
@[simp] theorem qLn {m n:Nat}{met:List Nat}:zGc (.it m n met)=.it m n met:=rfl
@[simp] theorem qLw {js:List Nat}{n:Nat}{fr:Bool}{nk:Nat}{es:List (List Int×A)}:zBS js n (.mp fr nk es)=.mp fr nk (es.map fun p=>(p.1,ren js n p.2)):=rfl
@[simp] theorem qLu {js:List Nat}{n m k:Nat}{met:List Nat}:zBS js n (.it m k met)=.it (zDs js n m) k met:=rfl
@[simp] theorem qPj {b M:Nat}{r:Loop}{es:List (Nat×A)}:vwO rf g (.lp b r M es)=.lp b r M (es.map fun p=>(p.1,vw rf g p.2)):=rfl
@[simp] theorem qLo {b M:Nat}{r:Loop}{es:List (Nat×A)}:zGc (.lp b r M es)=.lp b r M (es.map fun p=>(p.1,nrm0 p.2)):=rfl
@[simp] theorem qLv {js:List Nat}{n b M:Nat}{r:Loop}{es:List (Nat×A)}:zBS js n (.lp b r M es)=.lp b r M (es.map fun p=>(p.1,ren js n p.2)):=rfl
@[simp] theorem qJc {cs:List A}:zGc (.box cs)=.box (qU cs):=rfl
@[simp] theorem qJd {fz:Bool}{e:TypeId}{sz n:Nat}{cs:List A}:zGc (.row fz e sz n cs)=.row fz e sz n (qU cs):=rfl
@[simp] theorem qJx {js:List Nat}{n:Nat}{cs:List A}:zBS js n (.box cs)=.box (qDc js n cs):=rfl
@[simp] theorem qJy {js:List Nat}{n:Nat}{fz:Bool}{e:TypeId}{sz m:Nat}{cs:List A}:zBS js n (.row fz e sz m cs)=.row fz e sz m (qDc js n cs):=rfl
@[simp] theorem qOX {js:List Nat}{n:Nat}{a:A}:ren js n a=vw jR (fun l=>some (zDs js n l)) a:=rfl
@[simp] theorem qLt {js:List Nat}{n:Nat}{cs:List A}:qDc js n cs=vwL jR (fun l=>some (zDs js n l)) cs:=rfl
def zW9 (k:Nat)(o:Option AObj)(n:Nat)(J:List A→A):A:=match o with
 | some (.row _ _ _ m cs)=>if n=m then J cs else .any
 | _=>.any
@[simp] theorem qDn {k n m:Nat}{fz:Bool}{e:TypeId}{sz:Nat}{cs:List A}{J:List A→A}:zW9 k (some (.row fz e sz m cs)) n J=if n=m then J cs else .any:=rfl
@[simp] theorem qET {b:Bool}{l n:Nat}:seen σ g 0 b l n=.any:=rfl
@[simp] theorem qES {k l n:Nat}:seen σ g (k+1) false l n=zW9 k σ[l]? n (fun cs=>.sl n (vwL (seen σ g k) g cs)):=by
 simp only[seen,zW9];cases σ[l]? with
 | none=>rfl
 | some o=>cases o<;>rfl
def zPl (o:Option AObj)(J:List A→A):A:=match o with
 | some (.box cs)=>J cs
 | _=>.any
@[simp] theorem qEQ {cs:List A}{J:List A→A}:zPl (some (.box cs)) J=J cs:=rfl
@[simp] theorem qER {fz:Bool}{e:TypeId}{sz n:Nat}{cs:List A}{J:List A→A}:zPl (some (.row fz e sz n cs)) J=.any:=rfl
@[simp] theorem qDm {J:List A→A}:zPl none J=.any:=rfl
@[simp] theorem qJ7 {k l n:Nat}:seen σ g (k+1) true l n=zPl σ[l]? (fun cs=>.rptr ((vwL (seen σ g k) g cs).drop n)):=by
 simp only[seen,zPl];cases σ[l]? with
 | none=>rfl
 | some o=>cases o<;>rfl
def zSh:List A→A
 | [x]=>x
 | l=>.tup l
@[simp] theorem qEY {x:A}:zSh [x]=x:=rfl
@[simp] theorem qEX:zSh []=.tup []:=rfl
@[simp] theorem qEZ {x y:A}{l:List A}:zSh (x::y::l)=.tup (x::y::l):=rfl
def zKD (env:Env) (σ : St):List RS→(List A→Prop)→Prop
 | [],J=>J []
 | .slot t::rs,J=>zKD env σ rs fun l=>J (env t::l)
 | .cell a n agg::rs,J=>zDj ((ldA σ n (env a)).bind (zBs agg)) fun r=>zKD env σ rs fun l=>J (r::l)
@[simp] theorem qJ0 {J:List A→Prop}:zKD env σ [] J=J []:=rfl
@[simp] theorem qEJ {t:Nat}{rs:List RS}{J:List A→Prop}:zKD env σ (.slot t::rs) J=zKD env σ rs fun l=>J (env t::l):=rfl
@[simp] theorem qEI {a n:Nat}{agg:Bool}{rs:List RS}{J:List A→Prop}:zKD env σ (.cell a n agg::rs) J=zDj ((ldA σ n (env a)).bind (zBs agg)) fun r=>zKD env σ rs fun l=>J (r::l):=rfl
theorem zNo:∀{rs:List RS} {J:List A→Prop},zKD env σ rs J=match zBt env σ rs with | some l=>J l | none=>False
 | [],J=>rfl
 | .slot t::rs,J=>by simp only[zKD,zBt,zFR];rw[zNo];cases zBt env σ rs<;>rfl
 | .cell a n agg::rs,J=>by
  simp only[zKD,zBt,zFR];cases (ldA σ n (env a)).bind (zBs agg)with
  | none=>rfl
  | some r =>
   simp only[zDj];rw[zNo];cases zBt env σ rs<;>rfl
@[simp] theorem qLx {rs:List RS}{R:Out→St→Prop}:zJi rs R env σ = zKD env σ rs fun l=>R (.ret (zSh l)) σ:=by
 rw[zNo,zJi,zW1];cases zBt env σ rs with
 | none=>rfl
 | some l =>
  cases l with
  | nil=>rfl
  | cons x l=>cases l<;>rfl
def zFX (n:Nat)(r:A) (σ1:St)(o:Out) (σ':St):Prop :=
 ∃(r':A) (ks:List Nat) (fuel:Nat),o=.ret r'∧(∀i,i<n→ks[i]?=some i)∧ks.Nodup∧zA8 σ' (seen σ' (qS ks) fuel) (qS ks) ks σ1 ∧
  (r=vw (seen σ' (qS ks) fuel) (qS ks) r'∨r=nrm0 (vw (seen σ' (qS ks) fuel) (qS ks) r'))
theorem zH {f:FuncId}{fn:Func}{c:Code}{k:K}{rs:List RS}(hf:P.funcs[f]?=some fn)(hb:fn.body=some c)(hc:zK P fn.ntmps c=some k.erase)(hr:zBI P fn.results.toList=some rs)
 {args:List A} {σ0 σ1:St}{r:A}(h:wpF P k rs args σ0 (zFX σ0.length r σ1)):Ret P f args σ0 r σ1:=zGB (zNH hf hb hc hr h)
theorem zI {hint:Nat→Option (List (Nat×Nat))}{f:FuncId}{fn:Func}{c:Code}{k:K}{rs:List RS}(hf:P.funcs[f]?=some fn)(hb:fn.body=some c)(hc:qD P fn.ntmps hint c=some k.erase)(hr:zBI P fn.results.toList=some rs)
 {args:List A} {σ0 σ1:St}{r:A}(h:wpF P k rs args σ0 (zFX σ0.length r σ1)):Ret P f args σ0 r σ1:=zGB (zDe hf hb hc hr h)
theorem zC {r r':A} {σ':St}(fuel:Nat)(h:r=vw (seen σ' (fun _=>none) fuel) (fun _=>none) r'∨r=nrm0 (vw (seen σ' (fun _=>none) fuel) (fun _=>none) r')):zFX 0 r [] (.ret r') σ' :=
 ⟨r',[],fuel,rfl,fun i hi=>by omega,by simp,trivial,h⟩
theorem zG {n:Nat}{r r':A} {σ1 σ':St}(ks:List Nat)(fuel:Nat)(hk:∀i,i<n→ks[i]?=some i)(hd:ks.Nodup)(ho:zA8 σ' (seen σ' (qS ks) fuel) (qS ks) ks σ1)
 (h:r=vw (seen σ' (qS ks) fuel) (qS ks) r'∨r=nrm0 (vw (seen σ' (qS ks) fuel) (qS ks) r')):zFX n r σ1 (.ret r') σ':=⟨r',ks,fuel,rfl,hk,hd,ho,h⟩
theorem zPr:∀{s:St} {j:Nat} {o:AObj},s[j]?=some o→s.set j o=s
 | [],_,_,h=>by simp at h
 | x::s,0,o,h=>by simp at h; simp[h]
 | x::s,j+1,o,h=>by simp only[List.getElem?_cons_succ]at h; simp[zPr h]
theorem zR {f:FuncId}{args args':List A}{r:A}(h:Ret P f args [] r [])(ha:zBN [] args' args)(hr:∀m,vw jR (fun l=>some (m+l)) r=r)(hq:K' (env.put d r) σ):zAa P f args' σ (zJg d env K' Qp):=by
 refine zAx h [] (by simp) trivial ha ?_;have:ren [] σ.length r=r:=by
  have:=hr σ.length
  simpa [ren] using this
 rw[this]
 simpa [zJg] using hq
theorem qM {f:FuncId}{args args':List A}{r:A}(h:Ret P f args [] r [])(ha:zBN [] args' args)(hr:∀m,vw jR (fun l=>some (m+l)) r=r)(hq:KD (env.put d r)):zJw P σ d KD f args' env:=by
 refine⟨r,zAx h [] (by simp) trivial ha ?_,hq⟩;have:ren [] σ.length r=r:=by
  have:=hr σ.length
  simpa [ren] using this
 rw[this];simp
theorem zN {f:FuncId}{args args':List A} {σ0 σ1:St}{r:A}(h:Ret P f args σ0 r σ1)(js:List Nat)(hd:js.Nodup)(ho:zA8 σ jR (qS js) js σ0)(ha:zBN js args' args)
 (hq:K' (env.put d (ren js σ.length r)) (jW σ js (σ1.map (zBS js σ.length)))):zAa P f args' σ (zJg d env K' Qp):=zAx h js hd ho ha (by simpa [zJg] using hq)
def zZV {S:Type}(E:S→List (Nat×A))(T:S→St)(I:S→Prop) (μ : S→Nat)(n:Nat)(e:Env)(t:St):Prop:=∃s,I s∧μ s=n∧e=qP (E s)∧t=T s
theorem qR {S:Type}{W:(Ex→Env→St→Prop)→Env→St→Prop}(E:S→List (Nat×A))(T:S→St)(I:S→Prop) (μ : S→Nat)(s0:S)(h0:I s0)(start:zBV n0 (qP (E s0)) (T s0) env σ)
 (round:∀s,I s→W (rnd n0 (zZV E T I μ) (μ s) Q) (qP (E s)) (T s)):zN2 n0 W Q env σ:=zY0 E T I μ s0 h0 start round
theorem zS {S:Type}{E:S→List (Nat×A)}{T:S→St}{I:S→Prop} {μ : S→Nat}{n:Nat}(s:S)(hs:I s)(hm : μ s<n)(hw:zBV n0 (qP (E s)) (T s) env σ):rnd n0 (zZV E T I μ) n Q .norm env σ :=
 qDf s hs hm hw
theorem zP (ks:List Nat)(fuel:Nat){l:List (Nat×A)} {σ':St}(hk:∀i,i<n0→ks[i]?=some i)(hd:ks.Nodup)(ho:zA8 σ (seen σ (qS ks) fuel) (qS ks) ks σ')
 (hl:∀p∈l,p.2=vw (seen σ (qS ks) fuel) (qS ks) (env p.1)∨p.2=nrm0 (vw (seen σ (qS ks) fuel) (qS ks) (env p.1))):zBV n0 (qP l) σ' env σ:=zBV.sel ks fuel l hk hd ho hl
end
end Go.Abs
namespace Go.Abs
section
variable {P:Program}{KD:Env→Prop}{env:Env} {σ : St}{d:Option Nat}
theorem zAu {f:FuncId}{args args':List A}{r:A}(h:Ret P f args [] r [])(ha:zBN [] args' args)(hr:∀m,vw jR (fun l=>some (m+l)) r=r)(hq:KD (env.put d r)):zHC P σ d KD f args' env:=by
 refine⟨r,fun τ _=>zAx h [] (by simp) trivial ha ?_,hq⟩;have:ren [] τ.length r=r:=by
  have:=hr τ.length
  simpa [ren] using this
 rw[this];simp
def zEL (σ : St)(js:List Nat):List Nat→St→Prop
 | [],[]=>True
 | j::ks,o::os=>(zOR σ[j]? fun p=>(∃cs,p=.box cs)∧(∀n,zBS js n o=p)∧(o=vwO jR (qS js) p∨o=zGc (vwO jR (qS js) p)))∧zEL σ js ks os
 | _,_=>False
@[simp] theorem qDl {js:List Nat}:zEL σ js [] []:=trivial
@[simp] theorem qAX {js ks:List Nat}{j:Nat}{o:AObj}{os:St}:zEL σ js (j::ks) (o::os)=((zOR σ[j]? fun p=>(∃cs,p=.box cs)∧(∀n,zBS js n o=p)∧(o=vwO jR (qS js) p∨o=zGc (vwO jR (qS js) p)))∧zEL σ js ks os):=rfl
theorem zF0 {js:List Nat} {τ : St}(hk:zAb σ τ):∀{ks:List Nat} {os:St},zEL σ js ks os→zEL τ js ks os
 | [],[],_=>trivial
 | j::ks,o::os,h=>by
  obtain⟨h1,h2⟩:=h;refine⟨?_,zF0 hk h2⟩;cases hj : σ[j]? with
  | none=>rw[hj]at h1; exact h1.elim
  | some p =>
   rw[hj]at h1;obtain⟨⟨cs,rfl⟩,h3⟩:=h1;rw[hk j cs hj];exact⟨⟨cs,rfl⟩,h3⟩
 | [],_::_,h=>h.elim
 | _::_,[],h=>h.elim
theorem zKG {js:List Nat}:∀{ks:List Nat} {os:St},zEL σ js ks os→zA8 σ jR (qS js) ks os
 | [],[],_=>trivial
 | j::ks,o::os,h=>by
  obtain⟨h1,h2⟩:=h;refine⟨?_,zKG h2⟩;cases hj : σ[j]? with
  | none=>rw[hj]at h1; exact h1.elim
  | some p=>rw[hj]at h1; exact h1.2.2
 | [],_::_,h=>h.elim
 | _::_,[],h=>h.elim
theorem zKF {js:List Nat}{n:Nat}:∀{ks:List Nat} {os:St},zEL σ js ks os→jW σ ks (os.map (zBS js n)) = σ
 | [],[],_=>by simp
 | j::ks,o::os,h=>by
  obtain⟨h1,h2⟩:=h;cases hj : σ[j]? with
  | none=>rw[hj]at h1; exact h1.elim
  | some p =>
   rw[hj]at h1;simp only[List.map_cons,zOX];rw[h1.2.1 n,zPr hj];exact zKF h2
 | [],_::_,h=>h.elim
 | _::_,[],h=>h.elim
theorem zR0 {f:FuncId}{args args':List A} {σ0:St}{r:A}(h:Ret P f args σ0 r σ0)(js:List Nat)(hd:js.Nodup)(ho:zEL σ js js σ0)(ha:zBN js args' args)(hr:∀n,ren js n r=r)(hq:KD (env.put d r)) :
 zHC P σ d KD f args' env:=by
 refine⟨r,fun τ hk=>zAx h js hd (zKG (zF0 hk ho)) ha ?_,hq⟩;rw[hr,zKF (zF0 hk ho)];simp
end
end Go.Abs
namespace Go.Abs
section
variable {P:Program}{Qp:Value→Env→St→Prop}{Qd:Value→St→Prop}{K':Env→St→Prop}{env:Env} {σ : St}{d:Option Nat}{x y:Operand}
def zOH (a:A)(J:A→Prop):Prop:=match a with
 | .ptr l o=>J (.ptr l o)
 | .rptr cs=>J (.rptr cs)
 | _=>False
@[simp] theorem qEx {l o:Nat}{J:A→Prop}:zOH (.ptr l o) J=J (.ptr l o):=rfl
@[simp] theorem qCG {cs:List A}{J:A→Prop}:zOH (.rptr cs) J=J (.rptr cs):=rfl
theorem zTv {J:A→Prop}:qQ (zL env σ (.nilc d x)) J=zOH (ev env x) J:=by simp only[zL,zOH,qQ];generalize ev env x=a;cases a<;>simp
@[simp] theorem qKe:wpO P Qp K' (.nilc d x) env σ = zOH (ev env x) fun r=>K' (env.put d r) σ:=zTv (d:=d)
@[simp] theorem qD6 {fl:Nat}:qZ P Qd fl K' (.nilc d x) env σ = wpO P zA7 K' (.nilc d x) env σ:=by simp[qZ,KOp.lite,KOp.keeps]
def zKj:List A→(List Int→Prop)→Prop
 | [],J=>J []
 | .lit (.int .i64 n)::l,J=>zKj l fun ks=>J (n::ks)
 | _,_=>False
@[simp] theorem qEr {J:List Int→Prop}:zKj [] J=J []:=rfl
@[simp] theorem qCD {n:Int}{l:List A}{J:List Int→Prop}:zKj (.lit (.int .i64 n)::l) J=zKj l fun ks=>J (n::ks):=rfl
theorem zO4:∀(l:List A) (J:List Int→Prop),zKj l J=match zGk l with | some ks=>J ks | none=>False
 | [],J=>rfl
 | a::l,J=>by
  cases a<;>try rfl
  rename_i v;cases v<;>try rfl
  rename_i k n;cases k<;>try rfl
  simp only[zKj,zGk,zO4 l];cases zGk l<;>rfl
def zOx (nk:Nat)(k:A)(J:List Int→Prop):Prop:=match zHq nk k with
 | some ks=>J ks
 | none=>False
@[simp] theorem qIy {nk:Nat}{cs:List A}{J:List Int→Prop}:zOx nk (.agg cs) J=zKj cs fun ks=>ks.length=nk∧J ks:=by
 simp only[zOx,zHq,zO4];cases zGk cs with
 | none=>rfl
 | some ks =>
  simp only;by_cases h:ks.length=nk<;>simp[h]
def zIf (o:Option AObj)(J:Bool→Nat→List (List Int×A)→Prop):Prop:=match o with
 | some (.mp fr nk es)=>J fr nk es
 | _=>False
@[simp] theorem qEw {fr:Bool}{nk:Nat}{es:List (List Int×A)}{J:Bool→Nat→List (List Int×A)→Prop}:zIf (some (.mp fr nk es)) J=J fr nk es:=rfl
def zVQ (o:Option AObj)(J:Nat→Nat→List Nat→Prop):Prop:=match o with
 | some (.it m n met)=>J m n met
 | _=>False
@[simp] theorem qEq {m n:Nat}{met:List Nat}{J:Nat→Nat→List Nat→Prop}:zVQ (some (.it m n met)) J=J m n met:=rfl
@[simp] theorem qMf {m:MOp}{xs:List Operand}:wpO P Qp K' (.mop d m xs) env σ = zBg m (xs.map (ev env)) (fun r τ=>K' (env.put d r) τ) σ:=by simp only[wpO]
variable {K:A→St→Prop}
@[simp] theorem qLk {nk:Nat}:zBg (.mk nk) [] K σ = K (.map σ.length) (σ++[.mp true nk []]):=rfl
@[simp] theorem qIJ {nk l:Nat}{z:Value}{ok:Bool}{k:A}:zBg (.get nk z ok) [.map l,k] K σ = zOx nk k fun ks=>zIf σ[l]? fun _ nk' es=>nk'=nk∧K (zFo z ok (zAy ks es)) σ:=by
 simp only[zBg,zOx,zIf];cases zHq nk k with
 | none=>rfl
 | some ks =>
  cases σ[l]? with
  | none=>rfl
  | some o=>cases o<;>rfl
@[simp] theorem qIN {nk l:Nat}{k v:A}:zBg (.set nk) [.map l,k,v] K σ = zOx nk k fun ks=>zIf σ[l]? fun fr nk' es=>nk'=nk∧K (.lit undef) (σ.set l (.mp fr nk (zDl ks v es))):=by
 simp only[zBg,zOx,zIf];cases zHq nk k with
 | none=>rfl
 | some ks =>
  cases σ[l]? with
  | none=>rfl
  | some o=>cases o<;>rfl
@[simp] theorem qIH {nk l:Nat}{k:A}:zBg (.del nk) [.map l,k] K σ = zOx nk k fun ks=>zIf σ[l]? fun _ nk' es=>nk'=nk∧K (.tup []) (σ.set l (.mp false nk (zHO ks es))):=by
 simp only[zBg,zOx,zIf];cases zHq nk k with
 | none=>rfl
 | some ks =>
  cases σ[l]? with
  | none=>rfl
  | some o=>cases o<;>rfl
@[simp] theorem qIM {l:Nat}:zBg .rng [.map l] K σ = zIf σ[l]? fun fr _ es=>fr=true∧K (.ptr σ.length 0) (σ++[.it l es.length []]):=by
 simp only[zBg,zIf];cases σ[l]? with
 | none=>rfl
 | some o =>
  cases o<;>try rfl
  rename_i fr nk es;cases fr<;>simp
@[simp] theorem qIL {j:Nat}:zBg .nxt [.ptr j 0] K σ = zVQ σ[j]? fun l n met=>zIf σ[l]? fun fr _ es=>fr=true∧n=es.length ∧
 (∀(i:Nat) (p:List Int×A),i∉met→es[i]?=some p→K (.tup [.lit (.bool true),zKg p.1,p.2]) (σ.set j (.it l n (met++[i]))))∧((∀i,i<n→i∈met)→K (.tup [.lit (.bool false)]) σ):=by
 simp only[zBg,zIf,zVQ];cases σ[j]? with
 | none=>rfl
 | some o =>
  cases o<;>try rfl
  rename_i l n met;simp only;cases σ[l]? with
  | none=>rfl
  | some o =>
   cases o<;>try rfl
   rename_i fr nk es;cases fr<;>simp
@[simp] theorem qII {j:Nat}:zBg .ent [.ptr j 0] K σ = zVQ σ[j]? fun l n met=>zIf σ[l]? fun fr _ es=>fr=true∧∃i p,met.getLast?=some i∧es[i]?=some p∧n=es.length∧K (.tup [zKg p.1,p.2]) σ:=by
 simp only[zBg,zIf,zVQ];cases σ[j]? with
 | none=>rfl
 | some o =>
  cases o<;>try rfl
  rename_i l n met;simp only;cases σ[l]? with
  | none=>rfl
  | some o =>
   cases o<;>try (cases met.getLast?<;>rfl)
   rename_i fr nk es;cases fr
   ·cases met.getLast?<;>simp
   ·cases met.getLast? with
    | none=>simp
    | some i =>
     simp only;apply propext;cases hp:es[i]? with
     | none =>
      refine⟨fun h=>h.2.elim,?_⟩;rintro⟨_,i',p',h1,h2,_⟩;have h1:=Option.some.inj h1;subst h1;rw[hp]at h2;exact absurd h2 (by simp)
     | some p =>
      refine⟨fun h=>⟨trivial,i,p,rfl,hp,h.1,h.2⟩,?_⟩;rintro⟨_,i',p',h1,h2,h3,h4⟩;have h1:=Option.some.inj h1;subst h1;rw[hp]at h2;have h2:=Option.some.inj h2;subst h2;exact⟨h3,h4⟩
@[simp] theorem qIF {sz:Nat}{zs:List Value}{l n o k c:Nat}:zBg (.clr sz zs) [.win l n o k c] K σ = (match σ[l]? with
 | some (.row fz e s m cs)=>(n=m∧s=sz∧fz=false∧o+k*sz≤cs.length)∧K (.tup []) (σ.set l (.row false e sz n (cs.take o++(List.replicate k (zs.map qY)).flatten++cs.drop (o+k*sz))))
 | _=>False):=rfl
@[simp] theorem qIK {e:TypeId}{sz bytes:Nat}{zs:List Value}{k k':IntKind}{n c:Int}:zBg (.mks e sz bytes zs) [.lit (.int k n),.lit (.int k' c)] K σ = ((0≤n∧c=n∧n≤1000000000000∧bytes*n.toNat≤281474976710656)∧K (.row σ.length n.toNat) (σ++[.row false e sz n.toNat ((List.replicate n.toNat (zs.map qY)).flatten)])):=rfl
@[simp] theorem qIG {k k':IntKind}{n:Int}:zBg (.cvt k) [.lit (.int k' n)] K σ = K (.lit (.int k (k.wrap n))) σ:=rfl
@[simp] theorem qEv {n:Nat}{cs:List A}:zBg .str [.fsl n cs] K σ = (match zFt cs with
 | some xs=>(xs.length=n∧n≠0)∧K (.lit (.string (strOfNums xs))) σ
 | none=>False):=rfl
@[simp] theorem qEu {xs:List A}:zBg .boom xs K σ = False:=by cases xs<;>rfl
@[simp] theorem qLK {rf:Bool→Nat→Nat→A}{g:Nat→Option Nat}(ks:List Int):vw rf g (zKg ks)=zKg ks:=by
 have:∀ks:List Int,vwL rf g (ks.map fun n=>A.lit (.int .i64 n))=ks.map fun n=>A.lit (.int .i64 n):=fun ks=>by
  induction ks with
  | nil=>rfl
  | cons k ks ih=>simp[vwL,ih]
 simp[zKg,this]
end
end Go.Abs
