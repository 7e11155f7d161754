/- Rules for simp on levels and contracts; the steps that a prover takes at calls, loops and  -/
import Derived.Test.YtolkhapmieigcaaGreatDoorX7
import Derived.IntWalk
import Derived.Shelf.SlSortCmp.NoneTotal
import Derived.Shelf.Spec.SlicesGrow
set_option linter.unusedVariables false
set_option maxHeartbeats 8000000
set_option maxRecDepth 100000
set_option linter.unusedSimpArgs false
open Go.Proofs.Tryz
namespace Go.Abs
attribute [simp] KOp.dst
@[simp]theorem zXf{a b n:Nat}(h:a<=b):(a<=b+n)=True:=eq_true (by omega)
@[simp]def int(n:Int):A:=.lit (.int .i64 n)
@[simp]def bl(b:Bool):A:=.lit (.bool b)
section
variable{P:Program}{n0:Nat}{Qp:Value->wK}{K':wK}{KD:Env->Prop}{Q:Ex->wK}{env:Env} {U:St}{d:wD}
variable{rf:Bool->Nat->Nat->A}{g:Nat->wD}
def lvl(o:wD)(f:Nat->A)(b:A):A:=match o with
 |some i=>f i
 |none=>b
@[simp]theorem qD7{i:Nat}{f:Nat->A}{b:A}:lvl (some i) f b=f i:=rfl
@[simp]theorem qD6{f:Nat->A}{b:A}:lvl none f b=b:=rfl
variable{l:Nat}
@[simp]theorem qLv{o:Nat}:vw rf g (.ptr l o)=lvl (g l) (.ptr · o) (rf true l o):=by simp only[vw,lvl];cases g l<;>rfl
@[simp]theorem qLw{l n:Nat}:vw rf g (.row l n)=lvl (g l) (.row · n) (rf false l n):=by simp only[vw,lvl];cases g l<;>rfl
@[simp]theorem qLx{l n o:Nat}:vw rf g (.rwp l n o)=lvl (g l) (.rwp · n o) .any:=by simp only[vw,lvl];cases g l<;>rfl
@[simp]theorem qLt:vw rf g (.map l)=lvl (g l) .map .any:=by simp only[vw,lvl];cases g l<;>rfl
@[simp]theorem qLz{l n o k c:Nat}:vw rf g (.win l n o k c)=lvl (g l) (.win · n o k c) (zNJ o k c (rf false l n)):=by simp only[vw,lvl];cases g l<;>rfl
variable{cs:wF}
@[simp]theorem qGy{n o k c:Nat}:zNJ o k c (.sl n cs)=if k=0 then .sl 0 []else .sl k ((cs.drop o).take (k*c)):=rfl
@[simp]theorem zXV:vw rf g (.agg cs)=.agg (vwL rf g cs):=by simp only[vw]
@[simp]theorem qLy:vw rf g (.tup cs)=.tup (vwL rf g cs):=by simp only[vw]
@[simp]theorem qLM{n:Nat}:vw rf g (.sl n cs)=.sl n (vwL rf g cs):=by simp only[vw]
@[simp]theorem qLr{n:Nat}:vw rf g (.fsl n cs)=.fsl n (vwL rf g cs):=by simp only[vw]
@[simp]theorem qH4:vw rf g (.rptr cs)=.rptr (vwL rf g cs):=by simp only[vw]
variable{f:FuncId}
@[simp]theorem qLq{a b:wF}:vw rf g (.clo f a b)=.clo f (vwL rf g a) (vwL rf g b):=by simp only[vw]
@[simp]theorem qLp:vw rf g .any=.any:=by simp only[vw]
@[simp]theorem qLu:vw rf g .nil=.nil:=by simp only[vw]
variable{v:Value}
@[simp]theorem qLs:vw rf g (.lit v)=.lit v:=by simp only[vw]
variable{b:Nat}
@[simp]theorem qLN:vw rf g (yv b)=yv b:=by simp only[yv,vw]
@[simp]theorem zYl{b:Bool}{l n:Nat}:jW b l n=.any:=rfl
@[simp]theorem qHq:vwL rf g []=[]:=by simp only[vwL]
@[simp]theorem qEP{c:A}:vwL rf g (c::cs)=vw rf g c::vwL rf g cs:=by simp only[vwL]
variable{ds:wF}
@[simp]theorem zFm:vwL rf g (cs++ds)=vwL rf g cs++vwL rf g ds:=by
 induction cs with
 |nil=>simp
 |cons c cs ih=>simp[ih]
@[simp]theorem qEQ{n:Nat}:vwL rf g (cs.drop n)=(vwL rf g cs).drop n:=by
 induction cs generalizing n with
 |nil=>simp
 |cons c cs ih=>cases n<;>simp[ih]
@[simp]theorem qER{n:Nat}:vwL rf g (cs.take n)=(vwL rf g cs).take n:=by
 induction cs generalizing n with
 |nil=>simp
 |cons c cs ih=>cases n<;>simp[ih]
@[simp]theorem qDV{o:Nat}:nrm0 (.ptr l o)=.ptr l o:=by simp only[nrm0]
@[simp]theorem qDW{l n:Nat}:nrm0 (.row l n)=.row l n:=by simp only[nrm0]
@[simp]theorem qDX{l n o:Nat}:nrm0 (.rwp l n o)=.rwp l n o:=by simp only[nrm0]
@[simp]theorem qDT:nrm0 (.map l)=.map l:=by simp only[nrm0]
@[simp]theorem qDZ{l n o k c:Nat}:nrm0 (.win l n o k c)=.win l n o k c:=by simp only[nrm0]
@[simp]theorem qDO:nrm0 (.agg cs)=.agg (jE cs):=by simp only[nrm0]
@[simp]theorem qDY:nrm0 (.tup cs)=.tup (jE cs):=by simp only[nrm0]
@[simp]theorem qGQ{n:Nat}:nrm0 (.sl n cs)=.sl n (jE cs):=by simp only[nrm0]
@[simp]theorem qDR{n:Nat}:nrm0 (.fsl n cs)=.sl n (jE cs):=by simp only[nrm0]
@[simp]theorem zZn:nrm0 (.rptr cs)=.rptr (jE cs):=by simp only[nrm0]
@[simp]theorem qDQ{a b:wF}:nrm0 (.clo f a b)=.clo f (jE a) (jE b):=by simp only[nrm0]
@[simp]theorem qDP:nrm0 .any=.any:=by simp only[nrm0]
@[simp]theorem qDU:nrm0 .nil=.sl 0 []:=by simp only[nrm0]
@[simp]theorem qDS:nrm0 (.lit v)=.lit v:=by simp only[nrm0]
@[simp]theorem qGR:nrm0 (yv b)=yv b:=by simp only[yv,nrm0]
@[simp]theorem zZd:jE []=[]:=by simp only[jE]
@[simp]theorem zXl{c:A}:jE (c::cs)=nrm0 c::jE cs:=by simp only[jE]
@[simp]theorem zBb:jE (cs++ds)=jE cs++jE ds:=by
 induction cs with
 |nil=>simp
 |cons c cs ih=>simp[ih]
@[simp]theorem zXm{n:Nat}:jE (cs.drop n)=(jE cs).drop n:=by
 induction cs generalizing n with
 |nil=>simp
 |cons c cs ih=>cases n<;>simp[ih]
@[simp]theorem zXn{n:Nat}:jE (cs.take n)=(jE cs).take n:=by
 induction cs generalizing n with
 |nil=>simp
 |cons c cs ih=>cases n<;>simp[ih]
def qT(cs:wF):Prop:=jE cs=cs/\∀rf g,vwL rf g cs=cs
theorem qT.nil:qT []:=⟨by simp,by simp⟩
theorem qT.append(h:qT cs)(k:qT ds):qT (cs++ds):=⟨by simp[h.1,k.1],fun rf g=>by simp[h.2,k.2]⟩
theorem qT.drop(h:qT cs)(n:Nat):qT (cs.drop n):=⟨by simp[h.1],fun rf g=>by simp[h.2]⟩
theorem qT.take(h:qT cs)(n:Nat):qT (cs.take n):=⟨by simp[h.1],fun rf g=>by simp[h.2]⟩
theorem qT.int{k:IntKind}{n:Int}(h:qT cs):qT (.lit (.int k n)::cs):=⟨by simp[h.1],fun rf g=>by simp[h.2]⟩
theorem qT.lit(h:qT cs):qT (.lit v::cs):=⟨by simp[h.1],fun rf g=>by simp[h.2]⟩
theorem qT.sl{n:Nat}(k:qT ds)(h:qT cs):qT (.sl n ds::cs):=⟨by simp[h.1,k.1],fun rf g=>by simp[h.2,k.2]⟩
@[simp]theorem zZv:qR [] l=none:=rfl
@[simp]theorem zAc{k l:Nat}{ks:wA}:qR (k::ks) l=if l=k then some 0 else (qR ks l).map (· + 1):=rfl
@[simp]theorem qBu{n l:Nat}:eT [] n l=n+l:=by cases l<;>rfl
variable{js:wA}
@[simp]theorem zYr{j n:Nat}:eT (j::js) n 0=j:=rfl
@[simp]theorem zN1{j n l:Nat}:eT (j::js) n (l+1)=eT js n l:=rfl
@[simp]theorem zX1{s t:St}:j9 s [] t=s++t:=by simp only[j9]
@[simp]theorem zCR{s os:St}{j:Nat}{o:AObj}:j9 s (j::js) (o::os)=j9 (s.set j o) js os:=rfl
@[simp]theorem zYn:eJ js [] []:=trivial
@[simp]theorem zVN{a a':A}{aS aS':wF}:eJ js (a'::aS') (a::aS)=((a=vw jW (qR js) a'\/a=nrm0 (vw jW (qR js) a'))/\eJ js aS' aS):=rfl
def zJ9(o:Option AObj)(J:AObj->Prop):Prop:=match o with
 |some o=>J o
 |none=>False
@[simp]theorem zXq{o:AObj}{J:AObj->Prop}:zJ9 (some o) J=J o:=rfl
@[simp]theorem zZC:bT U rf g [] []:=trivial
@[simp]theorem zLS{j:Nat}{o:AObj}{os:St}:bT U rf g (j::js) (o::os)=(zJ9 U[j]? (fun p=>o=vwO rf g p\/o=vJ (vwO rf g p))/\bT U rf g js os):=by simp only[bT,zJ9];cases U[j]?<;>rfl
@[simp]theorem qHr:vwO rf g (.box cs)=.box (vwL rf g cs):=rfl
variable{fz:Bool}{e:TypeId}
@[simp]theorem qHs{sz n:Nat}:vwO rf g (.row fz e sz n cs)=.row fz e sz n (vwL rf g cs):=rfl
variable{fr:Bool}{nk:Nat}{es:List (wC×A)}
@[simp]theorem zXU:vwO rf g (.mp fr nk es)=.mp fr nk (es.map fun p=>(p.1,vw rf g p.2)):=rfl
@[simp]theorem qHt:vwO rf g .rsv=.rsv:=rfl
@[simp]theorem qEc:vJ .rsv=.rsv:=rfl
@[simp]theorem qEx{n:Nat}:fE js n .rsv=.rsv:=rfl
variable{met:wA}
@[simp]theorem zXS{m n:Nat}:vwO rf g (.it m n met)=(match g m with|some i=>AObj.it i n met|none=>.dead):=rfl
@[simp]theorem qGU:vJ (.mp fr nk es)=.mp fr nk (es.map fun p=>(p.1,nrm0 p.2)):=rfl
@[simp]theorem qGS{m n:Nat}:vJ (.it m n met)=.it m n met:=rfl
@[simp]theorem qHb{n:Nat}:fE js n (.mp fr nk es)=.mp fr nk (es.map fun p=>(p.1,ren js n p.2)):=rfl
@[simp]theorem qGZ{n m k:Nat}:fE js n (.it m k met)=.it (eT js n m) k met:=rfl
@[simp]theorem zXT{M:Nat}{r:Loop}{es:List (Nat×A)}:vwO rf g (.lp b r M es)=.lp b r M (es.map fun p=>(p.1,vw rf g p.2)):=rfl
@[simp]theorem qGT{M:Nat}{r:Loop}{es:List (Nat×A)}:vJ (.lp b r M es)=.lp b r M (es.map fun p=>(p.1,nrm0 p.2)):=rfl
@[simp]theorem qHa{n b M:Nat}{r:Loop}{es:List (Nat×A)}:fE js n (.lp b r M es)=.lp b r M (es.map fun p=>(p.1,ren js n p.2)):=rfl
@[simp]theorem qEa:vJ (.box cs)=.box (jE cs):=rfl
@[simp]theorem qEb{sz n:Nat}:vJ (.row fz e sz n cs)=.row fz e sz n (jE cs):=rfl
@[simp]theorem qEv{n:Nat}:fE js n (.box cs)=.box (zX4 js n cs):=rfl
@[simp]theorem qEw{n:Nat}{sz m:Nat}:fE js n (.row fz e sz m cs)=.row fz e sz m (zX4 js n cs):=rfl
@[simp]theorem qLf{n:Nat}{a:A}:ren js n a=vw jW (fun l=>some (eT js n l)) a:=rfl
@[simp]theorem qGY{n:Nat}:zX4 js n cs=vwL jW (fun l=>some (eT js n l)) cs:=rfl
def zR4(k:Nat)(o:Option AObj)(n:Nat)(J:List A->A):A:=match o with
 |some (.row _ _ _ m cs)=>if n=m then J cs else .any
 |_=>.any
variable{J:List A->A}
@[simp]theorem zXE{k n m:Nat}{sz:Nat}:zR4 k (some (.row fz e sz m cs)) n J=if n=m then J cs else .any:=rfl
@[simp]theorem zZB{b:Bool}{l n:Nat}:seen U g 0 b l n=.any:=rfl
@[simp]theorem zZA{k l n:Nat}:seen U g (k+1) false l n=zR4 k U[l]? n (fun cs=>.sl n (vwL (seen U g k) g cs)):=by
 simp only[seen,zR4];cases U[l]? with
 |none=>rfl
 |some o=>cases o<;>rfl
def zJW(o:Option AObj)(J:List A->A):A:=match o with
 |some (.box cs)=>J cs
 |_=>.any
@[simp]theorem zZ8:zJW (some (.box cs)) J=J cs:=rfl
@[simp]theorem zZ9{sz n:Nat}:zJW (some (.row fz e sz n cs)) J=.any:=rfl
@[simp]theorem zXD:zJW none J=.any:=rfl
@[simp]theorem qE9{k l n:Nat}:seen U g (k+1) true l n=zJW U[l]? (fun cs=>.rptr ((vwL (seen U g k) g cs).drop n)):=by
 simp only[seen,zJW];cases U[l]? with
 |none=>rfl
 |some o=>cases o<;>rfl
def zNq:List A->A
 |[x]=>x
 |l=>.tup l
@[simp]theorem zZH{x:A}:zNq [x]=x:=rfl
@[simp]theorem zZG:zNq []=.tup []:=rfl
@[simp]theorem zZI{x y:A}{l:wF}:zNq (x::y::l)=.tup (x::y::l):=rfl
def zEH(env:Env) (U:St):List RS->(List A->Prop)->Prop
 |[],J=>J []
 | .slot t::rs,J=>zEH env U rs fun l=>J (env t::l)
 | .cell a n agg::rs,J=>mD ((ldA U n (env a)).bind (fH agg)) fun r=>zEH env U rs fun l=>J (r::l)
@[simp]theorem qEz{J:List A->Prop}:zEH env U [] J=J []:=rfl
variable{rs:List RS}
@[simp]theorem zZ0{t:Nat}{J:List A->Prop}:zEH env U (.slot t::rs) J=zEH env U rs fun l=>J (env t::l):=rfl
@[simp]theorem zZz{a n:Nat}{agg:Bool}{J:List A->Prop}:zEH env U (.cell a n agg::rs) J=mD ((ldA U n (env a)).bind (fH agg)) fun r=>zEH env U rs fun l=>J (r::l):=rfl
theorem zHG:∀{rs:List RS} {J:List A->Prop},zEH env U rs J=match dT env U rs with|some l=>J l|none=>False
 |[],J=>rfl
 | .slot t::rs,J=>by simp only[zEH,dT,vD];rw[zHG];cases dT env U rs<;>rfl
 | .cell a n agg::rs,J=>by
  simp only[zEH,dT,vD];cases (ldA U n (env a)).bind (fH agg)with
  |none=>rfl
  |some r =>
   simp only[mD];rw[zHG];cases dT env U rs<;>rfl
@[simp]theorem qHc{R:Out->St->Prop}:zEI rs R env U = zEH env U rs fun l=>R (.ret (zNq l)) U:=by
 rw[zHG,zEI,zTD];cases dT env U rs with
 |none=>rfl
 |some l =>
  cases l with
  |nil=>rfl
  |cons x l=>cases l<;>rfl
def sM(n:Nat)(r:A) (U1:St)(o:Out) (U':St):Prop :=
 ∃(r':A) (ks:wA) (fuel:Nat),o=.ret r'/\(∀i,i<n->ks[i]?=some i)/\ks.Nodup/\bT U' (seen U' (qR ks) fuel) (qR ks) ks U1 /\
  (r=vw (seen U' (qR ks) fuel) (qR ks) r'\/r=nrm0 (vw (seen U' (qR ks) fuel) (qR ks) r'))
variable{r:A}{U0 U1:St}
theorem zG{fn:Func}{c:Code}{k:K}(hf:P.funcs[f]?=some fn)(hb:fn.body=some c)(hc:zK P fn.ntmps c=some k.erase)(hr:gX P fn.results.toList=some rs)
 {args:wF} (h:wpF P k rs args U0 (sM U0.length r U1)):Ret P f args U0 r U1:=zEJ (zIo hf hb hc hr h)
theorem zJ{hint:Nat->Option wE}{fn:Func}{c:Code}{k:K}(hf:P.funcs[f]?=some fn)(hb:fn.body=some c)(hc:qL P fn.ntmps hint c=some k.erase)(hr:gX P fn.results.toList=some rs)
 {args:wF} (h:wpF P k rs args U0 (sM U0.length r U1)):Ret P f args U0 r U1:=zEJ (pQ hf hb hc hr h)
variable{r':A}{U':St}
theorem zC(fuel:Nat)(h:r=vw (seen U' (fun _=>none) fuel) (fun _=>none) r'\/r=nrm0 (vw (seen U' (fun _=>none) fuel) (fun _=>none) r')):sM 0 r [] (.ret r') U' :=
 ⟨r',[],fuel,rfl,fun i hi=>by omega,by simp,trivial,h⟩
def kv:List Nat->Bool|[]=>true|a::l=>if l.contains a then false else kv l
theorem ku:∀{l:wA},kv l=true->l.Nodup
 |[],_=>List.nodup_nil
 |a::l,h=>by
  simp[kv] at h;exact List.nodup_cons.2 ⟨h.1,ku h.2⟩
def km(n:Nat)(l:wA):Bool:=if l.take n=List.range n then kv l else false
theorem kh{n:Nat}{l:wA}(h:km n l=true):l.Nodup:=by
 simp[km] at h;exact ku h.2
theorem kg{n:Nat}{l:wA}(h:km n l=true)(i:Nat)(hi:i<n):l[i]?=some i:=by
 simp[km] at h;rw[<-List.getElem?_take_of_lt hi,h.1];simp[hi]
theorem zF{n:Nat} (ks:wA)(fuel:Nat)(hk:∀i,i<n->ks[i]?=some i)(hd:ks.Nodup)(ho:bT U' (seen U' (qR ks) fuel) (qR ks) ks U1)
 (h:r=vw (seen U' (qR ks) fuel) (qR ks) r'\/r=nrm0 (vw (seen U' (qR ks) fuel) (qR ks) r')):sM n r U1 (.ret r') U':=⟨r',ks,fuel,rfl,hk,hd,ho,h⟩
theorem ke{n:Nat} (ks:wA)(fuel:Nat)(hk:km n ks=true)(ho:bT U' (seen U' (qR ks) fuel) (qR ks) ks U1)
 (h:r=vw (seen U' (qR ks) fuel) (qR ks) r'\/r=nrm0 (vw (seen U' (qR ks) fuel) (qR ks) r')):sM n r U1 (.ret r') U':=zF ks fuel (kg hk) (kh hk) ho h
theorem mv{n:Nat} (ks:wA)(fuel:Nat)(hk:km n ks=true)(h:(bT U' (seen U' (qR ks) fuel) (qR ks) ks U1)/\(r=vw (seen U' (qR ks) fuel) (qR ks) r'\/r=nrm0 (vw (seen U' (qR ks) fuel) (qR ks) r'))):sM n r U1 (.ret r') U':=ke ks fuel hk h.1 h.2
theorem zKd:∀{s:St} {j:Nat} {o:AObj},s[j]?=some o->s.set j o=s
 |[],_,_,h=>by simp at h
 |x::s,0,o,h=>by simp at h;simp[h]
 |x::s,j+1,o,h=>by simp only[jBi]at h;simp[zKd h]
theorem zP{args args':wF}(h:Ret P f args [] r [])(ha:eJ [] args' args)(hr:∀m,vw jW (fun l=>some (m+l)) r=r)(hq:K' (env.put d r) U):y6 P f args' U (outK d env K' Qp):=by
 refine cV h [] (by simp) trivial ha ?_;have:ren [] U.length r=r:=by
  have:=hr U.length
  simpa[ren]using this
 rw[this]
 simpa[outK]using hq
theorem mu{args args':wF}(h:Ret P f args [] r [])(e:(eJ [] args' args)/\∀m,vw jW (fun l=>some (m+l)) r=r)(hq:K' (env.put d r) U):y6 P f args' U (outK d env K' Qp):=zP h e.1 e.2 hq
theorem qB{args args':wF}(h:Ret P f args [] r [])(ha:eJ [] args' args)(hr:∀m,vw jW (fun l=>some (m+l)) r=r)(hq:KD (env.put d r)):zBw P U d KD f args' env:=by
 refine⟨r,cV h [] (by simp) trivial ha ?_,hq⟩;have:ren [] U.length r=r:=by
  have:=hr U.length
  simpa[ren]using this
 rw[this];simp
theorem zR{args args':wF} (h:Ret P f args U0 r U1)(js:wA)(hd:js.Nodup)(ho:bT U jW (qR js) js U0)(ha:eJ js args' args)
 (hq:K' (env.put d (ren js U.length r)) (j9 U js (U1.map (fE js U.length)))):y6 P f args' U (outK d env K' Qp):=cV h js hd ho ha (by simpa[outK]using hq)
theorem mr{args args':wF} (h:Ret P f args U0 r U1)(js:wA)(e:(js.Nodup)/\(bT U jW (qR js) js U0)/\eJ js args' args)
 (hq:K' (env.put d (ren js U.length r)) (j9 U js (U1.map (fE js U.length)))):y6 P f args' U (outK d env K' Qp):=zR h js e.1 e.2.1 e.2.2 hq
def zUz{S:Type}(E:S->List (Nat×A))(T:S->St)(I:S->Prop) (μ:S->Nat)(n:Nat)(e:Env)(t:St):Prop:=∃s,I s/\μ s=n/\e=jR (E s)/\t=T s
theorem qH{S:Type}{W:(Ex->wK)->wK}(E:S->List (Nat×A))(T:S->St)(I:S->Prop) (μ:S->Nat)(s0:S)(h0:I s0)(start:fI n0 (jR (E s0)) (T s0) env U)
 (round:∀s,I s->W (rnd n0 (zUz E T I μ) (μ s) Q) (jR (E s)) (T s)):zIa n0 W Q env U:=zTq E T I μ s0 h0 start round
theorem zN{S:Type}{E:S->List (Nat×A)}{T:S->St}{I:S->Prop} {μ:S->Nat}{n:Nat}(s:S)(hs:I s)(hm : μ s<n)(hw:fI n0 (jR (E s)) (T s) env U):rnd n0 (zUz E T I μ) n Q .norm env U :=
 zX6 s hs hm hw
theorem zL(ks:wA)(fuel:Nat){l:List (Nat×A)} (hk:∀i,i<n0->ks[i]?=some i)(hd:ks.Nodup)(ho:bT U (seen U (qR ks) fuel) (qR ks) ks U')
 (hl:∀p∈l,p.2=vw (seen U (qR ks) fuel) (qR ks) (env p.1)\/p.2=nrm0 (vw (seen U (qR ks) fuel) (qR ks) (env p.1))):fI n0 (jR l) U' env U:=fI.sel ks fuel l hk hd ho hl
theorem kf(ks:wA)(fuel:Nat){l:List (Nat×A)} (hk:km n0 ks=true)(ho:bT U (seen U (qR ks) fuel) (qR ks) ks U')
 (hl:∀p∈l,p.2=vw (seen U (qR ks) fuel) (qR ks) (env p.1)\/p.2=nrm0 (vw (seen U (qR ks) fuel) (qR ks) (env p.1))):fI n0 (jR l) U' env U:=zL ks fuel (kg hk) (kh hk) ho hl
theorem mw(ks:wA)(fuel:Nat){l:List (Nat×A)} (hk:km n0 ks=true)(h:(bT U (seen U (qR ks) fuel) (qR ks) ks U')/\∀p∈l,p.2=vw (seen U (qR ks) fuel) (qR ks) (env p.1)\/p.2=nrm0 (vw (seen U (qR ks) fuel) (qR ks) (env p.1))):fI n0 (jR l) U' env U:=kf ks fuel hk h.1 h.2
end
end Go.Abs
namespace Go.Abs
section
variable{P:Program}{KD:Env->Prop}{env:Env} {U:St}{d:wD}
variable{f:FuncId}
theorem b9{args args':wF}{r:A}(h:Ret P f args [] r [])(ha:eJ [] args' args)(hr:∀m,vw jW (fun l=>some (m+l)) r=r)(hq:KD (env.put d r)):uK P U d KD f args' env:=by
 refine⟨r,fun τ _=>cV h [] (by simp) trivial ha ?_,hq⟩;have:ren [] τ.length r=r:=by
  have:=hr τ.length
  simpa[ren]using this
 rw[this];simp
def rW(U:St)(js:wA):List Nat->St->Prop
 |[],[]=>True
 |j::ks,o::os=>(zJ9 U[j]? fun p=>(∃cs,p=.box cs)/\(∀n,fE js n o=p)/\(o=vwO jW (qR js) p\/o=vJ (vwO jW (qR js) p)))/\rW U js ks os
 |_,_=>False
@[simp]theorem zXC{js:wA}:rW U js [] []:=trivial
@[simp]theorem zV2{js ks:wA}{j:Nat}{o:AObj}{os:St}:rW U js (j::ks) (o::os)=((zJ9 U[j]? fun p=>(∃cs,p=.box cs)/\(∀n,fE js n o=p)/\(o=vwO jW (qR js) p\/o=vJ (vwO jW (qR js) p)))/\rW U js ks os):=rfl
theorem uC{js:wA} {τ:St}(hk:y7 U τ):∀{ks:wA} {os:St},rW U js ks os->rW τ js ks os
 |[],[],_=>trivial
 |j::ks,o::os,h=>by
  obtain⟨h1,h2⟩:=h;refine⟨?_,uC hk h2⟩;cases hj : U[j]? with
  |none=>rw[hj]at h1;exact h1.elim
  |some p =>
   rw[hj]at h1;obtain⟨⟨cs,rfl⟩,h3⟩:=h1;rw[hk j cs hj];exact⟨⟨cs,rfl⟩,h3⟩
 |[],_::_,h=>h.elim
 |_::_,[],h=>h.elim
theorem zEM{js:wA}:∀{ks:wA} {os:St},rW U js ks os->bT U jW (qR js) ks os
 |[],[],_=>trivial
 |j::ks,o::os,h=>by
  obtain⟨h1,h2⟩:=h;refine⟨?_,zEM h2⟩;cases hj : U[j]? with
  |none=>rw[hj]at h1;exact h1.elim
  |some p=>rw[hj]at h1;exact h1.2.2
 |[],_::_,h=>h.elim
 |_::_,[],h=>h.elim
theorem zEL{js:wA}{n:Nat}:∀{ks:wA} {os:St},rW U js ks os->j9 U ks (os.map (fE js n)) = U
 |[],[],_=>by simp
 |j::ks,o::os,h=>by
  obtain⟨h1,h2⟩:=h;cases hj : U[j]? with
  |none=>rw[hj]at h1;exact h1.elim
  |some p =>
   rw[hj]at h1;simp only[jAc,zCR];rw[h1.2.1 n,zKd hj];exact zEL h2
 |[],_::_,h=>h.elim
 |_::_,[],h=>h.elim
theorem zHe{args args':wF} {U0:St}{r:A}(h:Ret P f args U0 r U0)(js:wA)(hd:js.Nodup)(ho:rW U js js U0)(ha:eJ js args' args)(hr:∀n,ren js n r=r)(hq:KD (env.put d r)) :
 uK P U d KD f args' env:=by
 refine⟨r,fun τ hk=>cV h js hd (zEM (uC hk ho)) ha ?_,hq⟩;rw[hr,zEL (uC hk ho)];simp
end
end Go.Abs
namespace Go.Abs
section
variable{P:Program}{Qp:Value->wK}{Qd:Value->St->Prop}{K':wK}{env:Env} {U:St}{d:wD}{x y:Operand}
def zJ1(a:A)(J:A->Prop):Prop:=match a with
 | .ptr l o=>J (.ptr l o)
 | .rptr cs=>J (.rptr cs)
 |_=>False
variable{l:Nat}
@[simp]theorem zZb{o:Nat}{J:A->Prop}:zJ1 (.ptr l o) J=J (.ptr l o):=rfl
variable{cs:wF}
@[simp]theorem zXk{J:A->Prop}:zJ1 (.rptr cs) J=J (.rptr cs):=rfl
theorem zOB{J:A->Prop}:qZ (zO env U (.nilc d x)) J=zJ1 (ev env x) J:=by simp only[zO,zJ1,qZ];generalize ev env x=a;cases a<;>simp
@[simp]theorem qFl:wpO P Qp K' (.nilc d x) env U = zJ1 (ev env x) fun r=>K' (env.put d r) U:=zOB (d:=d)
@[simp]theorem zYd{fl:Nat}:jJ P Qd fl K' (.nilc d x) env U = wpO P cF K' (.nilc d x) env U:=by simp[jJ,KOp.lite,KOp.keeps]
def zEl:List A->(List Int->Prop)->Prop
 |[],J=>J []
 | .lit (.int .i64 n)::l,J=>zEl l fun ks=>J (n::ks)
 |_,_=>False
variable{J:List Int->Prop}
@[simp]theorem zYV:zEl [] J=J []:=rfl
@[simp]theorem zXi{n:Int}{l:wF}:zEl (.lit (.int .i64 n)::l) J=zEl l fun ks=>J (n::ks):=rfl
theorem zJo:∀(l:wF) (J:List Int->Prop),zEl l J=match vV l with|some ks=>J ks|none=>False
 |[],J=>rfl
 |a::l,J=>by
  cases a<;>try rfl
  rename_i v;cases v<;>try rfl
  rename_i k n;cases k<;>try rfl
  simp only[zEl,vV,zJo l];cases vV l<;>rfl
def zF5(nk:Nat)(k:A)(J:List Int->Prop):Prop:=match x8 nk k with
 |some ks=>J ks
 |none=>False
variable{nk:Nat}
@[simp]theorem qDr:zF5 nk (.agg cs) J=zEl cs fun ks=>(ks.length=nk/\nk≠1)/\J ks:=by
 simp only[zF5,x8,zJo];cases vV cs with
 |none=>rfl
 |some ks =>
  simp only;by_cases h:ks.length=nk/\nk≠1<;>simp[h]
@[simp]theorem qDs{n:Int}:zF5 nk (.lit (.int .i64 n)) J=(nk=1/\J [n]):=by simp only[zF5,x8];by_cases h:nk=1<;>simp[h]
def zBT(o:Option AObj)(J:Bool->Nat->List (wC×A)->Prop):Prop:=match o with
 |some (.mp fr nk es)=>J fr nk es
 |_=>False
@[simp]theorem zZa{fr:Bool}{es:List (wC×A)}{J:Bool->Nat->List (wC×A)->Prop}:zBT (some (.mp fr nk es)) J=J fr nk es:=rfl
def zQQ(o:Option AObj)(J:Nat->Nat->List Nat->Prop):Prop:=match o with
 |some (.it m n met)=>J m n met
 |_=>False
@[simp]theorem zYU{m n:Nat}{met:wA}{J:Nat->Nat->List Nat->Prop}:zQQ (some (.it m n met)) J=J m n met:=rfl
@[simp]theorem qHR{m:MOp}{xs:List Operand}:wpO P Qp K' (.mop d m xs) env U = dF m (xs.map (ev env)) (fun r τ=>K' (env.put d r) τ) U:=by simp only[wpO]
variable{K:A->St->Prop}
@[simp]theorem qGP:dF (.mk nk) [] K U = K (.map U.length) (U++[.mp true nk []]):=rfl
@[simp]theorem qDG{z:Value}{ok:Bool}{k:A}:dF (.get nk z ok) [.map l,k] K U = zF5 nk k fun ks=>zBT U[l]? fun _ nk' es=>nk'=nk/\K (tJ z ok (bP ks es)) U:=by
 simp only[dF,zF5,zBT];cases x8 nk k with
 |none=>rfl
 |some ks =>
  cases U[l]? with
  |none=>rfl
  |some o=>cases o<;>rfl
@[simp]theorem qDK{k v:A}:dF (.set nk) [.map l,k,v] K U = zF5 nk k fun ks=>zBT U[l]? fun fr nk' es=>nk'=nk/\K (.lit undef) (U.set l (.mp fr nk (mG ks v es))):=by
 simp only[dF,zF5,zBT];cases x8 nk k with
 |none=>rfl
 |some ks =>
  cases U[l]? with
  |none=>rfl
  |some o=>cases o<;>rfl
@[simp]theorem qDE{k:A}:dF (.del nk) [.map l,k] K U = zF5 nk k fun ks=>zBT U[l]? fun _ nk' es=>nk'=nk/\K (.tup []) (U.set l (.mp false nk (zBF ks es))):=by
 simp only[dF,zF5,zBT];cases x8 nk k with
 |none=>rfl
 |some ks =>
  cases U[l]? with
  |none=>rfl
  |some o=>cases o<;>rfl
@[simp]theorem qDJ:dF .rng [.map l] K U = zBT U[l]? fun fr _ es=>fr=true/\K (.ptr U.length 0) (U++[.it l es.length []]):=by
 simp only[dF,zBT];cases U[l]? with
 |none=>rfl
 |some o =>
  cases o<;>try rfl
  rename_i fr nk es;cases fr<;>simp
@[simp]theorem qDI{j:Nat}:dF .nxt [.ptr j 0] K U = zQQ U[j]? fun l n met=>zBT U[l]? fun fr _ es=>fr=true/\n=es.length /\
 (∀(i:Nat) (p:wC×A),i∉met->es[i]?=some p->K (.tup [.lit (.bool true),zAS p.1,p.2]) (U.set j (.it l n (met++[i]))))/\((∀i,i<n->i∈met)->K (.tup [.lit (.bool false)]) U):=by
 simp only[dF,zBT,zQQ];cases U[j]? with
 |none=>rfl
 |some o =>
  cases o<;>try rfl
  rename_i l n met;simp only;cases U[l]? with
  |none=>rfl
  |some o =>
   cases o<;>try rfl
   rename_i fr nk es;cases fr<;>simp
@[simp]theorem qDF{j:Nat}:dF .ent [.ptr j 0] K U = zQQ U[j]? fun l n met=>zBT U[l]? fun fr _ es=>fr=true/\∃i p,met.getLast?=some i/\es[i]?=some p/\n=es.length/\K (.tup [zAS p.1,p.2]) U:=by
 simp only[dF,zBT,zQQ];cases U[j]? with
 |none=>rfl
 |some o =>
  cases o<;>try rfl
  rename_i l n met;simp only;cases U[l]? with
  |none=>rfl
  |some o =>
   cases o<;>try(cases met.getLast?<;>rfl)
   rename_i fr nk es;cases fr
   .cases met.getLast?<;>simp
   .cases met.getLast? with
    |none=>simp
    |some i =>
     simp only;apply propext;cases hp:es[i]? with
     |none =>
      refine⟨fun h=>h.2.elim,?_⟩;rintro⟨_,i',p',h1,h2,_⟩;have h1:=jAw h1;subst h1;rw[hp]at h2;exact absurd h2 (by simp)
     |some p =>
      refine⟨fun h=>⟨trivial,i,p,rfl,hp,h.1,h.2⟩,?_⟩;rintro⟨_,i',p',h1,h2,h3,h4⟩;have h1:=jAw h1;subst h1;rw[hp]at h2;have h2:=jAw h2;subst h2;exact⟨h3,h4⟩
@[simp]theorem qDC{sz:Nat}{zs:wM}{l n o k c:Nat}:dF (.clr sz zs) [.win l n o k c] K U = (match U[l]? with
 |some (.row fz e s m cs)=>(n=m/\s=sz/\fz=false/\o+k*sz<=cs.length)/\K (.tup []) (U.set l (.row false e sz n (cs.take o++(List.replicate k (zs.map q9)).flatten++cs.drop (o+k*sz))))
 |_=>False):=rfl
@[simp]theorem qDH{e:TypeId}{sz bytes:Nat}{zs:wM}{k k':IntKind}{n c:Int}:dF (.mks e sz bytes zs) [.lit (.int k n),.lit (.int k' c)] K U = ((0<=n/\c=n/\n<=1000000000000/\bytes*n.toNat<=281474976710656)/\K (.row U.length n.toNat) (U++[.row false e sz n.toNat ((List.replicate n.toNat (zs.map q9)).flatten)])):=rfl
@[simp]theorem qDD{k k':IntKind}{n:Int}:dF (.cvt k) [.lit (.int k' n)] K U = K (.lit (.int k (k.wrap n))) U:=rfl
@[simp]theorem zYZ{n:Nat}:dF .str [.fsl n cs] K U = (match tT cs with
 |some xs=>(xs.length=n/\n≠0)/\K (.lit (.string (strOfNums xs))) U
 |none=>False):=rfl
@[simp]theorem zYY{xs:wF}:dF .boom xs K U = False:=by cases xs<;>rfl
@[simp]theorem qH3{rf:Bool->Nat->Nat->A}{g:Nat->wD}(ks:wC):vw rf g (zAS ks)=zAS ks:=by
 have:∀ks:wC,vwL rf g (ks.map fun n=>A.lit (.int .i64 n))=ks.map fun n=>A.lit (.int .i64 n):=fun ks=>by
  induction ks with
  |nil=>rfl
  |cons k ks ih=>simp[vwL,ih]
 match ks with
 |[]=>simp[zAS]
 |[n]=>simp[zAS]
 |a::b::ks=>simp only[zAS,zXV,this]
end
end Go.Abs
namespace Go.Abs
attribute [simp] A.bnd bY AObj.bnd zCz
@[simp]theorem qHY{b k:Nat}:(yv b).bnd k=true:=rfl
section
variable{P:Program}{Qp:Value->wK}{Qd:Value->St->Prop}{K':wK}{env:Env} {U:St}{d:wD}{x:Operand}
def zXh:A->Option Int
 | .lit (.int _ j)=>some j
 |_=>none
variable{j:Int}
@[simp]theorem qD5{k:IntKind}:zXh (.lit (.int k j))=some j:=rfl
@[simp]theorem zU1{n:Nat}:qQ env n none=some (n:Int):=rfl
@[simp]theorem zU2{n:Nat}:qQ env n (some x)=zXh (ev env x):=by
 simp only[qQ,zXh];cases ev env x with
 |lit u=>cases u<;>rfl
 |_=>rfl
def nM(a b:Option Int)(J:Int->Int->Prop):Prop:=match a,b with
 |some l,some h=>J l h
 |_,_=>False
@[simp]theorem zVR{l h:Int}{J:Int->Int->Prop}:nM (some l) (some h) J=J l h:=rfl
def zR8(a:A)(lo:Option Int)(hi:Nat->Option Int)(sz:Nat)(J:A->Prop):Prop:=match a with
 | .sl n cs=>nM lo (hi n) fun l h=>(0<=l/\l<=h/\h<=n)/\J (.sl (h-l).toNat ((cs.drop (l.toNat*sz)).take ((h-l).toNat*sz)))
 | .fsl n cs=>nM lo (hi n) fun l h=>(0<=l/\l<=h/\h<=n)/\J (.sl (h-l).toNat ((cs.drop (l.toNat*sz)).take ((h-l).toNat*sz)))
 | .nil=>nM lo (hi 0) fun l h=>(l=0/\h=0)/\J .nil
 |_=>False
variable{J:A->Prop}{cs:wF}{lo:Option Int}{hi:Nat->Option Int}{sz:Nat}
@[simp]theorem qHj{n:Nat}:zR8 (.sl n cs) lo hi sz J=nM lo (hi n) fun l h=>(0<=l/\l<=h/\h<=n)/\J (.sl (h-l).toNat ((cs.drop (l.toNat*sz)).take ((h-l).toNat*sz))):=rfl
@[simp]theorem qEC{n:Nat}:zR8 (.fsl n cs) lo hi sz J=nM lo (hi n) fun l h=>(0<=l/\l<=h/\h<=n)/\J (.sl (h-l).toNat ((cs.drop (l.toNat*sz)).take ((h-l).toNat*sz))):=rfl
@[simp]theorem qED:zR8 .nil lo hi sz J=nM lo (hi 0) fun l h=>(l=0/\h=0)/\J .nil:=rfl
@[simp]theorem qHX{lo hi:Option Operand}:wpO P Qp K' (.slc d x sz lo hi none) env U = zR8 (ev env x) (qQ env 0 lo) (fun n=>qQ env n hi) sz fun r=>K' (env.put d r) U:=by
 show qZ (zO env U (.slc d x sz lo hi none)) _=_;simp only[zO,zR8];generalize ev env x=a;cases a<;>try rfl
 all_goals
  simp only[nM];generalize qQ env _ lo=u;generalize qQ env _ hi=v;cases u<;>cases v<;>rfl
def sF(o:Option AObj)(n sz:Nat)(J:Prop):Prop:=match o with
 |some (.row _ _ s m _)=>if n=m/\s=sz then J else False
 |_=>False
variable{fz:Bool}
@[simp]theorem zX9{e s n m sz:Nat}{J:Prop}:sF (some (.row fz e s m cs)) n sz J=((n=m/\s=sz)/\J):=by simp only[sF];by_cases h:n=m/\s=sz<;>simp[h]
def zG7(U:St)(a:A)(lo:Option Int)(hi:Nat->Option Int)(sz:Nat)(J:A->Prop):Prop:=match a with
 | .row l n=>sF U[l]? n sz (nM lo (hi n) fun l' h=>(0<=l'/\l'<=h/\h<=n)/\J (.win l n (l'.toNat*sz) (h-l').toNat sz))
 | .win l n o k c=>sF U[l]? n sz (nM lo (hi k) fun l' h=>((0<=l'/\l'<=h/\h<=k)/\c=sz)/\J (.win l n (o+l'.toNat*sz) (h-l').toNat sz))
 |_=>False
@[simp]theorem zZ2{l n:Nat}:zG7 U (.row l n) lo hi sz J=sF U[l]? n sz (nM lo (hi n) fun l' h=>(0<=l'/\l'<=h/\h<=n)/\J (.win l n (l'.toNat*sz) (h-l').toNat sz)):=rfl
@[simp]theorem zZ3{l n o k c:Nat}:zG7 U (.win l n o k c) lo hi sz J=sF U[l]? n sz (nM lo (hi k) fun l' h=>((0<=l'/\l'<=h/\h<=k)/\c=sz)/\J (.win l n (o+l'.toNat*sz) (h-l').toNat sz)):=rfl
theorem zG8{lo hi:Option Operand}:qZ (zO env U (.rslc d x sz lo hi)) J=zG7 U (ev env x) (qQ env 0 lo) (fun n=>qQ env n hi) sz J:=by
 simp only[zO,zG7];generalize ev env x=a;have key:∀(ob:Option AObj) (n k:Nat) (f:Int->Int->Prop×A),qZ (match ob with
  |some (.row _ _ s m _)=>if n=m/\s=sz then (match qQ env 0 lo,qQ env k hi with
   |some l',some h=>some (f l' h)
   |_,_=>none)else none
  |_=>none) J=sF ob n sz (nM (qQ env 0 lo) (qQ env k hi) fun l' h=>(f l' h).1/\J (f l' h).2):=by
  intro ob n k f;simp only[sF,nM];cases ob with
  |none=>rfl
  |some ob =>
   cases ob<;>try rfl
   simp only;split
   .generalize qQ env 0 lo=u;generalize qQ env k hi=v;cases u<;>cases v<;>rfl
   .rfl
 cases a<;>try rfl
 .rename_i l n;exact key U[l]? n n fun l' h=>(0<=l'/\l'<=h/\h<=n,.win l n (l'.toNat*sz) (h-l').toNat sz)
 .rename_i l n o k c;exact key U[l]? n k fun l' h=>((0<=l'/\l'<=h/\h<=k)/\c=sz,.win l n (o+l'.toNat*sz) (h-l').toNat sz)
@[simp]theorem qFn{lo hi:Option Operand}:wpO P Qp K' (.rslc d x sz lo hi) env U = zG7 U (ev env x) (qQ env 0 lo) (fun n=>qQ env n hi) sz fun r=>K' (env.put d r) U:=zG8 (d:=d)
@[simp]theorem zYf{fl:Nat}{lo hi:Option Operand}:jJ P Qd fl K' (.rslc d x sz lo hi) env U = zG7 (m9 fl U) (ev env x) (qQ env 0 lo) (fun n=>qQ env n hi) sz fun r=>K' (env.put d r) U:=zG8 (d:=d)
@[simp]theorem qDi{sz l n:Nat}{k:IntKind}:tN U sz (.row l n) (.lit (.int k j)) J=sF U[l]? n sz ((0<=j/\j<n)/\J (.rwp l n (j.toNat*sz))):=by
 simp only[tN,sF];cases U[l]? with
 |none=>rfl
 |some o=>cases o<;>rfl
@[simp]theorem qDj{sz l n o k' c:Nat}{k:IntKind}:tN U sz (.win l n o k' c) (.lit (.int k j)) J=sF U[l]? n sz ((0<=j/\j<k')/\J (.rwp l n (o+j.toNat*sz))):=by
 simp only[tN,sF];cases U[l]? with
 |none=>rfl
 |some o=>cases o<;>rfl
def zCW(o:Option AObj)(n:Nat)(J:Prop):Prop:=match o with
 |some (.row _ _ _ m _)=>if n=m then J else False
 |_=>False
@[simp]theorem zX8{e s n m:Nat}{J:Prop}:zCW (some (.row fz e s m cs)) n J=(n=m/\J):=by simp only[zCW];by_cases h:n=m<;>simp[h]
@[simp]theorem qD2{l n:Nat}:oY U (.row l n) J=zCW U[l]? n (J (.lit (.int .i64 n))):=by
 simp only[oY,zCW];cases U[l]? with
 |none=>rfl
 |some o=>cases o<;>rfl
@[simp]theorem qD3{l n o k c:Nat}:oY U (.win l n o k c) J=zCW U[l]? n (J (.lit (.int .i64 k))):=by
 simp only[oY,zCW];cases U[l]? with
 |none=>rfl
 |some o=>cases o<;>rfl
@[simp]theorem qDz{l n o k c:Nat}:zF6 U (.win l n o k c) J=zCW U[l]? n (J (.lit (.int .i64 k))):=by
 simp only[zF6,zCW];cases U[l]? with
 |none=>rfl
 |some o=>cases o<;>rfl
def zPK(ob:Option AObj)(l n o off:Nat):Option A:=match ob with
 |some (.row _ _ _ m _)=>if n=m then some (.rwp l n (o+off))else none
 |_=>none
@[simp]theorem zVJ{e s n m l o off:Nat}:zPK (some (.row fz e s m cs)) l n o off=if n=m then some (.rwp l n (o+off))else none:=rfl
@[simp]theorem zYk{l n o off:Nat}:zCv U off (.rwp l n o)=zPK U[l]? l n o off:=by
 simp only[zCv,zPK];cases U[l]? with
 |none=>rfl
 |some o=>cases o<;>rfl
end
mutual
theorem zCq{rf:Bool->Nat->Nat->A}{g:Nat->wD}{k:Nat}(hg:∀l,l<k->g l=some l):∀(a:A),a.bnd k=true->vw rf g a=a
 | .any,_=>by simp
 | .nil,_=>by simp
 | .lit _,_=>by simp
 | .agg cs,h=>by simp[hG hg cs h]
 | .tup cs,h=>by simp[hG hg cs h]
 | .sl _ cs,h=>by simp[hG hg cs h]
 | .fsl _ cs,h=>by simp[hG hg cs h]
 | .rptr cs,h=>by simp[hG hg cs h]
 | .ptr l _,h=>by simp[hg l (by simpa using h)]
 | .row l _,h=>by simp[hg l (by simpa using h)]
 | .rwp l _ _,h=>by simp[hg l (by simpa using h)]
 | .win l _ _ _ _,h=>by simp[hg l (by simpa[A.bnd]using h)]
 | .map l,h=>by simp only[vw];rw[hg l (by simpa using h)]
 | .clo _ fs cs,h=>by simp only[A.bnd,jA7]at h;simp[hG hg fs h.1,hG hg cs h.2]
theorem hG{rf:Bool->Nat->Nat->A}{g:Nat->wD}{k:Nat}(hg:∀l,l<k->g l=some l):∀(cs:wF),bY k cs=true->vwL rf g cs=cs
 |[],_=>by simp
 |c::cs,h=>by simp only[bY,jA7]at h;simp[zCq hg c h.1,hG hg cs h.2]
end
theorem zNt{rf:Bool->Nat->Nat->A}{g:Nat->wD}{k:Nat}(hg:∀l,l<k->g l=some l)(o:AObj)(h:o.bnd k=true):vwO rf g o=o:=by
 cases o with
 |dead=>rfl
 |box cs=>simp only[AObj.bnd]at h;simp[hG hg cs h]
 |row fz e sz n cs=>simp only[AObj.bnd]at h;simp[hG hg cs h]
 |lp b r M es =>
  simp only[AObj.bnd,jB0]at h;simp only[zXT,AObj.lp.injEq,true_and]
  conv=>rhs;rw[<-List.map_id es]
  exact jC6 fun p hp=>by rw[zCq hg _ (h p hp)];rfl
 |mp fr nk es =>
  simp only[AObj.bnd,jB0]at h;simp only[zXU,AObj.mp.injEq,true_and]
  conv=>rhs;rw[<-List.map_id es]
  exact jC6 fun p hp=>by rw[zCq hg _ (h p hp)];rfl
 |it m n met =>
  simp only[AObj.bnd,decide_eq_true_eq]at h;rw[zXS,hg m h]
 |rsv=>rfl
theorem zCd:∀{l:wA} {x:Nat} {r:wA},x∉l->qR (l++r) x=(qR r x).map (· + l.length)
 |[],x,r,_=>by simp
 |y::l,x,r,h=>by
  simp only[jA3,not_or]at h;simp only[jBf,zAc,h.1,if_false,zCd h.2,Option.map_map]
  congr 1
theorem zE9:∀{l:wA} {x i:Nat} {r:wA},qR l x=some i->qR (l++r) x=some i
 |[],x,i,r,h=>by simp at h
 |y::l,x,i,r,h=>by
  simp only[jBf,zAc]at h⊢;split
  .rename_i e;simpa[e]using h
  .rename_i e;simp only[e,if_false,jAe]at h;obtain⟨j,hj,rfl⟩:=h;rw[zE9 hj];rfl
theorem zCQ:∀{k l:Nat},l<k->qR (List.range k) l=some l
 |k+1,l,h=>by
  rw[List.range_succ];rcases jAz l k with hl|hl
  .exact zE9 (zCQ hl)
  .have e:l=k:=by omega
   subst e;rw[zCd (by simp)];simp
def Cl(m:Nat)(S:St):Prop:=S.length=m/\∀o∈S,o.bnd m=true
theorem Cl.app{m k:Nat}{S own:St}(h:Cl m S)(hk:own.length=k)(ho:∀o∈own,o.bnd (m+k)=true):Cl (m+k) (S++own):=by
 refine⟨by simp[h.1,hk],fun o hm=>?_⟩;rcases jA6.1 hm with hm|hm
 .exact AObj.bnd_mono (Nat.le_add_right m k) _ (h.2 o hm)
 .exact ho o hm
section
variable{P:Program}{n0:Nat}{Qp:Value->wK}{Qd:Value->St->Prop}{K':wK}{KD:Env->Prop}{Q:Ex->wK}{env:Env} {U:St}{d:wD}
theorem zDo{m k:Nat}{S own:St}(h:S.length=m):(S++own)[m+k]?=own[k]?:=by rw[jB8 (by omega)];congr 1;omega
variable{m:Nat}
theorem tK{S own:St}(h:S.length=m):(S++own)[m]?=own[0]?:=by rw[jB8 (by omega)];congr 1;omega
variable{o:AObj}
theorem zDt{m k:Nat}{S own:St}(h:S.length=m):(S++own).set (m+k) o=S++own.set k o:=by rw[List.set_append_right _ _ (by omega)];congr 2;omega
theorem zER{S own:St}(h:S.length=m):(S++own).set m o=S++own.set 0 o:=by rw[List.set_append_right _ _ (by omega)];congr 2;omega
theorem zJX{rf:Bool->Nat->Nat->A}{g:Nat->wD}{m:Nat}(hg:∀l,l<m->g l=some l) {U:St}:∀(k:Nat) (S:St),k+S.length<=m->(∀i o,S[i]?=some o->U[k+i]?=some o)->(∀o∈S,o.bnd m=true)->bT U rf g (List.range' k S.length) S
 |_,[],_,_,_=>trivial
 |k,o::S,hk,h,hb=>by simp only[jAb,List.range'_succ,zLS];refine⟨?_,zJX hg (k+1) S (by simp only[jAb]at hk;omega) (fun i o' hi=>by have:=h (i+1) o' (by simpa using hi);rwa[show k+1+i=k+(i+1) by omega]) (fun o' ho'=>hb o' (jAi _ ho'))⟩;have:=h 0 o (by simp);simp only[jCf]at this;rw[this];exact .inl (zNt hg o (hb o (jAp ..))).symm
theorem zNg{rf:Bool->Nat->Nat->A}{S own:St}(h:Cl m S):bT (S++own) rf (qR (List.range m)) (List.range m) S:=by have:=zJX (rf:=rf) (g:=qR (List.range m)) (m:=m) (fun l hl=>zCQ hl) (U:=S++own) 0 S (by rw[h.1];omega) (fun i o hi=>by rw[jAx,jAo (jA5.1 hi).1];exact hi) h.2;rw[h.1,<-List.range_eq_range']at this;exact this
theorem zCw:∀{k j n l:Nat},l<k->eT (List.range' j k) n l=j+l
 |k+1,j,n,0,_=>by simp[List.range'_succ]
 |k+1,j,n,l+1,h=>by simp only[List.range'_succ,zN1];rw[zCw (by omega)];omega
theorem zK7{k n l:Nat}(h:l<k):eT (List.range k) n l=l:=by rw[List.range_eq_range',zCw h];omega
theorem zEB:∀{S' S own:St} (k:Nat) (pre:St),pre.length=k->S'.length=S.length->j9 (pre++S++own) (List.range' k S.length) S'=pre++S'++own
 |[],[],own,k,pre,_,_=>by simp
 |o'::S',o::S,own,k,pre,hk,hl=>by
  simp only[jAb,List.range'_succ,zCR];have e:(pre++(o::S)++own).set k o'=(pre++[o'])++S++own:=by subst hk;simp
  rw[e,zEB (k+1) (pre++[o']) (by simp[hk]) (by simpa using hl)];simp
 |[],o::S,_,_,_,_,hl=>by simp at hl
 |_::_,[],_,_,_,_,hl=>by simp at hl
theorem zFM{b:Nat}{S S' own:St}{x args:wF}(h:Cl m S)(h':Cl m S')(hy:iB P b x S fun o τ=>o=.ret (.lit (.bool true))/\τ = S')(ha:eJ (List.range m) args x){Q:Out->St->Prop}(hq:Q (.ret (.lit (.bool true))) (S'++own)) :
 iB P b args (S++own) Q:=by
 refine zNC hy (List.range m) List.nodup_range (zNg h) ha ?_;have e:S'.map (fE (List.range m) (S++own).length)=S':=by
  conv=>rhs;rw[<-List.map_id S']
  exact jC6 fun o ho=>by simp only[fE,id];exact zNt (fun l hl=>by rw[zK7 hl]) o (h'.2 o ho)
 rw[e];have:=zEB (own:=own) 0 [] rfl (by rw[h.1,h'.1]:S'.length=S.length);rw[h.1,<-List.range_eq_range']at this;simp only[jBp]at this;rw[this]
 simpa[ren]using hq
variable{e:TypeId}{sz:Nat}{cs:wF}
theorem zMS{H:Mem}{L:wO}{w:World}(hs:RelSt H L U w){l n:Nat}{v:Value}(hU:U[l]?=some (.row false e sz n cs))(hv:Rel H L (.row l n) v) :
 ∃H',Nxt H L w H' L (U.set l (.row true e sz n cs)) w/\Rel H' L (.sl n cs) v:=by
 simp only[Rel]at hv;obtain⟨_,li,e1,e2,e3,hv⟩:=hv;have hob:=hs.obj l li _ e1 hU;simp only[zW]at hob;obtain⟨_,hln,hcl,hob⟩:=hob;have hv:=hv hln.symm;rcases hob with ⟨hb,h0⟩|⟨b,cur,hb,hh,k1,k2,k3,k4,k5,k6⟩
 .rw[hb]at hv;subst h0;have hcs:cs=[]:=jBt (by simpa using hcl);refine⟨H,⟨⟨hs.pers,by simp[hs.len],fun i x o hL ho=>?_,hs.inj,hs.lt⟩,Step.refl _ _ _,LLe.refl _,fun _ h=>.inl h⟩,?_⟩
  .by_cases hi:i=l
   .subst hi;rw[e1]at hL;cases hL;rw[jAm (jA5.1 hU).1]at ho;cases ho;simp only[zW];exact⟨e2,hln,hcl,.inl ⟨hb,trivial⟩⟩
   .rw[jAd (Ne.symm hi)]at ho;exact hs.obj i x o hL ho
  .simp only[Rel];exact⟨none,0,hv,jA _,jB _,.inl ⟨trivial,hcs⟩⟩
 .rw[hb]at hv;have hcell:∀(j:Nat) u,(cur.toList.take (n*sz))[j]?=some u->w.cell? ⟨b,j,none⟩=some u:=fun j u hu=>by
   rw[cell_of_row w b j cur e (0,0) hh];rw[jBc]at hu;split at hu
   .simpa using hu
   .cases hu
  have hA:=rD (H:=H) (B:=b) (us:=cur.toList.take (n*sz)) (fun o v hv'=>by rw[k6]at hv';cases hv');have hle:HLe H (zF1 H b (cur.toList.take (n*sz))):=fun b' o' v' hv'=>by
   simp only[hA];split
   .rename_i e;subst e;rw[k6]at hv';cases hv'
   .exact hv'
  have hat:At (zF1 H b (cur.toList.take (n*sz))) b 0 (cur.toList.take (n*sz)):=fun i u hu=>by simp[hA,hu]
  refine⟨zF1 H b (cur.toList.take (n*sz)),u7 hs e1 hb rfl rfl rfl rfl (fun d=>by rw[hh];simp) rfl (fun _ _=>rfl) hle (fun b' o' v' hv'=>?_) (fun o' v' hv'=>?_) ?_,?_⟩
  .simp only[hA]at hv';split at hv'
   .rename_i e;exact .inr e
   .exact .inl hv'
  .simp only[hA,if_true]at hv';exact hcell _ _ hv'
  .simp only[zW];refine⟨e2,hln,hcl,.inr ⟨b,cur,hb,hh,k1,k2,k3,z6.mono hle (LLe.refl _) _ k4,k5,hat,fun o ho=>?_⟩⟩;simp only[hA,if_true];rw[jBe];simp only[jAv];omega
  .simp only[Rel];exact⟨_,_,hv,k1,k2,.inr ⟨b,0,_,rfl,z6.mono hle (LLe.refl _) _ k4,k5,hat⟩⟩
theorem zND{b l n:Nat}(hU:U[l]?=some (.row false e sz n cs)){Q:Out->St->Prop}(h:iB P b [.sl n cs] (U.set l (.row true e sz n cs)) Q):iB P b [.row l n] U Q:=by intro H L w vs hs hvs;obtain⟨v,vs',rfl,h1,h2⟩:=zZ hvs;have:=qY h2;subst this;obtain⟨H',hn,hr⟩:=zMS hs hU h1;obtain⟨f,tmps,x,y,k1,k2⟩:=h H' L w [v] hn.st (qF hr jF);refine⟨f,tmps,x,y,k1,k2.mono fun e w' hh=>?_⟩;obtain⟨o,U',H2,L2,g1,g2,g3⟩:=hh;exact⟨o,U',H2,L2,g1,hn.trans g2,g3⟩
theorem exY{b m k n:Nat}{S S' own:St}{J:A->St->Prop}(ho:own[k]?=some (.row false e sz n cs))(h:Cl m S)(h':Cl m S')(hc:bY 0 cs=true)
 (hy:iB P b [.sl n cs] S fun o τ=>o=.ret (.lit (.bool true))/\τ = S')(hq:J (.lit (.bool true)) (S'++own.set k (.row true e sz n cs))) :
 ∃r U',(iB P b [.row (m+k) n] (S++own) fun o τ=>o=.ret r/\τ = U')/\J r U':=by
 refine⟨_,_,zND (by rw[zDo h.1];exact ho) ?_,hq⟩;rw[zDt h.1];exact zFM h h' hy (by simp[hG (k:=0) (fun l hl=>by omega) cs hc]) ⟨rfl,rfl⟩
theorem zCj{H:Mem}{L:wO}{w:World}(hs:RelSt H L U w){l:Nat}{o':AObj}(hl : U[l]?=some o)(h:∀li,zW H L w li o->zW H L w li o'):RelSt H L (U.set l o') w:=by
 refine⟨hs.pers,by simp[hs.len],fun i x p hL hp=>?_,hs.inj,hs.lt⟩;by_cases hi:i=l
 .subst hi;rw[jAm (jA5.1 hl).1]at hp;cases hp;exact h x (hs.obj i x o hL hl)
 .rw[jAd (Ne.symm hi)]at hp;exact hs.obj i x p hL hp
theorem yI{l o:Nat}(hl : U[l]?=some (.box cs))(hc:cs[o]?=some .nil)(e:TypeId)(sz:Nat):fI n0 env (U.set l (.box (cs.set o (.row U.length 0)))++[AObj.row false e sz 0 []]) env U:=by
 intro H0 L0 w0 H L w N tmps h0 h1 h2;have hn:=fZ h1.st e sz;have hlt:l < U.length:=(jA5.1 hl).1;have hl':(U++[AObj.row false e sz 0 []])[l]?=some (.box cs):=by rw[jAo hlt];exact hl
 have hs:=zCj (o':=.box (cs.set o (.row U.length 0))) hn.st hl' (fun li hob=>by
  simp only[zW]at hob ⊢;obtain⟨g0,b,vs,e',g1,g2,g3,g4,g5⟩:=hob;obtain⟨v,hv,hrel⟩:=g3.get hc;simp only[Rel]at hrel;subst hrel;have hset:vs=vs.set o (.slice none 0 0):=by
   apply jCd;intro i;by_cases hi:i=o
   .subst hi;rw[jAm (jA5.1 hv).1,hv]
   .rw[jAd (Ne.symm hi)]
  refine⟨g0,b,vs,e',g1,g2,?_,g4,g5⟩;rw[hset];refine g3.set o ?_;simp only[Rel];exact⟨rfl,⟨none,0,0,true⟩,by rw[<-h1.st.len];simp,rfl,jA _,fun _=>rfl⟩)
 rw[List.set_append_left _ _ hlt]at hs;have hm:=h1.trans hn;exact⟨H,_,⟨hs,hm.step,hm.lle,hm.own⟩,h2.1,fun x=>Rel.mono (HLe.refl _) hn.lle _ (h2.2 x)⟩
variable{f:FuncId}{r:A}
theorem zDj{K:wK}{args args':wF} {U1:St}(h:Ret P f args [] r U1)(ha:eJ [] args' args)(hq:K (env.put d (ren [] U.length r)) (U++U1.map (fE [] U.length))):zFo P U d K f args' env :=
 ⟨_,_,y7.append _ _,cV h [] (by simp) trivial ha ⟨rfl,by simp⟩,hq⟩
theorem zQo{K:wK}{args args':wF} {U0:St}{Q0:Out->St->Prop}(h:y6 P f args U0 Q0)(js:wA)(hd:js.Nodup)(ho:bT U jW (qR js) js U0)(ha:eJ js args' args)(hnp:∀v U1,¬Q0 (.pan v) U1)
 (hq:∀r U1,Q0 (.ret r) U1->y7 U (j9 U js (U1.map (fE js U.length)))/\K (env.put d (ren js U.length r)) (j9 U js (U1.map (fE js U.length)))):zFq P U d K f args' env :=
 zB5 (C:=fun vs w R=>Calls P f vs.toArray w R) (zDB P f) h js hd ho ha hnp fun r U1 hr=>⟨_,rfl,hq r U1 hr⟩
theorem zM2{K:wK}{args args':wF} {U1:St}(h:Ret P f args [] r U1)(hn:∀o∈U1,o≠AObj.rsv)(ha:eJ [] args' args)(hq:K (env.put d (ren [] U.length r)) (U++U1.map (fE [] U.length))):zBx P U d K f args' env :=
 ⟨_,_,fun o ho=>by
  obtain⟨o',ho',rfl⟩:=jAf.1 ho;have:=hn o' ho';cases o'<;>first|(exact(this rfl).elim)|(simp only[fE,vwO];first|(split<;>simp)|simp),fun τ hl _=>by
  rw[<-hl];exact cV h [] (by simp) trivial ha ⟨rfl,by simp⟩,hq⟩
theorem zBm{rf:Bool->Nat->Nat->A}{g:Nat->wD} {U τ:St}(hk:cL U τ):∀{js:wA} {os:St},(∀o∈os,o≠AObj.rsv)->bT U rf g js os->bT τ rf g js os
 |[],[],_,h=>h
 |j::js,o::os,hn,h=>by
  simp only[bT]at h⊢;cases hj : U[j]? with
  |none=>rw[hj]at h;exact h.1.elim
  |some x =>
   rw[hj]at h;have hx:x≠AObj.rsv:=fun e=>by
    subst e;rcases h.1 with e|e
    all_goals
     exact hn o (jAp ..) (by simpa[vwO]using e)
   rw[hk j x hj hx];exact⟨h.1,zBm hk (fun o ho=>hn o (jAi _ ho)) h.2⟩
 |[],_::_,_,h=>h
 |_::_,[],_,h=>h
theorem zM3{K:wK}{args args':wF}{s0:St}(h:Ret P f args s0 r s0)(js:wA)(hjs:js.Nodup)(hn:∀o∈s0,o≠AObj.rsv)(hd:bT U jW (qR js) js s0)(ha:eJ js args' args)
 (hput:∀τ:St,cL U τ->j9 τ js (s0.map (fE js τ.length)) = τ)(hq:K (env.put d (ren js U.length r)) U):zBx P U d K f args' env :=
 ⟨ren js U.length r,[],fun o ho=>(by cases ho),fun τ hl hk=>by rw[<-hl];exact cV h js hjs (zBm hk hn hd) ha ⟨rfl,by simp[hput τ hk]⟩,by simpa using hq⟩
theorem zCg{c:Nat}:∀{js:wA} {U s1:St},(∀j∈js,j<c)->(∀j∈js,j < U.length)->s1.length=js.length->KA c U (j9 U js s1)
 |[],U,s1,_,_,hl=>by
  have:s1=[]:=jBt hl;subst this
  simpa[j9]using KA.refl c U
 |j::js,U,o::s1,hc,hj,hl=>by have h1:=hc j (jAp ..);have ih:=zCg (c:=c) (js:=js) (U:=U.set j o) (s1:=s1) (fun i hi=>hc i (jAi _ hi)) (fun i hi=>by rw[jCx];exact hj i (jAi _ hi)) (by simpa using hl);intro l cs hle hU;exact ih l cs hle (by rw[jAd (by omega)];exact hU)
 |_::_,_,[],_,_,hl=>by simp at hl
theorem cS{K:wK}{args args':wF}{s0 s1:St}(h:Ret P f args s0 r s1)(js:wA)(hjs:js.Nodup)(hd:bT U jW (qR js) js s0)(ha:eJ js args' args)
 (hq:K (env.put d (ren js U.length r)) (j9 U js (s1.map (fE js U.length)))):uL P U d K f args' env:=⟨_,_,cV h js hjs hd ha ⟨rfl,rfl⟩,hq⟩
theorem bG{K:wK}{c:Nat}{args args':wF}{s0 s1:St}(h:Ret P f args s0 r s1)(js:wA)(hjs:js.Nodup)(hd:bT U jW (qR js) js s0)(ha:eJ js args' args)
 (hc:∀j∈js,j<c)(hlt:∀j∈js,j < U.length)(hl:s1.length=js.length)(hq:K (env.put d (ren js U.length r)) (j9 U js (s1.map (fE js U.length)))):zFp P c U d K f args' env :=
 ⟨_,_,zCg hc hlt (by simpa using hl),cV h js hjs hd ha ⟨rfl,rfl⟩,hq⟩
theorem zM4{K:wK}{c:Nat}{args args':wF}{s0 s1:St}(h:Ret P f args s0 r s1)(js:wA)(hjs:js.Nodup)(hd:bT U jW (qR js) js s0)(ha:eJ js args' args)
 (hc:∀j∈js,j<c)(hlt:∀j∈js,j < U.length)(hl:s1.length=js.length)(hr:zFs U (j9 U js (s1.map (fE js U.length))))(hq:K (env.put d (ren js U.length r)) (j9 U js (s1.map (fE js U.length)))):zFn P c U d K f args' env :=
 ⟨_,_,⟨zCg hc hlt (by simpa using hl),hr⟩,cV h js hjs hd ha ⟨rfl,rfl⟩,hq⟩
theorem zNe{S own:St}(h:Cl m S)(hr:r.bnd 0=true):sM m r S (.ret r) (S++own) :=
 zF (List.range m) 0 (fun i hi=>by simp[hi]) List.nodup_range (zNg h) (.inl (zCq (k:=0) (fun l hl=>by omega) r hr).symm)
theorem zCJ{g:FuncId}{first cap:wF}{X:List wF}(h:∀(b m:Nat)(T:Nat->St),(∀i,i<=X.length->Cl m (T i))->(∀i (h:i<X.length),iB P b X[i] (T i) fun o τ=>o=.ret (.lit (.bool true))/\τ = T (i+1)) ->
 Ret P g (first++[yv b]++cap) (T 0) (.tup []) (T X.length)):zHX P g first cap X:=fun b m T hT hY=>y6.mono (h b m T hT hY) fun _ _ ⟨h1,h2⟩=>⟨⟨_,h1⟩,h2⟩
end
end Go.Abs
namespace Go.Proofs.YtolkhapmieigcaaGreatDoor
open Go.Abs
def K70:K:=G [kMb 2 false] (G [M 3 0,M 4 0,kQ 5 3 4 true,M 2 5] kr)
abbrev ky(f:Func)(k:K):Prop:=zK Tryz.prog f.ntmps (f.body.getD .skip)=some k.erase
theorem m_{f:Func}{k:K}(h:zK Tryz.prog f.ntmps (f.body.getD .skip)=some k.erase):ky f k:=h
theorem c70:ky f165 K70:=m_ (by kernel_rfl)
@[simp]theorem kw{n:Nat}(a:1<n)(b:n<210):zA Tryz.prog n=true:=by
 have h:(List.range 210).all (fun n=>n<2||zA Tryz.prog n)=true:=by kernel_rfl
 have:=List.all_eq_true.1 h n (List.mem_range.2 b);by_cases q:n<2;omega;simpa[q]using this
def K47:K:=G [kMi 4 0] (G [M 7 0,kC 8 165 [(kt 7)],M 5 8] (G [M 9 1,kC 10 165 [(kt 9)],M 6 10] (Z (G [M 11 5] (Y 11 (Z (G [M 12 6] (Y 12 (G [kMi 4 0] kr) ks)) (G [⟨none,.mov (some 4) (kc (-1))⟩] kr)) ks)) (Z (G [M 13 6] (Y 13 (G [kMi 4 1] kr) ks)) (Z (G [M 14 0,M 15 1,kB 16 14 15 .lss] (Y 16 (G [⟨none,.mov (some 4) (kc (-1))⟩] kr) ks)) (Z (G [M 17 0,M 18 1,kB 19 17 18 .gtr] (Y 19 (G [kMi 4 1] kr) ks)) (G [kMi 4 0] kr)))))))
theorem c47:ky f100 K47:=m_ (by kernel_rfl)
def K46:K:=G [kMi 2 0] (G [kMi 3 0] (Z (G [M 6 0,kN 7 6,kMi 8 0] (K.block 0 (K.loop (G [kB 9 8 7 .lss] (Z (Y 9 ks (K.exit 0)) (Z (K.block 1 (G [kX 10 6 8 1,L 11 10 1,M 5 11] (G [M 12 5,M 13 3,kQ 14 12 13 true] (Y 14 (G [M 15 5,M 2 15] kr) ks)))) (K.ops [kBi 16 8 1 .add,M 8 16]))))))) (G [M 17 3,M 2 17] kr)))
theorem c46:ky f99 K46:=m_ (by kernel_rfl)
def K27:K:=G [kO 2 0,kO 3 1,kMi 4 0] (Z (K.dops [(0,0,D 5 2 0),(1,0,L 6 5 1),(2,0,D 7 3 0),(3,0,L 8 7 1),(4,0,kC 9 100 [(kt 6),(kt 8)]),(5,0,D 10 2 1),(6,0,L 11 10 1),(7,0,D 12 3 1),(8,0,L 13 12 1),(9,0,kC 14 100 [(kt 11),(kt 13)]),(10,0,D 15 2 2),(11,0,L 16 15 1),(12,0,D 17 3 2),(13,0,L 18 17 1),(14,0,kC 19 100 [(kt 16),(kt 18)]),(15,0,kd 20 3 1 3 [ki,ki,ki] [(0,1,(kt 9)),(1,1,(kt 14)),(2,1,(kt 19))]),(16,0,kC 21 99 [(kt 20)]),(17,0,M 4 21)]) kr)
theorem c27:ky f128 K27:=m_ (by kernel_rfl)
abbrev my:=Ret Tryz.prog
theorem zJh(n:Int):my 165 [int n] [] (bl false) []:=by refine zG func165 rfl c70 (rs:=[.slot 2]) (by kernel_rfl) ?_;unfold K70;simp;exact zC 0 (by simp)
def bN(a b:Int):Int:=if a<b then -1 else if b<a then 1 else 0
theorem cM(a b:Int):my 100 [int a,int b] [] (int (bN a b)) []:=by
 refine zG func100 rfl c47 (rs:=[.slot 4]) (by kernel_rfl) ?_;unfold K47;simp;refine mu (zJh a) (by simp) ?_;simp;refine mu (zJh b) (by simp) ?_;simp;refine jY (fun h=>?_) (fun h=>?_)<;>simp at h<;>simp
 .exact zC 0 (by simp[bN,h])
 refine jY (fun h'=>?_) (fun h'=>?_)<;>simp at h'<;>simp
 .exact zC 0 (by simp[bN,h',Int.not_lt.2 h])
 .exact zC 0 (by simp[bN,Int.not_lt.2 h,Int.not_lt.2 h'])
def orI:List Int->Int
 |[]=>0
 |a::l=>if a=0 then orI l else a
def y3(l:wC):wF:=l.map int
theorem x7:∀(l:wC),qT (y3 l)
 |[]=>qT.nil
 |_::l=>qT.lit (x7 l)
@[simp]theorem qDk(l:wC):(y3 l).length=l.length:=by simp[y3]
@[simp]theorem zZm(l:wC):jE (y3 l)=y3 l:=(x7 l).1
@[simp]theorem qH2{rf g}(l:wC):vwL rf g (y3 l)=y3 l:=(x7 l).2 _ _
@[simp]theorem qDl:y3 []=[]:=rfl
@[simp]theorem zYP(n:Int)(l:wC):y3 (n::l)=.lit (.int .i64 n)::y3 l:=rfl
@[simp]theorem lI(a b:wC):y3 (a++b)=y3 a++y3 b:=by simp[y3]
theorem uY{l:wC}{i:Nat}(h:i<l.length):(y3 l).drop i=.lit (.int .i64 l[i])::y3 (l.drop (i+1)):=by rw[y3,<-List.map_drop,jBb h];rfl
theorem zSa{n:Nat}(h:n<=maxLen):IntKind.i64.wrap (n:Int)=n:=IntWalk.i64_in _ (by simp[maxLen]at h;omega)
theorem zY{i n:Nat}(h:i<n)(hn:n<=maxLen):IntKind.i64.wrap ((i:Int)+1)=(i:Int)+1:=IntWalk.i64_in _ (by simp[maxLen]at hn;omega)
theorem zMW(l:wC):my 99 [.sl l.length (y3 l)] [] (int (orI l)) []:=by
 refine zG func99 rfl c46 (rs:=[.slot 2]) (by kernel_rfl) ?_;unfold K46;simp;intro hl;refine qH (S:=Nat) (fun i=>[(3,int 0),(6,.sl l.length (y3 l)),(7,int l.length),(8,int i)]) (fun s=>[]) (fun i=>i<=l.length/\orI l=orI (l.drop i)) (fun i=>l.length-i) 0 (by simp)
  (mw [] 0 (by rfl) (by simp)) ?_
 rintro i ⟨hi,ho⟩;simp;refine jY (fun h=>?_) (fun h=>?_)<;>simp at h
 .simp[h,uY h];have hd:l.drop i=l[i]::l.drop (i+1):=jBb h;refine jY (fun h'=>?_) (fun h'=>?_)<;>simp at h'<;>simp
  .exact zC 0 (by rw[ho,hd];simp[orI,h'])
  .refine zN (i+1) ⟨h,by rw[ho,hd];simp[orI,h']⟩ (by omega) (mw [] 0 (by rfl) (by simp[zY h hl]))
 .simp;have:i=l.length:=by omega
  exact zC 0 (by rw[ho,this];simp[orI])
structure Id where
 a:Int
 b:Int
 c:Int
 deriving DecidableEq
abbrev wG:=List Id
theorem Id.eq_iff{x y:Id}:x=y↔x.a=y.a/\x.b=y.b/\x.c=y.c:=by cases x;cases y;simp
def zX(d:Id):wF:=[.lit (.int .i64 d.a),.lit (.int .i64 d.b),.lit (.int .i64 d.c)]
def dE(d:Id):wC:=[d.a,d.b,d.c]
def zS:List Id->wF
 |[]=>[]
 |d::l=>.lit (.int .i64 d.a)::.lit (.int .i64 d.b)::.lit (.int .i64 d.c)::zS l
@[simp]theorem zWu:zS []=[]:=rfl
@[simp]theorem eK(d:Id)(l:wG):zS (d::l)=.lit (.int .i64 d.a)::.lit (.int .i64 d.b)::.lit (.int .i64 d.c)::zS l:=rfl
@[simp]theorem zKJ:∀l:wG,(zS l).length=l.length*3
 |[]=>rfl
 |d::l=>by simp[zKJ l];omega
theorem qD:∀(a b:wG),zS (a++b)=zS a++zS b
 |[],b=>rfl
 |d::a,b=>by simp[qD a b]
theorem eY:∀(l:wG),qT (zS l)
 |[]=>qT.nil
 |_::l=>qT.lit (qT.lit (qT.lit (eY l)))
@[simp]theorem zVh(l:wG):jE (zS l)=zS l:=(eY l).1
@[simp]theorem zZN{rf g}(l:wG):vwL rf g (zS l)=zS l:=(eY l).2 _ _
theorem qV:∀{l:wG} {i:Nat} (h:i<l.length),(zS l).drop (i*3)=.lit (.int .i64 l[i].a)::.lit (.int .i64 l[i].b)::.lit (.int .i64 l[i].c)::zS (l.drop (i+1))
 |v::l,0,h=>by simp
 |v::l,i+1,h=>by
  have e:(i+1)*3=i*3+3:=by omega
  rw[e,eK]
  simpa using qV (l:=l) (i:=i) (by simpa using h)
theorem sT:∀(l:wG) (i:Nat),(zS l).take (i*3)=zS (l.take i)
 |[],i=>by simp
 |v::l,0=>by simp
 |v::l,i+1=>by
  have e:(i+1)*3=i*3+3:=by omega
  rw[e,eK]
  simpa using sT l i
theorem zA6:∀(l:wG) (i:Nat),(zS l).drop (i*3)=zS (l.drop i)
 |[],i=>by simp
 |v::l,0=>by simp
 |v::l,i+1=>by
  have e:(i+1)*3=i*3+3:=by omega
  rw[e,eK]
  simpa using zA6 l i
def gI(x y:Id):Int:=orI [bN x.a y.a,bN x.b y.b,bN x.c y.c]
def bJ(x y:Id):Bool:=if x.a≠y.a then decide (x.a<y.a)else if x.b≠y.b then decide (x.b<y.b)else decide (x.c<y.c)
theorem zRu(x y:Id):my 128 [.agg (zX x),.agg (zX y)] [] (int (gI x y)) []:=by refine zG func128 rfl c27 (rs:=[.slot 4]) (by kernel_rfl) ?_;unfold K27;simp[zX];refine qB (cM x.a y.a) (by simp) (by simp) ?_;simp;refine qB (cM x.b y.b) (by simp) (by simp) ?_;simp;refine qB (cM x.c y.c) (by simp) (by simp) ?_;simp;refine qB (zMW [bN x.a y.a,bN x.b y.b,bN x.c y.c]) (by simp) (by simp) ?_;simp;exact zC 0 (by simp[gI])
end Go.Proofs.YtolkhapmieigcaaGreatDoor
namespace Go.Abs
open Go.Sort Go.Proofs
section
variable{P:Program} {β:Type}{H:Mem}{L:wO}{w:World}
variable{g:FuncId}
theorem zCK{args:wF}{r:Int}(h:Ret P g args [] (int r) []){vs:wM}{W:World}(hH:∀b o v,H b o=some v->W.cell? ⟨b,o,none⟩=some v)(hvs:z6 H [] args vs) :
 Calls P g vs.toArray W fun e w'=>e=.returned (.int .i64 r)/\∃q os',w'=grow (W.drewN q) os':=by
 have hs:RelSt H [] [] W:=⟨hH,rfl,fun i l o hl=>by simp at hl,fun i j l l' b hl=>by simp at hl,fun i l b hl=>by simp at hl⟩;refine(h H [] W vs hs hvs).mono fun e w' hh=>?_
 obtain⟨o,U',H',L',ho,hn,rfl,rfl⟩:=hh;obtain⟨v,rfl,hv⟩:=ho;simp only[int,Rel]at hv;subst hv;refine⟨rfl,w'.drawn-W.drawn,w'.heap.extract W.heap.size w'.heap.size,?_⟩;have hh:w'.heap=W.heap++w'.heap.extract W.heap.size w'.heap.size:=by
  apply Array.ext_getElem?;intro k;rcases jAz k W.heap.size with hk|hk
  .rw[jDq hk];exact hn.step.keep k hk (fun⟨i,l,hi,_⟩=>by simp at hi)
  .rw[Array.getElem?_append_right hk,Array.getElem?_extract];split
   .congr 1;omega
   .rw[Array.getElem?_eq_none];omega
 have h1:=hn.step.os;have h2:=hn.step.tape;have h3:=hn.step.output;have h4:=hn.step.drawn;cases w' with
 |mk heap tape drawn os output =>
  cases W with
  |mk heap' tape' drawn' os' output' =>
   simp only at h1 h2 h3 h4 hh;simp only[grow,World.drewN,World.mk.injEq];exact⟨hh,h2,by omega,h1,h3⟩
def iD(us:List (β×wM)):wM:=us.flatMap (·.2)
@[simp]theorem zYL:iD ([]:List (β×wM))=[]:=rfl
@[simp]theorem zDY{p : β×wM}{us:List (β×wM)}:iD (p::us)=p.2++iD us:=rfl
def zPI(H:Mem)(encA : β->wF)(us:List (β×wM)):Prop:=∀p∈us,z6 H [] (encA p.1) p.2/\∀v∈p.2,one v
theorem zDa{encA : β->wF}(hb:∀b,bY 0 (encA b)=true):∀(l:List β) (vs:wM),z6 H L (l.flatMap encA) vs->(∀v∈vs,one v)->∃us:List (β×wM),us.map (·.1)=l/\iD us=vs/\zPI H encA us
 |[],vs,h,_=>⟨[],rfl,(qY h).symm,fun p hp=>by simp at hp⟩
 |b::l,vs,h,h1=>by
  rw[jBm]at h;obtain⟨us,ws,rfl,k1,k2⟩:=h.split;obtain⟨rest,r1,r2,r3⟩:=zDa hb l ws k2 (fun v hv=>h1 v (List.mem_append_right _ hv));refine⟨(b,us)::rest,by simp[r1],by simp[r2],fun p hp=>?_⟩;rcases jA3.1 hp with rfl|hp
  .exact⟨z6.levels (k:=0) (fun l hl=>by omega) _ (hb b) k1,fun v hv=>h1 v (jBq _ hv)⟩
  .exact r3 p hp
theorem zEh{encA : β->wF}(hb:∀b,bY 0 (encA b)=true):∀{us:List (β×wM)},zPI H encA us->z6 H L ((us.map (·.1)).flatMap encA) (iD us)/\∀v∈iD us,one v
 |[],_=>⟨jF,by simp⟩
 |p::us,h=>by
  obtain⟨k1,k2⟩:=h p (jAp ..);obtain⟨r1,r2⟩:=zEh hb (us:=us) fun q hq=>h q (jAi _ hq)
  refine⟨?_,fun v hv=>?_⟩
  .simp only[jAc,jBm,zDY];exact(z6.levels (k:=0) (fun l hl=>by omega) _ (hb p.1) k1).append r1
  .rcases jA6.1 hv with hv|hv
   .exact k2 v hv
   .exact r2 v hv
theorem zAN{encA : β->wF}{sz:Nat}(hlen:∀b,(encA b).length=sz):∀{us:List (β×wM)},zPI H encA us->(iD us).length=us.length*sz
 |[],_=>by simp
 |p::us,h=>by have:=(h p (jAp ..)).1.length;simp[this,hlen,zAN hlen (us:=us) fun q hq=>h q (jAi _ hq),jBo,jCh]
def zB0(P:Program)(f g:FuncId)(encA : β->wF)(cf : β->β->Int):Prop :=
 ∀(H:Mem) (w:World) (b cap:Nat) (us:List (β×wM)),(∀b o v,H b o=some v->w.cell? ⟨b,o,none⟩=some v)->(∀o,H b o=none)->b<w.heap.size->us≠[]->us.length<4611686018427387904->zPI H encA us ->
  (∀j u,(iD us)[j]?=some u->w.cell? ⟨b,j,none⟩=some u/\w.frozen? ⟨b,j,none⟩=false) ->
  Calls P f #[.slice (some ⟨b,0,none⟩) us.length cap,.func (.func g) #[] #[]] w fun e w'=>e=.returned (.tuple #[]) /\
   ∃(us':List (β×wM)) (n:Nat) (os:Array Obj),us'.Perm us/\us'.Pairwise (fun x y=>¬cf y.1 x.1<0)/\w'=grow (putRow id (Go.Sort.ahead w n) b 0 (iD us').toArray) os
def bE(cf : β->β->Int)(l:List β):List β:=l.mergeSort fun x y=>!decide (cf y x<0)
structure Ord(cf : β->β->Int):Prop where
 irrefl:∀x,¬cf x x<0
 trans:∀x y z,cf x y<0->cf y z<0->cf x z<0
 ntrans:∀x y z,¬cf x y<0->¬cf y z<0->¬cf x z<0
 anti:∀x y,¬cf x y<0->¬cf y x<0->x=y
variable{cf:β->β->Int}
theorem zBp(ho:Ord cf){l l':List β}(hp:l'.Perm l)(hs:l'.Pairwise fun x y=>¬cf y x<0):l'=bE cf l:=by
 have h1:=List.pairwise_mergeSort (le:=fun x y=>!decide (cf y x<0)) (fun a b c h1 h2=>by simp only[jBy,decide_eq_false_iff_not]at *;exact ho.ntrans c b a h2 h1)
  (fun a b=>by
   simp only[jBa,jBy,decide_eq_false_iff_not];by_cases h:cf b a<0
   .exact .inr fun h'=>ho.irrefl _ (ho.trans _ _ _ h h')
   .exact .inl h) l
 refine List.Perm.eq_of_pairwise (le:=fun x y=>¬cf y x<0) (fun a b _ _ h1 h2=>ho.anti a b h2 h1) hs ?_ (hp.trans (List.mergeSort_perm l _).symm);exact h1.imp (fun h=>by simpa using h)
variable{b:Nat}{cur:Array Value}
theorem zJF{e:TypeId}(hh:w.heap[b]?=some (.cells cur e (0,0)))(n:Nat)(F:Array Value)(os:Array Obj) :
 (grow (putRow id (Go.Sort.ahead w n) b 0 F) os).heap[b]?=some (.cells (putCells id 0 F cur) e (0,0)):=by
 have hlt:b<w.heap.size:=(jD4.1 hh).1;simp only[grow];rw[jDq (by simpa[Go.Sort.ahead]using hlt)];simp only[putRow,mapBlock,Array.getElem?_modify,if_true];simp only[Go.Sort.ahead,hh,jC7,onCells]
theorem zBh{b k:Nat}(hk:k<w.heap.size)(hne:k≠b)(n:Nat)(F:Array Value)(os:Array Obj):(grow (putRow id (Go.Sort.ahead w n) b 0 F) os).heap[k]?=w.heap[k]?:=by simp only[grow];rw[jDq (by simpa[Go.Sort.ahead]using hk)];simp only[putRow,mapBlock,Array.getElem?_modify,Go.Sort.ahead];rw[if_neg (Ne.symm hne)]
variable{F:Array Value}
theorem zF8(h:F.size<=cur.size):(putCells id 0 F cur).size=cur.size/\(putCells id 0 F cur).toList.take F.size=F.toList:=by
 have hsz:(putCells id 0 F cur).size=cur.size:=by simp[putCells]
 refine⟨hsz,?_⟩;apply jCd;intro i;rw[jBc];split
 .rename_i hi;have hi2:i<cur.size:=by omega
  simp[putCells,hi,hi2]
 .rename_i hi;rw[jBe (by simp;omega)]
theorem zRq{U:St}(hs:RelSt H L U w){l:Nat}{li:LI}{o:AObj}{w':World}(hl:L[l]?=some li)(hb:li.block=some b)
 (hos:w'.os=w.os)(htape:w'.tape=w.tape)(hout:w'.output=w.output)(hdr:w.drawn<=w'.drawn)(hnd:∀d,w.heap[b]?≠some (.deferred d))(hsz:w.heap.size<=w'.heap.size)(hkeep:∀k,k<w.heap.size->k≠b->w'.heap[k]?=w.heap[k]?)
 (hnone:∀o',H b o'=none)(ho:zW H L w' li o):Nxt H L w H L (U.set l o) w':=by
 have hne:∀(i:Nat) l' b',L[i]?=some l'->l'.block=some b'->i≠l->b'≠b:=fun i l' b' h1 h2 hi e=>hi (hs.inj i l l' li b' h1 hl h2 (by rw[hb,e]))
 refine⟨⟨fun b' o' v hv=>?_,by simp[hs.len],fun i l' o' hL hU=>?_,hs.inj,fun i l' b' h1 h2=>jCe (hs.lt i l' b' h1 h2) hsz⟩,
  ⟨hos,htape,hout,hsz,fun k hk hn=>hkeep k hk (fun e=>hn ⟨l,li,hl,by rw[hb,e]⟩),HLe.refl _,fun _ _ _ h=>.inl h,hdr,fun k d hk=>?_⟩,LLe.refl _,fun _ h=>.inl h⟩
 .have hbb:b'≠b:=fun e=>by subst e;rw[hnone]at hv;cases hv
  have hc:=hs.pers b' o' v hv;have hlt:=hs.h_lt hv;simp only[World.cell?]at hc ⊢;rw[hkeep b' hlt hbb];exact hc
 .by_cases hi:i=l
  .subst hi;rw[hl]at hL;cases hL;rw[jAm (by rw[<-hs.len];exact(jA5.1 hl).1)]at hU;cases hU;exact ho
  .rw[jAd (Ne.symm hi)]at hU;exact(hs.obj i l' o' hL hU).carry (fun b' hb'=>hkeep b' (hs.lt i l' b' hL hb') (hne i l' b' hL hb' hi)) (HLe.refl _) (LLe.refl _) (fun _ _ _=>rfl)
 .have hks:=(jD4.1 hk).1;by_cases hkb:k=b
  .subst hkb;exact(hnd d hk).elim
  .rw[hkeep k hks hkb];exact hk
variable{f:FuncId}{encA:β->wF}
theorem zEX{sz:Nat}(hsz:0<sz)(hlen:∀b,(encA b).length=sz)(hb:∀b,bY 0 (encA b)=true)(ho:Ord cf)(e:TypeId)
 (hS:zB0 P f g encA cf)(hnone:∀(p:Option Addr)(cap:Nat)(fv:Value)(w:World),Calls P f #[.slice p 0 cap,fv] w fun e w'=>e=.returned (.tuple #[])/\w'=w)(l:List β)(hmx:l.length<4611686018427387904) :
 Ret P f [.row 0 l.length,.clo g [] []] [.row false e sz l.length (l.flatMap encA)] (.tup []) [.row false e sz l.length ((bE cf l).flatMap encA)]:=by
 intro H L w vs hs hvs;obtain⟨v,vs',rfl,h1,h2⟩:=zZ hvs;obtain⟨fv,vs'',rfl,h3,h4⟩:=zZ h2;have:=qY h4;subst this;simp only[Rel]at h3;obtain⟨fs,cs,rfl,k1,k2⟩:=h3;have:=qY k1;subst this;have:=qY k2;subst this;simp only[Rel]at h1;obtain⟨_,li,e1,e2,e3,hv⟩:=h1;have hob:=hs.obj 0 li _ e1 rfl;simp only[zW]at hob;obtain⟨_,hln,hcl,hob⟩:=hob;have hv:=hv hln.symm;have htup:Rel H L (.tup []) (.tuple #[]):=by simp[Rel,z6]
 by_cases hl:l=[]
 .subst hl;have hsl:∃p cap,v=.slice p 0 cap:=by
   rw[hv];split
   .exact⟨_,_,rfl⟩
   .exact⟨_,_,rfl⟩
  obtain⟨p,cap,rfl⟩:=hsl;refine(hnone p cap _ w).mono fun e' w' hh=>?_
  obtain⟨rfl,rfl⟩:=hh;exact⟨.ret (.tup []),_,H,L,⟨_,rfl,htup⟩,Nxt.refl hs,rfl,by simp[bE]⟩
 .rcases hob with ⟨hbk,h0⟩|⟨b,cur,hbk,hh,g1,g2,g3,g4,g5,g6⟩
  .exact(hl (jBt h0)).elim
  .rw[hbk]at hv;subst hv;obtain⟨us,u1,u2,u3⟩:=zDa hb l _ g4 g5;have hul:us.length=l.length:=by rw[<-u1];simp
   have hus:us≠[]:=fun h=>hl (by rw[<-u1,h];rfl)
   have hlt:=hs.lt 0 li b e1 hbk;have hcell:∀j u,(iD us)[j]?=some u->w.cell? ⟨b,j,none⟩=some u/\w.frozen? ⟨b,j,none⟩=false:=fun j u hu=>by
    rw[u2,jBc]at hu;split at hu
    .refine⟨?_,by simp[World.frozen?,hh]⟩;rw[cell_of_row w b j cur e (0,0) hh]
     simpa using hu
    .cases hu
   have hmax:us.length<4611686018427387904:=by rw[hul];exact hmx
   have hc:=hS H w b li.cap us (fun b o v=>hs.pers b o v) g6 hlt hus hmax u3 hcell;rw[hul]at hc;refine hc.mono fun e' w' hx=>?_
   obtain⟨rfl,us',n,os,hp,hsrt,rfl⟩:=hx;have u3':zPI H encA us':=fun p hp'=>u3 p (hp.mem_iff.1 hp')
   have hl':(us'.map (·.1))=bE cf l:=by refine zBp ho (by rw[<-u1];exact hp.map _) ?_;rw[jCw];exact hsrt
   obtain⟨j1,j2⟩:=zEh (L:=L) hb u3';rw[hl']at j1;have hfl:(iD us').length=l.length*sz:=by rw[zAN hlen u3',hp.length_eq,hul]
   have hfit:(iD us').toArray.size<=cur.size:=by rw[jC1,hfl,g3];exact jBj _ g1
   obtain⟨p1,p2⟩:=zF8 hfit;rw[jC1,hfl]at p2;have hnx:=zRq hs e1 hbk (o:=.row false e sz l.length ((bE cf l).flatMap encA)) (w':=grow (putRow id (Go.Sort.ahead w n) b 0 (iD us').toArray) os) rfl rfl rfl (by simp[grow,Go.Sort.ahead]) (fun d=>by rw[hh];simp) (by simp[grow,Go.Sort.ahead]) (fun k hk hne=>zBh hk hne n _ os) g6 (by
    simp only[zW];refine⟨e2,hln,?_,.inr ⟨b,_,hbk,zJF hh n _ os,g1,g2,by rw[p1];exact g3,?_,?_,g6⟩⟩
    .rw[<-j1.length,hfl]
    .rw[p2];exact j1
    .rw[p2];exact j2)
   exact⟨.ret (.tup []),_,H,L,⟨_,rfl,htup⟩,hnx,rfl,rfl⟩
theorem zIR{α:Type}{enc : α->wM}{k:Nat}(hk:∀x,(enc x).length=k):∀(l:List α) (i j:Nat) (hi:i<l.length),j<k->(l.flatMap enc)[i*k+j]?=(enc l[i])[j]?
 |[],i,j,hi,_=>by simp at hi
 |x::l,0,j,_,hj=>by rw[jBm,jAo (by rw[hk];omega)];simp
 |x::l,i+1,j,hi,hj=>by
  have hi':i<l.length:=by simpa using hi
  rw[jBm,jB8 (by rw[hk,jBo];omega),hk];have:(i+1)*k+j-k=i*k+j:=by rw[jBo];omega
  rw[this,zIR hk l i j hi' hj];rfl
theorem zCE{α:Type}{enc : α->wM}{k:Nat}(hk:∀x,(enc x).length=k):∀(l:List α),(l.flatMap enc).length=l.length*k
 |[]=>by simp
 |x::l=>by rw[jBm,jA4,hk,zCE hk l,jAb,jBo,jCh]
theorem zLd{α:Type} [Inhabited α]{enc : α->wM}{k:Nat}(hk:∀x,(enc x).length=k)(d:Array α):(flatK enc k d).toList=d.toList.flatMap enc:=by
 apply jCd;intro t;rcases jAz t (d.size*k)with ht|ht
 .have k0:0<k:=by
   rcases Nat.eq_zero_or_pos k with h|h
   .subst h;simp at ht
   .exact h
  have hq:t / k<d.toList.length:=by rw[jB3];exact Nat.div_lt_of_lt_mul (by rw[Nat.mul_comm];exact ht)
  have hm:=Nat.mod_lt t k0;have he:t=t / k*k+t % k:=by rw[Nat.mul_comm];exact(Nat.div_add_mod t k).symm
  have h1:(flatK enc k d)[t]! = (enc d[t / k]!)[t % k]! := get_flatK enc k d t ht;have hts:t<(flatK enc k d).size:=by rw[size_flatK];exact ht
  have h2:(d.toList.flatMap enc)[t]?=(enc d.toList[t / k])[t % k]?:=by
   conv=>lhs;rw[he]
   exact zIR hk _ _ _ hq hm
  rw[h2];have hq':t / k<d.size:=by simpa using hq
  have hmm:t % k<(enc d[t / k]).length:=by rw[hk];exact hm
  rw[getElem!_pos _ t hts,getElem!_pos d (t / k) hq',getElem!_pos _ (t % k) hmm]at h1;rw[jCy,Array.getElem?_eq_getElem hts,h1];simp[hmm]
 .rw[jBe (by simpa using ht),jBe (by rw[zCE hk];simpa using ht)]
theorem zCP{α:Type} [Inhabited α]{d d':Array α}(h:PermIn 0 d.size d d'):d'.toList.Perm d.toList:=by
 obtain⟨h1,_,h3⟩:=h;have e1:d'.extract 0 d.size=d':=by rw[<-h1];simp
 rw[e1]at h3
 simpa using h3
theorem vZ{α:Type} [Inhabited α]{lt : α->α->Bool}{d:Array α}{n:Nat}(hn:n=d.size)(h:SortedIn lt 0 n d):d.toList.Pairwise fun x y=>lt y x=false:=by
 subst hn;rw[jC0];intro i j hi hj hij;have hi':i<d.size:=by simpa using hi
 have hj':j<d.size:=by simpa using hj
 have:=h i j (jB _) hij hj';rw[getElem!_pos d i hi',getElem!_pos d j hj']at this
 simpa using this
theorem zRI{β:Type}{cf : β->β->Int}(ho:Ord cf) {α:Type}(p : α->β):SWO (Go.Proofs.ltOf fun x y : α=>cf (p x) (p y)) where
 irrefl x:=by simpa[Go.Proofs.ltOf]using ho.irrefl (p x)
 trans x y z h1 h2:=by simp only[Go.Proofs.ltOf,decide_eq_true_eq]at *;exact ho.trans _ _ _ h1 h2
 ntrans x y z h1 h2:=by simp only[Go.Proofs.ltOf,decide_eq_false_iff_not]at *;exact ho.ntrans _ _ _ h1 h2
theorem zFP{b' o:Nat}{n:Nat}{os:Array Obj}{v:Value}(hne:b'≠b)(h:w.cell? ⟨b',o,none⟩=some v):(grow (putRow id (Go.Sort.ahead w n) b 0 F) os).cell? ⟨b',o,none⟩=some v:=by have hlt:=World.block_lt_of_cell? w _ h;simp only[World.cell?]at h⊢;rw[zBh hlt hne];exact h
theorem zRD{k:Nat}(hlen:∀b,(encA b).length=k)(ho:Ord cf)(hcmp:∀a b,Ret P g [.agg (encA a),.agg (encA b)] [] (int (cf a b)) [])
 (hkit:∀(α:Type) [Inhabited α](enc : α->wM)(_:∀x,(enc x).length=k)(_:∀x,∀v∈enc x,v.oneCell'=true)(cf : α->α->Int)(_:SWO (Go.Proofs.ltOf cf))(blk off cap:Nat)(d:Array α)(w:World)
  (_:Go.Proofs.CmpLays P g #[] enc k cf blk off d.size w)(_:HoldsK enc k w blk off d)(_:blk<w.heap.size)(_:d.size<4611686018427387904),
  Calls P f #[.slice (some ⟨blk,off,none⟩) d.size cap,.func (.func g) #[] #[]] w fun e w'=>e=.returned (.tuple #[])/\∃d' n os,PermIn 0 d.size d d'/\SortedIn (Go.Proofs.ltOf cf) 0 d.size d'/\w'=sortWorldK enc k w blk off n d' os):zB0 P f g encA cf:=by
 intro H w b cap us hH hnone hlt hus hmax hrel hcell;let α:={p : β×wM // (z6 H [] (encA p.1) p.2/\∀v∈p.2,one v)};let d:Array α:=(us.attach.map fun p=>(⟨p.1,hrel p.1 p.2⟩ : α)).toArray;have hdm:d.toList.map (·.1)=us:=by simp only[d,jCb,Function.comp_def];exact(List.attach_map_val (f:=id)).trans (List.map_id us)
 have hds:d.size=us.length:=by simp[d]
 have:Inhabited α:=⟨⟨us.head hus,hrel _ (List.head_mem hus)⟩⟩;let enc : α->wM:=fun x=>x.1.2
 have hk:∀x,(enc x).length=k:=fun x=>by rw[<-hlen x.1.1];exact x.2.1.length
 have hflat:∀dd:Array α,(flatK enc k dd).toList=iD (dd.toList.map (·.1)):=fun dd=>by rw[zLd hk,iD,List.flatMap_map]
 have hne:∀b' o v,H b' o=some v->b'≠b:=fun b' o v h e=>by subst e;rw[hnone]at h;cases h
 have hk2:=hkit α enc hk (fun x v hv=>x.2.2 v hv) (fun x y=>cf x.1.1 y.1.1) (zRI ho fun x : α=>x.1.1) b 0 cap d w ?_ ?_ hlt (by rw[hds];exact hmax)
 .rw[hds]at hk2;refine hk2.mono fun e w' hx=>?_
  obtain⟨rfl,d',n,os,hp,hs,rfl⟩:=hx;refine⟨rfl,d'.toList.map (·.1),n,os,?_,?_,?_⟩
  .rw[<-hds]at hp;have:=(zCP hp).map (·.1);rw[hdm]at this;exact this
  .rw[jCw];have hsz':us.length=d'.size:=by rw[hp.1,hds]
   exact(vZ hsz' hs).imp fun h=>by simpa[Go.Proofs.ltOf]using h
  .simp only[sortWorldK,putRowK];rw[<-hflat d']
 .intro m os dk hsz x y;have hW:∀b' o v,H b' o=some v->(sortWorldK enc k w b 0 m dk os).cell? ⟨b',o,none⟩=some v:=fun b' o v h=>zFP (hne b' o v h) (hH b' o v h)
  have:=zCK (hcmp x.1.1 y.1.1) hW (vs:=[.agg (enc x).toArray,.agg (enc y).toArray]) (by
   refine qF ?_ (qF ?_ jF)
   .simp only[Rel];exact⟨_,rfl,x.2.1,x.2.2⟩
   .simp only[Rel];exact⟨_,rfl,y.2.1,y.2.2⟩)
  simpa using this
 .intro j hj;have hj':j<(flatK enc k d).toList.length:=by simpa using hj
  have h1:(iD us)[j]?=some ((flatK enc k d)[j]!):=by rw[<-hdm,<-hflat d,jA2 hj',getElem!_pos _ j hj];simp
  simpa using hcell j _ h1
theorem zBg{α:Type} [Inhabited α](enc : α->Value)(d:Array α)(c:Array Value):putCells enc 0 d c=putCells id 0 (d.map enc) c:=by
 unfold putCells;apply Array.ext_getElem?;intro k;simp only[Array.getElem?_mapIdx,Array.size_map,jB,jAx,true_and,Nat.sub_zero,id]
 congr 1
 funext x;split
 .rename_i hk;rw[getElem!_pos d k hk,getElem!_pos (d.map enc) k (by simpa using hk)];simp
 .rfl
theorem zXG{enc1 : β->A}(ho:Ord cf)(hcmp:∀a b,Ret P g [enc1 a,enc1 b] [] (int (cf a b)) [])
 (hkit:∀(α:Type) [Inhabited α](enc : α->Value)(_:Go.Proofs.OneCell enc)(cf : α->α->Int)(_:SWO (Go.Proofs.ltOf cf))(blk off cap:Nat)(d:Array α)(w:World)
  (_:Go.Proofs.CmpLays1 P g #[] enc cf blk off d.size w)(_:Holds enc w blk off d)(_:blk<w.heap.size)(_:d.size<4611686018427387904),
  Calls P f #[.slice (some ⟨blk,off,none⟩) d.size cap,.func (.func g) #[] #[]] w fun e w'=>e=.returned (.tuple #[])/\∃d' n os,PermIn 0 d.size d d'/\SortedIn (Go.Proofs.ltOf cf) 0 d.size d'/\w'=sortWorld enc w blk off n d' os):zB0 P f g (fun b=>[enc1 b]) cf:=by
 intro H w b cap us hH hnone hlt hus hmax hrel hcell;let α:={p : β×wM // (∃v,p.2=[v]/\Rel H [] (enc1 p.1) v/\one v)};have hone:∀p∈us,∃v,p.2=[v]/\Rel H [] (enc1 p.1) v/\one v:=fun p hp=>by obtain⟨h1,h2⟩:=hrel p hp;obtain⟨v,vs,hv,h3,h4⟩:=zZ h1;have:=qY h4;subst this;exact⟨v,hv,h3,h2 v (by rw[hv];simp)⟩
 let d:Array α:=(us.attach.map fun p=>(⟨p.1,hone p.1 p.2⟩ : α)).toArray;have hdm:d.toList.map (·.1)=us:=by simp only[d,jCb,Function.comp_def];exact(List.attach_map_val (f:=id)).trans (List.map_id us)
 have hds:d.size=us.length:=by simp[d]
 have:Inhabited α:=⟨⟨us.head hus,hone _ (List.head_mem hus)⟩⟩;let enc : α->Value:=fun x=>x.1.2.headD undef
 have henc:∀x : α,x.1.2=[enc x]:=fun x=>by obtain⟨v,h,_⟩:=x.2;simp only[enc];rw[h];rfl
 have hencR:∀x : α,Rel H [] (enc1 x.1.1) (enc x)/\one (enc x):=fun x=>by obtain⟨v,h,h1,h2⟩:=x.2;simp only[enc];rw[h];exact⟨h1,h2⟩
 have hflat:∀l:List α,l.map enc=iD (l.map (·.1)):=fun l=>by
  induction l with
  |nil=>rfl
  |cons x l ih=>simp only[jAc,zDY,ih];rw[henc x];rfl
 have hne:∀b' o v,H b' o=some v->b'≠b:=fun b' o v h e=>by subst e;rw[hnone]at h;cases h
 have hk2:=hkit α enc (fun x=>(hencR x).2) (fun x y=>cf x.1.1 y.1.1) (zRI ho fun x : α=>x.1.1) b 0 cap d w ?_ ?_ hlt (by rw[hds];exact hmax)
 .rw[hds]at hk2;refine hk2.mono fun e w' hx=>?_
  obtain⟨rfl,d',n,os,hp,hs,rfl⟩:=hx;refine⟨rfl,d'.toList.map (·.1),n,os,?_,?_,?_⟩
  .rw[<-hds]at hp;have:=(zCP hp).map (·.1);rw[hdm]at this;exact this
  .rw[jCw];have hsz':us.length=d'.size:=by rw[hp.1,hds]
   exact(vZ hsz' hs).imp fun h=>by simpa[Go.Proofs.ltOf]using h
  .simp only[sortWorld,putRow];have:putCells enc 0 d'=putCells id 0 (d'.map enc):=funext fun c=>zBg enc d' c
   rw[this,<-hflat d'.toList]
   congr 3
   apply jC4;simp
 .intro m os dk hsz x y;have hW:∀b' o v,H b' o=some v->(sortWorld enc w b 0 m dk os).cell? ⟨b',o,none⟩=some v:=fun b' o v h=>by
   have:putCells enc 0 dk=putCells id 0 (dk.map enc):=funext fun c=>zBg enc dk c
   simp only[sortWorld,putRow];rw[this];exact zFP (hne b' o v h) (hH b' o v h)
  have:=zCK (hcmp x.1.1 y.1.1) hW (vs:=[enc x,enc y]) (qF (hencR x).1 (qF (hencR y).1 jF))
  simpa using this
 .intro j hj;have hj':j<d.toList.length:=by simpa using hj
  have h1:(iD us)[j]?=some (enc d[j]!):=by rw[<-hdm,<-hflat,jBn,jA2 hj',getElem!_pos _ j hj];simp
  simpa using hcell j _ h1
end
end Go.Abs
namespace Go.Abs
section
variable{P:Program}{env:Env} {U:St}
end
end Go.Abs
namespace Go.Abs
section
variable{P:Program}{H:Mem}{L:wO} {U:St}{w:World}
theorem jS{n0 t:Nat}{env:Env} {U:St}(ht:env t=.nil)(e:TypeId)(sz:Nat):fI n0 (env.put (some t) (.row U.length 0)) (U++[AObj.row false e sz 0 []]) env U:=by
 intro H0 L0 w0 H L w N tmps h0 h1 h2;have hn:=fZ h1.st e sz;refine⟨H,_,h1.trans hn,h2.1,fun x=>?_⟩;simp only[Env.put];split
 .rename_i hx;subst hx;have:=h2.2 x;rw[ht]at this;simp only[Rel]at this;rw[this];simp only[Rel];exact⟨rfl,⟨none,0,0,true⟩,by rw[<-h1.st.len];simp,rfl,jA _,fun _=>rfl⟩
 .exact Rel.mono (HLe.refl _) hn.lle _ (h2.2 x)
variable{e:TypeId}
theorem oB{n0:Nat}{env:Env} {U:St}{l o n:Nat}{sz:Nat}{cs:wF}(hl : U[l]?=some (.row false e sz n cs))(hc:cs[o]?=some .nil)(e':TypeId)(sz':Nat) :
 fI n0 env (U.set l (.row false e sz n (cs.set o (.row U.length 0)))++[AObj.row false e' sz' 0 []]) env U:=by
 intro H0 L0 w0 H L w N tmps h0 h1 h2;have hn:=fZ h1.st e' sz';have hlt:l < U.length:=(jA5.1 hl).1;have hl':(U++[AObj.row false e' sz' 0 []])[l]?=some (.row false e sz n cs):=by rw[jAo hlt];exact hl
 have hs:=zCj (o':=.row false e sz n (cs.set o (.row U.length 0))) hn.st hl' (fun li hob=>by
  simp only[zW]at hob ⊢;obtain⟨g0,g1,g2,g3⟩:=hob;refine⟨g0,g1,by simpa using g2,?_⟩;rcases g3 with ⟨q1,q2⟩|⟨b,cur,q1,q2,q3,q4,q5,q6,q7,q8⟩
  .subst q2;have:cs=[]:=jBt (by simpa using g2);subst this;simp at hc
  .obtain⟨v,hv,hrel⟩:=q6.get hc;simp only[Rel]at hrel;subst hrel;have hset:cur.toList.take (n*sz)=(cur.toList.take (n*sz)).set o (.slice none 0 0):=by
    apply jCd;intro i;by_cases hi:i=o
    .subst hi;rw[jAm (jA5.1 hv).1,hv]
    .rw[jAd (Ne.symm hi)]
   refine .inr ⟨b,cur,q1,q2,q3,q4,q5,?_,q7,q8⟩;rw[hset];refine q6.set o ?_;simp only[Rel];exact⟨rfl,⟨none,0,0,true⟩,by rw[<-h1.st.len];simp,rfl,jA _,fun _=>rfl⟩)
 rw[List.set_append_left _ _ hlt]at hs;have hm:=h1.trans hn;exact⟨H,_,⟨hs,hm.step,hm.lle,hm.own⟩,h2.1,fun x=>Rel.mono (HLe.refl _) hn.lle _ (h2.2 x)⟩
theorem zNB{f:FuncId}{l n:Nat}{sz:Nat}{cs:wF}(hU:U[l]?=some (.row false e sz n cs)){Q:Out->St->Prop}(h:y6 P f [.sl n cs] (U.set l (.row true e sz n cs)) Q):y6 P f [.row l n] U Q:=by
 intro H L w vs hs hvs;obtain⟨v,vs',rfl,h1,h2⟩:=zZ hvs;have:=qY h2;subst this;obtain⟨H',hn,hr⟩:=zMS hs hU h1;refine(h H' L w [v] hn.st (qF hr jF)).mono fun e w' hh=>?_
 obtain⟨o,U',H2,L2,g1,g2,g3⟩:=hh;exact⟨o,U',H2,L2,g1,hn.trans g2,g3⟩
end
end Go.Abs
namespace Go.Abs
section
variable{α:Type}{enc : α->wF}{k:Nat}
theorem dS(hk:∀x,(enc x).length=k):∀(l:List α),(l.flatMap enc).length=l.length*k
 |[]=>by simp
 |x::l=>by rw[jBm,jA4,hk,dS hk l,jAb,jBo,jCh]
theorem gE(hk:∀x,(enc x).length=k):∀{l:List α} {i:Nat} (h:i<l.length),(l.flatMap enc).drop (i*k)=enc l[i]++(l.drop (i+1)).flatMap enc
 |x::l,0,h=>by simp
 |x::l,i+1,h=>by rw[jBo,jCh,jBm,<-jAy,jD3 (hk x),gE hk (by simpa using h)];simp
theorem gP(hk:∀x,(enc x).length=k){l:List α}{i:Nat}(h:i<l.length):(l.take (i+1)).flatMap enc=(l.take i).flatMap enc++enc l[i]:=by rw[jA8 h,jC9];simp
theorem zIK(hk:∀x,(enc x).length=k):∀{l:List α} {i:Nat} (x : α),i<l.length->(l.flatMap enc).take (i*k)++(enc x++(l.flatMap enc).drop (i*k+k))=(l.set i x).flatMap enc
 |y::l,0,x,h=>by simp[jD3 (hk y)]
 |y::l,i+1,x,h=>by have:=zIK hk (l:=l) (i:=i) x (by simpa using h);rw[List.set_cons_succ,jBm,jBm,<-this,jBo,jCh (i*k) k,List.take_add,List.take_left' (hk y),jD3 (hk y),jB9 k,<-jAy,jD3 (hk y),jAq,jCh k (i*k)]
theorem cN(hp:∀x,qT (enc x)):∀(l:List α),qT (l.flatMap enc)
 |[]=>qT.nil
 |x::l=>by
  have h1:=hp x;have h2:=cN hp l;refine⟨?_,fun rf g=>?_⟩
  .rw[jBm,zBb,h1.1,h2.1]
  .rw[jBm,zFm,h1.2,h2.2]
end
end Go.Abs
namespace Go.Abs
section
variable{P:Program}
variable{f:FuncId}{rs:List RS}
theorem zGY{I:Type}{C:I->Prop}{rr:I->A}{ss:I->St}{hint:Nat->Option wE}{fn:Func}{c:Code}{k:K}(hf:P.funcs[f]?=some fn)(hb:fn.body=some c)(hc:qL P fn.ntmps hint c=some k.erase)(hr:gX P fn.results.toList=some rs)
 {args:wF} {U0:St}(h:wpF P k rs args U0 fun o τ=>∃i,C i/\sM U0.length (rr i) (ss i) o τ):y6 P f args U0 fun o τ=>∃i,C i/\o=.ret (rr i)/\τ = ss i:=by
 intro H L w vs hs ha;refine(pQ hf hb hc hr h H L w vs hs ha).mono fun e w' hh=>?_
 obtain⟨o,U',H',L',g1,g2,i,hi,r',ks,fuel,rfl,hk,hd,ho,hr⟩:=hh;obtain⟨v,rfl,hv⟩:=g1;obtain⟨H2,L2,k1,_,k3⟩:=zH6 ks fuel (by rw[hs.len];exact hk) hd ho g2;refine⟨.ret (rr i),ss i,H2,L2,⟨v,rfl,?_⟩,k1,i,hi,rfl,rfl⟩;rcases hr with e|e
 .rw[e];exact k3 _ _ hv
 .rw[e];exact Rel.nrm0 _ (k3 _ _ hv)
theorem zC0{I:Type}{C:I->Prop}{rr:I->A}{ss:I->St}{fn:Func}{c:Code}{k:K}(hf:P.funcs[f]?=some fn)(hb:fn.body=some c)(hc:zK P fn.ntmps c=some k.erase)(hr:gX P fn.results.toList=some rs)
 {args:wF} {U0:St}(h:wpF P k rs args U0 fun o τ=>∃i,C i/\sM U0.length (rr i) (ss i) o τ):y6 P f args U0 fun o τ=>∃i,C i/\o=.ret (rr i)/\τ = ss i:=zGY (hint:=zL9) hf hb hc hr h
end
end Go.Abs
namespace Go.Abs
open Go.Proofs
section
variable{P:Program}{H:Mem}{L:wO} {U:St}{w:World}
theorem zOE(hs:RelSt H L U w)(ob:AObj)(o:Obj)(li:LI)(hli:li.block=some w.heap.size)(ho:zW H (L++[li]) (w.alloc o) li ob):Nxt H L w H (L++[li]) (U++[ob]) (w.alloc o):=by
 have hll:=LLe.append L [li];refine⟨⟨fun b o v hv=>?_,by simp[hs.len],fun i l o hL hU=>?_,fun i j l l' b hi hj hb hb'=>?_,fun i l b hL hb=>?_⟩,
  ⟨rfl,rfl,rfl,by simp,fun k hk _=>heap_alloc_old w _ (h:=hk),HLe.refl _,fun b o v hv=>.inl hv,jA _,nQ (fun k hk=>heap_alloc_old w _ (h:=hk))⟩,hll,fun b ⟨i,l,hL,hb⟩=>?_⟩
 .rw[World.cell?_alloc_lt _ _ _ (hs.h_lt hv)];exact hs.pers b o v hv
 .rcases jH hL with hL'|⟨rfl,rfl⟩
  .have hi:i<L.length:=(jA5.1 hL').1;rw[jAo (by rw[<-hs.len];exact hi)]at hU;exact(hs.obj i l o hL' hU).carry (fun b hb=>heap_alloc_old w _ (h:=hs.lt i l b hL' hb)) (HLe.refl _) hll (fun _ _ _=>rfl)
  .rw[hs.len]at hU;rw[jB8 (jA _)]at hU;simp only[jBw,jB7,jA1]at hU;subst hU;exact ho
 .rcases jH hi with hi'|⟨rfl,rfl⟩
  .rcases jH hj with hj'|⟨rfl,rfl⟩
   .exact hs.inj i j l l' b hi' hj' hb hb'
   .rw[hli]at hb';cases hb';have:=hs.lt i l _ hi' hb;omega
  .rw[hli]at hb;cases hb;rcases jH hj with hj'|⟨rfl,rfl⟩
   .have:=hs.lt j l' _ hj' hb';omega
   .rfl
 .rcases jH hL with hL'|⟨rfl,rfl⟩
  .have:=hs.lt i l b hL' hb;simp;omega
  .rw[hli]at hb;cases hb;simp
 .rcases jH hL with hL'|⟨rfl,rfl⟩
  .exact .inl ⟨i,l,hL',hb⟩
  .rw[hli]at hb;cases hb;exact .inr (jA _)
variable{ρ:Go.Shelf.Ren}
theorem zQD(LL:Lays8.n4 P ρ){i:TypeInfo}{z:Value}(hi:P.info? (ρ.t 25)=some i)(hz:i.zero=some z)(hzs:z.cells.size=i.size)(h0:0<i.size){n:Nat}(hb:n*i.bytes<=140737488355328)(hn63:n<=4611686018427387904) :
 Ret P (ρ.f 4) [.nil,.lit (.int .i64 n)] [] (.row 0 0) [.row false (ρ.t 25) i.size 0 []]:=by
 intro H L w vs hs hvs;obtain⟨v,vs',rfl,h1,h2⟩:=zZ hvs;obtain⟨u,vs'',rfl,h3,h4⟩:=zZ h2;have:=qY h4;subst this;simp only[Rel]at h1 h3;subst h1 h3;have hL:L=[]:=jBt (by rw[hs.len];rfl);subst hL;have hn:n<=maxLen:=by simp only[maxLen];omega
 by_cases hz0:n=0
 .subst hz0;refine(Any8.slices_Grow_room LL none 0 0 0 w (jA _) (by omega) (by omega) (by omega)).mono fun e w' hh=>?_
  obtain⟨rfl,rfl⟩:=hh;have hnx:=fZ hs (ρ.t 25) i.size;refine⟨.ret (.row 0 0),_,H,_,⟨_,rfl,?_⟩,hnx,rfl,rfl⟩;simp only[Rel];exact⟨rfl,⟨none,0,0,true⟩,by simp,rfl,jA _,fun _=>rfl⟩
 .refine(Any8.slices_Grow_grow LL i z hi hz h0 none 0 0 n [] w (jA _) (by omega) (by rw[jAx];exact hb) (by omega) (by simp) (fun _=>rfl) (fun a ha=>by cases ha)).mono fun e w' hh=>?_
  obtain⟨rfl,rfl⟩:=hh;have hge:=grownCap_ge w (0+n) 0 (ρ.t 25);have hcm:grownCap w (0+n) 0 (ρ.t 25)<=maxLen:=grownCap_le_maxLen w (0+n) 0 (ρ.t 25) (by omega);generalize grownCap w (0+n) 0 (ρ.t 25)=cap at hge hcm ⊢;have hd:=zBd hs;have hnx:=zOE hd.st (.row false (ρ.t 25) i.size 0 []) (.cells ((([]:wM).toArray++Builtin.zeroCells z.cells (0+n-0)++Builtin.zeroCells z.cells (cap-(0+n)))) (ρ.t 25)) ⟨some w.heap.size,cap,0,true⟩ rfl (by
   simp only[zW];refine⟨trivial,trivial,by simp,.inr ⟨w.heap.size,_,rfl,heap_alloc_new w.drew _,jB _,hcm,?_,?_,?_,fun o=>?_⟩⟩
   .simp only[Array.size_append,size_zeroCells,hzs];simp only[jC1,jB4,jAx,Nat.sub_zero,<-jB6]
    congr 1
    omega
   .simp[z6]
   .simp
   .cases hH:H w.heap.size o with
    |none=>rfl
    |some v=>have:=hs.h_lt hH;omega)
  have hnx:=hd.trans hnx;refine⟨.ret (.row 0 0),_,H,_,⟨_,rfl,?_⟩,hnx,rfl,rfl⟩;simp only[Rel];exact⟨rfl,⟨some w.heap.size,cap,0,true⟩,by simp,rfl,jA _,fun _=>rfl⟩
theorem zGh(LL:Lays8.n4 P ρ){sz bs:Nat}{z:Value}(hi:(P.info? (ρ.t 25)).map (fun i=>(i.size,i.bytes,i.zero))=some (sz,bs,some z))(hzs:z.cells.size=sz)(h0:0<sz){n:Nat}(hb:n*bs<=140737488355328)(hn63:n<=4611686018427387904) :
 Ret P (ρ.f 4) [.nil,.lit (.int .i64 n)] [] (.row 0 0) [.row false (ρ.t 25) sz 0 []]:=by
 rw[jAe]at hi;obtain⟨i,h1,h2⟩:=hi;simp only[jBl]at h2;obtain⟨rfl,rfl,h3⟩:=h2;exact zQD LL h1 h3 hzs h0 hb hn63
end
end Go.Abs
namespace Go.Proofs.YtolkhapmieigcaaGreatDoor
open Go.Abs
theorem z8(n:Int)(h : -9223372036854775808<=n/\n<=9223372036854775807):IntKind.i64.wrap n=n:=IntWalk.i64_in _ h
theorem yU(n:Nat)(h:n<9000000000000000000):IntKind.i64.wrap ((n:Int)+1)=(n:Int)+1:=IntWalk.i64_in _ (by omega)
def w64(n:Int):Int:=IntKind.i64.wrap n
def iE(a b c a' b' c':Int):Bool:=decide (Id.mk a b c=Id.mk a' b' c')
@[simp]theorem eO{x y:Id}:iE x.a x.b x.c y.a y.b y.c=decide (x=y):=rfl
def Id.zero:Id:=⟨0,0,0⟩
@[simp]theorem zXB{x:Id}:iE x.a x.b x.c 0 0 0=decide (x=Id.zero):=rfl
@[simp]theorem Id.zero_a:Id.zero.a=0:=rfl
@[simp]theorem Id.zero_b:Id.zero.b=0:=rfl
@[simp]theorem Id.zero_c:Id.zero.c=0:=rfl
@[simp]theorem qE2:iE 0 0 0 0 0 0=true:=rfl
@[simp]theorem zSF{a b c a' b' c':Int}:zBJ [.i,.i,.i] false (.agg [.lit (.int .i64 a),.lit (.int .i64 b),.lit (.int .i64 c)]) (.agg [.lit (.int .i64 a'),.lit (.int .i64 b'),.lit (.int .i64 c')]) =
 some (.lit (.bool (iE a b c a' b' c'))):=by simp[zBJ,yE,eM,cK,iE]
@[simp]theorem qCY{a b c a' b' c':Int}:zBJ [.i,.i,.i] true (.agg [.lit (.int .i64 a),.lit (.int .i64 b),.lit (.int .i64 c)]) (.agg [.lit (.int .i64 a'),.lit (.int .i64 b'),.lit (.int .i64 c')]) =
 some (.lit (.bool (!iE a b c a' b' c'))):=by simp[zBJ,yE,eM,cK,iE]
def K12:K:=G [kMi 4 0] (Z (G [M 5 0,kBi 6 5 0 .lss] (Y 6 (K.ops [M 7 0,kBi 8 7 1 .add,⟨none,.neg (some 9) (kt 8)⟩,M 0 9]) ks)) (G [M 10 0,M 11 1,kB 12 10 11 .rem,M 4 12] kr))
theorem c12:ky f14 K12:=m_ (by kernel_rfl)
def K30:K:=G [kO 3 1,kMn 4] (G [kMi 5 0] (Z (K.block 0 (K.loop (Z (Z (K.dops [(0,0,M 7 5),(1,0,M 8 0),(2,0,kN 9 8),(3,0,kB 10 7 9 .lss),(4,0,M 11 10),(5,0,T 11 true (M 12 0)),(6,0,T 11 true (M 13 5)),(7,0,T 11 true (kX 14 12 13 3)),(8,0,T 11 true (J 15 14 3)),(9,0,T 11 true (J 16 3 3)),(10,0,T 11 true (kC 17 174 [(kt 15),(kt 16)])),(11,0,kPf 18 11 17)]) (Y 18 ks (K.exit 0))) (K.block 1 (K.ops [M 19 5,kBi 20 19 1 .add,M 5 20]))))) (Z (Z (K.dops [(0,0,M 21 5),(1,0,M 22 0),(2,0,kN 23 22),(3,0,kB 24 21 23 .lss),(4,0,M 25 24),(5,0,T 25 true (M 26 0)),(6,0,T 25 true (M 27 5)),(7,0,T 25 true (kX 28 26 27 3)),(8,0,T 25 true (J 29 28 3)),(9,0,T 25 true (J 30 3 3)),(10,0,⟨some (25,true),.eqs (some 31) false [.i,.i,.i] (kt 29) (kt 30)⟩),(11,0,kPf 32 25 31)]) (Y 32 (G [M 33 0,M 4 33] kr) ks)) (G [kd 34 32 3 0 [] [],M 35 0,M 36 5,⟨none,.slc (some 37) (kt 35) 3 none (some (kt 36)) none⟩,kP 38 32 3 24 34 37,M 6 38] (G [M 39 6,J 40 3 3,kd 41 32 3 1 [ki,ki,ki] [(0,3,(kt 40))],kP 42 32 3 24 39 41,M 6 42] (G [M 43 6,M 44 0,M 45 5,⟨none,.slc (some 46) (kt 44) 3 (some (kt 45)) none none⟩,kP 47 32 3 24 43 46,M 4 47] kr))))))
theorem c30:ky f119 K30:=m_ (by kernel_rfl)
def jX(n k:Int):Int:=(if n<0 then w64 (0-w64 (n+1))else n).tmod k
theorem uN(n k:Int)(hk:0<k):my 14 [int n,int k] [] (int (jX n k)) []:=by
 refine zG func14 rfl c12 (rs:=[.slot 4]) (by kernel_rfl) ?_;unfold K12;have h0:¬k=0:=by omega
 by_cases h:n<0
 .simp[h,h0];exact zC 0 (by simp[jX,h,w64])
 .simp[h,h0];exact zC 0 (by simp[jX,h])
theorem eQ{n k:Int}(hn:w64 n=n)(hk:0<k):0<=jX n k/\jX n k<k:=by
 unfold jX;have h:0<=(if n<0 then w64 (0-w64 (n+1))else n):=by simp only[w64,IntKind.wrap_i64]at hn ⊢;split<;>omega
 exact⟨jDm _ h,Int.tmod_lt_of_pos _ hk⟩
def mC:List Id->Id->wG
 |[],x=>[x]
 |y::l,x=>if bJ y x=true then y::mC l x else if y=x then y::l else x::y::l
def zHD:List Id->Id->Nat
 |[],_=>0
 |y::l,x=>if bJ y x=true then zHD l x+1 else 0
theorem zMZ:∀(l:wG) (x:Id),zHD l x<=l.length
 |[],x=>by simp[zHD]
 |y::l,x=>by have:=zMZ l x;simp only[zHD,jAb];split<;>omega
theorem zJe:∀(l:wG) (x:Id),mC l x=if l[zHD l x]?=some x then l else l.take (zHD l x)++x::l.drop (zHD l x)
 |[],x=>by simp[mC,zHD]
 |y::l,x=>by
  simp only[mC,zHD];by_cases h:bJ y x=true
  .simp only[h,if_true,jBi,zJe l x,List.take_succ_cons,List.drop_succ_cons];split<;>simp
  .simp only[h];by_cases hy:y=x<;>simp[hy]
theorem zQO(l:wG)(x:Id):(mC l x).length<=l.length+1:=by
 rw[zJe];have:=zMZ l x;split
 .omega
 .simp;omega
theorem zMr:∀(l acc:wG),(l.foldl mC acc).length<=acc.length+l.length
 |[],acc=>by simp
 |x::l,acc=>by have h1:=zMr l (mC acc x);have h2:=zQO acc x;simp only[jAt,jAb];omega
structure Trc where
 defs:List Id
 nodes:List Id
 deriving DecidableEq
def yM(t:Trc):wF:=[.sl t.defs.length (zS t.defs),.sl t.nodes.length (zS t.nodes)]
end Go.Proofs.YtolkhapmieigcaaGreatDoor
