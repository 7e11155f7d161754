/- Rules for simp on levels and contracts; the steps that a prover takes at calls, loops and  -/
import Derived.Test.YtolkhapmieigcaaGreatDoorX7
import Derived.IntWalk
import Derived.Shelf.SlSortCmp.NoneTotal
import Derived.Shelf.Spec.SlicesGrow
set_option linter.unusedVariables false
set_option maxHeartbeats 8000000
set_option maxRecDepth 100000
set_option linter.unusedSimpArgs false
open Go.Proofs.Tryz
namespace Go.Abs
attribute [simp] KOp.dst
@[simp]theorem zZu{a b n:Nat}(h:a<=b):(a<=b+n)=True:=eq_true (by omega)
@[simp]def int(n:Int):A:=.lit (.int .i64 n)
@[simp]def bl(b:Bool):A:=.lit (.bool b)
section
variable{P:Program}{n0:Nat}{Qp:Value->wK}{K':wK}{KD:Env->Prop}{Q:Ex->wK}{env:Env} {U:St}{d:wD}
variable{rf:Bool->Nat->Nat->A}{g:Nat->wD}
def lvl(o:wD)(f:Nat->A)(b:A):A:=match o with
 |some i=>f i
 |none=>b
@[simp]theorem qGv{i:Nat}{f:Nat->A}{b:A}:lvl (some i) f b=f i:=rfl
@[simp]theorem qGu{f:Nat->A}{b:A}:lvl none f b=b:=rfl
variable{l:Nat}
@[simp]theorem qOo{o:Nat}:vw rf g (.ptr l o)=lvl (g l) (.ptr · o) (rf true l o):=by simp only[vw,lvl];cases g l<;>rfl
@[simp]theorem qOp{l n:Nat}:vw rf g (.row l n)=lvl (g l) (.row · n) (rf false l n):=by simp only[vw,lvl];cases g l<;>rfl
@[simp]theorem qOq{l n o:Nat}:vw rf g (.rwp l n o)=lvl (g l) (.rwp · n o) .any:=by simp only[vw,lvl];cases g l<;>rfl
@[simp]theorem qOm:vw rf g (.map l)=lvl (g l) .map .any:=by simp only[vw,lvl];cases g l<;>rfl
@[simp]theorem qOs{l n o k c:Nat}:vw rf g (.win l n o k c)=lvl (g l) (.win · n o k c) (zPo o k c (rf false l n)):=by simp only[vw,lvl];cases g l<;>rfl
variable{cs:wF}
@[simp]theorem qJs{n o k c:Nat}:zPo o k c (.sl n cs)=if k=0 then .sl 0 []else .sl k ((cs.drop o).take (k*c)):=rfl
@[simp]theorem qAp:vw rf g (.agg cs)=.agg (vwL rf g cs):=by simp only[vw]
@[simp]theorem qOr:vw rf g (.tup cs)=.tup (vwL rf g cs):=by simp only[vw]
@[simp]theorem qOG{n:Nat}:vw rf g (.sl n cs)=.sl n (vwL rf g cs):=by simp only[vw]
@[simp]theorem qOk{n:Nat}:vw rf g (.fsl n cs)=.fsl n (vwL rf g cs):=by simp only[vw]
@[simp]theorem qKz:vw rf g (.rptr cs)=.rptr (vwL rf g cs):=by simp only[vw]
variable{f:FuncId}
@[simp]theorem qOj{a b:wF}:vw rf g (.clo f a b)=.clo f (vwL rf g a) (vwL rf g b):=by simp only[vw]
@[simp]theorem qOi:vw rf g .any=.any:=by simp only[vw]
@[simp]theorem qOn:vw rf g .nil=.nil:=by simp only[vw]
variable{v:Value}
@[simp]theorem qOl:vw rf g (.lit v)=.lit v:=by simp only[vw]
variable{b:Nat}
@[simp]theorem qOH:vw rf g (yv b)=yv b:=by simp only[yv,vw]
@[simp]theorem qA5{b:Bool}{l n:Nat}:j6 b l n=.any:=rfl
@[simp]theorem qKl:vwL rf g []=[]:=by simp only[vwL]
@[simp]theorem qHG{c:A}:vwL rf g (c::cs)=vw rf g c::vwL rf g cs:=by simp only[vwL]
variable{ds:wF}
@[simp]theorem zGF:vwL rf g (cs++ds)=vwL rf g cs++vwL rf g ds:=by
 induction cs with
 |nil=>simp
 |cons c cs ih=>simp[ih]
@[simp]theorem qHH{n:Nat}:vwL rf g (cs.drop n)=(vwL rf g cs).drop n:=by
 induction cs generalizing n with
 |nil=>simp
 |cons c cs ih=>cases n<;>simp[ih]
@[simp]theorem qHI{n:Nat}:vwL rf g (cs.take n)=(vwL rf g cs).take n:=by
 induction cs generalizing n with
 |nil=>simp
 |cons c cs ih=>cases n<;>simp[ih]
@[simp]theorem qGK{o:Nat}:nrm0 (.ptr l o)=.ptr l o:=by simp only[nrm0]
@[simp]theorem qGL{l n:Nat}:nrm0 (.row l n)=.row l n:=by simp only[nrm0]
@[simp]theorem qGM{l n o:Nat}:nrm0 (.rwp l n o)=.rwp l n o:=by simp only[nrm0]
@[simp]theorem qGI:nrm0 (.map l)=.map l:=by simp only[nrm0]
@[simp]theorem qGO{l n o k c:Nat}:nrm0 (.win l n o k c)=.win l n o k c:=by simp only[nrm0]
@[simp]theorem qGD:nrm0 (.agg cs)=.agg (jV cs):=by simp only[nrm0]
@[simp]theorem qGN:nrm0 (.tup cs)=.tup (jV cs):=by simp only[nrm0]
@[simp]theorem qJK{n:Nat}:nrm0 (.sl n cs)=.sl n (jV cs):=by simp only[nrm0]
@[simp]theorem qGG{n:Nat}:nrm0 (.fsl n cs)=.sl n (jV cs):=by simp only[nrm0]
@[simp]theorem qB6:nrm0 (.rptr cs)=.rptr (jV cs):=by simp only[nrm0]
@[simp]theorem qGF{a b:wF}:nrm0 (.clo f a b)=.clo f (jV a) (jV b):=by simp only[nrm0]
@[simp]theorem qGE:nrm0 .any=.any:=by simp only[nrm0]
@[simp]theorem qGJ:nrm0 .nil=.sl 0 []:=by simp only[nrm0]
@[simp]theorem qGH:nrm0 (.lit v)=.lit v:=by simp only[nrm0]
@[simp]theorem qJL:nrm0 (yv b)=yv b:=by simp only[yv,nrm0]
@[simp]theorem qBw:jV []=[]:=by simp only[jV]
@[simp]theorem zZ3{c:A}:jV (c::cs)=nrm0 c::jV cs:=by simp only[jV]
@[simp]theorem zCj:jV (cs++ds)=jV cs++jV ds:=by
 induction cs with
 |nil=>simp
 |cons c cs ih=>simp[ih]
@[simp]theorem zZ4{n:Nat}:jV (cs.drop n)=(jV cs).drop n:=by
 induction cs generalizing n with
 |nil=>simp
 |cons c cs ih=>cases n<;>simp[ih]
@[simp]theorem zZ5{n:Nat}:jV (cs.take n)=(jV cs).take n:=by
 induction cs generalizing n with
 |nil=>simp
 |cons c cs ih=>cases n<;>simp[ih]
def j4(cs:wF):Prop:=jV cs=cs/\∀rf g,vwL rf g cs=cs
theorem j4.nil:j4 []:=⟨by simp,by simp⟩
theorem j4.lit(h:j4 cs):j4 (.lit v::cs):=⟨by simp[h.1],fun rf g=>by simp[h.2]⟩
theorem j4.sl{n:Nat}(k:j4 ds)(h:j4 cs):j4 (.sl n ds::cs):=⟨by simp[h.1,k.1],fun rf g=>by simp[h.2,k.2]⟩
@[simp]theorem qBE:q9 [] l=none:=rfl
@[simp]theorem zBh{k l:Nat}{ks:wA}:q9 (k::ks) l=if l=k then some 0 else (q9 ks l).map (· + 1):=rfl
@[simp]theorem qDK{n l:Nat}:gB [] n l=n+l:=by cases l<;>rfl
variable{js:wA}
@[simp]theorem qAA{j n:Nat}:gB (j::js) n 0=j:=rfl
@[simp]theorem zOZ{j n l:Nat}:gB (j::js) n (l+1)=gB js n l:=rfl
@[simp]theorem zZK{s t:St}:j7 s [] t=s++t:=by simp only[j7]
@[simp]theorem zEl{s os:St}{j:Nat}{o:AObj}:j7 s (j::js) (o::os)=j7 (s.set j o) js os:=rfl
@[simp]theorem qA7:dT js [] []:=trivial
@[simp]theorem zYb{a a':A}{aS aS':wF}:dT js (a'::aS') (a::aS)=((a=vw j6 (q9 js) a'\/a=nrm0 (vw j6 (q9 js) a'))/\dT js aS' aS):=rfl
def zKZ(o:Option AObj)(J:AObj->Prop):Prop:=match o with
 |some o=>J o
 |none=>False
@[simp]theorem zZ8{o:AObj}{J:AObj->Prop}:zKZ (some o) J=J o:=rfl
@[simp]theorem qBV:bK U rf g [] []:=trivial
@[simp]theorem zNw{j:Nat}{o:AObj}{os:St}:bK U rf g (j::js) (o::os)=(zKZ U[j]? (fun p=>o=vwO rf g p\/o=zAv (vwO rf g p))/\bK U rf g js os):=by simp only[bK,zKZ];cases U[j]?<;>rfl
@[simp]theorem qKm:vwO rf g (.box cs)=.box (vwL rf g cs):=rfl
variable{fz:Bool}{e:TypeId}
@[simp]theorem qKn{sz n:Nat}:vwO rf g (.row fz e sz n cs)=.row fz e sz n (vwL rf g cs):=rfl
variable{nk:Nat}{es:List (wC×A)}
@[simp]theorem qAo{fr:Bool}:vwO rf g (.mp fr nk es)=.mp fr nk (es.map fun p=>(p.1,vw rf g p.2)):=rfl
@[simp]theorem qKo:vwO rf g .rsv=.rsv:=rfl
@[simp]theorem qGR:zAv .rsv=.rsv:=rfl
@[simp]theorem qHn{n:Nat}:fD js n .rsv=.rsv:=rfl
variable{met:wA}
@[simp]theorem qAm{m n:Nat}:vwO rf g (.it m n met)=(match g m with|some i=>AObj.it i n met|none=>.dead):=rfl
@[simp]theorem qJO{fr:Bool}:zAv (.mp fr nk es)=.mp fr nk (es.map fun p=>(p.1,nrm0 p.2)):=rfl
@[simp]theorem qJM{m n:Nat}:zAv (.it m n met)=.it m n met:=rfl
@[simp]theorem qJW{n:Nat}{fr:Bool}:fD js n (.mp fr nk es)=.mp fr nk (es.map fun p=>(p.1,ren js n p.2)):=rfl
@[simp]theorem qJU{n m k:Nat}:fD js n (.it m k met)=.it (gB js n m) k met:=rfl
@[simp]theorem qAn{M:Nat}{r:Loop}{es:List (Nat×A)}:vwO rf g (.lp b r M es)=.lp b r M (es.map fun p=>(p.1,vw rf g p.2)):=rfl
@[simp]theorem qJN{M:Nat}{r:Loop}{es:List (Nat×A)}:zAv (.lp b r M es)=.lp b r M (es.map fun p=>(p.1,nrm0 p.2)):=rfl
@[simp]theorem qJV{n b M:Nat}{r:Loop}{es:List (Nat×A)}:fD js n (.lp b r M es)=.lp b r M (es.map fun p=>(p.1,ren js n p.2)):=rfl
@[simp]theorem qGP:zAv (.box cs)=.box (jV cs):=rfl
@[simp]theorem qGQ{sz n:Nat}:zAv (.row fz e sz n cs)=.row fz e sz n (jV cs):=rfl
@[simp]theorem qHl{n:Nat}:fD js n (.box cs)=.box (zZO js n cs):=rfl
@[simp]theorem qHm{n:Nat}{sz m:Nat}:fD js n (.row fz e sz m cs)=.row fz e sz m (zZO js n cs):=rfl
@[simp]theorem qNY{n:Nat}{a:A}:ren js n a=vw j6 (fun l=>some (gB js n l)) a:=rfl
@[simp]theorem qJT{n:Nat}:zZO js n cs=vwL j6 (fun l=>some (gB js n l)) cs:=rfl
def zTp(k:Nat)(o:Option AObj)(n:Nat)(J:List A->A):A:=match o with
 |some (.row _ _ _ m cs)=>if n=m then J cs else .any
 |_=>.any
variable{J:List A->A}
@[simp]theorem zZY{k n m:Nat}{sz:Nat}:zTp k (some (.row fz e sz m cs)) n J=if n=m then J cs else .any:=rfl
@[simp]theorem qBU{b:Bool}{l n:Nat}:seen U g 0 b l n=.any:=rfl
@[simp]theorem qBT{k l n:Nat}:seen U g (k+1) false l n=zTp k U[l]? n (fun cs=>.sl n (vwL (seen U g k) g cs)):=by
 simp only[seen,zTp];cases U[l]? with
 |none=>rfl
 |some o=>cases o<;>rfl
def zLw(o:Option AObj)(J:List A->A):A:=match o with
 |some (.box cs)=>J cs
 |_=>.any
@[simp]theorem qBR:zLw (some (.box cs)) J=J cs:=rfl
@[simp]theorem qBS{sz n:Nat}:zLw (some (.row fz e sz n cs)) J=.any:=rfl
@[simp]theorem zZX:zLw none J=.any:=rfl
@[simp]theorem qHz{k l n:Nat}:seen U g (k+1) true l n=zLw U[l]? (fun cs=>.rptr ((vwL (seen U g k) g cs).drop n)):=by
 simp only[seen,zLw];cases U[l]? with
 |none=>rfl
 |some o=>cases o<;>rfl
def zOO:List A->A
 |[x]=>x
 |l=>.tup l
@[simp]theorem qCa{x:A}:zOO [x]=x:=rfl
@[simp]theorem qBZ:zOO []=.tup []:=rfl
@[simp]theorem qCb{x y:A}{l:wF}:zOO (x::y::l)=.tup (x::y::l):=rfl
def zGn(env:Env) (U:St):List RS->(List A->Prop)->Prop
 |[],J=>J []
 | .slot t::rs,J=>zGn env U rs fun l=>J (env t::l)
 | .cell a n agg::rs,J=>nO ((ldA U n (env a)).bind (gO agg)) fun r=>zGn env U rs fun l=>J (r::l)
@[simp]theorem qHp{J:List A->Prop}:zGn env U [] J=J []:=rfl
variable{rs:List RS}
@[simp]theorem qBJ{t:Nat}{J:List A->Prop}:zGn env U (.slot t::rs) J=zGn env U rs fun l=>J (env t::l):=rfl
@[simp]theorem qBI{a n:Nat}{agg:Bool}{J:List A->Prop}:zGn env U (.cell a n agg::rs) J=nO ((ldA U n (env a)).bind (gO agg)) fun r=>zGn env U rs fun l=>J (r::l):=rfl
theorem zJw:∀{rs:List RS} {J:List A->Prop},zGn env U rs J=match dC env U rs with|some l=>J l|none=>False
 |[],J=>rfl
 | .slot t::rs,J=>by simp only[zGn,dC,pS];rw[zJw];cases dC env U rs<;>rfl
 | .cell a n agg::rs,J=>by
  simp only[zGn,dC,pS];cases (ldA U n (env a)).bind (gO agg)with
  |none=>rfl
  |some r =>
   simp only[nO];rw[zJw];cases dC env U rs<;>rfl
@[simp]theorem qJX{R:Out->St->Prop}:zGo rs R env U = zGn env U rs fun l=>R (.ret (zOO l)) U:=by
 rw[zJw,zGo,zQu];cases dC env U rs with
 |none=>rfl
 |some l =>
  cases l with
  |nil=>rfl
  |cons x l=>cases l<;>rfl
def sP(n:Nat)(r:A) (U1:St)(o:Out) (U':St):Prop :=
 ∃(r':A) (ks:wA) (fuel:Nat),o=.ret r'/\(∀i,i<n->ks[i]?=some i)/\ks.Nodup/\bK U' (seen U' (q9 ks) fuel) (q9 ks) ks U1 /\
  (r=vw (seen U' (q9 ks) fuel) (q9 ks) r'\/r=nrm0 (vw (seen U' (q9 ks) fuel) (q9 ks) r'))
variable{r:A}{U0 U1:St}
theorem zH{fn:Func}{c:Code}{k:K}(hf:P.funcs[f]?=some fn)(hb:fn.body=some c)(hc:zP P fn.ntmps c=some k.erase)(hr:gK P fn.results.toList=some rs)
 {args:wF} (h:wpF P k rs args U0 (sP U0.length r U1)):Ret P f args U0 r U1:=tX (u5 hf hb hc hr h)
theorem zK{hint:Nat->Option wE}{fn:Func}{c:Code}{k:K}(hf:P.funcs[f]?=some fn)(hb:fn.body=some c)(hc:qK P fn.ntmps hint c=some k.erase)(hr:gK P fn.results.toList=some rs)
 {args:wF} (h:wpF P k rs args U0 (sP U0.length r U1)):Ret P f args U0 r U1:=tX (nF hf hb hc hr h)
variable{r':A}{U':St}
theorem zB(fuel:Nat)(h:r=vw (seen U' (fun _=>none) fuel) (fun _=>none) r'\/r=nrm0 (vw (seen U' (fun _=>none) fuel) (fun _=>none) r')):sP 0 r [] (.ret r') U' :=
 ⟨r',[],fuel,rfl,fun i hi=>by omega,by simp,trivial,h⟩
def kv:List Nat->Bool|[]=>true|a::l=>if l.contains a then false else kv l
theorem ku:∀{l:wA},kv l=true->l.Nodup
 |[],_=>List.nodup_nil
 |a::l,h=>by
  simp[kv] at h;exact List.nodup_cons.2 ⟨h.1,ku h.2⟩
def km(n:Nat)(l:wA):Bool:=if l.take n=List.range n then kv l else false
theorem kh{n:Nat}{l:wA}(h:km n l=true):l.Nodup:=by
 simp[km] at h;exact ku h.2
theorem kg{n:Nat}{l:wA}(h:km n l=true)(i:Nat)(hi:i<n):l[i]?=some i:=by
 simp[km] at h;rw[<-List.getElem?_take_of_lt hi,h.1];simp[hi]
theorem zC{n:Nat} (ks:wA)(fuel:Nat)(hk:∀i,i<n->ks[i]?=some i)(hd:ks.Nodup)(ho:bK U' (seen U' (q9 ks) fuel) (q9 ks) ks U1)
 (h:r=vw (seen U' (q9 ks) fuel) (q9 ks) r'\/r=nrm0 (vw (seen U' (q9 ks) fuel) (q9 ks) r')):sP n r U1 (.ret r') U':=⟨r',ks,fuel,rfl,hk,hd,ho,h⟩
theorem ke{n:Nat} (ks:wA)(fuel:Nat)(hk:km n ks=true)(ho:bK U' (seen U' (q9 ks) fuel) (q9 ks) ks U1)
 (h:r=vw (seen U' (q9 ks) fuel) (q9 ks) r'\/r=nrm0 (vw (seen U' (q9 ks) fuel) (q9 ks) r')):sP n r U1 (.ret r') U':=zC ks fuel (kg hk) (kh hk) ho h
theorem mv{n:Nat} (ks:wA)(fuel:Nat)(hk:km n ks=true)(h:(bK U' (seen U' (q9 ks) fuel) (q9 ks) ks U1)/\(r=vw (seen U' (q9 ks) fuel) (q9 ks) r'\/r=nrm0 (vw (seen U' (q9 ks) fuel) (q9 ks) r'))):sP n r U1 (.ret r') U':=ke ks fuel hk h.1 h.2
theorem zL4:∀{s:St} {j:Nat} {o:AObj},s[j]?=some o->s.set j o=s
 |[],_,_,h=>by simp at h
 |x::s,0,o,h=>by simp at h;simp[h]
 |x::s,j+1,o,h=>by simp only[jBj]at h;simp[zL4 h]
theorem zR{args args':wF}(h:Ret P f args [] r [])(ha:dT [] args' args)(hr:∀m,vw j6 (fun l=>some (m+l)) r=r)(hq:K' (env.put d r) U):aK P f args' U (outK d env K' Qp):=by
 refine cZ h [] (by simp) trivial ha ?_;have:ren [] U.length r=r:=by
  have:=hr U.length
  simpa[ren]using this
 rw[this]
 simpa[outK]using hq
theorem mu{args args':wF}(h:Ret P f args [] r [])(e:(dT [] args' args)/\∀m,vw j6 (fun l=>some (m+l)) r=r)(hq:K' (env.put d r) U):aK P f args' U (outK d env K' Qp):=zR h e.1 e.2 hq
theorem qC{args args':wF}(h:Ret P f args [] r [])(ha:dT [] args' args)(hr:∀m,vw j6 (fun l=>some (m+l)) r=r)(hq:KD (env.put d r)):zC3 P U d KD f args' env:=by
 refine⟨r,cZ h [] (by simp) trivial ha ?_,hq⟩;have:ren [] U.length r=r:=by
  have:=hr U.length
  simpa[ren]using this
 rw[this];simp
theorem zU{args args':wF} (h:Ret P f args U0 r U1)(js:wA)(hd:js.Nodup)(ho:bK U j6 (q9 js) js U0)(ha:dT js args' args)
 (hq:K' (env.put d (ren js U.length r)) (j7 U js (U1.map (fD js U.length)))):aK P f args' U (outK d env K' Qp):=cZ h js hd ho ha (by simpa[outK]using hq)
theorem mr{args args':wF} (h:Ret P f args U0 r U1)(js:wA)(e:(js.Nodup)/\(bK U j6 (q9 js) js U0)/\dT js args' args)
 (hq:K' (env.put d (ren js U.length r)) (j7 U js (U1.map (fD js U.length)))):aK P f args' U (outK d env K' Qp):=zU h js e.1 e.2.1 e.2.2 hq
def zW4{S:Type}(E:S->List (Nat×A))(T:S->St)(I:S->Prop) (μ:S->Nat)(n:Nat)(e:Env)(t:St):Prop:=∃s,I s/\μ s=n/\e=jO (E s)/\t=T s
theorem qI{S:Type}{W:(Ex->wK)->wK}(E:S->List (Nat×A))(T:S->St)(I:S->Prop) (μ:S->Nat)(s0:S)(h0:I s0)(start:fU n0 (jO (E s0)) (T s0) env U)
 (round:∀s,I s->W (rnd n0 (zW4 E T I μ) (μ s) Q) (jO (E s)) (T s)):zJD n0 W Q env U:=zVr E T I μ s0 h0 start round
theorem zO{S:Type}{E:S->List (Nat×A)}{T:S->St}{I:S->Prop} {μ:S->Nat}{n:Nat}(s:S)(hs:I s)(hm : μ s<n)(hw:fU n0 (jO (E s)) (T s) env U):rnd n0 (zW4 E T I μ) n Q .norm env U :=
 zZQ s hs hm hw
theorem zM(ks:wA)(fuel:Nat){l:List (Nat×A)} (hk:∀i,i<n0->ks[i]?=some i)(hd:ks.Nodup)(ho:bK U (seen U (q9 ks) fuel) (q9 ks) ks U')
 (hl:∀p∈l,p.2=vw (seen U (q9 ks) fuel) (q9 ks) (env p.1)\/p.2=nrm0 (vw (seen U (q9 ks) fuel) (q9 ks) (env p.1))):fU n0 (jO l) U' env U:=fU.sel ks fuel l hk hd ho hl
theorem kf(ks:wA)(fuel:Nat){l:List (Nat×A)} (hk:km n0 ks=true)(ho:bK U (seen U (q9 ks) fuel) (q9 ks) ks U')
 (hl:∀p∈l,p.2=vw (seen U (q9 ks) fuel) (q9 ks) (env p.1)\/p.2=nrm0 (vw (seen U (q9 ks) fuel) (q9 ks) (env p.1))):fU n0 (jO l) U' env U:=zM ks fuel (kg hk) (kh hk) ho hl
theorem mw(ks:wA)(fuel:Nat){l:List (Nat×A)} (hk:km n0 ks=true)(h:(bK U (seen U (q9 ks) fuel) (q9 ks) ks U')/\∀p∈l,p.2=vw (seen U (q9 ks) fuel) (q9 ks) (env p.1)\/p.2=nrm0 (vw (seen U (q9 ks) fuel) (q9 ks) (env p.1))):fU n0 (jO l) U' env U:=kf ks fuel hk h.1 h.2
end
end Go.Abs
namespace Go.Abs
section
variable{P:Program}{KD:Env->Prop}{env:Env} {U:St}{d:wD}
variable{f:FuncId}
theorem aI{args args':wF}{r:A}(h:Ret P f args [] r [])(ha:dT [] args' args)(hr:∀m,vw j6 (fun l=>some (m+l)) r=r)(hq:KD (env.put d r)):xP P U d KD f args' env:=by
 refine⟨r,fun τ _=>cZ h [] (by simp) trivial ha ?_,hq⟩;have:ren [] τ.length r=r:=by
  have:=hr τ.length
  simpa[ren]using this
 rw[this];simp
def tY(U:St)(js:wA):List Nat->St->Prop
 |[],[]=>True
 |j::ks,o::os=>(zKZ U[j]? fun p=>(∃cs,p=.box cs)/\(∀n,fD js n o=p)/\(o=vwO j6 (q9 js) p\/o=zAv (vwO j6 (q9 js) p)))/\tY U js ks os
 |_,_=>False
@[simp]theorem zZW{js:wA}:tY U js [] []:=trivial
@[simp]theorem zXD{js ks:wA}{j:Nat}{o:AObj}{os:St}:tY U js (j::ks) (o::os)=((zKZ U[j]? fun p=>(∃cs,p=.box cs)/\(∀n,fD js n o=p)/\(o=vwO j6 (q9 js) p\/o=zAv (vwO j6 (q9 js) p)))/\tY U js ks os):=rfl
theorem xE{js:wA} {τ:St}(hk:aR U τ):∀{ks:wA} {os:St},tY U js ks os->tY τ js ks os
 |[],[],_=>trivial
 |j::ks,o::os,h=>by
  obtain⟨h1,h2⟩:=h;refine⟨?_,xE hk h2⟩;cases hj : U[j]? with
  |none=>rw[hj]at h1;exact h1.elim
  |some p =>
   rw[hj]at h1;obtain⟨⟨cs,rfl⟩,h3⟩:=h1;rw[hk j cs hj];exact⟨⟨cs,rfl⟩,h3⟩
 |[],_::_,h=>h.elim
 |_::_,[],h=>h.elim
theorem zGr{js:wA}:∀{ks:wA} {os:St},tY U js ks os->bK U j6 (q9 js) ks os
 |[],[],_=>trivial
 |j::ks,o::os,h=>by
  obtain⟨h1,h2⟩:=h;refine⟨?_,zGr h2⟩;cases hj : U[j]? with
  |none=>rw[hj]at h1;exact h1.elim
  |some p=>rw[hj]at h1;exact h1.2.2
 |[],_::_,h=>h.elim
 |_::_,[],h=>h.elim
theorem zGq{js:wA}{n:Nat}:∀{ks:wA} {os:St},tY U js ks os->j7 U ks (os.map (fD js n)) = U
 |[],[],_=>by simp
 |j::ks,o::os,h=>by
  obtain⟨h1,h2⟩:=h;cases hj : U[j]? with
  |none=>rw[hj]at h1;exact h1.elim
  |some p =>
   rw[hj]at h1;simp only[jAd,zEl];rw[h1.2.1 n,zL4 hj];exact zGq h2
 |[],_::_,h=>h.elim
 |_::_,[],h=>h.elim
theorem zIH{args args':wF} {U0:St}{r:A}(h:Ret P f args U0 r U0)(js:wA)(hd:js.Nodup)(ho:tY U js js U0)(ha:dT js args' args)(hr:∀n,ren js n r=r)(hq:KD (env.put d r)) :
 xP P U d KD f args' env:=by
 refine⟨r,fun τ hk=>cZ h js hd (zGr (xE hk ho)) ha ?_,hq⟩;rw[hr,zGq (xE hk ho)];simp
end
end Go.Abs
namespace Go.Abs
section
variable{P:Program}{Qp:Value->wK}{Qd:Value->St->Prop}{K':wK}{env:Env} {U:St}{d:wD}{x y:Operand}
def zKQ(a:A)(J:A->Prop):Prop:=match a with
 | .ptr l o=>J (.ptr l o)
 | .rptr cs=>J (.rptr cs)
 |_=>False
variable{l:Nat}
@[simp]theorem qBu{o:Nat}{J:A->Prop}:zKQ (.ptr l o) J=J (.ptr l o):=rfl
variable{cs:wF}
@[simp]theorem zZ2{J:A->Prop}:zKQ (.rptr cs) J=J (.rptr cs):=rfl
theorem zQi{J:A->Prop}:jQ (zW env U (.nilc d x)) J=zKQ (ev env x) J:=by simp only[zW,zKQ,jQ];generalize ev env x=a;cases a<;>simp
@[simp]theorem qIc:wpO P Qp K' (.nilc d x) env U = zKQ (ev env x) fun r=>K' (env.put d r) U:=zQi (d:=d)
@[simp]theorem qAx{fl:Nat}:jZ P Qd fl K' (.nilc d x) env U = wpO P c8 K' (.nilc d x) env U:=by simp[jZ,KOp.lite,KOp.keeps]
def zFG:List A->(List Int->Prop)->Prop
 |[],J=>J []
 | .lit (.int .i64 n)::l,J=>zFG l fun ks=>J (n::ks)
 |_,_=>False
variable{J:List Int->Prop}
@[simp]theorem qBo:zFG [] J=J []:=rfl
@[simp]theorem zZx{n:Int}{l:wF}:zFG (.lit (.int .i64 n)::l) J=zFG l fun ks=>J (n::ks):=rfl
theorem zKH:∀(l:wF) (J:List Int->Prop),zFG l J=match zA6 l with|some ks=>J ks|none=>False
 |[],J=>rfl
 |a::l,J=>by
  cases a<;>try rfl
  rename_i v;cases v<;>try rfl
  rename_i k n;cases k<;>try rfl
  simp only[zFG,zA6,zKH l];cases zA6 l<;>rfl
def zHa(nk:Nat)(k:A)(J:List Int->Prop):Prop:=match zBd nk k with
 |some ks=>J ks
 |none=>False
variable{nk:Nat}
@[simp]theorem qGf:zHa nk (.agg cs) J=zFG cs fun ks=>(ks.length=nk/\nk≠1)/\J ks:=by
 simp only[zHa,zBd,zKH];cases zA6 cs with
 |none=>rfl
 |some ks =>
  simp only;by_cases h:ks.length=nk/\nk≠1<;>simp[h]
@[simp]theorem qGg{n:Int}:zHa nk (.lit (.int .i64 n)) J=(nk=1/\J [n]):=by simp only[zHa,zBd];by_cases h:nk=1<;>simp[h]
def zDh(o:Option AObj)(J:Bool->Nat->List (wC×A)->Prop):Prop:=match o with
 |some (.mp fr nk es)=>J fr nk es
 |_=>False
@[simp]theorem qBt{fr:Bool}{es:List (wC×A)}{J:Bool->Nat->List (wC×A)->Prop}:zDh (some (.mp fr nk es)) J=J fr nk es:=rfl
def zS9(o:Option AObj)(J:Nat->Nat->List Nat->Prop):Prop:=match o with
 |some (.it m n met)=>J m n met
 |_=>False
@[simp]theorem qBn{m n:Nat}{met:wA}{J:Nat->Nat->List Nat->Prop}:zS9 (some (.it m n met)) J=J m n met:=rfl
@[simp]theorem qKM{m:MOp}{xs:List Operand}:wpO P Qp K' (.mop d m xs) env U = eL m (xs.map (ev env)) (fun r τ=>K' (env.put d r) τ) U:=by simp only[wpO]
variable{K:A->St->Prop}
@[simp]theorem qJJ:eL (.mk nk) [] K U = K (.map U.length) (U++[.mp true nk []]):=rfl
@[simp]theorem qG4{z:Value}{ok:Bool}{k:A}:eL (.get nk z ok) [.map l,k] K U = zHa nk k fun ks=>zDh U[l]? fun _ nk' es=>nk'=nk/\K (uT z ok (bN ks es)) U:=by
 simp only[eL,zHa,zDh];cases zBd nk k with
 |none=>rfl
 |some ks =>
  cases U[l]? with
  |none=>rfl
  |some o=>cases o<;>rfl
@[simp]theorem qG8{k v:A}:eL (.set nk) [.map l,k,v] K U = zHa nk k fun ks=>zDh U[l]? fun fr nk' es=>nk'=nk/\K (.lit undef) (U.set l (.mp fr nk (lS ks v es))):=by
 simp only[eL,zHa,zDh];cases zBd nk k with
 |none=>rfl
 |some ks =>
  cases U[l]? with
  |none=>rfl
  |some o=>cases o<;>rfl
@[simp]theorem qG2{k:A}:eL (.del nk) [.map l,k] K U = zHa nk k fun ks=>zDh U[l]? fun _ nk' es=>nk'=nk/\K (.tup []) (U.set l (.mp false nk (zCR ks es))):=by
 simp only[eL,zHa,zDh];cases zBd nk k with
 |none=>rfl
 |some ks =>
  cases U[l]? with
  |none=>rfl
  |some o=>cases o<;>rfl
@[simp]theorem qG7:eL .rng [.map l] K U = zDh U[l]? fun fr _ es=>fr=true/\K (.ptr U.length 0) (U++[.it l es.length []]):=by
 simp only[eL,zDh];cases U[l]? with
 |none=>rfl
 |some o =>
  cases o<;>try rfl
  rename_i fr nk es;cases fr<;>simp
@[simp]theorem qG6{j:Nat}:eL .nxt [.ptr j 0] K U = zS9 U[j]? fun l n met=>zDh U[l]? fun fr _ es=>fr=true/\n=es.length /\
 (∀(i:Nat) (p:wC×A),i∉met->es[i]?=some p->K (.tup [.lit (.bool true),zBY p.1,p.2]) (U.set j (.it l n (met++[i]))))/\((∀i,i<n->i∈met)->K (.tup [.lit (.bool false)]) U):=by
 simp only[eL,zDh,zS9];cases U[j]? with
 |none=>rfl
 |some o =>
  cases o<;>try rfl
  rename_i l n met;simp only;cases U[l]? with
  |none=>rfl
  |some o =>
   cases o<;>try rfl
   rename_i fr nk es;cases fr<;>simp
@[simp]theorem qG3{j:Nat}:eL .ent [.ptr j 0] K U = zS9 U[j]? fun l n met=>zDh U[l]? fun fr _ es=>fr=true/\∃i p,met.getLast?=some i/\es[i]?=some p/\n=es.length/\K (.tup [zBY p.1,p.2]) U:=by
 simp only[eL,zDh,zS9];cases U[j]? with
 |none=>rfl
 |some o =>
  cases o<;>try rfl
  rename_i l n met;simp only;cases U[l]? with
  |none=>rfl
  |some o =>
   cases o<;>try(cases met.getLast?<;>rfl)
   rename_i fr nk es;cases fr
   .cases met.getLast?<;>simp
   .cases met.getLast? with
    |none=>simp
    |some i =>
     simp only;apply propext;cases hp:es[i]? with
     |none =>
      refine⟨fun h=>h.2.elim,?_⟩;rintro⟨_,i',p',h1,h2,_⟩;have h1:=jAy h1;subst h1;rw[hp]at h2;exact absurd h2 (by simp)
     |some p =>
      refine⟨fun h=>⟨trivial,i,p,rfl,hp,h.1,h.2⟩,?_⟩;rintro⟨_,i',p',h1,h2,h3,h4⟩;have h1:=jAy h1;subst h1;rw[hp]at h2;have h2:=jAy h2;subst h2;exact⟨h3,h4⟩
@[simp]theorem qG0{sz:Nat}{zs:wM}{l n o k c:Nat}:eL (.clr sz zs) [.win l n o k c] K U = (match U[l]? with
 |some (.row fz e s m cs)=>(n=m/\s=sz/\fz=false/\o+k*sz<=cs.length)/\K (.tup []) (U.set l (.row false e sz n (cs.take o++(List.replicate k (zs.map jP)).flatten++cs.drop (o+k*sz))))
 |_=>False):=rfl
@[simp]theorem qG5{e:TypeId}{sz bytes:Nat}{zs:wM}{k k':IntKind}{n c:Int}:eL (.mks e sz bytes zs) [.lit (.int k n),.lit (.int k' c)] K U = ((0<=n/\c=n/\n<=1000000000000/\bytes*n.toNat<=281474976710656)/\K (.row U.length n.toNat) (U++[.row false e sz n.toNat ((List.replicate n.toNat (zs.map jP)).flatten)])):=rfl
@[simp]theorem qG1{k k':IntKind}{n:Int}:eL (.cvt k) [.lit (.int k' n)] K U = K (.lit (.int k (k.wrap n))) U:=rfl
@[simp]theorem qBs{n:Nat}:eL .str [.fsl n cs] K U = (match vW cs with
 |some xs=>(xs.length=n/\n≠0)/\K (.lit (.string (strOfNums xs))) U
 |none=>False):=rfl
@[simp]theorem qBr{xs:wF}:eL .boom xs K U = False:=by cases xs<;>rfl
@[simp]theorem qKy{rf:Bool->Nat->Nat->A}{g:Nat->wD}(ks:wC):vw rf g (zBY ks)=zBY ks:=by
 have:∀ks:wC,vwL rf g (ks.map fun n=>A.lit (.int .i64 n))=ks.map fun n=>A.lit (.int .i64 n):=fun ks=>by
  induction ks with
  |nil=>rfl
  |cons k ks ih=>simp[vwL,ih]
 match ks with
 |[]=>simp[zBY]
 |[n]=>simp[zBY]
 |a::b::ks=>simp only[zBY,qAp,this]
end
end Go.Abs
namespace Go.Abs
attribute [simp] A.bnd cY AObj.bnd zDE
@[simp]theorem qKT{b k:Nat}:(yv b).bnd k=true:=rfl
section
variable{P:Program}{Qp:Value->wK}{Qd:Value->St->Prop}{K':wK}{env:Env} {U:St}{d:wD}{x:Operand}
def zZw:A->Option Int
 | .lit (.int _ j)=>some j
 |_=>none
variable{j:Int}
@[simp]theorem qGt{k:IntKind}:zZw (.lit (.int k j))=some j:=rfl
@[simp]theorem zW7{n:Nat}:jF env n none=some (n:Int):=rfl
@[simp]theorem zW8{n:Nat}:jF env n (some x)=zZw (ev env x):=by
 simp only[jF,zZw];cases ev env x with
 |lit u=>cases u<;>rfl
 |_=>rfl
def pB(a b:Option Int)(J:Int->Int->Prop):Prop:=match a,b with
 |some l,some h=>J l h
 |_,_=>False
@[simp]theorem zYf{l h:Int}{J:Int->Int->Prop}:pB (some l) (some h) J=J l h:=rfl
def zTy(a:A)(lo:Option Int)(hi:Nat->Option Int)(sz:Nat)(J:A->Prop):Prop:=match a with
 | .sl n cs=>pB lo (hi n) fun l h=>(0<=l/\l<=h/\h<=n)/\J (.sl (h-l).toNat ((cs.drop (l.toNat*sz)).take ((h-l).toNat*sz)))
 | .fsl n cs=>pB lo (hi n) fun l h=>(0<=l/\l<=h/\h<=n)/\J (.sl (h-l).toNat ((cs.drop (l.toNat*sz)).take ((h-l).toNat*sz)))
 | .nil=>pB lo (hi 0) fun l h=>(l=0/\h=0)/\J .nil
 |_=>False
variable{J:A->Prop}{cs:wF}{lo:Option Int}{hi:Nat->Option Int}{sz:Nat}
@[simp]theorem qKe{n:Nat}:zTy (.sl n cs) lo hi sz J=pB lo (hi n) fun l h=>(0<=l/\l<=h/\h<=n)/\J (.sl (h-l).toNat ((cs.drop (l.toNat*sz)).take ((h-l).toNat*sz))):=rfl
@[simp]theorem qH2{n:Nat}:zTy (.fsl n cs) lo hi sz J=pB lo (hi n) fun l h=>(0<=l/\l<=h/\h<=n)/\J (.sl (h-l).toNat ((cs.drop (l.toNat*sz)).take ((h-l).toNat*sz))):=rfl
@[simp]theorem qH3:zTy .nil lo hi sz J=pB lo (hi 0) fun l h=>(l=0/\h=0)/\J .nil:=rfl
@[simp]theorem qKS{lo hi:Option Operand}:wpO P Qp K' (.slc d x sz lo hi none) env U = zTy (ev env x) (jF env 0 lo) (fun n=>jF env n hi) sz fun r=>K' (env.put d r) U:=by
 show jQ (zW env U (.slc d x sz lo hi none)) _=_;simp only[zW,zTy];generalize ev env x=a;cases a<;>try rfl
 all_goals
  simp only[pB];generalize jF env _ lo=u;generalize jF env _ hi=v;cases u<;>cases v<;>rfl
def uM(o:Option AObj)(n sz:Nat)(J:Prop):Prop:=match o with
 |some (.row _ _ s m _)=>if n=m/\s=sz then J else False
 |_=>False
variable{fz:Bool}
@[simp]theorem zZT{e s n m sz:Nat}{J:Prop}:uM (some (.row fz e s m cs)) n sz J=((n=m/\s=sz)/\J):=by simp only[uM];by_cases h:n=m/\s=sz<;>simp[h]
def zIe(U:St)(a:A)(lo:Option Int)(hi:Nat->Option Int)(sz:Nat)(J:A->Prop):Prop:=match a with
 | .row l n=>uM U[l]? n sz (pB lo (hi n) fun l' h=>(0<=l'/\l'<=h/\h<=n)/\J (.win l n (l'.toNat*sz) (h-l').toNat sz))
 | .win l n o k c=>uM U[l]? n sz (pB lo (hi k) fun l' h=>((0<=l'/\l'<=h/\h<=k)/\c=sz)/\J (.win l n (o+l'.toNat*sz) (h-l').toNat sz))
 |_=>False
@[simp]theorem qBL{l n:Nat}:zIe U (.row l n) lo hi sz J=uM U[l]? n sz (pB lo (hi n) fun l' h=>(0<=l'/\l'<=h/\h<=n)/\J (.win l n (l'.toNat*sz) (h-l').toNat sz)):=rfl
@[simp]theorem qBM{l n o k c:Nat}:zIe U (.win l n o k c) lo hi sz J=uM U[l]? n sz (pB lo (hi k) fun l' h=>((0<=l'/\l'<=h/\h<=k)/\c=sz)/\J (.win l n (o+l'.toNat*sz) (h-l').toNat sz)):=rfl
theorem zIf{lo hi:Option Operand}:jQ (zW env U (.rslc d x sz lo hi)) J=zIe U (ev env x) (jF env 0 lo) (fun n=>jF env n hi) sz J:=by
 simp only[zW,zIe];generalize ev env x=a;have key:∀(ob:Option AObj) (n k:Nat) (f:Int->Int->Prop×A),jQ (match ob with
  |some (.row _ _ s m _)=>if n=m/\s=sz then (match jF env 0 lo,jF env k hi with
   |some l',some h=>some (f l' h)
   |_,_=>none)else none
  |_=>none) J=uM ob n sz (pB (jF env 0 lo) (jF env k hi) fun l' h=>(f l' h).1/\J (f l' h).2):=by
  intro ob n k f;simp only[uM,pB];cases ob with
  |none=>rfl
  |some ob =>
   cases ob<;>try rfl
   simp only;split
   .generalize jF env 0 lo=u;generalize jF env k hi=v;cases u<;>cases v<;>rfl
   .rfl
 cases a<;>try rfl
 .rename_i l n;exact key U[l]? n n fun l' h=>(0<=l'/\l'<=h/\h<=n,.win l n (l'.toNat*sz) (h-l').toNat sz)
 .rename_i l n o k c;exact key U[l]? n k fun l' h=>((0<=l'/\l'<=h/\h<=k)/\c=sz,.win l n (o+l'.toNat*sz) (h-l').toNat sz)
@[simp]theorem qIe{lo hi:Option Operand}:wpO P Qp K' (.rslc d x sz lo hi) env U = zIe U (ev env x) (jF env 0 lo) (fun n=>jF env n hi) sz fun r=>K' (env.put d r) U:=zIf (d:=d)
@[simp]theorem qAz{fl:Nat}{lo hi:Option Operand}:jZ P Qd fl K' (.rslc d x sz lo hi) env U = zIe (oW fl U) (ev env x) (jF env 0 lo) (fun n=>jF env n hi) sz fun r=>K' (env.put d r) U:=zIf (d:=d)
@[simp]theorem qFR{sz l n:Nat}{k:IntKind}:vR U sz (.row l n) (.lit (.int k j)) J=uM U[l]? n sz ((0<=j/\j<n)/\J (.rwp l n (j.toNat*sz))):=by
 simp only[vR,uM];cases U[l]? with
 |none=>rfl
 |some o=>cases o<;>rfl
@[simp]theorem qFS{sz l n o k' c:Nat}{k:IntKind}:vR U sz (.win l n o k' c) (.lit (.int k j)) J=uM U[l]? n sz ((0<=j/\j<k')/\J (.rwp l n (o+j.toNat*sz))):=by
 simp only[vR,uM];cases U[l]? with
 |none=>rfl
 |some o=>cases o<;>rfl
def zEq(o:Option AObj)(n:Nat)(J:Prop):Prop:=match o with
 |some (.row _ _ _ m _)=>if n=m then J else False
 |_=>False
@[simp]theorem zZS{e s n m:Nat}{J:Prop}:zEq (some (.row fz e s m cs)) n J=(n=m/\J):=by simp only[zEq];by_cases h:n=m<;>simp[h]
@[simp]theorem qGq{l n:Nat}:rY U (.row l n) J=zEq U[l]? n (J (.lit (.int .i64 n))):=by
 simp only[rY,zEq];cases U[l]? with
 |none=>rfl
 |some o=>cases o<;>rfl
@[simp]theorem qGr{l n o k c:Nat}:rY U (.win l n o k c) J=zEq U[l]? n (J (.lit (.int .i64 k))):=by
 simp only[rY,zEq];cases U[l]? with
 |none=>rfl
 |some o=>cases o<;>rfl
@[simp]theorem qGn{l n o k c:Nat}:zHb U (.win l n o k c) J=zEq U[l]? n (J (.lit (.int .i64 k))):=by
 simp only[zHb,zEq];cases U[l]? with
 |none=>rfl
 |some o=>cases o<;>rfl
def zRu(ob:Option AObj)(l n o off:Nat):Option A:=match ob with
 |some (.row _ _ _ m _)=>if n=m then some (.rwp l n (o+off))else none
 |_=>none
@[simp]theorem zXX{e s n m l o off:Nat}:zRu (some (.row fz e s m cs)) l n o off=if n=m then some (.rwp l n (o+off))else none:=rfl
@[simp]theorem qA4{l n o off:Nat}:zD9 U off (.rwp l n o)=zRu U[l]? l n o off:=by
 simp only[zD9,zRu];cases U[l]? with
 |none=>rfl
 |some o=>cases o<;>rfl
end
mutual
theorem zD4{rf:Bool->Nat->Nat->A}{g:Nat->wD}{k:Nat}(hg:∀l,l<k->g l=some l):∀(a:A),a.bnd k=true->vw rf g a=a
 | .any,_=>by simp
 | .nil,_=>by simp
 | .lit _,_=>by simp
 | .agg cs,h=>by simp[lE hg cs h]
 | .tup cs,h=>by simp[lE hg cs h]
 | .sl _ cs,h=>by simp[lE hg cs h]
 | .fsl _ cs,h=>by simp[lE hg cs h]
 | .rptr cs,h=>by simp[lE hg cs h]
 | .ptr l _,h=>by simp[hg l (by simpa using h)]
 | .row l _,h=>by simp[hg l (by simpa using h)]
 | .rwp l _ _,h=>by simp[hg l (by simpa using h)]
 | .win l _ _ _ _,h=>by simp[hg l (by simpa[A.bnd]using h)]
 | .map l,h=>by simp only[vw];rw[hg l (by simpa using h)]
 | .clo _ fs cs,h=>by simp only[A.bnd,jA8]at h;simp[lE hg fs h.1,lE hg cs h.2]
theorem lE{rf:Bool->Nat->Nat->A}{g:Nat->wD}{k:Nat}(hg:∀l,l<k->g l=some l):∀(cs:wF),cY k cs=true->vwL rf g cs=cs
 |[],_=>by simp
 |c::cs,h=>by simp only[cY,jA8]at h;simp[zD4 hg c h.1,lE hg cs h.2]
end
theorem zOQ{rf:Bool->Nat->Nat->A}{g:Nat->wD}{k:Nat}(hg:∀l,l<k->g l=some l)(o:AObj)(h:o.bnd k=true):vwO rf g o=o:=by
 cases o with
 |dead=>rfl
 |box cs=>simp only[AObj.bnd]at h;simp[lE hg cs h]
 |row fz e sz n cs=>simp only[AObj.bnd]at h;simp[lE hg cs h]
 |lp b r M es =>
  simp only[AObj.bnd,jB3]at h;simp only[qAn,AObj.lp.injEq,true_and]
  conv=>rhs;rw[<-List.map_id es]
  exact jCa fun p hp=>by rw[zD4 hg _ (h p hp)];rfl
 |mp fr nk es =>
  simp only[AObj.bnd,jB3]at h;simp only[qAo,AObj.mp.injEq,true_and]
  conv=>rhs;rw[<-List.map_id es]
  exact jCa fun p hp=>by rw[zD4 hg _ (h p hp)];rfl
 |it m n met =>
  simp only[AObj.bnd,decide_eq_true_eq]at h;rw[qAm,hg m h]
 |rsv=>rfl
theorem zDr:∀{l:wA} {x:Nat} {r:wA},x∉l->q9 (l++r) x=(q9 r x).map (· + l.length)
 |[],x,r,_=>by simp
 |y::l,x,r,h=>by
  simp only[jA1,not_or]at h;simp only[jBe,zBh,h.1,if_false,zDr h.2,Option.map_map]
  congr 1
theorem zGd:∀{l:wA} {x i:Nat} {r:wA},q9 l x=some i->q9 (l++r) x=some i
 |[],x,i,r,h=>by simp at h
 |y::l,x,i,r,h=>by
  simp only[jBe,zBh]at h⊢;split
  .rename_i e;simpa[e]using h
  .rename_i e;simp only[e,if_false,jAf]at h;obtain⟨j,hj,rfl⟩:=h;rw[zGd hj];rfl
theorem zEk:∀{k l:Nat},l<k->q9 (List.range k) l=some l
 |k+1,l,h=>by
  rw[List.range_succ];rcases jB2 l k with hl|hl
  .exact zGd (zEk hl)
  .have e:l=k:=by omega
   subst e;rw[zDr (by simp)];simp
def Cl(m:Nat)(S:St):Prop:=S.length=m/\∀o∈S,o.bnd m=true
theorem Cl.app{m k:Nat}{S own:St}(h:Cl m S)(hk:own.length=k)(ho:∀o∈own,o.bnd (m+k)=true):Cl (m+k) (S++own):=by
 refine⟨by simp[h.1,hk],fun o hm=>?_⟩;rcases jA6.1 hm with hm|hm
 .exact AObj.bnd_mono (Nat.le_add_right m k) _ (h.2 o hm)
 .exact ho o hm
section
variable{P:Program}{n0:Nat}{Qp:Value->wK}{Qd:Value->St->Prop}{K':wK}{KD:Env->Prop}{Q:Ex->wK}{env:Env} {U:St}{d:wD}
theorem zE8{m k:Nat}{S own:St}(h:S.length=m):(S++own)[m+k]?=own[k]?:=by rw[jB9 (by omega)];congr 1;omega
variable{m:Nat}
theorem vP{S own:St}(h:S.length=m):(S++own)[m]?=own[0]?:=by rw[jB9 (by omega)];congr 1;omega
variable{o:AObj}
theorem zED{m k:Nat}{S own:St}(h:S.length=m):(S++own).set (m+k) o=S++own.set k o:=by rw[List.set_append_right _ _ (by omega)];congr 2;omega
theorem zGw{S own:St}(h:S.length=m):(S++own).set m o=S++own.set 0 o:=by rw[List.set_append_right _ _ (by omega)];congr 2;omega
theorem zLx{rf:Bool->Nat->Nat->A}{g:Nat->wD}{m:Nat}(hg:∀l,l<m->g l=some l) {U:St}:∀(k:Nat) (S:St),k+S.length<=m->(∀i o,S[i]?=some o->U[k+i]?=some o)->(∀o∈S,o.bnd m=true)->bK U rf g (List.range' k S.length) S
 |_,[],_,_,_=>trivial
 |k,o::S,hk,h,hb=>by simp only[jAc,List.range'_succ,zNw];refine⟨?_,zLx hg (k+1) S (by simp only[jAc]at hk;omega) (fun i o' hi=>by have:=h (i+1) o' (by simpa using hi);rwa[show k+1+i=k+(i+1) by omega]) (fun o' ho'=>hb o' (jAk _ ho'))⟩;have:=h 0 o (by simp);simp only[jCj]at this;rw[this];exact .inl (zOQ hg o (hb o (jAm ..))).symm
theorem zOG{rf:Bool->Nat->Nat->A}{S own:St}(h:Cl m S):bK (S++own) rf (q9 (List.range m)) (List.range m) S:=by have:=zLx (rf:=rf) (g:=q9 (List.range m)) (m:=m) (fun l hl=>zEk hl) (U:=S++own) 0 S (by rw[h.1];omega) (fun i o hi=>by rw[jB1,jAp (jA5.1 hi).1];exact hi) h.2;rw[h.1,<-List.range_eq_range']at this;exact this
theorem zDB:∀{k j n l:Nat},l<k->gB (List.range' j k) n l=j+l
 |k+1,j,n,0,_=>by simp[List.range'_succ]
 |k+1,j,n,l+1,h=>by simp only[List.range'_succ,zOZ];rw[zDB (by omega)];omega
theorem zLW{k n l:Nat}(h:l<k):gB (List.range k) n l=l:=by rw[List.range_eq_range',zDB h];omega
theorem zGf:∀{S' S own:St} (k:Nat) (pre:St),pre.length=k->S'.length=S.length->j7 (pre++S++own) (List.range' k S.length) S'=pre++S'++own
 |[],[],own,k,pre,_,_=>by simp
 |o'::S',o::S,own,k,pre,hk,hl=>by
  simp only[jAc,List.range'_succ,zEl];have e:(pre++(o::S)++own).set k o'=(pre++[o'])++S++own:=by subst hk;simp
  rw[e,zGf (k+1) (pre++[o']) (by simp[hk]) (by simpa using hl)];simp
 |[],o::S,_,_,_,_,hl=>by simp at hl
 |_::_,[],_,_,_,_,hl=>by simp at hl
theorem zHr{b:Nat}{S S' own:St}{x args:wF}(h:Cl m S)(h':Cl m S')(hy:lG P b x S fun o τ=>o=.ret (.lit (.bool true))/\τ = S')(ha:dT (List.range m) args x){Q:Out->St->Prop}(hq:Q (.ret (.lit (.bool true))) (S'++own)) :
 lG P b args (S++own) Q:=by
 refine zPj hy (List.range m) List.nodup_range (zOG h) ha ?_;have e:S'.map (fD (List.range m) (S++own).length)=S':=by
  conv=>rhs;rw[<-List.map_id S']
  exact jCa fun o ho=>by simp only[fD,id];exact zOQ (fun l hl=>by rw[zLW hl]) o (h'.2 o ho)
 rw[e];have:=zGf (own:=own) 0 [] rfl (by rw[h.1,h'.1]:S'.length=S.length);rw[h.1,<-List.range_eq_range']at this;simp only[jBk]at this;rw[this]
 simpa[ren]using hq
variable{e:TypeId}{sz:Nat}{cs:wF}
theorem zJi{H:Mem}{L:wO}{w:World}(hs:RelSt H L U w){l n:Nat}{v:Value}(hU:U[l]?=some (.row false e sz n cs))(hv:Rel H L (.row l n) v) :
 ∃H',Nxt H L w H' L (U.set l (.row true e sz n cs)) w/\Rel H' L (.sl n cs) v:=by
 simp only[Rel]at hv;obtain⟨_,li,e1,e2,e3,hv⟩:=hv;have hob:=hs.obj l li _ e1 hU;simp only[qB]at hob;obtain⟨_,hln,hcl,hob⟩:=hob;have hv:=hv hln.symm;rcases hob with ⟨hb,h0⟩|⟨b,cur,hb,hh,k1,k2,k3,k4,k5,k6⟩
 .rw[hb]at hv;subst h0;have hcs:cs=[]:=jBx (by simpa using hcl);refine⟨H,⟨⟨hs.pers,by simp[hs.len],fun i x o hL ho=>?_,hs.inj,hs.lt⟩,Step.refl _ _ _,LLe.refl _,fun _ h=>.inl h⟩,?_⟩
  .by_cases hi:i=l
   .subst hi;rw[e1]at hL;cases hL;rw[jAo (jA5.1 hU).1]at ho;cases ho;simp only[qB];exact⟨e2,hln,hcl,.inl ⟨hb,trivial⟩⟩
   .rw[jAh (Ne.symm hi)]at ho;exact hs.obj i x o hL ho
  .simp only[Rel];exact⟨none,0,hv,jA _,jB0 _,.inl ⟨trivial,hcs⟩⟩
 .rw[hb]at hv;have hcell:∀(j:Nat) u,(cur.toList.take (n*sz))[j]?=some u->w.cell? ⟨b,j,none⟩=some u:=fun j u hu=>by
   rw[cell_of_row w b j cur e (0,0) hh];rw[jBg]at hu;split at hu
   .simpa using hu
   .cases hu
  have hA:=tF (H:=H) (B:=b) (us:=cur.toList.take (n*sz)) (fun o v hv'=>by rw[k6]at hv';cases hv');have hle:HLe H (zGW H b (cur.toList.take (n*sz))):=fun b' o' v' hv'=>by
   simp only[hA];split
   .rename_i e;subst e;rw[k6]at hv';cases hv'
   .exact hv'
  have hat:At (zGW H b (cur.toList.take (n*sz))) b 0 (cur.toList.take (n*sz)):=fun i u hu=>by simp[hA,hu]
  refine⟨zGW H b (cur.toList.take (n*sz)),zAj hs e1 hb rfl rfl rfl rfl (fun d=>by rw[hh];simp) rfl (fun _ _=>rfl) hle (fun b' o' v' hv'=>?_) (fun o' v' hv'=>?_) ?_,?_⟩
  .simp only[hA]at hv';split at hv'
   .rename_i e;exact .inr e
   .exact .inl hv'
  .simp only[hA,if_true]at hv';exact hcell _ _ hv'
  .simp only[qB];refine⟨e2,hln,hcl,.inr ⟨b,cur,hb,hh,k1,k2,k3,qE.mono hle (LLe.refl _) _ k4,k5,hat,fun o ho=>?_⟩⟩;simp only[hA,if_true];rw[jBf];simp only[jAv];omega
  .simp only[Rel];exact⟨_,_,hv,k1,k2,.inr ⟨b,0,_,rfl,qE.mono hle (LLe.refl _) _ k4,k5,hat⟩⟩
theorem zPk{b l n:Nat}(hU:U[l]?=some (.row false e sz n cs)){Q:Out->St->Prop}(h:lG P b [.sl n cs] (U.set l (.row true e sz n cs)) Q):lG P b [.row l n] U Q:=by intro H L w vs hs hvs;obtain⟨v,vs',rfl,h1,h2⟩:=z8 hvs;have:=jL h2;subst this;obtain⟨H',hn,hr⟩:=zJi hs hU h1;obtain⟨f,tmps,x,y,k1,k2⟩:=h H' L w [v] hn.st (qN hr jR);refine⟨f,tmps,x,y,k1,k2.mono fun e w' hh=>?_⟩;obtain⟨o,U',H2,L2,g1,g2,g3⟩:=hh;exact⟨o,U',H2,L2,g1,hn.trans g2,g3⟩
theorem exY{b m k n:Nat}{S S' own:St}{J:A->St->Prop}(ho:own[k]?=some (.row false e sz n cs))(h:Cl m S)(h':Cl m S')(hc:cY 0 cs=true)
 (hy:lG P b [.sl n cs] S fun o τ=>o=.ret (.lit (.bool true))/\τ = S')(hq:J (.lit (.bool true)) (S'++own.set k (.row true e sz n cs))) :
 ∃r U',(lG P b [.row (m+k) n] (S++own) fun o τ=>o=.ret r/\τ = U')/\J r U':=by
 refine⟨_,_,zPk (by rw[zE8 h.1];exact ho) ?_,hq⟩;rw[zED h.1];exact zHr h h' hy (by simp[lE (k:=0) (fun l hl=>by omega) cs hc]) ⟨rfl,rfl⟩
theorem zDx{H:Mem}{L:wO}{w:World}(hs:RelSt H L U w){l:Nat}{o':AObj}(hl : U[l]?=some o)(h:∀li,qB H L w li o->qB H L w li o'):RelSt H L (U.set l o') w:=by
 refine⟨hs.pers,by simp[hs.len],fun i x p hL hp=>?_,hs.inj,hs.lt⟩;by_cases hi:i=l
 .subst hi;rw[jAo (jA5.1 hl).1]at hp;cases hp;exact h x (hs.obj i x o hL hl)
 .rw[jAh (Ne.symm hi)]at hp;exact hs.obj i x p hL hp
theorem yN{l o:Nat}(hl : U[l]?=some (.box cs))(hc:cs[o]?=some .nil)(e:TypeId)(sz:Nat):fU n0 env (U.set l (.box (cs.set o (.row U.length 0)))++[AObj.row false e sz 0 []]) env U:=by
 intro H0 L0 w0 H L w N tmps h0 h1 h2;have hn:=iC h1.st e sz;have hlt:l < U.length:=(jA5.1 hl).1;have hl':(U++[AObj.row false e sz 0 []])[l]?=some (.box cs):=by rw[jAp hlt];exact hl
 have hs:=zDx (o':=.box (cs.set o (.row U.length 0))) hn.st hl' (fun li hob=>by
  simp only[qB]at hob ⊢;obtain⟨g0,b,vs,e',g1,g2,g3,g4,g5⟩:=hob;obtain⟨v,hv,hrel⟩:=g3.get hc;simp only[Rel]at hrel;subst hrel;have hset:vs=vs.set o (.slice none 0 0):=by
   apply jCi;intro i;by_cases hi:i=o
   .subst hi;rw[jAo (jA5.1 hv).1,hv]
   .rw[jAh (Ne.symm hi)]
  refine⟨g0,b,vs,e',g1,g2,?_,g4,g5⟩;rw[hset];refine g3.set o ?_;simp only[Rel];exact⟨rfl,⟨none,0,0,true⟩,by rw[<-h1.st.len];simp,rfl,jA _,fun _=>rfl⟩)
 rw[List.set_append_left _ _ hlt]at hs;have hm:=h1.trans hn;exact⟨H,_,⟨hs,hm.step,hm.lle,hm.own⟩,h2.1,fun x=>Rel.mono (HLe.refl _) hn.lle _ (h2.2 x)⟩
variable{f:FuncId}{r:A}
theorem zE3{K:wK}{args args':wF} {U1:St}(h:Ret P f args [] r U1)(ha:dT [] args' args)(hq:K (env.put d (ren [] U.length r)) (U++U1.map (fD [] U.length))):zGH P U d K f args' env :=
 ⟨_,_,aR.append _ _,cZ h [] (by simp) trivial ha ⟨rfl,by simp⟩,hq⟩
theorem zRQ{K:wK}{args args':wF} {U0:St}{Q0:Out->St->Prop}(h:aK P f args U0 Q0)(js:wA)(hd:js.Nodup)(ho:bK U j6 (q9 js) js U0)(ha:dT js args' args)(hnp:∀v U1,¬Q0 (.pan v) U1)
 (hq:∀r U1,Q0 (.ret r) U1->aR U (j7 U js (U1.map (fD js U.length)))/\K (env.put d (ren js U.length r)) (j7 U js (U1.map (fD js U.length)))):zGJ P U d K f args' env :=
 zCE (C:=fun vs w R=>Calls P f vs.toArray w R) (sS P f) h js hd ho ha hnp fun r U1 hr=>⟨_,rfl,hq r U1 hr⟩
theorem zNX{K:wK}{args args':wF} {U1:St}(h:Ret P f args [] r U1)(hn:∀o∈U1,o≠AObj.rsv)(ha:dT [] args' args)(hq:K (env.put d (ren [] U.length r)) (U++U1.map (fD [] U.length))):zC4 P U d K f args' env :=
 ⟨_,_,fun o ho=>by
  obtain⟨o',ho',rfl⟩:=jA9.1 ho;have:=hn o' ho';cases o'<;>first|(exact(this rfl).elim)|(simp only[fD,vwO];first|(split<;>simp)|simp),fun τ hl _=>by
  rw[<-hl];exact cZ h [] (by simp) trivial ha ⟨rfl,by simp⟩,hq⟩
theorem zCs{rf:Bool->Nat->Nat->A}{g:Nat->wD} {U τ:St}(hk:dF U τ):∀{js:wA} {os:St},(∀o∈os,o≠AObj.rsv)->bK U rf g js os->bK τ rf g js os
 |[],[],_,h=>h
 |j::js,o::os,hn,h=>by
  simp only[bK]at h⊢;cases hj : U[j]? with
  |none=>rw[hj]at h;exact h.1.elim
  |some x =>
   rw[hj]at h;have hx:x≠AObj.rsv:=fun e=>by
    subst e;rcases h.1 with e|e
    all_goals
     exact hn o (jAm ..) (by simpa[vwO]using e)
   rw[hk j x hj hx];exact⟨h.1,zCs hk (fun o ho=>hn o (jAk _ ho)) h.2⟩
 |[],_::_,_,h=>h
 |_::_,[],_,h=>h
theorem zNY{K:wK}{args args':wF}{s0:St}(h:Ret P f args s0 r s0)(js:wA)(hjs:js.Nodup)(hn:∀o∈s0,o≠AObj.rsv)(hd:bK U j6 (q9 js) js s0)(ha:dT js args' args)
 (hput:∀τ:St,dF U τ->j7 τ js (s0.map (fD js τ.length)) = τ)(hq:K (env.put d (ren js U.length r)) U):zC4 P U d K f args' env :=
 ⟨ren js U.length r,[],fun o ho=>(by cases ho),fun τ hl hk=>by rw[<-hl];exact cZ h js hjs (zCs hk hn hd) ha ⟨rfl,by simp[hput τ hk]⟩,by simpa using hq⟩
theorem zDu{c:Nat}:∀{js:wA} {U s1:St},(∀j∈js,j<c)->(∀j∈js,j < U.length)->s1.length=js.length->KA c U (j7 U js s1)
 |[],U,s1,_,_,hl=>by
  have:s1=[]:=jBx hl;subst this
  simpa[j7]using KA.refl c U
 |j::js,U,o::s1,hc,hj,hl=>by have h1:=hc j (jAm ..);have ih:=zDu (c:=c) (js:=js) (U:=U.set j o) (s1:=s1) (fun i hi=>hc i (jAk _ hi)) (fun i hi=>by rw[jD];exact hj i (jAk _ hi)) (by simpa using hl);intro l cs hle hU;exact ih l cs hle (by rw[jAh (by omega)];exact hU)
 |_::_,_,[],_,_,hl=>by simp at hl
theorem dQ{K:wK}{args args':wF}{s0 s1:St}(h:Ret P f args s0 r s1)(js:wA)(hjs:js.Nodup)(hd:bK U j6 (q9 js) js s0)(ha:dT js args' args)
 (hq:K (env.put d (ren js U.length r)) (j7 U js (s1.map (fD js U.length)))):xQ P U d K f args' env:=⟨_,_,cZ h js hjs hd ha ⟨rfl,rfl⟩,hq⟩
theorem bZ{K:wK}{c:Nat}{args args':wF}{s0 s1:St}(h:Ret P f args s0 r s1)(js:wA)(hjs:js.Nodup)(hd:bK U j6 (q9 js) js s0)(ha:dT js args' args)
 (hc:∀j∈js,j<c)(hlt:∀j∈js,j < U.length)(hl:s1.length=js.length)(hq:K (env.put d (ren js U.length r)) (j7 U js (s1.map (fD js U.length)))):zGI P c U d K f args' env :=
 ⟨_,_,zDu hc hlt (by simpa using hl),cZ h js hjs hd ha ⟨rfl,rfl⟩,hq⟩
theorem zNZ{K:wK}{c:Nat}{args args':wF}{s0 s1:St}(h:Ret P f args s0 r s1)(js:wA)(hjs:js.Nodup)(hd:bK U j6 (q9 js) js s0)(ha:dT js args' args)
 (hc:∀j∈js,j<c)(hlt:∀j∈js,j < U.length)(hl:s1.length=js.length)(hr:zGN U (j7 U js (s1.map (fD js U.length))))(hq:K (env.put d (ren js U.length r)) (j7 U js (s1.map (fD js U.length)))):zGG P c U d K f args' env :=
 ⟨_,_,⟨zDu hc hlt (by simpa using hl),hr⟩,cZ h js hjs hd ha ⟨rfl,rfl⟩,hq⟩
theorem zOD{S own:St}(h:Cl m S)(hr:r.bnd 0=true):sP m r S (.ret r) (S++own) :=
 zC (List.range m) 0 (fun i hi=>by simp[hi]) List.nodup_range (zOG h) (.inl (zD4 (k:=0) (fun l hl=>by omega) r hr).symm)
theorem zEd{g:FuncId}{first cap:wF}{X:List wF}(h:∀(b m:Nat)(T:Nat->St),(∀i,i<=X.length->Cl m (T i))->(∀i (h:i<X.length),lG P b X[i] (T i) fun o τ=>o=.ret (.lit (.bool true))/\τ = T (i+1)) ->
 Ret P g (first++[yv b]++cap) (T 0) (.tup []) (T X.length)):zJA P g first cap X:=fun b m T hT hY=>aK.mono (h b m T hT hY) fun _ _ ⟨h1,h2⟩=>⟨⟨_,h1⟩,h2⟩
end
end Go.Abs
namespace Go.Proofs.YtolkhapmieigcaaGreatDoor
open Go.Abs
def kH(w b:wA)(k:K):K:=K.chg w b k
noncomputable def kq(f:Func)(e:List (Nat×wA)):K:=zV Tryz.prog f z7 e
variable{f:FuncId}{fn:Func}{U0 U1:St}{r:A}
theorem mq(e:List (Nat×wA))(rs:List RS)(hf:Tryz.prog.funcs[f]?=some fn)(q:(fn.body.isSome,zP Tryz.prog fn.ntmps (fn.body.getD .skip),gK Tryz.prog fn.results.toList)=(true,some (kq fn e).erase,some rs)){args:wF} (h:wpF Tryz.prog (kq fn e) rs args U0 (sP U0.length r U1)):Ret Tryz.prog f args U0 r U1:=by
 simp only[Prod.mk.injEq] at q;obtain⟨a,b,c⟩:=q;obtain⟨x,hx⟩:=Option.isSome_iff_exists.1 a;rw[hx] at b;exact zH hf hx b c h
theorem mn(hint:Nat->Option wE)(e:List (Nat×wA))(rs:List RS)(hf:Tryz.prog.funcs[f]?=some fn)(q:(fn.body.isSome,qK Tryz.prog fn.ntmps hint (fn.body.getD .skip),gK Tryz.prog fn.results.toList)=(true,some (zV Tryz.prog fn hint e).erase,some rs)){args:wF} (h:wpF Tryz.prog (zV Tryz.prog fn hint e) rs args U0 (sP U0.length r U1)):Ret Tryz.prog f args U0 r U1:=by
 simp only[Prod.mk.injEq] at q;obtain⟨a,b,c⟩:=q;obtain⟨x,hx⟩:=Option.isSome_iff_exists.1 a;rw[hx] at b;exact zK hf hx b c h
theorem ml(hint:Nat->Option wE)(w b:wA)(e:List (Nat×wA))(rs:List RS)(hf:Tryz.prog.funcs[f]?=some fn)(q:(fn.body.isSome,qK Tryz.prog fn.ntmps hint (fn.body.getD .skip),gK Tryz.prog fn.results.toList)=(true,some (kH w b (zV Tryz.prog fn hint e)).erase,some rs)){args:wF} (h:wpF Tryz.prog (kH w b (zV Tryz.prog fn hint e)) rs args U0 (sP U0.length r U1)):Ret Tryz.prog f args U0 r U1:=by
 simp only[Prod.mk.injEq] at q;obtain⟨a,b,c⟩:=q;obtain⟨x,hx⟩:=Option.isSome_iff_exists.1 a;rw[hx] at b;exact zK hf hx b c h
theorem mj(w b:wA)(e:List (Nat×wA))(rs:List RS)(hf:Tryz.prog.funcs[f]?=some fn)(q:(fn.body.isSome,zP Tryz.prog fn.ntmps (fn.body.getD .skip),gK Tryz.prog fn.results.toList)=(true,some (kH w b (kq fn e)).erase,some rs)){args:wF} (h:wpF Tryz.prog (kH w b (kq fn e)) rs args U0 (sP U0.length r U1)):Ret Tryz.prog f args U0 r U1:=by
 simp only[Prod.mk.injEq] at q;obtain⟨a,b,c⟩:=q;obtain⟨x,hx⟩:=Option.isSome_iff_exists.1 a;rw[hx] at b;exact zH hf hx b c h
abbrev ky(f:Func)(k:K):Prop:=zP Tryz.prog f.ntmps (f.body.getD .skip)=some k.erase
theorem m_{f:Func}{k:K}(h:zP Tryz.prog f.ntmps (f.body.getD .skip)=some k.erase):ky f k:=h
@[simp]theorem kw{n:Nat}(a:1<n)(b:n<210):zA Tryz.prog n=true:=by
 have h:(List.range 210).all (fun n=>n<2||zA Tryz.prog n)=true:=by kernel_rfl
 have:=List.all_eq_true.1 h n (List.mem_range.2 b);by_cases q:n<2;omega;simpa[q]using this
abbrev my:=Ret Tryz.prog
theorem zKA(n:Int):my 165 [int n] [] (bl false) []:=by
 refine mq [] [.slot 2] func165 (by kernel_rfl) ?_
 (conv in kq _ _=>cbv)
 simp;exact zB 0 (by simp)
def aW(a b:Int):Int:=if a<b then -1 else if b<a then 1 else 0
theorem dH(a b:Int):my 100 [int a,int b] [] (int (aW a b)) []:=by
 refine mq [] [.slot 4] func100 (by kernel_rfl) ?_
 (conv in kq _ _=>cbv)
 simp;refine mu (zKA a) (by simp) ?_;simp;refine mu (zKA b) (by simp) ?_;simp;refine jI (fun h=>?_) (fun h=>?_)<;>simp at h<;>simp
 .exact zB 0 (by simp[aW,h])
 refine jI (fun h'=>?_) (fun h'=>?_)<;>simp at h'<;>simp
 .exact zB 0 (by simp[aW,h',Int.not_lt.2 h])
 .exact zB 0 (by simp[aW,Int.not_lt.2 h,Int.not_lt.2 h'])
def orI:List Int->Int
 |[]=>0
 |a::l=>if a=0 then orI l else a
def aQ(l:wC):wF:=l.map int
theorem zBc:∀(l:wC),j4 (aQ l)
 |[]=>j4.nil
 |_::l=>j4.lit (zBc l)
@[simp]theorem qFU(l:wC):(aQ l).length=l.length:=by simp[aQ]
@[simp]theorem qB5(l:wC):jV (aQ l)=aQ l:=(zBc l).1
@[simp]theorem qKx{rf g}(l:wC):vwL rf g (aQ l)=aQ l:=(zBc l).2 _ _
@[simp]theorem qFV:aQ []=[]:=rfl
@[simp]theorem qBi(n:Int)(l:wC):aQ (n::l)=.lit (.int .i64 n)::aQ l:=rfl
@[simp]theorem mT(a b:wC):aQ (a++b)=aQ a++aQ b:=by simp[aQ]
theorem zAe{l:wC}{i:Nat}(h:i<l.length):(aQ l).drop i=.lit (.int .i64 l[i])::aQ (l.drop (i+1)):=by rw[aQ,<-List.map_drop,jB6 h];rfl
theorem zTQ{n:Nat}(h:n<=maxLen):IntKind.i64.wrap (n:Int)=n:=IntWalk.i64_in _ (by simp[maxLen]at h;omega)
theorem zZ{i n:Nat}(h:i<n)(hn:n<=maxLen):IntKind.i64.wrap ((i:Int)+1)=(i:Int)+1:=IntWalk.i64_in _ (by simp[maxLen]at hn;omega)
theorem zO2(l:wC):my 99 [.sl l.length (aQ l)] [] (int (orI l)) []:=by
 refine mq [] [.slot 2] func99 (by kernel_rfl) ?_
 (conv in kq _ _=>cbv)
 simp;intro hl;refine qI (S:=Nat) (fun i=>[(3,int 0),(6,.sl l.length (aQ l)),(7,int l.length),(8,int i)]) (fun s=>[]) (fun i=>i<=l.length/\orI l=orI (l.drop i)) (fun i=>l.length-i) 0 (by simp)
  (mw [] 0 (by rfl) (by simp)) ?_
 rintro i ⟨hi,ho⟩;simp;refine jI (fun h=>?_) (fun h=>?_)<;>simp at h
 .simp[h,zAe h];have hd:l.drop i=l[i]::l.drop (i+1):=jB6 h;refine jI (fun h'=>?_) (fun h'=>?_)<;>simp at h'<;>simp
  .exact zB 0 (by rw[ho,hd];simp[orI,h'])
  .refine zO (i+1) ⟨h,by rw[ho,hd];simp[orI,h']⟩ (by omega) (mw [] 0 (by rfl) (by simp[zZ h hl]))
 .simp;have:i=l.length:=by omega
  exact zB 0 (by rw[ho,this];simp[orI])
structure Id where
 a:Int
 b:Int
 c:Int
 deriving DecidableEq
abbrev wG:=List Id
theorem Id.eq_iff{x y:Id}:x=y↔x.a=y.a/\x.b=y.b/\x.c=y.c:=by cases x;cases y;simp
def zS(d:Id):wF:=[.lit (.int .i64 d.a),.lit (.int .i64 d.b),.lit (.int .i64 d.c)]
def eK(d:Id):wC:=[d.a,d.b,d.c]
def zY:List Id->wF
 |[]=>[]
 |d::l=>.lit (.int .i64 d.a)::.lit (.int .i64 d.b)::.lit (.int .i64 d.c)::zY l
@[simp]theorem zYA:zY []=[]:=rfl
@[simp]theorem fW(d:Id)(l:wG):zY (d::l)=.lit (.int .i64 d.a)::.lit (.int .i64 d.b)::.lit (.int .i64 d.c)::zY l:=rfl
@[simp]theorem zMk:∀l:wG,(zY l).length=l.length*3
 |[]=>rfl
 |d::l=>by simp[zMk l];omega
theorem qO:∀(a b:wG),zY (a++b)=zY a++zY b
 |[],b=>rfl
 |d::a,b=>by simp[qO a b]
theorem gE:∀(l:wG),j4 (zY l)
 |[]=>j4.nil
 |_::l=>j4.lit (j4.lit (j4.lit (gE l)))
@[simp]theorem zXq(l:wG):jV (zY l)=zY l:=(gE l).1
@[simp]theorem qCg{rf g}(l:wG):vwL rf g (zY l)=zY l:=(gE l).2 _ _
theorem jN:∀{l:wG} {i:Nat} (h:i<l.length),(zY l).drop (i*3)=.lit (.int .i64 l[i].a)::.lit (.int .i64 l[i].b)::.lit (.int .i64 l[i].c)::zY (l.drop (i+1))
 |v::l,0,h=>by simp
 |v::l,i+1,h=>by
  have e:(i+1)*3=i*3+3:=by omega
  rw[e,fW]
  simpa using jN (l:=l) (i:=i) (by simpa using h)
theorem u7:∀(l:wG) (i:Nat),(zY l).take (i*3)=zY (l.take i)
 |[],i=>by simp
 |v::l,0=>by simp
 |v::l,i+1=>by
  have e:(i+1)*3=i*3+3:=by omega
  rw[e,fW]
  simpa using u7 l i
theorem zBC:∀(l:wG) (i:Nat),(zY l).drop (i*3)=zY (l.drop i)
 |[],i=>by simp
 |v::l,0=>by simp
 |v::l,i+1=>by
  have e:(i+1)*3=i*3+3:=by omega
  rw[e,fW]
  simpa using zBC l i
def iM(x y:Id):Int:=orI [aW x.a y.a,aW x.b y.b,aW x.c y.c]
def cG(x y:Id):Bool:=if x.a≠y.a then decide (x.a<y.a)else if x.b≠y.b then decide (x.b<y.b)else decide (x.c<y.c)
theorem zTd(x y:Id):my 128 [.agg (zS x),.agg (zS y)] [] (int (iM x y)) []:=by
 refine mq [] [.slot 4] func128 (by kernel_rfl) ?_
 (conv in kq _ _=>cbv)
 simp[zS];refine qC (dH x.a y.a) (by simp) (by simp) ?_;simp;refine qC (dH x.b y.b) (by simp) (by simp) ?_;simp;refine qC (dH x.c y.c) (by simp) (by simp) ?_;simp;refine qC (zO2 [aW x.a y.a,aW x.b y.b,aW x.c y.c]) (by simp) (by simp) ?_;simp;exact zB 0 (by simp[iM])
end Go.Proofs.YtolkhapmieigcaaGreatDoor
namespace Go.Abs
open Go.Sort Go.Proofs
section
variable{P:Program} {β:Type}{H:Mem}{L:wO}{w:World}
variable{g:FuncId}
theorem zEe{args:wF}{r:Int}(h:Ret P g args [] (int r) []){vs:wM}{W:World}(hH:∀b o v,H b o=some v->W.cell? ⟨b,o,none⟩=some v)(hvs:qE H [] args vs) :
 Calls P g vs.toArray W fun e w'=>e=.returned (.int .i64 r)/\∃q os',w'=grow (W.drewN q) os':=by
 have hs:RelSt H [] [] W:=⟨hH,rfl,fun i l o hl=>by simp at hl,fun i j l l' b hl=>by simp at hl,fun i l b hl=>by simp at hl⟩;refine(h H [] W vs hs hvs).mono fun e w' hh=>?_
 obtain⟨o,U',H',L',ho,hn,rfl,rfl⟩:=hh;obtain⟨v,rfl,hv⟩:=ho;simp only[int,Rel]at hv;subst hv;refine⟨rfl,w'.drawn-W.drawn,w'.heap.extract W.heap.size w'.heap.size,?_⟩;have hh:w'.heap=W.heap++w'.heap.extract W.heap.size w'.heap.size:=by
  apply Array.ext_getElem?;intro k;rcases jB2 k W.heap.size with hk|hk
  .rw[jDt hk];exact hn.step.keep k hk (fun⟨i,l,hi,_⟩=>by simp at hi)
  .rw[Array.getElem?_append_right hk,Array.getElem?_extract];split
   .congr 1;omega
   .rw[Array.getElem?_eq_none];omega
 have h1:=hn.step.os;have h2:=hn.step.tape;have h3:=hn.step.output;have h4:=hn.step.drawn;cases w' with
 |mk heap tape drawn os output =>
  cases W with
  |mk heap' tape' drawn' os' output' =>
   simp only at h1 h2 h3 h4 hh;simp only[grow,World.drewN,World.mk.injEq];exact⟨hh,h2,by omega,h1,h3⟩
def lH(us:List (β×wM)):wM:=us.flatMap (·.2)
@[simp]theorem qBe:lH ([]:List (β×wM))=[]:=rfl
@[simp]theorem zF3{p : β×wM}{us:List (β×wM)}:lH (p::us)=p.2++lH us:=rfl
def zRr(H:Mem)(encA : β->wF)(us:List (β×wM)):Prop:=∀p∈us,qE H [] (encA p.1) p.2/\∀v∈p.2,one v
theorem zEv{encA : β->wF}(hb:∀b,cY 0 (encA b)=true):∀(l:List β) (vs:wM),qE H L (l.flatMap encA) vs->(∀v∈vs,one v)->∃us:List (β×wM),us.map (·.1)=l/\lH us=vs/\zRr H encA us
 |[],vs,h,_=>⟨[],rfl,(jL h).symm,fun p hp=>by simp at hp⟩
 |b::l,vs,h,h1=>by
  rw[jBo]at h;obtain⟨us,ws,rfl,k1,k2⟩:=h.split;obtain⟨rest,r1,r2,r3⟩:=zEv hb l ws k2 (fun v hv=>h1 v (List.mem_append_right _ hv));refine⟨(b,us)::rest,by simp[r1],by simp[r2],fun p hp=>?_⟩;rcases jA1.1 hp with rfl|hp
  .exact⟨qE.levels (k:=0) (fun l hl=>by omega) _ (hb b) k1,fun v hv=>h1 v (jBr _ hv)⟩
  .exact r3 p hp
theorem zFC{encA : β->wF}(hb:∀b,cY 0 (encA b)=true):∀{us:List (β×wM)},zRr H encA us->qE H L ((us.map (·.1)).flatMap encA) (lH us)/\∀v∈lH us,one v
 |[],_=>⟨jR,by simp⟩
 |p::us,h=>by
  obtain⟨k1,k2⟩:=h p (jAm ..);obtain⟨r1,r2⟩:=zFC hb (us:=us) fun q hq=>h q (jAk _ hq)
  refine⟨?_,fun v hv=>?_⟩
  .simp only[jAd,jBo,zF3];exact(qE.levels (k:=0) (fun l hl=>by omega) _ (hb p.1) k1).append r1
  .rcases jA6.1 hv with hv|hv
   .exact k2 v hv
   .exact r2 v hv
theorem zBT{encA : β->wF}{sz:Nat}(hlen:∀b,(encA b).length=sz):∀{us:List (β×wM)},zRr H encA us->(lH us).length=us.length*sz
 |[],_=>by simp
 |p::us,h=>by have:=(h p (jAm ..)).1.length;simp[this,hlen,zBT hlen (us:=us) fun q hq=>h q (jAk _ hq),jBq,jCl]
def zC9(P:Program)(f g:FuncId)(encA : β->wF)(cf : β->β->Int):Prop :=
 ∀(H:Mem) (w:World) (b cap:Nat) (us:List (β×wM)),(∀b o v,H b o=some v->w.cell? ⟨b,o,none⟩=some v)->(∀o,H b o=none)->b<w.heap.size->us≠[]->us.length<4611686018427387904->zRr H encA us ->
  (∀j u,(lH us)[j]?=some u->w.cell? ⟨b,j,none⟩=some u/\w.frozen? ⟨b,j,none⟩=false) ->
  Calls P f #[.slice (some ⟨b,0,none⟩) us.length cap,.func (.func g) #[] #[]] w fun e w'=>e=.returned (.tuple #[]) /\
   ∃(us':List (β×wM)) (n:Nat) (os:Array Obj),us'.Perm us/\us'.Pairwise (fun x y=>¬cf y.1 x.1<0)/\w'=grow (putRow id (Go.Sort.ahead w n) b 0 (lH us').toArray) os
def bQ(cf : β->β->Int)(l:List β):List β:=l.mergeSort fun x y=>!decide (cf y x<0)
structure Ord(cf : β->β->Int):Prop where
 irrefl:∀x,¬cf x x<0
 trans:∀x y z,cf x y<0->cf y z<0->cf x z<0
 ntrans:∀x y z,¬cf x y<0->¬cf y z<0->¬cf x z<0
 anti:∀x y,¬cf x y<0->¬cf y x<0->x=y
variable{cf:β->β->Int}
theorem zCw(ho:Ord cf){l l':List β}(hp:l'.Perm l)(hs:l'.Pairwise fun x y=>¬cf y x<0):l'=bQ cf l:=by
 have h1:=List.pairwise_mergeSort (le:=fun x y=>!decide (cf y x<0)) (fun a b c h1 h2=>by simp only[jC3,decide_eq_false_iff_not]at *;exact ho.ntrans c b a h2 h1)
  (fun a b=>by
   simp only[jBc,jC3,decide_eq_false_iff_not];by_cases h:cf b a<0
   .exact .inr fun h'=>ho.irrefl _ (ho.trans _ _ _ h h')
   .exact .inl h) l
 refine List.Perm.eq_of_pairwise (le:=fun x y=>¬cf y x<0) (fun a b _ _ h1 h2=>ho.anti a b h2 h1) hs ?_ (hp.trans (List.mergeSort_perm l _).symm);exact h1.imp (fun h=>by simpa using h)
variable{b:Nat}{cur:Array Value}
theorem zLf{e:TypeId}(hh:w.heap[b]?=some (.cells cur e (0,0)))(n:Nat)(F:Array Value)(os:Array Obj) :
 (grow (putRow id (Go.Sort.ahead w n) b 0 F) os).heap[b]?=some (.cells (putCells id 0 F cur) e (0,0)):=by
 have hlt:b<w.heap.size:=(jDc.1 hh).1;simp only[grow];rw[jDt (by simpa[Go.Sort.ahead]using hlt)];simp only[putRow,mapBlock,Array.getElem?_modify,if_true];simp only[Go.Sort.ahead,hh,jBz,onCells]
theorem zCo{b k:Nat}(hk:k<w.heap.size)(hne:k≠b)(n:Nat)(F:Array Value)(os:Array Obj):(grow (putRow id (Go.Sort.ahead w n) b 0 F) os).heap[k]?=w.heap[k]?:=by simp only[grow];rw[jDt (by simpa[Go.Sort.ahead]using hk)];simp only[putRow,mapBlock,Array.getElem?_modify,Go.Sort.ahead];rw[if_neg (Ne.symm hne)]
variable{F:Array Value}
theorem zHe(h:F.size<=cur.size):(putCells id 0 F cur).size=cur.size/\(putCells id 0 F cur).toList.take F.size=F.toList:=by
 have hsz:(putCells id 0 F cur).size=cur.size:=by simp[putCells]
 refine⟨hsz,?_⟩;apply jCi;intro i;rw[jBg];split
 .rename_i hi;have hi2:i<cur.size:=by omega
  simp[putCells,hi,hi2]
 .rename_i hi;rw[jBf (by simp;omega)]
theorem zSY{U:St}(hs:RelSt H L U w){l:Nat}{li:LI}{o:AObj}{w':World}(hl:L[l]?=some li)(hb:li.block=some b)
 (hos:w'.os=w.os)(htape:w'.tape=w.tape)(hout:w'.output=w.output)(hdr:w.drawn<=w'.drawn)(hnd:∀d,w.heap[b]?≠some (.deferred d))(hsz:w.heap.size<=w'.heap.size)(hkeep:∀k,k<w.heap.size->k≠b->w'.heap[k]?=w.heap[k]?)
 (hnone:∀o',H b o'=none)(ho:qB H L w' li o):Nxt H L w H L (U.set l o) w':=by
 have hne:∀(i:Nat) l' b',L[i]?=some l'->l'.block=some b'->i≠l->b'≠b:=fun i l' b' h1 h2 hi e=>hi (hs.inj i l l' li b' h1 hl h2 (by rw[hb,e]))
 refine⟨⟨fun b' o' v hv=>?_,by simp[hs.len],fun i l' o' hL hU=>?_,hs.inj,fun i l' b' h1 h2=>jCb (hs.lt i l' b' h1 h2) hsz⟩,
  ⟨hos,htape,hout,hsz,fun k hk hn=>hkeep k hk (fun e=>hn ⟨l,li,hl,by rw[hb,e]⟩),HLe.refl _,fun _ _ _ h=>.inl h,hdr,fun k d hk=>?_⟩,LLe.refl _,fun _ h=>.inl h⟩
 .have hbb:b'≠b:=fun e=>by subst e;rw[hnone]at hv;cases hv
  have hc:=hs.pers b' o' v hv;have hlt:=hs.h_lt hv;simp only[World.cell?]at hc ⊢;rw[hkeep b' hlt hbb];exact hc
 .by_cases hi:i=l
  .subst hi;rw[hl]at hL;cases hL;rw[jAo (by rw[<-hs.len];exact(jA5.1 hl).1)]at hU;cases hU;exact ho
  .rw[jAh (Ne.symm hi)]at hU;exact(hs.obj i l' o' hL hU).carry (fun b' hb'=>hkeep b' (hs.lt i l' b' hL hb') (hne i l' b' hL hb' hi)) (HLe.refl _) (LLe.refl _) (fun _ _ _=>rfl)
 .have hks:=(jDc.1 hk).1;by_cases hkb:k=b
  .subst hkb;exact(hnd d hk).elim
  .rw[hkeep k hks hkb];exact hk
variable{f:FuncId}{encA:β->wF}
theorem zG1{sz:Nat}(hsz:0<sz)(hlen:∀b,(encA b).length=sz)(hb:∀b,cY 0 (encA b)=true)(ho:Ord cf)(e:TypeId)
 (hS:zC9 P f g encA cf)(hnone:∀(p:Option Addr)(cap:Nat)(fv:Value)(w:World),Calls P f #[.slice p 0 cap,fv] w fun e w'=>e=.returned (.tuple #[])/\w'=w)(l:List β)(hmx:l.length<4611686018427387904) :
 Ret P f [.row 0 l.length,.clo g [] []] [.row false e sz l.length (l.flatMap encA)] (.tup []) [.row false e sz l.length ((bQ cf l).flatMap encA)]:=by
 intro H L w vs hs hvs;obtain⟨v,vs',rfl,h1,h2⟩:=z8 hvs;obtain⟨fv,vs'',rfl,h3,h4⟩:=z8 h2;have:=jL h4;subst this;simp only[Rel]at h3;obtain⟨fs,cs,rfl,k1,k2⟩:=h3;have:=jL k1;subst this;have:=jL k2;subst this;simp only[Rel]at h1;obtain⟨_,li,e1,e2,e3,hv⟩:=h1;have hob:=hs.obj 0 li _ e1 rfl;simp only[qB]at hob;obtain⟨_,hln,hcl,hob⟩:=hob;have hv:=hv hln.symm;have htup:Rel H L (.tup []) (.tuple #[]):=by simp[Rel,qE]
 by_cases hl:l=[]
 .subst hl;have hsl:∃p cap,v=.slice p 0 cap:=by
   rw[hv];split
   .exact⟨_,_,rfl⟩
   .exact⟨_,_,rfl⟩
  obtain⟨p,cap,rfl⟩:=hsl;refine(hnone p cap _ w).mono fun e' w' hh=>?_
  obtain⟨rfl,rfl⟩:=hh;exact⟨.ret (.tup []),_,H,L,⟨_,rfl,htup⟩,Nxt.refl hs,rfl,by simp[bQ]⟩
 .rcases hob with ⟨hbk,h0⟩|⟨b,cur,hbk,hh,g1,g2,g3,g4,g5,g6⟩
  .exact(hl (jBx h0)).elim
  .rw[hbk]at hv;subst hv;obtain⟨us,u1,u2,u3⟩:=zEv hb l _ g4 g5;have hul:us.length=l.length:=by rw[<-u1];simp
   have hus:us≠[]:=fun h=>hl (by rw[<-u1,h];rfl)
   have hlt:=hs.lt 0 li b e1 hbk;have hcell:∀j u,(lH us)[j]?=some u->w.cell? ⟨b,j,none⟩=some u/\w.frozen? ⟨b,j,none⟩=false:=fun j u hu=>by
    rw[u2,jBg]at hu;split at hu
    .refine⟨?_,by simp[World.frozen?,hh]⟩;rw[cell_of_row w b j cur e (0,0) hh]
     simpa using hu
    .cases hu
   have hmax:us.length<4611686018427387904:=by rw[hul];exact hmx
   have hc:=hS H w b li.cap us (fun b o v=>hs.pers b o v) g6 hlt hus hmax u3 hcell;rw[hul]at hc;refine hc.mono fun e' w' hx=>?_
   obtain⟨rfl,us',n,os,hp,hsrt,rfl⟩:=hx;have u3':zRr H encA us':=fun p hp'=>u3 p (hp.mem_iff.1 hp')
   have hl':(us'.map (·.1))=bQ cf l:=by refine zCw ho (by rw[<-u1];exact hp.map _) ?_;rw[jC];exact hsrt
   obtain⟨j1,j2⟩:=zFC (L:=L) hb u3';rw[hl']at j1;have hfl:(lH us').length=l.length*sz:=by rw[zBT hlen u3',hp.length_eq,hul]
   have hfit:(lH us').toArray.size<=cur.size:=by rw[jC7,hfl,g3];exact jBl _ g1
   obtain⟨p1,p2⟩:=zHe hfit;rw[jC7,hfl]at p2;have hnx:=zSY hs e1 hbk (o:=.row false e sz l.length ((bQ cf l).flatMap encA)) (w':=grow (putRow id (Go.Sort.ahead w n) b 0 (lH us').toArray) os) rfl rfl rfl (by simp[grow,Go.Sort.ahead]) (fun d=>by rw[hh];simp) (by simp[grow,Go.Sort.ahead]) (fun k hk hne=>zCo hk hne n _ os) g6 (by
    simp only[qB];refine⟨e2,hln,?_,.inr ⟨b,_,hbk,zLf hh n _ os,g1,g2,by rw[p1];exact g3,?_,?_,g6⟩⟩
    .rw[<-j1.length,hfl]
    .rw[p2];exact j1
    .rw[p2];exact j2)
   exact⟨.ret (.tup []),_,H,L,⟨_,rfl,htup⟩,hnx,rfl,rfl⟩
theorem zKw{α:Type}{enc : α->wM}{k:Nat}(hk:∀x,(enc x).length=k):∀(l:List α) (i j:Nat) (hi:i<l.length),j<k->(l.flatMap enc)[i*k+j]?=(enc l[i])[j]?
 |[],i,j,hi,_=>by simp at hi
 |x::l,0,j,_,hj=>by rw[jBo,jAp (by rw[hk];omega)];simp
 |x::l,i+1,j,hi,hj=>by
  have hi':i<l.length:=by simpa using hi
  rw[jBo,jB9 (by rw[hk,jBq];omega),hk];have:(i+1)*k+j-k=i*k+j:=by rw[jBq];omega
  rw[this,zKw hk l i j hi' hj];rfl
theorem zDY{α:Type}{enc : α->wM}{k:Nat}(hk:∀x,(enc x).length=k):∀(l:List α),(l.flatMap enc).length=l.length*k
 |[]=>by simp
 |x::l=>by rw[jBo,jA4,hk,zDY hk l,jAc,jBq,jCl]
theorem zM7{α:Type} [Inhabited α]{enc : α->wM}{k:Nat}(hk:∀x,(enc x).length=k)(d:Array α):(flatK enc k d).toList=d.toList.flatMap enc:=by
 apply jCi;intro t;rcases jB2 t (d.size*k)with ht|ht
 .have k0:0<k:=by
   rcases Nat.eq_zero_or_pos k with h|h
   .subst h;simp at ht
   .exact h
  have hq:t / k<d.toList.length:=by rw[jB5];exact Nat.div_lt_of_lt_mul (by rw[Nat.mul_comm];exact ht)
  have hm:=Nat.mod_lt t k0;have he:t=t / k*k+t % k:=by rw[Nat.mul_comm];exact(Nat.div_add_mod t k).symm
  have h1:(flatK enc k d)[t]! = (enc d[t / k]!)[t % k]! := get_flatK enc k d t ht;have hts:t<(flatK enc k d).size:=by rw[size_flatK];exact ht
  have h2:(d.toList.flatMap enc)[t]?=(enc d.toList[t / k])[t % k]?:=by
   conv=>lhs;rw[he]
   exact zKw hk _ _ _ hq hm
  rw[h2];have hq':t / k<d.size:=by simpa using hq
  have hmm:t % k<(enc d[t / k]).length:=by rw[hk];exact hm
  rw[getElem!_pos _ t hts,getElem!_pos d (t / k) hq',getElem!_pos _ (t % k) hmm]at h1;rw[jD0,Array.getElem?_eq_getElem hts,h1];simp[hmm]
 .rw[jBf (by simpa using ht),jBf (by rw[zDY hk];simpa using ht)]
theorem zEj{α:Type} [Inhabited α]{d d':Array α}(h:PermIn 0 d.size d d'):d'.toList.Perm d.toList:=by
 obtain⟨h1,_,h3⟩:=h;have e1:d'.extract 0 d.size=d':=by rw[<-h1];simp
 rw[e1]at h3
 simpa using h3
theorem zA9{α:Type} [Inhabited α]{lt : α->α->Bool}{d:Array α}{n:Nat}(hn:n=d.size)(h:SortedIn lt 0 n d):d.toList.Pairwise fun x y=>lt y x=false:=by
 subst hn;rw[jC0];intro i j hi hj hij;have hi':i<d.size:=by simpa using hi
 have hj':j<d.size:=by simpa using hj
 have:=h i j (jB0 _) hij hj';rw[getElem!_pos d i hi',getElem!_pos d j hj']at this
 simpa using this
theorem zT9{β:Type}{cf : β->β->Int}(ho:Ord cf) {α:Type}(p : α->β):SWO (Go.Proofs.ltOf fun x y : α=>cf (p x) (p y)) where
 irrefl x:=by simpa[Go.Proofs.ltOf]using ho.irrefl (p x)
 trans x y z h1 h2:=by simp only[Go.Proofs.ltOf,decide_eq_true_eq]at *;exact ho.trans _ _ _ h1 h2
 ntrans x y z h1 h2:=by simp only[Go.Proofs.ltOf,decide_eq_false_iff_not]at *;exact ho.ntrans _ _ _ h1 h2
theorem zHv{b' o:Nat}{n:Nat}{os:Array Obj}{v:Value}(hne:b'≠b)(h:w.cell? ⟨b',o,none⟩=some v):(grow (putRow id (Go.Sort.ahead w n) b 0 F) os).cell? ⟨b',o,none⟩=some v:=by have hlt:=World.block_lt_of_cell? w _ h;simp only[World.cell?]at h⊢;rw[zCo hlt hne];exact h
theorem zT4{k:Nat}(hlen:∀b,(encA b).length=k)(ho:Ord cf)(hcmp:∀a b,Ret P g [.agg (encA a),.agg (encA b)] [] (int (cf a b)) [])
 (hkit:∀(α:Type) [Inhabited α](enc : α->wM)(_:∀x,(enc x).length=k)(_:∀x,∀v∈enc x,v.oneCell'=true)(cf : α->α->Int)(_:SWO (Go.Proofs.ltOf cf))(blk off cap:Nat)(d:Array α)(w:World)
  (_:Go.Proofs.CmpLays P g #[] enc k cf blk off d.size w)(_:HoldsK enc k w blk off d)(_:blk<w.heap.size)(_:d.size<4611686018427387904),
  Calls P f #[.slice (some ⟨blk,off,none⟩) d.size cap,.func (.func g) #[] #[]] w fun e w'=>e=.returned (.tuple #[])/\∃d' n os,PermIn 0 d.size d d'/\SortedIn (Go.Proofs.ltOf cf) 0 d.size d'/\w'=sortWorldK enc k w blk off n d' os):zC9 P f g encA cf:=by
 intro H w b cap us hH hnone hlt hus hmax hrel hcell;let α:={p : β×wM // (qE H [] (encA p.1) p.2/\∀v∈p.2,one v)};let d:Array α:=(us.attach.map fun p=>(⟨p.1,hrel p.1 p.2⟩ : α)).toArray;have hdm:d.toList.map (·.1)=us:=by simp only[d,jBy,Function.comp_def];exact(List.attach_map_val (f:=id)).trans (List.map_id us)
 have hds:d.size=us.length:=by simp[d]
 have:Inhabited α:=⟨⟨us.head hus,hrel _ (List.head_mem hus)⟩⟩;let enc : α->wM:=fun x=>x.1.2
 have hk:∀x,(enc x).length=k:=fun x=>by rw[<-hlen x.1.1];exact x.2.1.length
 have hflat:∀dd:Array α,(flatK enc k dd).toList=lH (dd.toList.map (·.1)):=fun dd=>by rw[zM7 hk,lH,List.flatMap_map]
 have hne:∀b' o v,H b' o=some v->b'≠b:=fun b' o v h e=>by subst e;rw[hnone]at h;cases h
 have hk2:=hkit α enc hk (fun x v hv=>x.2.2 v hv) (fun x y=>cf x.1.1 y.1.1) (zT9 ho fun x : α=>x.1.1) b 0 cap d w ?_ ?_ hlt (by rw[hds];exact hmax)
 .rw[hds]at hk2;refine hk2.mono fun e w' hx=>?_
  obtain⟨rfl,d',n,os,hp,hs,rfl⟩:=hx;refine⟨rfl,d'.toList.map (·.1),n,os,?_,?_,?_⟩
  .rw[<-hds]at hp;have:=(zEj hp).map (·.1);rw[hdm]at this;exact this
  .rw[jC];have hsz':us.length=d'.size:=by rw[hp.1,hds]
   exact(zA9 hsz' hs).imp fun h=>by simpa[Go.Proofs.ltOf]using h
  .simp only[sortWorldK,putRowK];rw[<-hflat d']
 .intro m os dk hsz x y;have hW:∀b' o v,H b' o=some v->(sortWorldK enc k w b 0 m dk os).cell? ⟨b',o,none⟩=some v:=fun b' o v h=>zHv (hne b' o v h) (hH b' o v h)
  have:=zEe (hcmp x.1.1 y.1.1) hW (vs:=[.agg (enc x).toArray,.agg (enc y).toArray]) (by
   refine qN ?_ (qN ?_ jR)
   .simp only[Rel];exact⟨_,rfl,x.2.1,x.2.2⟩
   .simp only[Rel];exact⟨_,rfl,y.2.1,y.2.2⟩)
  simpa using this
 .intro j hj;have hj':j<(flatK enc k d).toList.length:=by simpa using hj
  have h1:(lH us)[j]?=some ((flatK enc k d)[j]!):=by rw[<-hdm,<-hflat d,jA2 hj',getElem!_pos _ j hj];simp
  simpa using hcell j _ h1
theorem zCn{α:Type} [Inhabited α](enc : α->Value)(d:Array α)(c:Array Value):putCells enc 0 d c=putCells id 0 (d.map enc) c:=by
 unfold putCells;apply Array.ext_getElem?;intro k;simp only[Array.getElem?_mapIdx,Array.size_map,jB0,jB1,true_and,Nat.sub_zero,id]
 congr 1
 funext x;split
 .rename_i hk;rw[getElem!_pos d k hk,getElem!_pos (d.map enc) k (by simpa using hk)];simp
 .rfl
theorem qAa{enc1 : β->A}(ho:Ord cf)(hcmp:∀a b,Ret P g [enc1 a,enc1 b] [] (int (cf a b)) [])
 (hkit:∀(α:Type) [Inhabited α](enc : α->Value)(_:Go.Proofs.OneCell enc)(cf : α->α->Int)(_:SWO (Go.Proofs.ltOf cf))(blk off cap:Nat)(d:Array α)(w:World)
  (_:Go.Proofs.CmpLays1 P g #[] enc cf blk off d.size w)(_:Holds enc w blk off d)(_:blk<w.heap.size)(_:d.size<4611686018427387904),
  Calls P f #[.slice (some ⟨blk,off,none⟩) d.size cap,.func (.func g) #[] #[]] w fun e w'=>e=.returned (.tuple #[])/\∃d' n os,PermIn 0 d.size d d'/\SortedIn (Go.Proofs.ltOf cf) 0 d.size d'/\w'=sortWorld enc w blk off n d' os):zC9 P f g (fun b=>[enc1 b]) cf:=by
 intro H w b cap us hH hnone hlt hus hmax hrel hcell;let α:={p : β×wM // (∃v,p.2=[v]/\Rel H [] (enc1 p.1) v/\one v)};have hone:∀p∈us,∃v,p.2=[v]/\Rel H [] (enc1 p.1) v/\one v:=fun p hp=>by obtain⟨h1,h2⟩:=hrel p hp;obtain⟨v,vs,hv,h3,h4⟩:=z8 h1;have:=jL h4;subst this;exact⟨v,hv,h3,h2 v (by rw[hv];simp)⟩
 let d:Array α:=(us.attach.map fun p=>(⟨p.1,hone p.1 p.2⟩ : α)).toArray;have hdm:d.toList.map (·.1)=us:=by simp only[d,jBy,Function.comp_def];exact(List.attach_map_val (f:=id)).trans (List.map_id us)
 have hds:d.size=us.length:=by simp[d]
 have:Inhabited α:=⟨⟨us.head hus,hone _ (List.head_mem hus)⟩⟩;let enc : α->Value:=fun x=>x.1.2.headD undef
 have henc:∀x : α,x.1.2=[enc x]:=fun x=>by obtain⟨v,h,_⟩:=x.2;simp only[enc];rw[h];rfl
 have hencR:∀x : α,Rel H [] (enc1 x.1.1) (enc x)/\one (enc x):=fun x=>by obtain⟨v,h,h1,h2⟩:=x.2;simp only[enc];rw[h];exact⟨h1,h2⟩
 have hflat:∀l:List α,l.map enc=lH (l.map (·.1)):=fun l=>by
  induction l with
  |nil=>rfl
  |cons x l ih=>simp only[jAd,zF3,ih];rw[henc x];rfl
 have hne:∀b' o v,H b' o=some v->b'≠b:=fun b' o v h e=>by subst e;rw[hnone]at h;cases h
 have hk2:=hkit α enc (fun x=>(hencR x).2) (fun x y=>cf x.1.1 y.1.1) (zT9 ho fun x : α=>x.1.1) b 0 cap d w ?_ ?_ hlt (by rw[hds];exact hmax)
 .rw[hds]at hk2;refine hk2.mono fun e w' hx=>?_
  obtain⟨rfl,d',n,os,hp,hs,rfl⟩:=hx;refine⟨rfl,d'.toList.map (·.1),n,os,?_,?_,?_⟩
  .rw[<-hds]at hp;have:=(zEj hp).map (·.1);rw[hdm]at this;exact this
  .rw[jC];have hsz':us.length=d'.size:=by rw[hp.1,hds]
   exact(zA9 hsz' hs).imp fun h=>by simpa[Go.Proofs.ltOf]using h
  .simp only[sortWorld,putRow];have:putCells enc 0 d'=putCells id 0 (d'.map enc):=funext fun c=>zCn enc d' c
   rw[this,<-hflat d'.toList]
   congr 3
   apply jC9;simp
 .intro m os dk hsz x y;have hW:∀b' o v,H b' o=some v->(sortWorld enc w b 0 m dk os).cell? ⟨b',o,none⟩=some v:=fun b' o v h=>by
   have:putCells enc 0 dk=putCells id 0 (dk.map enc):=funext fun c=>zCn enc dk c
   simp only[sortWorld,putRow];rw[this];exact zHv (hne b' o v h) (hH b' o v h)
  have:=zEe (hcmp x.1.1 y.1.1) hW (vs:=[enc x,enc y]) (qN (hencR x).1 (qN (hencR y).1 jR))
  simpa using this
 .intro j hj;have hj':j<d.toList.length:=by simpa using hj
  have h1:(lH us)[j]?=some (enc d[j]!):=by rw[<-hdm,<-hflat,jBi,jA2 hj',getElem!_pos _ j hj];simp
  simpa using hcell j _ h1
end
end Go.Abs
namespace Go.Abs
section
variable{P:Program}{env:Env} {U:St}
end
end Go.Abs
namespace Go.Abs
section
variable{P:Program}{H:Mem}{L:wO} {U:St}{w:World}
theorem jS{n0 t:Nat}{env:Env} {U:St}(ht:env t=.nil)(e:TypeId)(sz:Nat):fU n0 (env.put (some t) (.row U.length 0)) (U++[AObj.row false e sz 0 []]) env U:=by
 intro H0 L0 w0 H L w N tmps h0 h1 h2;have hn:=iC h1.st e sz;refine⟨H,_,h1.trans hn,h2.1,fun x=>?_⟩;simp only[Env.put];split
 .rename_i hx;subst hx;have:=h2.2 x;rw[ht]at this;simp only[Rel]at this;rw[this];simp only[Rel];exact⟨rfl,⟨none,0,0,true⟩,by rw[<-h1.st.len];simp,rfl,jA _,fun _=>rfl⟩
 .exact Rel.mono (HLe.refl _) hn.lle _ (h2.2 x)
variable{e:TypeId}
theorem pZ{n0:Nat}{env:Env} {U:St}{l o n:Nat}{sz:Nat}{cs:wF}(hl : U[l]?=some (.row false e sz n cs))(hc:cs[o]?=some .nil)(e':TypeId)(sz':Nat) :
 fU n0 env (U.set l (.row false e sz n (cs.set o (.row U.length 0)))++[AObj.row false e' sz' 0 []]) env U:=by
 intro H0 L0 w0 H L w N tmps h0 h1 h2;have hn:=iC h1.st e' sz';have hlt:l < U.length:=(jA5.1 hl).1;have hl':(U++[AObj.row false e' sz' 0 []])[l]?=some (.row false e sz n cs):=by rw[jAp hlt];exact hl
 have hs:=zDx (o':=.row false e sz n (cs.set o (.row U.length 0))) hn.st hl' (fun li hob=>by
  simp only[qB]at hob ⊢;obtain⟨g0,g1,g2,g3⟩:=hob;refine⟨g0,g1,by simpa using g2,?_⟩;rcases g3 with ⟨q1,q2⟩|⟨b,cur,q1,q2,q3,q4,q5,q6,q7,q8⟩
  .subst q2;have:cs=[]:=jBx (by simpa using g2);subst this;simp at hc
  .obtain⟨v,hv,hrel⟩:=q6.get hc;simp only[Rel]at hrel;subst hrel;have hset:cur.toList.take (n*sz)=(cur.toList.take (n*sz)).set o (.slice none 0 0):=by
    apply jCi;intro i;by_cases hi:i=o
    .subst hi;rw[jAo (jA5.1 hv).1,hv]
    .rw[jAh (Ne.symm hi)]
   refine .inr ⟨b,cur,q1,q2,q3,q4,q5,?_,q7,q8⟩;rw[hset];refine q6.set o ?_;simp only[Rel];exact⟨rfl,⟨none,0,0,true⟩,by rw[<-h1.st.len];simp,rfl,jA _,fun _=>rfl⟩)
 rw[List.set_append_left _ _ hlt]at hs;have hm:=h1.trans hn;exact⟨H,_,⟨hs,hm.step,hm.lle,hm.own⟩,h2.1,fun x=>Rel.mono (HLe.refl _) hn.lle _ (h2.2 x)⟩
theorem zPi{f:FuncId}{l n:Nat}{sz:Nat}{cs:wF}(hU:U[l]?=some (.row false e sz n cs)){Q:Out->St->Prop}(h:aK P f [.sl n cs] (U.set l (.row true e sz n cs)) Q):aK P f [.row l n] U Q:=by
 intro H L w vs hs hvs;obtain⟨v,vs',rfl,h1,h2⟩:=z8 hvs;have:=jL h2;subst this;obtain⟨H',hn,hr⟩:=zJi hs hU h1;refine(h H' L w [v] hn.st (qN hr jR)).mono fun e w' hh=>?_
 obtain⟨o,U',H2,L2,g1,g2,g3⟩:=hh;exact⟨o,U',H2,L2,g1,hn.trans g2,g3⟩
end
end Go.Abs
namespace Go.Abs
section
variable{α:Type}{enc : α->wF}{k:Nat}
theorem fA(hk:∀x,(enc x).length=k):∀(l:List α),(l.flatMap enc).length=l.length*k
 |[]=>by simp
 |x::l=>by rw[jBo,jA4,hk,fA hk l,jAc,jBq,jCl]
theorem gH(hk:∀x,(enc x).length=k):∀{l:List α} {i:Nat} (h:i<l.length),(l.flatMap enc).drop (i*k)=enc l[i]++(l.drop (i+1)).flatMap enc
 |x::l,0,h=>by simp
 |x::l,i+1,h=>by rw[jBq,jCl,jBo,<-jAu,jDa (hk x),gH hk (by simpa using h)];simp
theorem iU(hk:∀x,(enc x).length=k){l:List α}{i:Nat}(h:i<l.length):(l.take (i+1)).flatMap enc=(l.take i).flatMap enc++enc l[i]:=by rw[jA7 h,jCd];simp
theorem zF4(hk:∀x,(enc x).length=k):∀{l:List α} {i:Nat} (x : α),i<l.length->(l.flatMap enc).take (i*k)++(enc x++(l.flatMap enc).drop (i*k+k))=(l.set i x).flatMap enc
 |y::l,0,x,h=>by simp[jDa (hk y)]
 |y::l,i+1,x,h=>by have:=zF4 hk (l:=l) (i:=i) x (by simpa using h);rw[List.set_cons_succ,jBo,jBo,<-this,jBq,jCl (i*k) k,List.take_add,List.take_left' (hk y),jDa (hk y),jBb k,<-jAu,jDa (hk y),jAq,jCl k (i*k)]
theorem dJ(hp:∀x,j4 (enc x)):∀(l:List α),j4 (l.flatMap enc)
 |[]=>j4.nil
 |x::l=>by
  have h1:=hp x;have h2:=dJ hp l;refine⟨?_,fun rf g=>?_⟩
  .rw[jBo,zCj,h1.1,h2.1]
  .rw[jBo,zGF,h1.2,h2.2]
end
end Go.Abs
namespace Go.Abs
section
variable{P:Program}
variable{f:FuncId}{rs:List RS}
theorem zI8{I:Type}{C:I->Prop}{rr:I->A}{ss:I->St}{hint:Nat->Option wE}{fn:Func}{c:Code}{k:K}(hf:P.funcs[f]?=some fn)(hb:fn.body=some c)(hc:qK P fn.ntmps hint c=some k.erase)(hr:gK P fn.results.toList=some rs)
 {args:wF} {U0:St}(h:wpF P k rs args U0 fun o τ=>∃i,C i/\sP U0.length (rr i) (ss i) o τ):aK P f args U0 fun o τ=>∃i,C i/\o=.ret (rr i)/\τ = ss i:=by
 intro H L w vs hs ha;refine(nF hf hb hc hr h H L w vs hs ha).mono fun e w' hh=>?_
 obtain⟨o,U',H',L',g1,g2,i,hi,r',ks,fuel,rfl,hk,hd,ho,hr⟩:=hh;obtain⟨v,rfl,hv⟩:=g1;obtain⟨H2,L2,k1,_,k3⟩:=zJk ks fuel (by rw[hs.len];exact hk) hd ho g2;refine⟨.ret (rr i),ss i,H2,L2,⟨v,rfl,?_⟩,k1,i,hi,rfl,rfl⟩;rcases hr with e|e
 .rw[e];exact k3 _ _ hv
 .rw[e];exact Rel.nrm0 _ (k3 _ _ hv)
theorem zDF{I:Type}{C:I->Prop}{rr:I->A}{ss:I->St}{fn:Func}{c:Code}{k:K}(hf:P.funcs[f]?=some fn)(hb:fn.body=some c)(hc:zP P fn.ntmps c=some k.erase)(hr:gK P fn.results.toList=some rs)
 {args:wF} {U0:St}(h:wpF P k rs args U0 fun o τ=>∃i,C i/\sP U0.length (rr i) (ss i) o τ):aK P f args U0 fun o τ=>∃i,C i/\o=.ret (rr i)/\τ = ss i:=zI8 (hint:=z7) hf hb hc hr h
end
end Go.Abs
namespace Go.Abs
open Go.Proofs
section
variable{P:Program}{H:Mem}{L:wO} {U:St}{w:World}
theorem zQl(hs:RelSt H L U w)(ob:AObj)(o:Obj)(li:LI)(hli:li.block=some w.heap.size)(ho:qB H (L++[li]) (w.alloc o) li ob):Nxt H L w H (L++[li]) (U++[ob]) (w.alloc o):=by
 have hll:=LLe.append L [li];refine⟨⟨fun b o v hv=>?_,by simp[hs.len],fun i l o hL hU=>?_,fun i j l l' b hi hj hb hb'=>?_,fun i l b hL hb=>?_⟩,
  ⟨rfl,rfl,rfl,by simp,fun k hk _=>heap_alloc_old w _ (h:=hk),HLe.refl _,fun b o v hv=>.inl hv,jA _,pI (fun k hk=>heap_alloc_old w _ (h:=hk))⟩,hll,fun b ⟨i,l,hL,hb⟩=>?_⟩
 .rw[World.cell?_alloc_lt _ _ _ (hs.h_lt hv)];exact hs.pers b o v hv
 .rcases jU hL with hL'|⟨rfl,rfl⟩
  .have hi:i<L.length:=(jA5.1 hL').1;rw[jAp (by rw[<-hs.len];exact hi)]at hU;exact(hs.obj i l o hL' hU).carry (fun b hb=>heap_alloc_old w _ (h:=hs.lt i l b hL' hb)) (HLe.refl _) hll (fun _ _ _=>rfl)
  .rw[hs.len]at hU;rw[jB9 (jA _)]at hU;simp only[jBn,jB8,jA3]at hU;subst hU;exact ho
 .rcases jU hi with hi'|⟨rfl,rfl⟩
  .rcases jU hj with hj'|⟨rfl,rfl⟩
   .exact hs.inj i j l l' b hi' hj' hb hb'
   .rw[hli]at hb';cases hb';have:=hs.lt i l _ hi' hb;omega
  .rw[hli]at hb;cases hb;rcases jU hj with hj'|⟨rfl,rfl⟩
   .have:=hs.lt j l' _ hj' hb';omega
   .rfl
 .rcases jU hL with hL'|⟨rfl,rfl⟩
  .have:=hs.lt i l b hL' hb;simp;omega
  .rw[hli]at hb;cases hb;simp
 .rcases jU hL with hL'|⟨rfl,rfl⟩
  .exact .inl ⟨i,l,hL',hb⟩
  .rw[hli]at hb;cases hb;exact .inr (jA _)
variable{ρ:Go.Shelf.Ren}
theorem zSz(LL:Lays8.n4 P ρ){i:TypeInfo}{z:Value}(hi:P.info? (ρ.t 25)=some i)(hz:i.zero=some z)(hzs:z.cells.size=i.size)(h0:0<i.size){n:Nat}(hb:n*i.bytes<=140737488355328)(hn63:n<=4611686018427387904) :
 Ret P (ρ.f 4) [.nil,.lit (.int .i64 n)] [] (.row 0 0) [.row false (ρ.t 25) i.size 0 []]:=by
 intro H L w vs hs hvs;obtain⟨v,vs',rfl,h1,h2⟩:=z8 hvs;obtain⟨u,vs'',rfl,h3,h4⟩:=z8 h2;have:=jL h4;subst this;simp only[Rel]at h1 h3;subst h1 h3;have hL:L=[]:=jBx (by rw[hs.len];rfl);subst hL;have hn:n<=maxLen:=by simp only[maxLen];omega
 by_cases hz0:n=0
 .subst hz0;refine(Any8.slices_Grow_room LL none 0 0 0 w (jA _) (by omega) (by omega) (by omega)).mono fun e w' hh=>?_
  obtain⟨rfl,rfl⟩:=hh;have hnx:=iC hs (ρ.t 25) i.size;refine⟨.ret (.row 0 0),_,H,_,⟨_,rfl,?_⟩,hnx,rfl,rfl⟩;simp only[Rel];exact⟨rfl,⟨none,0,0,true⟩,by simp,rfl,jA _,fun _=>rfl⟩
 .refine(Any8.slices_Grow_grow LL i z hi hz h0 none 0 0 n [] w (jA _) (by omega) (by rw[jB1];exact hb) (by omega) (by simp) (fun _=>rfl) (fun a ha=>by cases ha)).mono fun e w' hh=>?_
  obtain⟨rfl,rfl⟩:=hh;have hge:=grownCap_ge w (0+n) 0 (ρ.t 25);have hcm:grownCap w (0+n) 0 (ρ.t 25)<=maxLen:=grownCap_le_maxLen w (0+n) 0 (ρ.t 25) (by omega);generalize grownCap w (0+n) 0 (ρ.t 25)=cap at hge hcm ⊢;have hd:=zCl hs;have hnx:=zQl hd.st (.row false (ρ.t 25) i.size 0 []) (.cells ((([]:wM).toArray++Builtin.zeroCells z.cells (0+n-0)++Builtin.zeroCells z.cells (cap-(0+n)))) (ρ.t 25)) ⟨some w.heap.size,cap,0,true⟩ rfl (by
   simp only[qB];refine⟨trivial,trivial,by simp,.inr ⟨w.heap.size,_,rfl,heap_alloc_new w.drew _,jB0 _,hcm,?_,?_,?_,fun o=>?_⟩⟩
   .simp only[Array.size_append,size_zeroCells,hzs];simp only[jC7,jB4,jB1,Nat.sub_zero,<-jB7]
    congr 1
    omega
   .simp[qE]
   .simp
   .cases hH:H w.heap.size o with
    |none=>rfl
    |some v=>have:=hs.h_lt hH;omega)
  have hnx:=hd.trans hnx;refine⟨.ret (.row 0 0),_,H,_,⟨_,rfl,?_⟩,hnx,rfl,rfl⟩;simp only[Rel];exact⟨rfl,⟨some w.heap.size,cap,0,true⟩,by simp,rfl,jA _,fun _=>rfl⟩
theorem zHD(LL:Lays8.n4 P ρ){sz bs:Nat}{z:Value}(hi:(P.info? (ρ.t 25)).map (fun i=>(i.size,i.bytes,i.zero))=some (sz,bs,some z))(hzs:z.cells.size=sz)(h0:0<sz){n:Nat}(hb:n*bs<=140737488355328)(hn63:n<=4611686018427387904) :
 Ret P (ρ.f 4) [.nil,.lit (.int .i64 n)] [] (.row 0 0) [.row false (ρ.t 25) sz 0 []]:=by
 rw[jAf]at hi;obtain⟨i,h1,h2⟩:=hi;simp only[jBh]at h2;obtain⟨rfl,rfl,h3⟩:=h2;exact zSz LL h1 h3 hzs h0 hb hn63
end
end Go.Abs
namespace Go.Proofs.YtolkhapmieigcaaGreatDoor
open Go.Abs
theorem qF(n:Int)(h : -9223372036854775808<=n/\n<=9223372036854775807):IntKind.i64.wrap n=n:=IntWalk.i64_in _ h
theorem yK(n:Nat)(h:n<9000000000000000000):IntKind.i64.wrap ((n:Int)+1)=(n:Int)+1:=IntWalk.i64_in _ (by omega)
def w64(n:Int):Int:=IntKind.i64.wrap n
def iJ(a b c a' b' c':Int):Bool:=decide (Id.mk a b c=Id.mk a' b' c')
@[simp]theorem eC{x y:Id}:iJ x.a x.b x.c y.a y.b y.c=decide (x=y):=rfl
def Id.zero:Id:=⟨0,0,0⟩
@[simp]theorem zZV{x:Id}:iJ x.a x.b x.c 0 0 0=decide (x=Id.zero):=rfl
@[simp]theorem Id.zero_a:Id.zero.a=0:=rfl
@[simp]theorem Id.zero_b:Id.zero.b=0:=rfl
@[simp]theorem Id.zero_c:Id.zero.c=0:=rfl
@[simp]theorem qHs:iJ 0 0 0 0 0 0=true:=rfl
@[simp]theorem zUC{a b c a' b' c':Int}:zCW [.i,.i,.i] false (.agg [.lit (.int .i64 a),.lit (.int .i64 b),.lit (.int .i64 c)]) (.agg [.lit (.int .i64 a'),.lit (.int .i64 b'),.lit (.int .i64 c')]) =
 some (.lit (.bool (iJ a b c a' b' c'))):=by simp[zCW,yP,fX,dE,iJ]
@[simp]theorem qF4{a b c a' b' c':Int}:zCW [.i,.i,.i] true (.agg [.lit (.int .i64 a),.lit (.int .i64 b),.lit (.int .i64 c)]) (.agg [.lit (.int .i64 a'),.lit (.int .i64 b'),.lit (.int .i64 c')]) =
 some (.lit (.bool (!iJ a b c a' b' c'))):=by simp[zCW,yP,fX,dE,iJ]
noncomputable def K12:K:=zV prog f14 z7 []
theorem c12:ky f14 K12:=m_ (by kernel_rfl)
noncomputable def K30:K:=zV prog f119 z7 []
theorem c30:ky f119 K30:=m_ (by kernel_rfl)
def jY(n k:Int):Int:=(if n<0 then w64 (0-w64 (n+1))else n).tmod k
theorem nW(n k:Int)(hk:0<k):my 14 [int n,int k] [] (int (jY n k)) []:=by
 refine zH func14 rfl c12 (rs:=[.slot 4]) (by kernel_rfl) ?_
 (conv in K12=>cbv)
 have h0:¬k=0:=by omega
 by_cases h:n<0
 .simp[h,h0];exact zB 0 (by simp[jY,h,w64])
 .simp[h,h0];exact zB 0 (by simp[jY,h])
theorem cX{n k:Int}(hn:w64 n=n)(hk:0<k):0<=jY n k/\jY n k<k:=by
 unfold jY;have h:0<=(if n<0 then w64 (0-w64 (n+1))else n):=by simp only[w64,IntKind.wrap_i64]at hn ⊢;split<;>omega
 exact⟨jDo _ h,Int.tmod_lt_of_pos _ hk⟩
def iV:List Id->Id->wG
 |[],x=>[x]
 |y::l,x=>if cG y x=true then y::iV l x else if y=x then y::l else x::y::l
def zJr:List Id->Id->Nat
 |[],_=>0
 |y::l,x=>if cG y x=true then zJr l x+1 else 0
theorem zO6:∀(l:wG) (x:Id),zJr l x<=l.length
 |[],x=>by simp[zJr]
 |y::l,x=>by have:=zO6 l x;simp only[zJr,jAc];split<;>omega
theorem zK8:∀(l:wG) (x:Id),iV l x=if l[zJr l x]?=some x then l else l.take (zJr l x)++x::l.drop (zJr l x)
 |[],x=>by simp[iV,zJr]
 |y::l,x=>by
  simp only[iV,zJr];by_cases h:cG y x=true
  .simp only[h,if_true,jBj,zK8 l x,jCr,List.drop_succ_cons];split<;>simp
  .simp only[h];by_cases hy:y=x<;>simp[hy]
theorem zS7(l:wG)(x:Id):(iV l x).length<=l.length+1:=by
 rw[zK8];have:=zO6 l x;split
 .omega
 .simp;omega
theorem zNK:∀(l acc:wG),(l.foldl iV acc).length<=acc.length+l.length
 |[],acc=>by simp
 |x::l,acc=>by have h1:=zNK l (iV acc x);have h2:=zS7 acc x;simp only[jAw,jAc];omega
structure Trc where
 defs:List Id
 nodes:List Id
 deriving DecidableEq
def yY(t:Trc):wF:=[.sl t.defs.length (zY t.defs),.sl t.nodes.length (zY t.nodes)]
end Go.Proofs.YtolkhapmieigcaaGreatDoor
