/- Rules for simp on levels and contracts; the steps that a prover takes at calls, loops and  -/
import Derived.Test.YtdnelmeboihpkaaGreatDoorX7
import Derived.IntWalk
import Derived.Shelf.SlSortCmp.NoneTotal
import Derived.Shelf.Spec.SlicesGrow
set_option linter.unusedVariables false
set_option maxHeartbeats 8000000
set_option maxRecDepth 100000
set_option linter.unusedSimpArgs false
open Go.Proofs.Tryz
namespace Go.Abs
attribute [simp] KOp.dst
@[simp]theorem zZv{a b n:Nat}(h:a<=b):(a<=b+n)=True:=eq_true (by omega)
@[simp]def int(n:Int):A:=.lit (.int .i64 n)
@[simp]def bl(b:Bool):A:=.lit (.bool b)
section
variable{P:Program}{n0:Nat}{Qp:Value->wK}{K':wK}{KD:Env->Prop}{Q:Ex->wK}{env:Env} {U:St}{d:wC}
variable{rf:Bool->Nat->Nat->A}{g:Nat->wC}
def lvl(o:wC)(f:Nat->A)(b:A):A:=match o with
 |some i=>f i
 |none=>b
@[simp]theorem qGC{i:Nat}{f:Nat->A}{b:A}:lvl (some i) f b=f i:=rfl
@[simp]theorem qGB{f:Nat->A}{b:A}:lvl none f b=b:=rfl
variable{l:Nat}
@[simp]theorem qNP{o:Nat}:vw rf g (.ptr l o)=lvl (g l) (.ptr · o) (rf true l o):=by simp only[vw,lvl];cases g l<;>rfl
@[simp]theorem qNQ{l n:Nat}:vw rf g (.row l n)=lvl (g l) (.row · n) (rf false l n):=by simp only[vw,lvl];cases g l<;>rfl
@[simp]theorem qNR{l n o:Nat}:vw rf g (.rwp l n o)=lvl (g l) (.rwp · n o) .any:=by simp only[vw,lvl];cases g l<;>rfl
@[simp]theorem qNN:vw rf g (.map l)=lvl (g l) .map .any:=by simp only[vw,lvl];cases g l<;>rfl
@[simp]theorem qNT{l n o k c:Nat}:vw rf g (.win l n o k c)=lvl (g l) (.win · n o k c) (zOJ o k c (rf false l n)):=by simp only[vw,lvl];cases g l<;>rfl
variable{cs:wE}
@[simp]theorem qJu{n o k c:Nat}:zOJ o k c (.sl n cs)=if k=0 then .sl 0 []else .sl k ((cs.drop o).take (k*c)):=rfl
@[simp]theorem qAu:vw rf g (.agg cs)=.agg (vwL rf g cs):=by simp only[vw]
@[simp]theorem qNS:vw rf g (.tup cs)=.tup (vwL rf g cs):=by simp only[vw]
@[simp]theorem qOh{n:Nat}:vw rf g (.sl n cs)=.sl n (vwL rf g cs):=by simp only[vw]
@[simp]theorem qNL{n:Nat}:vw rf g (.fsl n cs)=.fsl n (vwL rf g cs):=by simp only[vw]
@[simp]theorem qKw:vw rf g (.rptr cs)=.rptr (vwL rf g cs):=by simp only[vw]
variable{f:FuncId}
@[simp]theorem qNK{a b:wE}:vw rf g (.clo f a b)=.clo f (vwL rf g a) (vwL rf g b):=by simp only[vw]
@[simp]theorem qNJ:vw rf g .any=.any:=by simp only[vw]
@[simp]theorem qNO:vw rf g .nil=.nil:=by simp only[vw]
variable{v:Value}
@[simp]theorem qNM:vw rf g (.lit v)=.lit v:=by simp only[vw]
variable{b:Nat}
@[simp]theorem qOi:vw rf g (yv b)=yv b:=by simp only[yv,vw]
@[simp]theorem qAI{b:Bool}{l n:Nat}:j9 b l n=.any:=rfl
@[simp]theorem qKh:vwL rf g []=[]:=by simp only[vwL]
@[simp]theorem qHV{c:A}:vwL rf g (c::cs)=vw rf g c::vwL rf g cs:=by simp only[vwL]
variable{ds:wE}
@[simp]theorem zNm:vwL rf g (cs++ds)=vwL rf g cs++vwL rf g ds:=by
 induction cs with
 |nil=>simp
 |cons c cs ih=>simp[ih]
@[simp]theorem qHW{n:Nat}:vwL rf g (cs.drop n)=(vwL rf g cs).drop n:=by
 induction cs generalizing n with
 |nil=>simp
 |cons c cs ih=>cases n<;>simp[ih]
@[simp]theorem qHX{n:Nat}:vwL rf g (cs.take n)=(vwL rf g cs).take n:=by
 induction cs generalizing n with
 |nil=>simp
 |cons c cs ih=>cases n<;>simp[ih]
@[simp]theorem qHa{o:Nat}:nrm0 (.ptr l o)=.ptr l o:=by simp only[nrm0]
@[simp]theorem qHb{l n:Nat}:nrm0 (.row l n)=.row l n:=by simp only[nrm0]
@[simp]theorem qHc{l n o:Nat}:nrm0 (.rwp l n o)=.rwp l n o:=by simp only[nrm0]
@[simp]theorem qGY:nrm0 (.map l)=.map l:=by simp only[nrm0]
@[simp]theorem qHe{l n o k c:Nat}:nrm0 (.win l n o k c)=.win l n o k c:=by simp only[nrm0]
@[simp]theorem qGT:nrm0 (.agg cs)=.agg (jT cs):=by simp only[nrm0]
@[simp]theorem qHd:nrm0 (.tup cs)=.tup (jT cs):=by simp only[nrm0]
@[simp]theorem qJK{n:Nat}:nrm0 (.sl n cs)=.sl n (jT cs):=by simp only[nrm0]
@[simp]theorem qGW{n:Nat}:nrm0 (.fsl n cs)=.sl n (jT cs):=by simp only[nrm0]
@[simp]theorem qBE:nrm0 (.rptr cs)=.rptr (jT cs):=by simp only[nrm0]
@[simp]theorem qGV{a b:wE}:nrm0 (.clo f a b)=.clo f (jT a) (jT b):=by simp only[nrm0]
@[simp]theorem qGU:nrm0 .any=.any:=by simp only[nrm0]
@[simp]theorem qGZ:nrm0 .nil=.sl 0 []:=by simp only[nrm0]
@[simp]theorem qGX:nrm0 (.lit v)=.lit v:=by simp only[nrm0]
@[simp]theorem qJL:nrm0 (yv b)=yv b:=by simp only[yv,nrm0]
@[simp]theorem qB4:jT []=[]:=by simp only[jT]
@[simp]theorem zZ7{c:A}:jT (c::cs)=nrm0 c::jT cs:=by simp only[jT]
@[simp]theorem zI1:jT (cs++ds)=jT cs++jT ds:=by
 induction cs with
 |nil=>simp
 |cons c cs ih=>simp[ih]
@[simp]theorem zZ8{n:Nat}:jT (cs.drop n)=(jT cs).drop n:=by
 induction cs generalizing n with
 |nil=>simp
 |cons c cs ih=>cases n<;>simp[ih]
@[simp]theorem zZ9{n:Nat}:jT (cs.take n)=(jT cs).take n:=by
 induction cs generalizing n with
 |nil=>simp
 |cons c cs ih=>cases n<;>simp[ih]
def qY(cs:wE):Prop:=jT cs=cs/\∀rf g,vwL rf g cs=cs
theorem qY.nil:qY []:=⟨by simp,by simp⟩
theorem qY.append(h:qY cs)(k:qY ds):qY (cs++ds):=⟨by simp[h.1,k.1],fun rf g=>by simp[h.2,k.2]⟩
theorem qY.drop(h:qY cs)(n:Nat):qY (cs.drop n):=⟨by simp[h.1],fun rf g=>by simp[h.2]⟩
theorem qY.take(h:qY cs)(n:Nat):qY (cs.take n):=⟨by simp[h.1],fun rf g=>by simp[h.2]⟩
theorem qY.int{k:IntKind}{n:Int}(h:qY cs):qY (.lit (.int k n)::cs):=⟨by simp[h.1],fun rf g=>by simp[h.2]⟩
theorem qY.lit(h:qY cs):qY (.lit v::cs):=⟨by simp[h.1],fun rf g=>by simp[h.2]⟩
theorem qY.sl{n:Nat}(k:qY ds)(h:qY cs):qY (.sl n ds::cs):=⟨by simp[h.1,k.1],fun rf g=>by simp[h.2,k.2]⟩
@[simp]theorem qBM:qR [] l=none:=rfl
@[simp]theorem zAM{k l:Nat}{ks:wA}:qR (k::ks) l=if l=k then some 0 else (qR ks l).map (· + 1):=rfl
@[simp]theorem qDV{n l:Nat}:back [] n l=n+l:=by cases l<;>rfl
variable{js:wA}
@[simp]theorem qAN{j n:Nat}:back (j::js) n 0=j:=rfl
@[simp]theorem zO2{j n l:Nat}:back (j::js) n (l+1)=back js n l:=rfl
@[simp]theorem zZP{s t:St}:jF s [] t=s++t:=by simp only[jF]
@[simp]theorem zD9{s os:St}{j:Nat}{o:AObj}:jF s (j::js) (o::os)=jF (s.set j o) js os:=rfl
@[simp]theorem qAK:dS js [] []:=trivial
@[simp]theorem zYf{a a':A}{aS aS':wE}:dS js (a'::aS') (a::aS)=((a=vw j9 (qR js) a'\/a=nrm0 (vw j9 (qR js) a'))/\dS js aS' aS):=rfl
def zK9(o:Option AObj)(J:AObj->Prop):Prop:=match o with
 |some o=>J o
 |none=>False
@[simp]theorem zZD{o:AObj}{J:AObj->Prop}:zK9 (some o) J=J o:=rfl
@[simp]theorem qCc:aB U rf g [] []:=trivial
@[simp]theorem zNa{j:Nat}{o:AObj}{os:St}:aB U rf g (j::js) (o::os)=(zK9 U[j]? (fun p=>o=vwO rf g p\/o=zAc (vwO rf g p))/\aB U rf g js os):=by simp only[aB,zK9];cases U[j]?<;>rfl
@[simp]theorem qKi:vwO rf g (.box cs)=.box (vwL rf g cs):=rfl
variable{fz:Bool}{e:TypeId}
@[simp]theorem qKj{sz n:Nat}:vwO rf g (.row fz e sz n cs)=.row fz e sz n (vwL rf g cs):=rfl
variable{fr:Bool}{nk:Nat}{es:List (wB×A)}
@[simp]theorem qAt:vwO rf g (.mp fr nk es)=.mp fr nk (es.map fun p=>(p.1,vw rf g p.2)):=rfl
@[simp]theorem qKk:vwO rf g .rsv=.rsv:=rfl
@[simp]theorem qHh:zAc .rsv=.rsv:=rfl
@[simp]theorem qH1{n:Nat}:cP js n .rsv=.rsv:=rfl
variable{met:wA}
@[simp]theorem qAr{m n:Nat}:vwO rf g (.it m n met)=(match g m with|some i=>AObj.it i n met|none=>.dead):=rfl
@[simp]theorem qJO:zAc (.mp fr nk es)=.mp fr nk (es.map fun p=>(p.1,nrm0 p.2)):=rfl
@[simp]theorem qJM{m n:Nat}:zAc (.it m n met)=.it m n met:=rfl
@[simp]theorem qJU{n:Nat}:cP js n (.mp fr nk es)=.mp fr nk (es.map fun p=>(p.1,ren js n p.2)):=rfl
@[simp]theorem qJS{n m k:Nat}:cP js n (.it m k met)=.it (back js n m) k met:=rfl
@[simp]theorem qAs{M:Nat}{r:Loop}{es:List (Nat×A)}:vwO rf g (.lp b r M es)=.lp b r M (es.map fun p=>(p.1,vw rf g p.2)):=rfl
@[simp]theorem qJN{M:Nat}{r:Loop}{es:List (Nat×A)}:zAc (.lp b r M es)=.lp b r M (es.map fun p=>(p.1,nrm0 p.2)):=rfl
@[simp]theorem qJT{n b M:Nat}{r:Loop}{es:List (Nat×A)}:cP js n (.lp b r M es)=.lp b r M (es.map fun p=>(p.1,ren js n p.2)):=rfl
@[simp]theorem qHf:zAc (.box cs)=.box (jT cs):=rfl
@[simp]theorem qHg{sz n:Nat}:zAc (.row fz e sz n cs)=.row fz e sz n (jT cs):=rfl
@[simp]theorem qHz{n:Nat}:cP js n (.box cs)=.box (zZR js n cs):=rfl
@[simp]theorem qH0{n:Nat}{sz m:Nat}:cP js n (.row fz e sz m cs)=.row fz e sz m (zZR js n cs):=rfl
@[simp]theorem qNA{n:Nat}{a:A}:ren js n a=vw j9 (fun l=>some (back js n l)) a:=rfl
@[simp]theorem qJR{n:Nat}:zZR js n cs=vwL j9 (fun l=>some (back js n l)) cs:=rfl
def zTh(k:Nat)(o:Option AObj)(n:Nat)(J:List A->A):A:=match o with
 |some (.row _ _ _ m cs)=>if n=m then J cs else .any
 |_=>.any
variable{J:List A->A}
@[simp]theorem qAc{k n m:Nat}{sz:Nat}:zTh k (some (.row fz e sz m cs)) n J=if n=m then J cs else .any:=rfl
@[simp]theorem qCb{b:Bool}{l n:Nat}:seen U g 0 b l n=.any:=rfl
@[simp]theorem qCa{k l n:Nat}:seen U g (k+1) false l n=zTh k U[l]? n (fun cs=>.sl n (vwL (seen U g k) g cs)):=by
 simp only[seen,zTh];cases U[l]? with
 |none=>rfl
 |some o=>cases o<;>rfl
def zKV(o:Option AObj)(J:List A->A):A:=match o with
 |some (.box cs)=>J cs
 |_=>.any
@[simp]theorem qBY:zKV (some (.box cs)) J=J cs:=rfl
@[simp]theorem qBZ{sz n:Nat}:zKV (some (.row fz e sz n cs)) J=.any:=rfl
@[simp]theorem qAb:zKV none J=.any:=rfl
@[simp]theorem qHD{k l n:Nat}:seen U g (k+1) true l n=zKV U[l]? (fun cs=>.rptr ((vwL (seen U g k) g cs).drop n)):=by
 simp only[seen,zKV];cases U[l]? with
 |none=>rfl
 |some o=>cases o<;>rfl
def zOy:List A->A
 |[x]=>x
 |l=>.tup l
@[simp]theorem qCh{x:A}:zOy [x]=x:=rfl
@[simp]theorem qCg:zOy []=.tup []:=rfl
@[simp]theorem qCi{x y:A}{l:wE}:zOy (x::y::l)=.tup (x::y::l):=rfl
def zFB(env:Env) (U:St):List RS->(List A->Prop)->Prop
 |[],J=>J []
 | .slot t::rs,J=>zFB env U rs fun l=>J (env t::l)
 | .cell a n agg::rs,J=>nO ((ldA U n (env a)).bind (iE agg)) fun r=>zFB env U rs fun l=>J (r::l)
@[simp]theorem qH3{J:List A->Prop}:zFB env U [] J=J []:=rfl
variable{rs:List RS}
@[simp]theorem qBQ{t:Nat}{J:List A->Prop}:zFB env U (.slot t::rs) J=zFB env U rs fun l=>J (env t::l):=rfl
@[simp]theorem qBP{a n:Nat}{agg:Bool}{J:List A->Prop}:zFB env U (.cell a n agg::rs) J=nO ((ldA U n (env a)).bind (iE agg)) fun r=>zFB env U rs fun l=>J (r::l):=rfl
theorem zIB:∀{rs:List RS} {J:List A->Prop},zFB env U rs J=match dI env U rs with|some l=>J l|none=>False
 |[],J=>rfl
 | .slot t::rs,J=>by simp only[zFB,dI,pO];rw[zIB];cases dI env U rs<;>rfl
 | .cell a n agg::rs,J=>by
  simp only[zFB,dI,pO];cases (ldA U n (env a)).bind (iE agg)with
  |none=>rfl
  |some r =>
   simp only[nO];rw[zIB];cases dI env U rs<;>rfl
@[simp]theorem qJV{R:Out->St->Prop}:zFC rs R env U = zFB env U rs fun l=>R (.ret (zOy l)) U:=by
 rw[zIB,zFC,zPY];cases dI env U rs with
 |none=>rfl
 |some l =>
  cases l with
  |nil=>rfl
  |cons x l=>cases l<;>rfl
def uQ(n:Nat)(r:A) (U1:St)(o:Out) (U':St):Prop :=
 ∃(r':A) (ks:wA) (fuel:Nat),o=.ret r'/\(∀i,i<n->ks[i]?=some i)/\ks.Nodup/\aB U' (seen U' (qR ks) fuel) (qR ks) ks U1 /\
  (r=vw (seen U' (qR ks) fuel) (qR ks) r'\/r=nrm0 (vw (seen U' (qR ks) fuel) (qR ks) r'))
variable{r:A}{U0 U1:St}
theorem zH{fn:Func}{c:Code}{k:K}(hf:P.funcs[f]?=some fn)(hb:fn.body=some c)(hc:zS P fn.ntmps c=some k.erase)(hr:lS P fn.results.toList=some rs)
 {args:wE} (h:wpF P k rs args U0 (uQ U0.length r U1)):Ret P f args U0 r U1:=zAV (uY hf hb hc hr h)
theorem zN{hint:Nat->Option wD}{fn:Func}{c:Code}{k:K}(hf:P.funcs[f]?=some fn)(hb:fn.body=some c)(hc:qM P fn.ntmps hint c=some k.erase)(hr:lS P fn.results.toList=some rs)
 {args:wE} (h:wpF P k rs args U0 (uQ U0.length r U1)):Ret P f args U0 r U1:=zAV (sI hf hb hc hr h)
variable{r':A}{U':St}
theorem zA(fuel:Nat)(h:r=vw (seen U' (fun _=>none) fuel) (fun _=>none) r'\/r=nrm0 (vw (seen U' (fun _=>none) fuel) (fun _=>none) r')):uQ 0 r [] (.ret r') U' :=
 ⟨r',[],fuel,rfl,fun i hi=>by omega,by simp,trivial,h⟩
def km:List Nat->Bool|[]=>true|a::l=>if l.contains a then false else km l
theorem kh:∀{l:wA},km l=true->l.Nodup
 |[],_=>List.nodup_nil
 |a::l,h=>by
  simp[km] at h;exact List.nodup_cons.2 ⟨h.1,kh h.2⟩
def kg(n:Nat)(l:wA):Bool:=if l.take n=List.range n then km l else false
theorem kf{n:Nat}{l:wA}(h:kg n l=true):l.Nodup:=by
 simp[kg] at h;exact kh h.2
theorem ke{n:Nat}{l:wA}(h:kg n l=true)(i:Nat)(hi:i<n):l[i]?=some i:=by
 simp[kg] at h;rw[<-List.getElem?_take_of_lt hi,h.1];simp[hi]
theorem zG{n:Nat} (ks:wA)(fuel:Nat)(hk:∀i,i<n->ks[i]?=some i)(hd:ks.Nodup)(ho:aB U' (seen U' (qR ks) fuel) (qR ks) ks U1)
 (h:r=vw (seen U' (qR ks) fuel) (qR ks) r'\/r=nrm0 (vw (seen U' (qR ks) fuel) (qR ks) r')):uQ n r U1 (.ret r') U':=⟨r',ks,fuel,rfl,hk,hd,ho,h⟩
theorem mz{n:Nat} (ks:wA)(fuel:Nat)(hk:kg n ks=true)(ho:aB U' (seen U' (qR ks) fuel) (qR ks) ks U1)
 (h:r=vw (seen U' (qR ks) fuel) (qR ks) r'\/r=nrm0 (vw (seen U' (qR ks) fuel) (qR ks) r')):uQ n r U1 (.ret r') U':=zG ks fuel (ke hk) (kf hk) ho h
theorem mr{n:Nat} (ks:wA)(fuel:Nat)(hk:kg n ks=true)(h:(aB U' (seen U' (qR ks) fuel) (qR ks) ks U1)/\(r=vw (seen U' (qR ks) fuel) (qR ks) r'\/r=nrm0 (vw (seen U' (qR ks) fuel) (qR ks) r'))):uQ n r U1 (.ret r') U':=mz ks fuel hk h.1 h.2
theorem zLb:∀{s:St} {j:Nat} {o:AObj},s[j]?=some o->s.set j o=s
 |[],_,_,h=>by simp at h
 |x::s,0,o,h=>by simp at h;simp[h]
 |x::s,j+1,o,h=>by simp only[jBo]at h;simp[zLb h]
theorem zU{args args':wE}(h:Ret P f args [] r [])(ha:dS [] args' args)(hr:∀m,vw j9 (fun l=>some (m+l)) r=r)(hq:K' (env.put d r) U):aG P f args' U (outK d env K' Qp):=by
 refine cS h [] (by simp) trivial ha ?_;have:ren [] U.length r=r:=by
  have:=hr U.length
  simpa[ren]using this
 rw[this]
 simpa[outK]using hq
theorem mq{args args':wE}(h:Ret P f args [] r [])(e:(dS [] args' args)/\∀m,vw j9 (fun l=>some (m+l)) r=r)(hq:K' (env.put d r) U):aG P f args' U (outK d env K' Qp):=zU h e.1 e.2 hq
theorem z7{args args':wE}(h:Ret P f args [] r [])(ha:dS [] args' args)(hr:∀m,vw j9 (fun l=>some (m+l)) r=r)(hq:KD (env.put d r)):uD P U d KD f args' env:=by
 refine⟨r,cS h [] (by simp) trivial ha ?_,hq⟩;have:ren [] U.length r=r:=by
  have:=hr U.length
  simpa[ren]using this
 rw[this];simp
theorem zW{args args':wE} (h:Ret P f args U0 r U1)(js:wA)(hd:js.Nodup)(ho:aB U j9 (qR js) js U0)(ha:dS js args' args)
 (hq:K' (env.put d (ren js U.length r)) (jF U js (U1.map (cP js U.length)))):aG P f args' U (outK d env K' Qp):=cS h js hd ho ha (by simpa[outK]using hq)
theorem mn{args args':wE} (h:Ret P f args U0 r U1)(js:wA)(e:(js.Nodup)/\(aB U j9 (qR js) js U0)/\dS js args' args)
 (hq:K' (env.put d (ren js U.length r)) (jF U js (U1.map (cP js U.length)))):aG P f args' U (outK d env K' Qp):=zW h js e.1 e.2.1 e.2.2 hq
def zW3{S:Type}(E:S->List (Nat×A))(T:S->St)(I:S->Prop) (μ:S->Nat)(n:Nat)(e:Env)(t:St):Prop:=∃s,I s/\μ s=n/\e=qV (E s)/\t=T s
theorem qK{S:Type}{W:(Ex->wK)->wK}(E:S->List (Nat×A))(T:S->St)(I:S->Prop) (μ:S->Nat)(s0:S)(h0:I s0)(start:b9 n0 (qV (E s0)) (T s0) env U)
 (round:∀s,I s->W (rnd n0 (zW3 E T I μ) (μ s) Q) (qV (E s)) (T s)):zIY n0 W Q env U:=zUW E T I μ s0 h0 start round
theorem zO{S:Type}{E:S->List (Nat×A)}{T:S->St}{I:S->Prop} {μ:S->Nat}{n:Nat}(s:S)(hs:I s)(hm : μ s<n)(hw:b9 n0 (qV (E s)) (T s) env U):rnd n0 (zW3 E T I μ) n Q .norm env U :=
 zZT s hs hm hw
theorem zM(ks:wA)(fuel:Nat){l:List (Nat×A)} (hk:∀i,i<n0->ks[i]?=some i)(hd:ks.Nodup)(ho:aB U (seen U (qR ks) fuel) (qR ks) ks U')
 (hl:∀p∈l,p.2=vw (seen U (qR ks) fuel) (qR ks) (env p.1)\/p.2=nrm0 (vw (seen U (qR ks) fuel) (qR ks) (env p.1))):b9 n0 (qV l) U' env U:=b9.sel ks fuel l hk hd ho hl
theorem m_(ks:wA)(fuel:Nat){l:List (Nat×A)} (hk:kg n0 ks=true)(ho:aB U (seen U (qR ks) fuel) (qR ks) ks U')
 (hl:∀p∈l,p.2=vw (seen U (qR ks) fuel) (qR ks) (env p.1)\/p.2=nrm0 (vw (seen U (qR ks) fuel) (qR ks) (env p.1))):b9 n0 (qV l) U' env U:=zM ks fuel (ke hk) (kf hk) ho hl
theorem mu(ks:wA)(fuel:Nat){l:List (Nat×A)} (hk:kg n0 ks=true)(h:(aB U (seen U (qR ks) fuel) (qR ks) ks U')/\∀p∈l,p.2=vw (seen U (qR ks) fuel) (qR ks) (env p.1)\/p.2=nrm0 (vw (seen U (qR ks) fuel) (qR ks) (env p.1))):b9 n0 (qV l) U' env U:=m_ ks fuel hk h.1 h.2
end
end Go.Abs
namespace Go.Abs
section
variable{P:Program}{KD:Env->Prop}{env:Env} {U:St}{d:wC}
variable{f:FuncId}
theorem yX{args args':wE}{r:A}(h:Ret P f args [] r [])(ha:dS [] args' args)(hr:∀m,vw j9 (fun l=>some (m+l)) r=r)(hq:KD (env.put d r)):zCg P U d KD f args' env:=by
 refine⟨r,fun τ _=>cS h [] (by simp) trivial ha ?_,hq⟩;have:ren [] τ.length r=r:=by
  have:=hr τ.length
  simpa[ren]using this
 rw[this];simp
def tV(U:St)(js:wA):List Nat->St->Prop
 |[],[]=>True
 |j::ks,o::os=>(zK9 U[j]? fun p=>(∃cs,p=.box cs)/\(∀n,cP js n o=p)/\(o=vwO j9 (qR js) p\/o=zAc (vwO j9 (qR js) p)))/\tV U js ks os
 |_,_=>False
@[simp]theorem qAa{js:wA}:tV U js [] []:=trivial
@[simp]theorem zXG{js ks:wA}{j:Nat}{o:AObj}{os:St}:tV U js (j::ks) (o::os)=((zK9 U[j]? fun p=>(∃cs,p=.box cs)/\(∀n,cP js n o=p)/\(o=vwO j9 (qR js) p\/o=zAc (vwO j9 (qR js) p)))/\tV U js ks os):=rfl
theorem xC{js:wA} {τ:St}(hk:bF U τ):∀{ks:wA} {os:St},tV U js ks os->tV τ js ks os
 |[],[],_=>trivial
 |j::ks,o::os,h=>by
  obtain⟨h1,h2⟩:=h;refine⟨?_,xC hk h2⟩;cases hj : U[j]? with
  |none=>rw[hj]at h1;exact h1.elim
  |some p =>
   rw[hj]at h1;obtain⟨⟨cs,rfl⟩,h3⟩:=h1;rw[hk j cs hj];exact⟨⟨cs,rfl⟩,h3⟩
 |[],_::_,h=>h.elim
 |_::_,[],h=>h.elim
theorem zFF{js:wA}:∀{ks:wA} {os:St},tV U js ks os->aB U j9 (qR js) ks os
 |[],[],_=>trivial
 |j::ks,o::os,h=>by
  obtain⟨h1,h2⟩:=h;refine⟨?_,zFF h2⟩;cases hj : U[j]? with
  |none=>rw[hj]at h1;exact h1.elim
  |some p=>rw[hj]at h1;exact h1.2.2
 |[],_::_,h=>h.elim
 |_::_,[],h=>h.elim
theorem zFE{js:wA}{n:Nat}:∀{ks:wA} {os:St},tV U js ks os->jF U ks (os.map (cP js n)) = U
 |[],[],_=>by simp
 |j::ks,o::os,h=>by
  obtain⟨h1,h2⟩:=h;cases hj : U[j]? with
  |none=>rw[hj]at h1;exact h1.elim
  |some p =>
   rw[hj]at h1;simp only[jAg,zD9];rw[h1.2.1 n,zLb hj];exact zFE h2
 |[],_::_,h=>h.elim
 |_::_,[],h=>h.elim
theorem zIb{args args':wE} {U0:St}{r:A}(h:Ret P f args U0 r U0)(js:wA)(hd:js.Nodup)(ho:tV U js js U0)(ha:dS js args' args)(hr:∀n,ren js n r=r)(hq:KD (env.put d r)) :
 zCg P U d KD f args' env:=by
 refine⟨r,fun τ hk=>cS h js hd (zFF (xC hk ho)) ha ?_,hq⟩;rw[hr,zFE (xC hk ho)];simp
end
end Go.Abs
namespace Go.Abs
section
variable{P:Program}{Qp:Value->wK}{Qd:Value->St->Prop}{K':wK}{env:Env} {U:St}{d:wC}{x y:Operand}
def zK4(a:A)(J:A->Prop):Prop:=match a with
 | .ptr l o=>J (.ptr l o)
 | .rptr cs=>J (.rptr cs)
 |_=>False
variable{l:Nat}
@[simp]theorem qB2{o:Nat}{J:A->Prop}:zK4 (.ptr l o) J=J (.ptr l o):=rfl
variable{cs:wE}
@[simp]theorem zZ6{J:A->Prop}:zK4 (.rptr cs) J=J (.rptr cs):=rfl
theorem zPE{J:A->Prop}:jU (zZ env U (.nilc d x)) J=zK4 (ev env x) J:=by simp only[zZ,zK4,jU];generalize ev env x=a;cases a<;>simp
@[simp]theorem qIq:wpO P Qp K' (.nilc d x) env U = zK4 (ev env x) fun r=>K' (env.put d r) U:=zPE (d:=d)
@[simp]theorem qA4{fl:Nat}:j7 P Qd fl K' (.nilc d x) env U = wpO P dE K' (.nilc d x) env U:=by simp[j7,KOp.lite,KOp.keeps]
def zFd:List A->(List Int->Prop)->Prop
 |[],J=>J []
 | .lit (.int .i64 n)::l,J=>zFd l fun ks=>J (n::ks)
 |_,_=>False
variable{J:List Int->Prop}
@[simp]theorem qBx:zFd [] J=J []:=rfl
@[simp]theorem zZx{n:Int}{l:wE}:zFd (.lit (.int .i64 n)::l) J=zFd l fun ks=>J (n::ks):=rfl
theorem zKt:∀(l:wE) (J:List Int->Prop),zFd l J=match zBG l with|some ks=>J ks|none=>False
 |[],J=>rfl
 |a::l,J=>by
  cases a<;>try rfl
  rename_i v;cases v<;>try rfl
  rename_i k n;cases k<;>try rfl
  simp only[zFd,zBG,zKt l];cases zBG l<;>rfl
def zGu(nk:Nat)(k:A)(J:List Int->Prop):Prop:=match zBD nk k with
 |some ks=>J ks
 |none=>False
variable{nk:Nat}
@[simp]theorem qGx:zGu nk (.agg cs) J=zFd cs fun ks=>(ks.length=nk/\nk≠1)/\J ks:=by
 simp only[zGu,zBD,zKt];cases zBG cs with
 |none=>rfl
 |some ks =>
  simp only;by_cases h:ks.length=nk/\nk≠1<;>simp[h]
@[simp]theorem qGy{n:Int}:zGu nk (.lit (.int .i64 n)) J=(nk=1/\J [n]):=by simp only[zGu,zBD];by_cases h:nk=1<;>simp[h]
def zCI(o:Option AObj)(J:Bool->Nat->List (wB×A)->Prop):Prop:=match o with
 |some (.mp fr nk es)=>J fr nk es
 |_=>False
@[simp]theorem qB1{fr:Bool}{es:List (wB×A)}{J:Bool->Nat->List (wB×A)->Prop}:zCI (some (.mp fr nk es)) J=J fr nk es:=rfl
def zSv(o:Option AObj)(J:Nat->Nat->List Nat->Prop):Prop:=match o with
 |some (.it m n met)=>J m n met
 |_=>False
@[simp]theorem qBw{m n:Nat}{met:wA}{J:Nat->Nat->List Nat->Prop}:zSv (some (.it m n met)) J=J m n met:=rfl
@[simp]theorem qKI{m:MOp}{xs:List Operand}:wpO P Qp K' (.mop d m xs) env U = eK m (xs.map (ev env)) (fun r τ=>K' (env.put d r) τ) U:=by simp only[wpO]
variable{K:A->St->Prop}
@[simp]theorem qJJ:eK (.mk nk) [] K U = K (.map U.length) (U++[.mp true nk []]):=rfl
@[simp]theorem qGL{z:Value}{ok:Bool}{k:A}:eK (.get nk z ok) [.map l,k] K U = zGu nk k fun ks=>zCI U[l]? fun _ nk' es=>nk'=nk/\K (s7 z ok (fU ks es)) U:=by
 simp only[eK,zGu,zCI];cases zBD nk k with
 |none=>rfl
 |some ks =>
  cases U[l]? with
  |none=>rfl
  |some o=>cases o<;>rfl
@[simp]theorem qGP{k v:A}:eK (.set nk) [.map l,k,v] K U = zGu nk k fun ks=>zCI U[l]? fun fr nk' es=>nk'=nk/\K (.lit undef) (U.set l (.mp fr nk (putI ks v es))):=by
 simp only[eK,zGu,zCI];cases zBD nk k with
 |none=>rfl
 |some ks =>
  cases U[l]? with
  |none=>rfl
  |some o=>cases o<;>rfl
@[simp]theorem qGJ{k:A}:eK (.del nk) [.map l,k] K U = zGu nk k fun ks=>zCI U[l]? fun _ nk' es=>nk'=nk/\K (.tup []) (U.set l (.mp false nk (zCy ks es))):=by
 simp only[eK,zGu,zCI];cases zBD nk k with
 |none=>rfl
 |some ks =>
  cases U[l]? with
  |none=>rfl
  |some o=>cases o<;>rfl
@[simp]theorem qGO:eK .rng [.map l] K U = zCI U[l]? fun fr _ es=>fr=true/\K (.ptr U.length 0) (U++[.it l es.length []]):=by
 simp only[eK,zCI];cases U[l]? with
 |none=>rfl
 |some o =>
  cases o<;>try rfl
  rename_i fr nk es;cases fr<;>simp
@[simp]theorem qGN{j:Nat}:eK .nxt [.ptr j 0] K U = zSv U[j]? fun l n met=>zCI U[l]? fun fr _ es=>fr=true/\n=es.length /\
 (∀(i:Nat) (p:wB×A),i∉met->es[i]?=some p->K (.tup [.lit (.bool true),zDP p.1,p.2]) (U.set j (.it l n (met++[i]))))/\((∀i,i<n->i∈met)->K (.tup [.lit (.bool false)]) U):=by
 simp only[eK,zCI,zSv];cases U[j]? with
 |none=>rfl
 |some o =>
  cases o<;>try rfl
  rename_i l n met;simp only;cases U[l]? with
  |none=>rfl
  |some o =>
   cases o<;>try rfl
   rename_i fr nk es;cases fr<;>simp
@[simp]theorem qGK{j:Nat}:eK .ent [.ptr j 0] K U = zSv U[j]? fun l n met=>zCI U[l]? fun fr _ es=>fr=true/\∃i p,met.getLast?=some i/\es[i]?=some p/\n=es.length/\K (.tup [zDP p.1,p.2]) U:=by
 simp only[eK,zCI,zSv];cases U[j]? with
 |none=>rfl
 |some o =>
  cases o<;>try rfl
  rename_i l n met;simp only;cases U[l]? with
  |none=>rfl
  |some o =>
   cases o<;>try(cases met.getLast?<;>rfl)
   rename_i fr nk es;cases fr
   .cases met.getLast?<;>simp
   .cases met.getLast? with
    |none=>simp
    |some i =>
     simp only;apply propext;cases hp:es[i]? with
     |none =>
      refine⟨fun h=>h.2.elim,?_⟩;rintro⟨_,i',p',h1,h2,_⟩;have h1:=jB0 h1;subst h1;rw[hp]at h2;exact absurd h2 (by simp)
     |some p =>
      refine⟨fun h=>⟨trivial,i,p,rfl,hp,h.1,h.2⟩,?_⟩;rintro⟨_,i',p',h1,h2,h3,h4⟩;have h1:=jB0 h1;subst h1;rw[hp]at h2;have h2:=jB0 h2;subst h2;exact⟨h3,h4⟩
@[simp]theorem qGH{sz:Nat}{zs:wL}{l n o k c:Nat}:eK (.clr sz zs) [.win l n o k c] K U = (match U[l]? with
 |some (.row fz e s m cs)=>(n=m/\s=sz/\fz=false/\o+k*sz<=cs.length)/\K (.tup []) (U.set l (.row false e sz n (cs.take o++(List.replicate k (zs.map jN)).flatten++cs.drop (o+k*sz))))
 |_=>False):=rfl
@[simp]theorem qGM{e:TypeId}{sz bytes:Nat}{zs:wL}{k k':IntKind}{n c:Int}:eK (.mks e sz bytes zs) [.lit (.int k n),.lit (.int k' c)] K U = ((0<=n/\c=n/\n<=1000000000000/\bytes*n.toNat<=281474976710656)/\K (.row U.length n.toNat) (U++[.row false e sz n.toNat ((List.replicate n.toNat (zs.map jN)).flatten)])):=rfl
@[simp]theorem qGI{k k':IntKind}{n:Int}:eK (.cvt k) [.lit (.int k' n)] K U = K (.lit (.int k (k.wrap n))) U:=rfl
@[simp]theorem qB0{n:Nat}:eK .str [.fsl n cs] K U = (match zAp cs with
 |some xs=>(xs.length=n/\n≠0)/\K (.lit (.string (strOfNums xs))) U
 |none=>False):=rfl
@[simp]theorem qBz{xs:wE}:eK .boom xs K U = False:=by cases xs<;>rfl
@[simp]theorem qKv{rf:Bool->Nat->Nat->A}{g:Nat->wC}(ks:wB):vw rf g (zDP ks)=zDP ks:=by
 have:∀ks:wB,vwL rf g (ks.map fun n=>A.lit (.int .i64 n))=ks.map fun n=>A.lit (.int .i64 n):=fun ks=>by
  induction ks with
  |nil=>rfl
  |cons k ks ih=>simp[vwL,ih]
 match ks with
 |[]=>simp[zDP]
 |[n]=>simp[zDP]
 |a::b::ks=>simp only[zDP,qAu,this]
end
end Go.Abs
namespace Go.Abs
attribute [simp] A.bnd eJ AObj.bnd uV
@[simp]theorem qKQ{b k:Nat}:(yv b).bnd k=true:=rfl
section
variable{P:Program}{Qp:Value->wK}{Qd:Value->St->Prop}{K':wK}{env:Env} {U:St}{d:wC}{x:Operand}
def zZw:A->Option Int
 | .lit (.int _ j)=>some j
 |_=>none
variable{j:Int}
@[simp]theorem qG9{k:IntKind}:zZw (.lit (.int k j))=some j:=rfl
@[simp]theorem zW6{n:Nat}:jL env n none=some (n:Int):=rfl
@[simp]theorem zW7{n:Nat}:jL env n (some x)=zZw (ev env x):=by
 simp only[jL,zZw];cases ev env x with
 |lit u=>cases u<;>rfl
 |_=>rfl
def o8(a b:Option Int)(J:Int->Int->Prop):Prop:=match a,b with
 |some l,some h=>J l h
 |_,_=>False
@[simp]theorem zYk{l h:Int}{J:Int->Int->Prop}:o8 (some l) (some h) J=J l h:=rfl
def zTn(a:A)(lo:Option Int)(hi:Nat->Option Int)(sz:Nat)(J:A->Prop):Prop:=match a with
 | .sl n cs=>o8 lo (hi n) fun l h=>(0<=l/\l<=h/\h<=n)/\J (.sl (h-l).toNat ((cs.drop (l.toNat*sz)).take ((h-l).toNat*sz)))
 | .fsl n cs=>o8 lo (hi n) fun l h=>(0<=l/\l<=h/\h<=n)/\J (.sl (h-l).toNat ((cs.drop (l.toNat*sz)).take ((h-l).toNat*sz)))
 | .nil=>o8 lo (hi 0) fun l h=>(l=0/\h=0)/\J .nil
 |_=>False
variable{J:A->Prop}{cs:wE}{lo:Option Int}{hi:Nat->Option Int}{sz:Nat}
@[simp]theorem qKb{n:Nat}:zTn (.sl n cs) lo hi sz J=o8 lo (hi n) fun l h=>(0<=l/\l<=h/\h<=n)/\J (.sl (h-l).toNat ((cs.drop (l.toNat*sz)).take ((h-l).toNat*sz))):=rfl
@[simp]theorem qHG{n:Nat}:zTn (.fsl n cs) lo hi sz J=o8 lo (hi n) fun l h=>(0<=l/\l<=h/\h<=n)/\J (.sl (h-l).toNat ((cs.drop (l.toNat*sz)).take ((h-l).toNat*sz))):=rfl
@[simp]theorem qHH:zTn .nil lo hi sz J=o8 lo (hi 0) fun l h=>(l=0/\h=0)/\J .nil:=rfl
@[simp]theorem qKO{lo hi:Option Operand}:wpO P Qp K' (.slc d x sz lo hi none) env U = zTn (ev env x) (jL env 0 lo) (fun n=>jL env n hi) sz fun r=>K' (env.put d r) U:=by
 show jU (zZ env U (.slc d x sz lo hi none)) _=_;simp only[zZ,zTn];generalize ev env x=a;cases a<;>try rfl
 all_goals
  simp only[o8];generalize jL env _ lo=u;generalize jL env _ hi=v;cases u<;>cases v<;>rfl
def uI(o:Option AObj)(n sz:Nat)(J:Prop):Prop:=match o with
 |some (.row _ _ s m _)=>if n=m/\s=sz then J else False
 |_=>False
variable{fz:Bool}
@[simp]theorem zZX{e s n m sz:Nat}{J:Prop}:uI (some (.row fz e s m cs)) n sz J=((n=m/\s=sz)/\J):=by simp only[uI];by_cases h:n=m/\s=sz<;>simp[h]
def zH6(U:St)(a:A)(lo:Option Int)(hi:Nat->Option Int)(sz:Nat)(J:A->Prop):Prop:=match a with
 | .row l n=>uI U[l]? n sz (o8 lo (hi n) fun l' h=>(0<=l'/\l'<=h/\h<=n)/\J (.win l n (l'.toNat*sz) (h-l').toNat sz))
 | .win l n o k c=>uI U[l]? n sz (o8 lo (hi k) fun l' h=>((0<=l'/\l'<=h/\h<=k)/\c=sz)/\J (.win l n (o+l'.toNat*sz) (h-l').toNat sz))
 |_=>False
@[simp]theorem qBS{l n:Nat}:zH6 U (.row l n) lo hi sz J=uI U[l]? n sz (o8 lo (hi n) fun l' h=>(0<=l'/\l'<=h/\h<=n)/\J (.win l n (l'.toNat*sz) (h-l').toNat sz)):=rfl
@[simp]theorem qBT{l n o k c:Nat}:zH6 U (.win l n o k c) lo hi sz J=uI U[l]? n sz (o8 lo (hi k) fun l' h=>((0<=l'/\l'<=h/\h<=k)/\c=sz)/\J (.win l n (o+l'.toNat*sz) (h-l').toNat sz)):=rfl
theorem zH7{lo hi:Option Operand}:jU (zZ env U (.rslc d x sz lo hi)) J=zH6 U (ev env x) (jL env 0 lo) (fun n=>jL env n hi) sz J:=by
 simp only[zZ,zH6];generalize ev env x=a;have key:∀(ob:Option AObj) (n k:Nat) (f:Int->Int->Prop×A),jU (match ob with
  |some (.row _ _ s m _)=>if n=m/\s=sz then (match jL env 0 lo,jL env k hi with
   |some l',some h=>some (f l' h)
   |_,_=>none)else none
  |_=>none) J=uI ob n sz (o8 (jL env 0 lo) (jL env k hi) fun l' h=>(f l' h).1/\J (f l' h).2):=by
  intro ob n k f;simp only[uI,o8];cases ob with
  |none=>rfl
  |some ob =>
   cases ob<;>try rfl
   simp only;split
   .generalize jL env 0 lo=u;generalize jL env k hi=v;cases u<;>cases v<;>rfl
   .rfl
 cases a<;>try rfl
 .rename_i l n;exact key U[l]? n n fun l' h=>(0<=l'/\l'<=h/\h<=n,.win l n (l'.toNat*sz) (h-l').toNat sz)
 .rename_i l n o k c;exact key U[l]? n k fun l' h=>((0<=l'/\l'<=h/\h<=k)/\c=sz,.win l n (o+l'.toNat*sz) (h-l').toNat sz)
@[simp]theorem qIs{lo hi:Option Operand}:wpO P Qp K' (.rslc d x sz lo hi) env U = zH6 U (ev env x) (jL env 0 lo) (fun n=>jL env n hi) sz fun r=>K' (env.put d r) U:=zH7 (d:=d)
@[simp]theorem qA6{fl:Nat}{lo hi:Option Operand}:j7 P Qd fl K' (.rslc d x sz lo hi) env U = zH6 (oR fl U) (ev env x) (jL env 0 lo) (fun n=>jL env n hi) sz fun r=>K' (env.put d r) U:=zH7 (d:=d)
@[simp]theorem qGj{sz l n:Nat}{k:IntKind}:tE U sz (.row l n) (.lit (.int k j)) J=uI U[l]? n sz ((0<=j/\j<n)/\J (.rwp l n (j.toNat*sz))):=by
 simp only[tE,uI];cases U[l]? with
 |none=>rfl
 |some o=>cases o<;>rfl
@[simp]theorem qGk{sz l n o k' c:Nat}{k:IntKind}:tE U sz (.win l n o k' c) (.lit (.int k j)) J=uI U[l]? n sz ((0<=j/\j<k')/\J (.rwp l n (o+j.toNat*sz))):=by
 simp only[tE,uI];cases U[l]? with
 |none=>rfl
 |some o=>cases o<;>rfl
def zDC(o:Option AObj)(n:Nat)(J:Prop):Prop:=match o with
 |some (.row _ _ _ m _)=>if n=m then J else False
 |_=>False
@[simp]theorem zZW{e s n m:Nat}{J:Prop}:zDC (some (.row fz e s m cs)) n J=(n=m/\J):=by simp only[zDC];by_cases h:n=m<;>simp[h]
@[simp]theorem qG6{l n:Nat}:oY U (.row l n) J=zDC U[l]? n (J (.lit (.int .i64 n))):=by
 simp only[oY,zDC];cases U[l]? with
 |none=>rfl
 |some o=>cases o<;>rfl
@[simp]theorem qG7{l n o k c:Nat}:oY U (.win l n o k c) J=zDC U[l]? n (J (.lit (.int .i64 k))):=by
 simp only[oY,zDC];cases U[l]? with
 |none=>rfl
 |some o=>cases o<;>rfl
@[simp]theorem qG3{l n o k c:Nat}:zGv U (.win l n o k c) J=zDC U[l]? n (J (.lit (.int .i64 k))):=by
 simp only[zGv,zDC];cases U[l]? with
 |none=>rfl
 |some o=>cases o<;>rfl
def zQS(ob:Option AObj)(l n o off:Nat):Option A:=match ob with
 |some (.row _ _ _ m _)=>if n=m then some (.rwp l n (o+off))else none
 |_=>none
@[simp]theorem zYb{e s n m l o off:Nat}:zQS (some (.row fz e s m cs)) l n o off=if n=m then some (.rwp l n (o+off))else none:=rfl
@[simp]theorem qAH{l n o off:Nat}:zDh U off (.rwp l n o)=zQS U[l]? l n o off:=by
 simp only[zDh,zQS];cases U[l]? with
 |none=>rfl
 |some o=>cases o<;>rfl
end
mutual
theorem zFY{rf:Bool->Nat->Nat->A}{g:Nat->wC}{k:Nat}(hg:∀l,l<k->g l=some l):∀(a:A),a.bnd k=true->vw rf g a=a
 | .any,_=>by simp
 | .nil,_=>by simp
 | .lit _,_=>by simp
 | .agg cs,h=>by simp[lU hg cs h]
 | .tup cs,h=>by simp[lU hg cs h]
 | .sl _ cs,h=>by simp[lU hg cs h]
 | .fsl _ cs,h=>by simp[lU hg cs h]
 | .rptr cs,h=>by simp[lU hg cs h]
 | .ptr l _,h=>by simp[hg l (by simpa using h)]
 | .row l _,h=>by simp[hg l (by simpa using h)]
 | .rwp l _ _,h=>by simp[hg l (by simpa using h)]
 | .win l _ _ _ _,h=>by simp[hg l (by simpa[A.bnd]using h)]
 | .map l,h=>by simp only[vw];rw[hg l (by simpa using h)]
 | .clo _ fs cs,h=>by simp only[A.bnd,jA7]at h;simp[lU hg fs h.1,lU hg cs h.2]
theorem lU{rf:Bool->Nat->Nat->A}{g:Nat->wC}{k:Nat}(hg:∀l,l<k->g l=some l):∀(cs:wE),eJ k cs=true->vwL rf g cs=cs
 |[],_=>by simp
 |c::cs,h=>by simp only[eJ,jA7]at h;simp[zFY hg c h.1,lU hg cs h.2]
end
theorem zIQ{rf:Bool->Nat->Nat->A}{g:Nat->wC}{k:Nat}(hg:∀l,l<k->g l=some l)(o:AObj)(h:o.bnd k=true):vwO rf g o=o:=by
 cases o with
 |dead=>rfl
 |box cs=>simp only[AObj.bnd]at h;simp[lU hg cs h]
 |row fz e sz n cs=>simp only[AObj.bnd]at h;simp[lU hg cs h]
 |lp b r M es =>
  simp only[AObj.bnd,jB8]at h;simp only[qAs,AObj.lp.injEq,true_and]
  conv=>rhs;rw[<-List.map_id es]
  exact jC6 fun p hp=>by rw[zFY hg _ (h p hp)];rfl
 |mp fr nk es =>
  simp only[AObj.bnd,jB8]at h;simp only[qAt,AObj.mp.injEq,true_and]
  conv=>rhs;rw[<-List.map_id es]
  exact jC6 fun p hp=>by rw[zFY hg _ (h p hp)];rfl
 |it m n met =>
  simp only[AObj.bnd,decide_eq_true_eq]at h;rw[qAr,hg m h]
 |rsv=>rfl
theorem zCS:∀{l:wA} {x:Nat} {r:wA},x∉l->qR (l++r) x=(qR r x).map (· + l.length)
 |[],x,r,_=>by simp
 |y::l,x,r,h=>by
  simp only[jA3,not_or]at h;simp only[jBj,zAM,h.1,if_false,zCS h.2,Option.map_map]
  congr 1
theorem zAL:∀{l:wA} {x i:Nat} {r:wA},qR l x=some i->qR (l++r) x=some i
 |[],x,i,r,h=>by simp at h
 |y::l,x,i,r,h=>by
  simp only[jBj,zAM]at h⊢;split
  .rename_i e;simpa[e]using h
  .rename_i e;simp only[e,if_false,jAj]at h;obtain⟨j,hj,rfl⟩:=h;rw[zAL hj];rfl
theorem vV:∀{k l:Nat},l<k->qR (List.range k) l=some l
 |k+1,l,h=>by
  rw[List.range_succ];rcases jAx l k with hl|hl
  .exact zAL (vV hl)
  .have e:l=k:=by omega
   subst e;rw[zCS (by simp)];simp
def Cl(m:Nat)(S:St):Prop:=S.length=m/\∀o∈S,o.bnd m=true
theorem Cl.app{m k:Nat}{S own:St}(h:Cl m S)(hk:own.length=k)(ho:∀o∈own,o.bnd (m+k)=true):Cl (m+k) (S++own):=by
 refine⟨by simp[h.1,hk],fun o hm=>?_⟩;rcases jAc.1 hm with hm|hm
 .exact AObj.bnd_mono (Nat.le_add_right m k) _ (h.2 o hm)
 .exact ho o hm
section
variable{P:Program}{n0:Nat}{Qp:Value->wK}{Qd:Value->St->Prop}{K':wK}{KD:Env->Prop}{Q:Ex->wK}{env:Env} {U:St}{d:wC}
theorem aR{m k:Nat}{S own:St}(h:S.length=m):(S++own)[m+k]?=own[k]?:=by rw[jAy (by omega)];congr 1;omega
variable{m:Nat}
theorem a8{S own:St}(h:S.length=m):(S++own)[m]?=own[0]?:=by rw[jAy (by omega)];congr 1;omega
variable{o:AObj}
theorem cZ{m k:Nat}{S own:St}(h:S.length=m):(S++own).set (m+k) o=S++own.set k o:=by rw[List.set_append_right _ _ (by omega)];congr 2;omega
theorem zBZ{S own:St}(h:S.length=m):(S++own).set m o=S++own.set 0 o:=by rw[List.set_append_right _ _ (by omega)];congr 2;omega
theorem zFI{rf:Bool->Nat->Nat->A}{g:Nat->wC}{m:Nat}(hg:∀l,l<m->g l=some l) {U:St}:∀(k:Nat) (S:St),k+S.length<=m->(∀i o,S[i]?=some o->U[k+i]?=some o)->(∀o∈S,o.bnd m=true)->aB U rf g (List.range' k S.length) S
 |_,[],_,_,_=>trivial
 |k,o::S,hk,h,hb=>by simp only[jAb,List.range'_succ,zNa];refine⟨?_,zFI hg (k+1) S (by simp only[jAb]at hk;omega) (fun i o' hi=>by have:=h (i+1) o' (by simpa using hi);rwa[show k+1+i=k+(i+1) by omega]) (fun o' ho'=>hb o' (jAh _ ho'))⟩;have:=h 0 o (by simp);simp only[jC7]at this;rw[this];exact .inl (zIQ hg o (hb o (jAr ..))).symm
theorem zOq{rf:Bool->Nat->Nat->A}{S own:St}(h:Cl m S):aB (S++own) rf (qR (List.range m)) (List.range m) S:=by have:=zFI (rf:=rf) (g:=qR (List.range m)) (m:=m) (fun l hl=>vV hl) (U:=S++own) 0 S (by rw[h.1];omega) (fun i o hi=>by rw[jB1,jAl (jA4.1 hi).1];exact hi) h.2;rw[h.1,<-List.range_eq_range']at this;exact this
theorem zDk:∀{k j n l:Nat},l<k->back (List.range' j k) n l=j+l
 |k+1,j,n,0,_=>by simp[List.range'_succ]
 |k+1,j,n,l+1,h=>by simp only[List.range'_succ,zO2];rw[zDk (by omega)];omega
theorem zEv{k n l:Nat}(h:l<k):back (List.range k) n l=l:=by rw[List.range_eq_range',zDk h];omega
theorem zAP:∀{S' S own:St} (k:Nat) (pre:St),pre.length=k->S'.length=S.length->jF (pre++S++own) (List.range' k S.length) S'=pre++S'++own
 |[],[],own,k,pre,_,_=>by simp
 |o'::S',o::S,own,k,pre,hk,hl=>by
  simp only[jAb,List.range'_succ,zD9];have e:(pre++(o::S)++own).set k o'=(pre++[o'])++S++own:=by subst hk;simp
  rw[e,zAP (k+1) (pre++[o']) (by simp[hk]) (by simpa using hl)];simp
 |[],o::S,_,_,_,_,hl=>by simp at hl
 |_::_,[],_,_,_,_,hl=>by simp at hl
theorem zCq{b:Nat}{S S' own:St}{x args:wE}(h:Cl m S)(h':Cl m S')(hy:lD P b x S fun o τ=>o=.ret (.lit (.bool true))/\τ = S')(ha:dS (List.range m) args x){Q:Out->St->Prop}(hq:Q (.ret (.lit (.bool true))) (S'++own)) :
 lD P b args (S++own) Q:=by
 refine zOA hy (List.range m) List.nodup_range (zOq h) ha ?_;have e:S'.map (cP (List.range m) (S++own).length)=S':=by
  conv=>rhs;rw[<-List.map_id S']
  exact jC6 fun o ho=>by simp only[cP,id];exact zIQ (fun l hl=>by rw[zEv hl]) o (h'.2 o ho)
 rw[e];have:=zAP (own:=own) 0 [] rfl (by rw[h.1,h'.1]:S'.length=S.length);rw[h.1,<-List.range_eq_range']at this;simp only[jBy]at this;rw[this]
 simpa[ren]using hq
variable{e:TypeId}{sz:Nat}{cs:wE}
theorem zEh{H:Mem}{L:wM}{w:World}(hs:RelSt H L U w){l n:Nat}{v:Value}(hU:U[l]?=some (.row false e sz n cs))(hv:Rel H L (.row l n) v) :
 ∃H',Nxt H L w H' L (U.set l (.row true e sz n cs)) w/\Rel H' L (.sl n cs) v:=by
 simp only[Rel]at hv;obtain⟨_,li,e1,e2,e3,hv⟩:=hv;have hob:=hs.obj l li _ e1 hU;simp only[qA]at hob;obtain⟨_,hln,hcl,hob⟩:=hob;have hv:=hv hln.symm;rcases hob with ⟨hb,h0⟩|⟨b,cur,hb,hh,k1,k2,k3,k4,k5,k6⟩
 .rw[hb]at hv;subst h0;have hcs:cs=[]:=jC9 (by simpa using hcl);refine⟨H,⟨⟨hs.pers,by simp[hs.len],fun i x o hL ho=>?_,hs.inj,hs.lt⟩,Step.refl _ _ _,LLe.refl _,fun _ h=>.inl h⟩,?_⟩
  .by_cases hi:i=l
   .subst hi;rw[e1]at hL;cases hL;rw[jAm (jA4.1 hU).1]at ho;cases ho;simp only[qA];exact⟨e2,hln,hcl,.inl ⟨hb,trivial⟩⟩
   .rw[jAa (Ne.symm hi)]at ho;exact hs.obj i x o hL ho
  .simp only[Rel];exact⟨none,0,hv,jA _,jB4 _,.inl ⟨trivial,hcs⟩⟩
 .rw[hb]at hv;have hcell:∀(j:Nat) u,(cur.toList.take (n*sz))[j]?=some u->w.cell? ⟨b,j,none⟩=some u:=fun j u hu=>by
   rw[cell_of_row w b j cur e (0,0) hh];rw[jBg]at hu;split at hu
   .simpa using hu
   .cases hu
  have hA:=s9 (H:=H) (B:=b) (us:=cur.toList.take (n*sz)) (fun o v hv'=>by rw[k6]at hv';cases hv');have hle:HLe H (zGq H b (cur.toList.take (n*sz))):=fun b' o' v' hv'=>by
   simp only[hA];split
   .rename_i e;subst e;rw[k6]at hv';cases hv'
   .exact hv'
  have hat:At (zGq H b (cur.toList.take (n*sz))) b 0 (cur.toList.take (n*sz)):=fun i u hu=>by simp[hA,hu]
  refine⟨zGq H b (cur.toList.take (n*sz)),xX hs e1 hb rfl rfl rfl rfl (fun d=>by rw[hh];simp) rfl (fun _ _=>rfl) hle (fun b' o' v' hv'=>?_) (fun o' v' hv'=>?_) ?_,?_⟩
  .simp only[hA]at hv';split at hv'
   .rename_i e;exact .inr e
   .exact .inl hv'
  .simp only[hA,if_true]at hv';exact hcell _ _ hv'
  .simp only[qA];refine⟨e2,hln,hcl,.inr ⟨b,cur,hb,hh,k1,k2,k3,qE.mono hle (LLe.refl _) _ k4,k5,hat,fun o ho=>?_⟩⟩;simp only[hA,if_true];rw[jBd];simp only[jAs];omega
  .simp only[Rel];exact⟨_,_,hv,k1,k2,.inr ⟨b,0,_,rfl,qE.mono hle (LLe.refl _) _ k4,k5,hat⟩⟩
theorem zOB{b l n:Nat}(hU:U[l]?=some (.row false e sz n cs)){Q:Out->St->Prop}(h:lD P b [.sl n cs] (U.set l (.row true e sz n cs)) Q):lD P b [.row l n] U Q:=by intro H L w vs hs hvs;obtain⟨v,vs',rfl,h1,h2⟩:=qF hvs;have:=jP h2;subst this;obtain⟨H',hn,hr⟩:=zEh hs hU h1;obtain⟨f,tmps,x,y,k1,k2⟩:=h H' L w [v] hn.st (qW hr jV);refine⟨f,tmps,x,y,k1,k2.mono fun e w' hh=>?_⟩;obtain⟨o,U',H2,L2,g1,g2,g3⟩:=hh;exact⟨o,U',H2,L2,g1,hn.trans g2,g3⟩
theorem exY{b m k n:Nat}{S S' own:St}{J:A->St->Prop}(ho:own[k]?=some (.row false e sz n cs))(h:Cl m S)(h':Cl m S')(hc:eJ 0 cs=true)
 (hy:lD P b [.sl n cs] S fun o τ=>o=.ret (.lit (.bool true))/\τ = S')(hq:J (.lit (.bool true)) (S'++own.set k (.row true e sz n cs))) :
 ∃r U',(lD P b [.row (m+k) n] (S++own) fun o τ=>o=.ret r/\τ = U')/\J r U':=by
 refine⟨_,_,zOB (by rw[aR h.1];exact ho) ?_,hq⟩;rw[cZ h.1];exact zCq h h' hy (by simp[lU (k:=0) (fun l hl=>by omega) cs hc]) ⟨rfl,rfl⟩
theorem zCW{H:Mem}{L:wM}{w:World}(hs:RelSt H L U w){l:Nat}{o':AObj}(hl : U[l]?=some o)(h:∀li,qA H L w li o->qA H L w li o'):RelSt H L (U.set l o') w:=by
 refine⟨hs.pers,by simp[hs.len],fun i x p hL hp=>?_,hs.inj,hs.lt⟩;by_cases hi:i=l
 .subst hi;rw[jAm (jA4.1 hl).1]at hp;cases hp;exact h x (hs.obj i x o hL hl)
 .rw[jAa (Ne.symm hi)]at hp;exact hs.obj i x p hL hp
theorem y7{l o:Nat}(hl : U[l]?=some (.box cs))(hc:cs[o]?=some .nil)(e:TypeId)(sz:Nat):b9 n0 env (U.set l (.box (cs.set o (.row U.length 0)))++[AObj.row false e sz 0 []]) env U:=by
 intro H0 L0 w0 H L w N tmps h0 h1 h2;have hn:=iR h1.st e sz;have hlt:l < U.length:=(jA4.1 hl).1;have hl':(U++[AObj.row false e sz 0 []])[l]?=some (.box cs):=by rw[jAl hlt];exact hl
 have hs:=zCW (o':=.box (cs.set o (.row U.length 0))) hn.st hl' (fun li hob=>by
  simp only[qA]at hob ⊢;obtain⟨g0,b,vs,e',g1,g2,g3,g4,g5⟩:=hob;obtain⟨v,hv,hrel⟩:=g3.get hc;simp only[Rel]at hrel;subst hrel;have hset:vs=vs.set o (.slice none 0 0):=by
   apply jCd;intro i;by_cases hi:i=o
   .subst hi;rw[jAm (jA4.1 hv).1,hv]
   .rw[jAa (Ne.symm hi)]
  refine⟨g0,b,vs,e',g1,g2,?_,g4,g5⟩;rw[hset];refine g3.set o ?_;simp only[Rel];exact⟨rfl,⟨none,0,0,true⟩,by rw[<-h1.st.len];simp,rfl,jA _,fun _=>rfl⟩)
 rw[List.set_append_left _ _ hlt]at hs;have hm:=h1.trans hn;exact⟨H,_,⟨hs,hm.step,hm.lle,hm.own⟩,h2.1,fun x=>Rel.mono (HLe.refl _) hn.lle _ (h2.2 x)⟩
variable{f:FuncId}{r:A}
theorem zIa{K:wK}{args args':wE} {U1:St}(h:Ret P f args [] r U1)(ha:dS [] args' args)(hq:K (env.put d (ren [] U.length r)) (U++U1.map (cP [] U.length))):zCh P U d K f args' env :=
 ⟨_,_,bF.append _ _,cS h [] (by simp) trivial ha ⟨rfl,by simp⟩,hq⟩
theorem tX{rf:Bool->Nat->Nat->A}{g:Nat->wC} {U τ:St}(hk:dK U τ):∀{js:wA} {os:St},(∀o∈os,o≠AObj.rsv)->aB U rf g js os->aB τ rf g js os
 |[],[],_,h=>h
 |j::js,o::os,hn,h=>by
  simp only[aB]at h⊢;cases hj : U[j]? with
  |none=>rw[hj]at h;exact h.1.elim
  |some x =>
   rw[hj]at h;have hx:x≠AObj.rsv:=fun e=>by
    subst e;rcases h.1 with e|e
    all_goals
     exact hn o (jAr ..) (by simpa[vwO]using e)
   rw[hk j x hj hx];exact⟨h.1,tX hk (fun o ho=>hn o (jAh _ ho)) h.2⟩
 |[],_::_,_,h=>h
 |_::_,[],_,h=>h
variable{s0:St}
theorem zNE{K:wK}{args args':wE}(h:Ret P f args s0 r s0)(js:wA)(hjs:js.Nodup)(hn:∀o∈s0,o≠AObj.rsv)(hd:aB U j9 (qR js) js s0)(ha:dS js args' args)
 (hput:∀τ:St,dK U τ->jF τ js (s0.map (cP js τ.length)) = τ)(hq:K (env.put d (ren js U.length r)) U):zGb P U d K f args' env :=
 ⟨ren js U.length r,[],fun o ho=>(by cases ho),fun τ hl hk=>by rw[<-hl];exact cS h js hjs (tX hk hn hd) ha ⟨rfl,by simp[hput τ hk]⟩,by simpa using hq⟩
theorem zCV{c:Nat}:∀{js:wA} {U s1:St},(∀j∈js,j<c)->(∀j∈js,j < U.length)->s1.length=js.length->KA c U (jF U js s1)
 |[],U,s1,_,_,hl=>by
  have:s1=[]:=jC9 hl;subst this
  simpa[jF]using KA.refl c U
 |j::js,U,o::s1,hc,hj,hl=>by have h1:=hc j (jAr ..);have ih:=zCV (c:=c) (js:=js) (U:=U.set j o) (s1:=s1) (fun i hi=>hc i (jAh _ hi)) (fun i hi=>by rw[jBz];exact hj i (jAh _ hi)) (by simpa using hl);intro l cs hle hU;exact ih l cs hle (by rw[jAa (by omega)];exact hU)
 |_::_,_,[],_,_,hl=>by simp at hl
theorem zHB{rf:Bool->Nat->Nat->A}{g:Nat->wC} {U:St}:∀{js:wA} {os:St},(∀o∈os,o≠AObj.rsv)->aB U rf g js os->∀j∈js,∃x,U[j]?=some x/\x≠AObj.rsv
 |[],_,_,_,j,hj=>by cases hj
 |_::_,[],_,h,_,_=>h.elim
 |i::js,o::os,hn,h,j,hj=>by
  simp only[aB]at h;rcases jA3.1 hj with rfl|hj
  .cases hx : U[j]? with
   |none=>rw[hx]at h;exact h.1.elim
   |some x =>
    rw[hx]at h;refine⟨x,rfl,fun e=>?_⟩;subst e;rcases h.1 with e|e
    all_goals
     exact hn o (jAr ..) (by simpa[vwO]using e)
  .exact zHB (fun o ho=>hn o (jAh _ ho)) h.2 j hj
theorem zPW{js:wA}{n:Nat}(h:o≠AObj.rsv):cP js n o≠AObj.rsv:=by cases o<;>first|(exact(h rfl).elim)|(simp only[cP,vwO];first|(split<;>simp)|simp)
theorem zF2:∀{js:wA} {s vs:St} {q:Nat},(∀o∈vs,o≠AObj.rsv)->vs.length=js.length->(jF s js vs)[q]?=some AObj.rsv->s[q]?=some AObj.rsv
 |[],s,[],q,_,_,h=>by simpa[jF]using h
 |[],_,_::_,_,_,hl,_=>by simp at hl
 |_::_,_,[],_,_,hl,_=>by simp at hl
 |j::js,s,o::vs,q,hn,hl,h=>by
  have h2:(s.set j o)[q]?=some AObj.rsv:=zF2 (js:=js) (fun x hx=>hn x (jAh _ hx)) (by simpa using hl) h;by_cases e:q=j
  .subst e;rcases jAx q s.length with hlt|hge
   .rw[jAm hlt]at h2;cases h2;exact(hn _ (jAr ..) rfl).elim
   .rw[jBd (by simpa using hge)]at h2;cases h2
  .rw[jAa (Ne.symm e)]at h2;exact h2
theorem zF3:∀{js:wA} {s vs:St} {q:Nat} {o:AObj},q∉js->vs.length=js.length->jF (s.set q o) js vs=(jF s js vs).set q o
 |[],s,[],q,o,_,_=>by simp[jF]
 |[],_,_::_,_,_,_,hl=>by simp at hl
 |_::_,_,[],_,_,_,hl=>by simp at hl
 |j::js,s,x::vs,q,o,hq,hl=>by
  have hne:q≠j:=fun e=>hq (by simp[e])
  show jF ((s.set q o).set j x) js vs=(jF (s.set j x) js vs).set q o;rw[List.set_comm _ _ hne];exact zF3 (fun h=>hq (jAh _ h)) (by simpa using hl)
variable{s1:St}
theorem zNG{K:wK}{args args':wE}(h:Ret P f args s0 r s1)(js:wA)(hjs:js.Nodup)(hn0:∀o∈s0,o≠AObj.rsv)(hn1:∀o∈s1,o≠AObj.rsv)(hd:aB U j9 (qR js) js s0)(ha:dS js args' args)
 (hl:s1.length=js.length)(hq:K (env.put d (ren js U.length r)) (jF U js (s1.map (cP js U.length)))):zGd P U d K f args' env:=by
 have hn1':∀o∈s1.map (cP js U.length),o≠AObj.rsv:=fun o ho=>by obtain⟨x,hx,rfl⟩:=jAd.1 ho;exact zPW (hn1 x hx)
 refine⟨ren js U.length r,fun τ=>jF τ js (s1.map (cP js U.length)),⟨fun q hq=>zF2 hn1' (by simpa using hl) hq,fun τ q o _ _ hq=>zF3 (fun hm=>?_) (by simpa using hl)⟩,fun τ hlt hk=>?_,hq⟩
 .obtain⟨x,hx,hne⟩:=zHB hn0 hd q hm;rw[hq]at hx;cases hx;exact hne rfl
 .rw[<-hlt];exact cS h js hjs (tX hk hn0 hd) ha ⟨rfl,rfl⟩
theorem b6{K:wK}{args args':wE}(h:Ret P f args s0 r s1)(js:wA)(hjs:js.Nodup)(hd:aB U j9 (qR js) js s0)(ha:dS js args' args)
 (hq:K (env.put d (ren js U.length r)) (jF U js (s1.map (cP js U.length)))):zCj P U d K f args' env:=⟨_,_,cS h js hjs hd ha ⟨rfl,rfl⟩,hq⟩
theorem aP{K:wK}{c:Nat}{args args':wE}(h:Ret P f args s0 r s1)(js:wA)(hjs:js.Nodup)(hd:aB U j9 (qR js) js s0)(ha:dS js args' args)
 (hc:∀j∈js,j<c)(hlt:∀j∈js,j < U.length)(hl:s1.length=js.length)(hq:K (env.put d (ren js U.length r)) (jF U js (s1.map (cP js U.length)))):zGc P c U d K f args' env :=
 ⟨_,_,zCV hc hlt (by simpa using hl),cS h js hjs hd ha ⟨rfl,rfl⟩,hq⟩
theorem zNF{K:wK}{c:Nat}{args args':wE}(h:Ret P f args s0 r s1)(js:wA)(hjs:js.Nodup)(hd:aB U j9 (qR js) js s0)(ha:dS js args' args)
 (hc:∀j∈js,j<c)(hlt:∀j∈js,j < U.length)(hl:s1.length=js.length)(hr:zGh U (jF U js (s1.map (cP js U.length))))(hq:K (env.put d (ren js U.length r)) (jF U js (s1.map (cP js U.length)))):zGa P c U d K f args' env :=
 ⟨_,_,⟨zCV hc hlt (by simpa using hl),hr⟩,cS h js hjs hd ha ⟨rfl,rfl⟩,hq⟩
theorem zIC{S own:St}(h:Cl m S)(hr:r.bnd 0=true):uQ m r S (.ret r) (S++own) :=
 zG (List.range m) 0 (fun i hi=>by simp[hi]) List.nodup_range (zOq h) (.inl (zFY (k:=0) (fun l hl=>by omega) r hr).symm)
theorem vO{g:FuncId}{first cap:wE}{X:List wE}(h:∀(b m:Nat)(T:Nat->St),(∀i,i<=X.length->Cl m (T i))->(∀i (h:i<X.length),lD P b X[i] (T i) fun o τ=>o=.ret (.lit (.bool true))/\τ = T (i+1)) ->
 Ret P g (first++[yv b]++cap) (T 0) (.tup []) (T X.length)):zNv P g first cap X:=fun b m T hT hY=>aG.mono (h b m T hT hY) fun _ _ ⟨h1,h2⟩=>⟨⟨_,h1⟩,h2⟩
end
end Go.Abs
namespace Go.Proofs.YtdnelmeboihpkaaGreatDoor
open Go.Abs
def kH(w b:wA)(k:K):K:=K.chg w b k
noncomputable def kq(f:Func)(e:List (Nat×wA)):K:=zV Tryz.prog f qB e
variable{f:FuncId}{fn:Func}{U0 U1:St}{r:A}
theorem ml(e:List (Nat×wA))(rs:List RS)(hf:Tryz.prog.funcs[f]?=some fn)(q:(fn.body.isSome,zS Tryz.prog fn.ntmps (fn.body.getD .skip),lS Tryz.prog fn.results.toList)=(true,some (kq fn e).erase,some rs)){args:wE} (h:wpF Tryz.prog (kq fn e) rs args U0 (uQ U0.length r U1)):Ret Tryz.prog f args U0 r U1:=by
 simp only[Prod.mk.injEq] at q;obtain⟨a,b,c⟩:=q;obtain⟨x,hx⟩:=Option.isSome_iff_exists.1 a;rw[hx] at b;exact zH hf hx b c h
theorem mj(hint:Nat->Option wD)(e:List (Nat×wA))(rs:List RS)(hf:Tryz.prog.funcs[f]?=some fn)(q:(fn.body.isSome,qM Tryz.prog fn.ntmps hint (fn.body.getD .skip),lS Tryz.prog fn.results.toList)=(true,some (zV Tryz.prog fn hint e).erase,some rs)){args:wE} (h:wpF Tryz.prog (zV Tryz.prog fn hint e) rs args U0 (uQ U0.length r U1)):Ret Tryz.prog f args U0 r U1:=by
 simp only[Prod.mk.injEq] at q;obtain⟨a,b,c⟩:=q;obtain⟨x,hx⟩:=Option.isSome_iff_exists.1 a;rw[hx] at b;exact zN hf hx b c h
theorem mh(hint:Nat->Option wD)(w b:wA)(e:List (Nat×wA))(rs:List RS)(hf:Tryz.prog.funcs[f]?=some fn)(q:(fn.body.isSome,qM Tryz.prog fn.ntmps hint (fn.body.getD .skip),lS Tryz.prog fn.results.toList)=(true,some (kH w b (zV Tryz.prog fn hint e)).erase,some rs)){args:wE} (h:wpF Tryz.prog (kH w b (zV Tryz.prog fn hint e)) rs args U0 (uQ U0.length r U1)):Ret Tryz.prog f args U0 r U1:=by
 simp only[Prod.mk.injEq] at q;obtain⟨a,b,c⟩:=q;obtain⟨x,hx⟩:=Option.isSome_iff_exists.1 a;rw[hx] at b;exact zN hf hx b c h
theorem mg(w b:wA)(e:List (Nat×wA))(rs:List RS)(hf:Tryz.prog.funcs[f]?=some fn)(q:(fn.body.isSome,zS Tryz.prog fn.ntmps (fn.body.getD .skip),lS Tryz.prog fn.results.toList)=(true,some (kH w b (kq fn e)).erase,some rs)){args:wE} (h:wpF Tryz.prog (kH w b (kq fn e)) rs args U0 (uQ U0.length r U1)):Ret Tryz.prog f args U0 r U1:=by
 simp only[Prod.mk.injEq] at q;obtain⟨a,b,c⟩:=q;obtain⟨x,hx⟩:=Option.isSome_iff_exists.1 a;rw[hx] at b;exact zH hf hx b c h
abbrev kw(f:Func)(k:K):Prop:=zS Tryz.prog f.ntmps (f.body.getD .skip)=some k.erase
theorem my{f:Func}{k:K}(h:zS Tryz.prog f.ntmps (f.body.getD .skip)=some k.erase):kw f k:=h
@[simp]theorem ku{n:Nat}(a:1<n)(b:n<210):zC Tryz.prog n=true:=by
 have h:(List.range 210).all (fun n=>n<2||zC Tryz.prog n)=true:=by kernel_rfl
 have:=List.all_eq_true.1 h n (List.mem_range.2 b);by_cases q:n<2;omega;simpa[q]using this
abbrev mv:=Ret Tryz.prog
theorem zKk(n:Int):mv 122 [int n] [] (bl false) []:=by
 refine ml [] [.slot 2] func122 (by kernel_rfl) ?_
 (conv in kq _ _=>cbv)
 simp;exact zA 0 (by simp)
def bU(a b:Int):Int:=if a<b then -1 else if b<a then 1 else 0
theorem iN(a b:Int):mv 80 [int a,int b] [] (int (bU a b)) []:=by
 refine ml [] [.slot 4] func80 (by kernel_rfl) ?_
 (conv in kq _ _=>cbv)
 simp;refine mq (zKk a) (by simp) ?_;simp;refine mq (zKk b) (by simp) ?_;simp;refine qX (fun h=>?_) (fun h=>?_)<;>simp at h<;>simp
 .exact zA 0 (by simp[bU,h])
 refine qX (fun h'=>?_) (fun h'=>?_)<;>simp at h'<;>simp
 .exact zA 0 (by simp[bU,h',Int.not_lt.2 h])
 .exact zA 0 (by simp[bU,Int.not_lt.2 h,Int.not_lt.2 h'])
def orI:List Int->Int
 |[]=>0
 |a::l=>if a=0 then orI l else a
def yH(l:wB):wE:=l.map int
theorem zAH:∀(l:wB),qY (yH l)
 |[]=>qY.nil
 |_::l=>qY.lit (zAH l)
@[simp]theorem qGl(l:wB):(yH l).length=l.length:=by simp[yH]
@[simp]theorem qBD(l:wB):jT (yH l)=yH l:=(zAH l).1
@[simp]theorem qKu{rf g}(l:wB):vwL rf g (yH l)=yH l:=(zAH l).2 _ _
@[simp]theorem qGm:yH []=[]:=rfl
@[simp]theorem qBq(n:Int)(l:wB):yH (n::l)=.lit (.int .i64 n)::yH l:=rfl
@[simp]theorem cJ(a b:wB):yH (a++b)=yH a++yH b:=by simp[yH]
theorem cO{l:wB}{i:Nat}(h:i<l.length):(yH l).drop i=.lit (.int .i64 l[i])::yH (l.drop (i+1)):=by rw[yH,<-List.map_drop,jAo h];rfl
theorem zTK{n:Nat}(h:n<=maxLen):IntKind.i64.wrap (n:Int)=n:=IntWalk.i64_in _ (by simp[maxLen]at h;omega)
theorem z8{i n:Nat}(h:i<n)(hn:n<=maxLen):IntKind.i64.wrap ((i:Int)+1)=(i:Int)+1:=IntWalk.i64_in _ (by simp[maxLen]at hn;omega)
theorem zSQ(l:wB):mv 79 [.sl l.length (yH l)] [] (int (orI l)) []:=by
 refine ml [] [.slot 2] func79 (by kernel_rfl) ?_
 (conv in kq _ _=>cbv)
 simp;intro hl;refine qK (S:=Nat) (fun i=>[(3,int 0),(6,.sl l.length (yH l)),(7,int l.length),(8,int i)]) (fun s=>[]) (fun i=>i<=l.length/\orI l=orI (l.drop i)) (fun i=>l.length-i) 0 (by simp)
  (mu [] 0 (by rfl) (by simp)) ?_
 rintro i ⟨hi,ho⟩;simp;refine qX (fun h=>?_) (fun h=>?_)<;>simp at h
 .simp[h,cO h];have hd:l.drop i=l[i]::l.drop (i+1):=jAo h;refine qX (fun h'=>?_) (fun h'=>?_)<;>simp at h'<;>simp
  .exact zA 0 (by rw[ho,hd];simp[orI,h'])
  .refine zO (i+1) ⟨h,by rw[ho,hd];simp[orI,h']⟩ (by omega) (mu [] 0 (by rfl) (by simp[z8 h hl]))
 .simp;have:i=l.length:=by omega
  exact zA 0 (by rw[ho,this];simp[orI])
structure Id where
 a:Int
 b:Int
 c:Int
 deriving DecidableEq
abbrev wF:=List Id
theorem Id.eq_iff{x y:Id}:x=y↔x.a=y.a/\x.b=y.b/\x.c=y.c:=by cases x;cases y;simp
def zK(d:Id):wE:=[.lit (.int .i64 d.a),.lit (.int .i64 d.b),.lit (.int .i64 d.c)]
def zAI(d:Id):wB:=[d.a,d.b,d.c]
def zT:List Id->wE
 |[]=>[]
 |d::l=>.lit (.int .i64 d.a)::.lit (.int .i64 d.b)::.lit (.int .i64 d.c)::zT l
@[simp]theorem zY8:zT []=[]:=rfl
@[simp]theorem gE(d:Id)(l:wF):zT (d::l)=.lit (.int .i64 d.a)::.lit (.int .i64 d.b)::.lit (.int .i64 d.c)::zT l:=rfl
@[simp]theorem zLJ:∀l:wF,(zT l).length=l.length*3
 |[]=>rfl
 |d::l=>by simp[zLJ l];omega
theorem yK:∀(a b:wF),zT (a++b)=zT a++zT b
 |[],b=>rfl
 |d::a,b=>by simp[yK a b]
theorem eO:∀(l:wF),qY (zT l)
 |[]=>qY.nil
 |_::l=>qY.lit (qY.lit (qY.lit (eO l)))
@[simp]theorem zXx(l:wF):jT (zT l)=zT l:=(eO l).1
@[simp]theorem qCn{rf g}(l:wF):vwL rf g (zT l)=zT l:=(eO l).2 _ _
theorem yS:∀{l:wF} {i:Nat} (h:i<l.length),(zT l).drop (i*3)=.lit (.int .i64 l[i].a)::.lit (.int .i64 l[i].b)::.lit (.int .i64 l[i].c)::zT (l.drop (i+1))
 |v::l,0,h=>by simp
 |v::l,i+1,h=>by
  have e:(i+1)*3=i*3+3:=by omega
  rw[e,gE]
  simpa using yS (l:=l) (i:=i) (by simpa using h)
theorem zJt:∀(l:wF) (i:Nat),(zT l).take (i*3)=zT (l.take i)
 |[],i=>by simp
 |v::l,0=>by simp
 |v::l,i+1=>by
  have e:(i+1)*3=i*3+3:=by omega
  rw[e,gE]
  simpa using zJt l i
theorem sL:∀(l:wF) (i:Nat),(zT l).drop (i*3)=zT (l.drop i)
 |[],i=>by simp
 |v::l,0=>by simp
 |v::l,i+1=>by
  have e:(i+1)*3=i*3+3:=by omega
  rw[e,gE]
  simpa using sL l i
def zCw(x y:Id):Int:=orI [bU x.a y.a,bU x.b y.b,bU x.c y.c]
def cC(x y:Id):Bool:=if x.a≠y.a then decide (x.a<y.a)else if x.b≠y.b then decide (x.b<y.b)else decide (x.c<y.c)
end Go.Proofs.YtdnelmeboihpkaaGreatDoor
namespace Go.Abs
open Go.Sort Go.Proofs
section
variable{P:Program} {β:Type}{H:Mem}{L:wM}{w:World}
variable{g:FuncId}
theorem zKp{args:wE}{r:Int}(h:Ret P g args [] (int r) []){vs:wL}{W:World}(hH:∀b o v,H b o=some v->W.cell? ⟨b,o,none⟩=some v)(hvs:qE H [] args vs) :
 Calls P g vs.toArray W fun e w'=>e=.returned (.int .i64 r)/\∃q os',w'=grow (W.drewN q) os':=by
 have hs:RelSt H [] [] W:=⟨hH,rfl,fun i l o hl=>by simp at hl,fun i j l l' b hl=>by simp at hl,fun i l b hl=>by simp at hl⟩;refine(h H [] W vs hs hvs).mono fun e w' hh=>?_
 obtain⟨o,U',H',L',ho,hn,rfl,rfl⟩:=hh;obtain⟨v,rfl,hv⟩:=ho;simp only[int,Rel]at hv;subst hv;refine⟨rfl,w'.drawn-W.drawn,w'.heap.extract W.heap.size w'.heap.size,?_⟩;have hh:w'.heap=W.heap++w'.heap.extract W.heap.size w'.heap.size:=by
  apply Array.ext_getElem?;intro k;rcases jAx k W.heap.size with hk|hk
  .rw[jDq hk];exact hn.step.keep k hk (fun⟨i,l,hi,_⟩=>by simp at hi)
  .rw[Array.getElem?_append_right hk,Array.getElem?_extract];split
   .congr 1;omega
   .rw[Array.getElem?_eq_none];omega
 have h1:=hn.step.os;have h2:=hn.step.tape;have h3:=hn.step.output;have h4:=hn.step.drawn;cases w' with
 |mk heap tape drawn os output =>
  cases W with
  |mk heap' tape' drawn' os' output' =>
   simp only at h1 h2 h3 h4 hh;simp only[grow,World.drewN,World.mk.injEq];exact⟨hh,h2,by omega,h1,h3⟩
def nI(us:List (β×wL)):wL:=us.flatMap (·.2)
@[simp]theorem qBn:nI ([]:List (β×wL))=[]:=rfl
@[simp]theorem zMc{p : β×wL}{us:List (β×wL)}:nI (p::us)=p.2++nI us:=rfl
def zQQ(H:Mem)(encA : β->wE)(us:List (β×wL)):Prop:=∀p∈us,qE H [] (encA p.1) p.2/\∀v∈p.2,one v
theorem zDI{encA : β->wE}(hb:∀b,eJ 0 (encA b)=true):∀(l:List β) (vs:wL),qE H L (l.flatMap encA) vs->(∀v∈vs,one v)->∃us:List (β×wL),us.map (·.1)=l/\nI us=vs/\zQQ H encA us
 |[],vs,h,_=>⟨[],rfl,(jP h).symm,fun p hp=>by simp at hp⟩
 |b::l,vs,h,h1=>by
  rw[jB6]at h;obtain⟨us,ws,rfl,k1,k2⟩:=h.split;obtain⟨rest,r1,r2,r3⟩:=zDI hb l ws k2 (fun v hv=>h1 v (List.mem_append_right _ hv));refine⟨(b,us)::rest,by simp[r1],by simp[r2],fun p hp=>?_⟩;rcases jA3.1 hp with rfl|hp
  .exact⟨qE.levels (k:=0) (fun l hl=>by omega) _ (hb b) k1,fun v hv=>h1 v (jBk _ hv)⟩
  .exact r3 p hp
theorem zEV{encA : β->wE}(hb:∀b,eJ 0 (encA b)=true):∀{us:List (β×wL)},zQQ H encA us->qE H L ((us.map (·.1)).flatMap encA) (nI us)/\∀v∈nI us,one v
 |[],_=>⟨jV,by simp⟩
 |p::us,h=>by
  obtain⟨k1,k2⟩:=h p (jAr ..);obtain⟨r1,r2⟩:=zEV hb (us:=us) fun q hq=>h q (jAh _ hq)
  refine⟨?_,fun v hv=>?_⟩
  .simp only[jAg,jB6,zMc];exact(qE.levels (k:=0) (fun l hl=>by omega) _ (hb p.1) k1).append r1
  .rcases jAc.1 hv with hv|hv
   .exact k2 v hv
   .exact r2 v hv
theorem zB7{encA : β->wE}{sz:Nat}(hlen:∀b,(encA b).length=sz):∀{us:List (β×wL)},zQQ H encA us->(nI us).length=us.length*sz
 |[],_=>by simp
 |p::us,h=>by have:=(h p (jAr ..)).1.length;simp[this,hlen,zB7 hlen (us:=us) fun q hq=>h q (jAh _ hq),jBi,jCj]
def zHT(P:Program)(f g:FuncId)(encA : β->wE)(cf : β->β->Int):Prop :=
 ∀(H:Mem) (w:World) (b cap:Nat) (us:List (β×wL)),(∀b o v,H b o=some v->w.cell? ⟨b,o,none⟩=some v)->(∀o,H b o=none)->b<w.heap.size->us≠[]->us.length<4611686018427387904->zQQ H encA us ->
  (∀j u,(nI us)[j]?=some u->w.cell? ⟨b,j,none⟩=some u/\w.frozen? ⟨b,j,none⟩=false) ->
  Calls P f #[.slice (some ⟨b,0,none⟩) us.length cap,.func (.func g) #[] #[]] w fun e w'=>e=.returned (.tuple #[]) /\
   ∃(us':List (β×wL)) (n:Nat) (os:Array Obj),us'.Perm us/\us'.Pairwise (fun x y=>¬cf y.1 x.1<0)/\w'=grow (putRow id (Go.Sort.ahead w n) b 0 (nI us').toArray) os
def cM(cf : β->β->Int)(l:List β):List β:=l.mergeSort fun x y=>!decide (cf y x<0)
structure Ord(cf : β->β->Int):Prop where
 irrefl:∀x,¬cf x x<0
 trans:∀x y z,cf x y<0->cf y z<0->cf x z<0
 ntrans:∀x y z,¬cf x y<0->¬cf y z<0->¬cf x z<0
 anti:∀x y,¬cf x y<0->¬cf y x<0->x=y
variable{cf:β->β->Int}
theorem lT(ho:Ord cf){l l':List β}(hp:l'.Perm l)(hs:l'.Pairwise fun x y=>¬cf y x<0):l'=cM cf l:=by
 have h1:=List.pairwise_mergeSort (le:=fun x y=>!decide (cf y x<0)) (fun a b c h1 h2=>by simp only[jBw,decide_eq_false_iff_not]at *;exact ho.ntrans c b a h2 h1)
  (fun a b=>by
   simp only[jBf,jBw,decide_eq_false_iff_not];by_cases h:cf b a<0
   .exact .inr fun h'=>ho.irrefl _ (ho.trans _ _ _ h h')
   .exact .inl h) l
 refine List.Perm.eq_of_pairwise (le:=fun x y=>¬cf y x<0) (fun a b _ _ h1 h2=>ho.anti a b h2 h1) hs ?_ (hp.trans (List.mergeSort_perm l _).symm);exact h1.imp (fun h=>by simpa using h)
variable{b:Nat}{cur:Array Value}
theorem zKI{e:TypeId}(hh:w.heap[b]?=some (.cells cur e (0,0)))(n:Nat)(F:Array Value)(os:Array Obj) :
 (grow (putRow id (Go.Sort.ahead w n) b 0 F) os).heap[b]?=some (.cells (putCells id 0 F cur) e (0,0)):=by
 have hlt:b<w.heap.size:=(jD4.1 hh).1;simp only[grow];rw[jDq (by simpa[Go.Sort.ahead]using hlt)];simp only[putRow,mapBlock,Array.getElem?_modify,if_true];simp only[Go.Sort.ahead,hh,jDl,onCells]
theorem zBT{b k:Nat}(hk:k<w.heap.size)(hne:k≠b)(n:Nat)(F:Array Value)(os:Array Obj):(grow (putRow id (Go.Sort.ahead w n) b 0 F) os).heap[k]?=w.heap[k]?:=by simp only[grow];rw[jDq (by simpa[Go.Sort.ahead]using hk)];simp only[putRow,mapBlock,Array.getElem?_modify,Go.Sort.ahead];rw[if_neg (Ne.symm hne)]
variable{F:Array Value}
theorem zGw(h:F.size<=cur.size):(putCells id 0 F cur).size=cur.size/\(putCells id 0 F cur).toList.take F.size=F.toList:=by
 have hsz:(putCells id 0 F cur).size=cur.size:=by simp[putCells]
 refine⟨hsz,?_⟩;apply jCd;intro i;rw[jBg];split
 .rename_i hi;have hi2:i<cur.size:=by omega
  simp[putCells,hi,hi2]
 .rename_i hi;rw[jBd (by simp;omega)]
theorem zSM{U:St}(hs:RelSt H L U w){l:Nat}{li:LI}{o:AObj}{w':World}(hl:L[l]?=some li)(hb:li.block=some b)
 (hos:w'.os=w.os)(htape:w'.tape=w.tape)(hout:w'.output=w.output)(hdr:w.drawn<=w'.drawn)(hnd:∀d,w.heap[b]?≠some (.deferred d))(hsz:w.heap.size<=w'.heap.size)(hkeep:∀k,k<w.heap.size->k≠b->w'.heap[k]?=w.heap[k]?)
 (hnone:∀o',H b o'=none)(ho:qA H L w' li o):Nxt H L w H L (U.set l o) w':=by
 have hne:∀(i:Nat) l' b',L[i]?=some l'->l'.block=some b'->i≠l->b'≠b:=fun i l' b' h1 h2 hi e=>hi (hs.inj i l l' li b' h1 hl h2 (by rw[hb,e]))
 refine⟨⟨fun b' o' v hv=>?_,by simp[hs.len],fun i l' o' hL hU=>?_,hs.inj,fun i l' b' h1 h2=>jCb (hs.lt i l' b' h1 h2) hsz⟩,
  ⟨hos,htape,hout,hsz,fun k hk hn=>hkeep k hk (fun e=>hn ⟨l,li,hl,by rw[hb,e]⟩),HLe.refl _,fun _ _ _ h=>.inl h,hdr,fun k d hk=>?_⟩,LLe.refl _,fun _ h=>.inl h⟩
 .have hbb:b'≠b:=fun e=>by subst e;rw[hnone]at hv;cases hv
  have hc:=hs.pers b' o' v hv;have hlt:=hs.h_lt hv;simp only[World.cell?]at hc ⊢;rw[hkeep b' hlt hbb];exact hc
 .by_cases hi:i=l
  .subst hi;rw[hl]at hL;cases hL;rw[jAm (by rw[<-hs.len];exact(jA4.1 hl).1)]at hU;cases hU;exact ho
  .rw[jAa (Ne.symm hi)]at hU;exact(hs.obj i l' o' hL hU).carry (fun b' hb'=>hkeep b' (hs.lt i l' b' hL hb') (hne i l' b' hL hb' hi)) (HLe.refl _) (LLe.refl _) (fun _ _ _=>rfl)
 .have hks:=(jD4.1 hk).1;by_cases hkb:k=b
  .subst hkb;exact(hnd d hk).elim
  .rw[hkeep k hks hkb];exact hk
variable{f:FuncId}{encA:β->wE}
theorem zLe{sz:Nat}(hsz:0<sz)(hlen:∀b,(encA b).length=sz)(hb:∀b,eJ 0 (encA b)=true)(ho:Ord cf)(e:TypeId)
 (hS:zHT P f g encA cf)(hnone:∀(p:Option Addr)(cap:Nat)(fv:Value)(w:World),Calls P f #[.slice p 0 cap,fv] w fun e w'=>e=.returned (.tuple #[])/\w'=w)(l:List β)(hmx:l.length<4611686018427387904) :
 Ret P f [.row 0 l.length,.clo g [] []] [.row false e sz l.length (l.flatMap encA)] (.tup []) [.row false e sz l.length ((cM cf l).flatMap encA)]:=by
 intro H L w vs hs hvs;obtain⟨v,vs',rfl,h1,h2⟩:=qF hvs;obtain⟨fv,vs'',rfl,h3,h4⟩:=qF h2;have:=jP h4;subst this;simp only[Rel]at h3;obtain⟨fs,cs,rfl,k1,k2⟩:=h3;have:=jP k1;subst this;have:=jP k2;subst this;simp only[Rel]at h1;obtain⟨_,li,e1,e2,e3,hv⟩:=h1;have hob:=hs.obj 0 li _ e1 rfl;simp only[qA]at hob;obtain⟨_,hln,hcl,hob⟩:=hob;have hv:=hv hln.symm;have htup:Rel H L (.tup []) (.tuple #[]):=by simp[Rel,qE]
 by_cases hl:l=[]
 .subst hl;have hsl:∃p cap,v=.slice p 0 cap:=by
   rw[hv];split
   .exact⟨_,_,rfl⟩
   .exact⟨_,_,rfl⟩
  obtain⟨p,cap,rfl⟩:=hsl;refine(hnone p cap _ w).mono fun e' w' hh=>?_
  obtain⟨rfl,rfl⟩:=hh;exact⟨.ret (.tup []),_,H,L,⟨_,rfl,htup⟩,Nxt.refl hs,rfl,by simp[cM]⟩
 .rcases hob with ⟨hbk,h0⟩|⟨b,cur,hbk,hh,g1,g2,g3,g4,g5,g6⟩
  .exact(hl (jC9 h0)).elim
  .rw[hbk]at hv;subst hv;obtain⟨us,u1,u2,u3⟩:=zDI hb l _ g4 g5;have hul:us.length=l.length:=by rw[<-u1];simp
   have hus:us≠[]:=fun h=>hl (by rw[<-u1,h];rfl)
   have hlt:=hs.lt 0 li b e1 hbk;have hcell:∀j u,(nI us)[j]?=some u->w.cell? ⟨b,j,none⟩=some u/\w.frozen? ⟨b,j,none⟩=false:=fun j u hu=>by
    rw[u2,jBg]at hu;split at hu
    .refine⟨?_,by simp[World.frozen?,hh]⟩;rw[cell_of_row w b j cur e (0,0) hh]
     simpa using hu
    .cases hu
   have hmax:us.length<4611686018427387904:=by rw[hul];exact hmx
   have hc:=hS H w b li.cap us (fun b o v=>hs.pers b o v) g6 hlt hus hmax u3 hcell;rw[hul]at hc;refine hc.mono fun e' w' hx=>?_
   obtain⟨rfl,us',n,os,hp,hsrt,rfl⟩:=hx;have u3':zQQ H encA us':=fun p hp'=>u3 p (hp.mem_iff.1 hp')
   have hl':(us'.map (·.1))=cM cf l:=by refine lT ho (by rw[<-u1];exact hp.map _) ?_;rw[jCq];exact hsrt
   obtain⟨j1,j2⟩:=zEV (L:=L) hb u3';rw[hl']at j1;have hfl:(nI us').length=l.length*sz:=by rw[zB7 hlen u3',hp.length_eq,hul]
   have hfit:(nI us').toArray.size<=cur.size:=by rw[jCa,hfl,g3];exact jBn _ g1
   obtain⟨p1,p2⟩:=zGw hfit;rw[jCa,hfl]at p2;have hnx:=zSM hs e1 hbk (o:=.row false e sz l.length ((cM cf l).flatMap encA)) (w':=grow (putRow id (Go.Sort.ahead w n) b 0 (nI us').toArray) os) rfl rfl rfl (by simp[grow,Go.Sort.ahead]) (fun d=>by rw[hh];simp) (by simp[grow,Go.Sort.ahead]) (fun k hk hne=>zBT hk hne n _ os) g6 (by
    simp only[qA];refine⟨e2,hln,?_,.inr ⟨b,_,hbk,zKI hh n _ os,g1,g2,by rw[p1];exact g3,?_,?_,g6⟩⟩
    .rw[<-j1.length,hfl]
    .rw[p2];exact j1
    .rw[p2];exact j2)
   exact⟨.ret (.tup []),_,H,L,⟨_,rfl,htup⟩,hnx,rfl,rfl⟩
theorem zJV{α:Type}{enc : α->wL}{k:Nat}(hk:∀x,(enc x).length=k):∀(l:List α) (i j:Nat) (hi:i<l.length),j<k->(l.flatMap enc)[i*k+j]?=(enc l[i])[j]?
 |[],i,j,hi,_=>by simp at hi
 |x::l,0,j,_,hj=>by rw[jB6,jAl (by rw[hk];omega)];simp
 |x::l,i+1,j,hi,hj=>by
  have hi':i<l.length:=by simpa using hi
  rw[jB6,jAy (by rw[hk,jBi];omega),hk];have:(i+1)*k+j-k=i*k+j:=by rw[jBi];omega
  rw[this,zJV hk l i j hi' hj];rfl
theorem zDz{α:Type}{enc : α->wL}{k:Nat}(hk:∀x,(enc x).length=k):∀(l:List α),(l.flatMap enc).length=l.length*k
 |[]=>by simp
 |x::l=>by rw[jB6,jA5,hk,zDz hk l,jAb,jBi,jCj]
theorem zMb{α:Type} [Inhabited α]{enc : α->wL}{k:Nat}(hk:∀x,(enc x).length=k)(d:Array α):(flatK enc k d).toList=d.toList.flatMap enc:=by
 apply jCd;intro t;rcases jAx t (d.size*k)with ht|ht
 .have k0:0<k:=by
   rcases Nat.eq_zero_or_pos k with h|h
   .subst h;simp at ht
   .exact h
  have hq:t / k<d.toList.length:=by rw[jB5];exact Nat.div_lt_of_lt_mul (by rw[Nat.mul_comm];exact ht)
  have hm:=Nat.mod_lt t k0;have he:t=t / k*k+t % k:=by rw[Nat.mul_comm];exact(Nat.div_add_mod t k).symm
  have h1:(flatK enc k d)[t]! = (enc d[t / k]!)[t % k]! := get_flatK enc k d t ht;have hts:t<(flatK enc k d).size:=by rw[size_flatK];exact ht
  have h2:(d.toList.flatMap enc)[t]?=(enc d.toList[t / k])[t % k]?:=by
   conv=>lhs;rw[he]
   exact zJV hk _ _ _ hq hm
  rw[h2];have hq':t / k<d.size:=by simpa using hq
  have hmm:t % k<(enc d[t / k]).length:=by rw[hk];exact hm
  rw[getElem!_pos _ t hts,getElem!_pos d (t / k) hq',getElem!_pos _ (t % k) hmm]at h1;rw[jD0,Array.getElem?_eq_getElem hts,h1];simp[hmm]
 .rw[jBd (by simpa using ht),jBd (by rw[zDz hk];simpa using ht)]
theorem zKF{α:Type} [Inhabited α]{d d':Array α}(h:PermIn 0 d.size d d'):d'.toList.Perm d.toList:=by
 obtain⟨h1,_,h3⟩:=h;have e1:d'.extract 0 d.size=d':=by rw[<-h1];simp
 rw[e1]at h3
 simpa using h3
theorem zGz{α:Type} [Inhabited α]{lt : α->α->Bool}{d:Array α}{n:Nat}(hn:n=d.size)(h:SortedIn lt 0 n d):d.toList.Pairwise fun x y=>lt y x=false:=by
 subst hn;rw[jCr];intro i j hi hj hij;have hi':i<d.size:=by simpa using hi
 have hj':j<d.size:=by simpa using hj
 have:=h i j (jB4 _) hij hj';rw[getElem!_pos d i hi',getElem!_pos d j hj']at this
 simpa using this
theorem qAm{β:Type}{cf : β->β->Int}(ho:Ord cf) {α:Type}(p : α->β):SWO (Go.Proofs.ltOf fun x y : α=>cf (p x) (p y)) where
 irrefl x:=by simpa[Go.Proofs.ltOf]using ho.irrefl (p x)
 trans x y z h1 h2:=by simp only[Go.Proofs.ltOf,decide_eq_true_eq]at *;exact ho.trans _ _ _ h1 h2
 ntrans x y z h1 h2:=by simp only[Go.Proofs.ltOf,decide_eq_false_iff_not]at *;exact ho.ntrans _ _ _ h1 h2
theorem zOC{b' o:Nat}{n:Nat}{os:Array Obj}{v:Value}(hne:b'≠b)(h:w.cell? ⟨b',o,none⟩=some v):(grow (putRow id (Go.Sort.ahead w n) b 0 F) os).cell? ⟨b',o,none⟩=some v:=by have hlt:=World.block_lt_of_cell? w _ h;simp only[World.cell?]at h⊢;rw[zBT hlt hne];exact h
theorem zTv{k:Nat}(hlen:∀b,(encA b).length=k)(ho:Ord cf)(hcmp:∀a b,Ret P g [.agg (encA a),.agg (encA b)] [] (int (cf a b)) [])
 (hkit:∀(α:Type) [Inhabited α](enc : α->wL)(_:∀x,(enc x).length=k)(_:∀x,∀v∈enc x,v.oneCell'=true)(cf : α->α->Int)(_:SWO (Go.Proofs.ltOf cf))(blk off cap:Nat)(d:Array α)(w:World)
  (_:Go.Proofs.CmpLays P g #[] enc k cf blk off d.size w)(_:HoldsK enc k w blk off d)(_:blk<w.heap.size)(_:d.size<4611686018427387904),
  Calls P f #[.slice (some ⟨blk,off,none⟩) d.size cap,.func (.func g) #[] #[]] w fun e w'=>e=.returned (.tuple #[])/\∃d' n os,PermIn 0 d.size d d'/\SortedIn (Go.Proofs.ltOf cf) 0 d.size d'/\w'=sortWorldK enc k w blk off n d' os):zHT P f g encA cf:=by
 intro H w b cap us hH hnone hlt hus hmax hrel hcell;let α:={p : β×wL // (qE H [] (encA p.1) p.2/\∀v∈p.2,one v)};let d:Array α:=(us.attach.map fun p=>(⟨p.1,hrel p.1 p.2⟩ : α)).toArray;have hdm:d.toList.map (·.1)=us:=by simp only[d,jCg,Function.comp_def];exact(List.attach_map_val (f:=id)).trans (List.map_id us)
 have hds:d.size=us.length:=by simp[d]
 have:Inhabited α:=⟨⟨us.head hus,hrel _ (List.head_mem hus)⟩⟩;let enc : α->wL:=fun x=>x.1.2
 have hk:∀x,(enc x).length=k:=fun x=>by rw[<-hlen x.1.1];exact x.2.1.length
 have hflat:∀dd:Array α,(flatK enc k dd).toList=nI (dd.toList.map (·.1)):=fun dd=>by rw[zMb hk,nI,List.flatMap_map]
 have hne:∀b' o v,H b' o=some v->b'≠b:=fun b' o v h e=>by subst e;rw[hnone]at h;cases h
 have hk2:=hkit α enc hk (fun x v hv=>x.2.2 v hv) (fun x y=>cf x.1.1 y.1.1) (qAm ho fun x : α=>x.1.1) b 0 cap d w ?_ ?_ hlt (by rw[hds];exact hmax)
 .rw[hds]at hk2;refine hk2.mono fun e w' hx=>?_
  obtain⟨rfl,d',n,os,hp,hs,rfl⟩:=hx;refine⟨rfl,d'.toList.map (·.1),n,os,?_,?_,?_⟩
  .rw[<-hds]at hp;have:=(zKF hp).map (·.1);rw[hdm]at this;exact this
  .rw[jCq];have hsz':us.length=d'.size:=by rw[hp.1,hds]
   exact(zGz hsz' hs).imp fun h=>by simpa[Go.Proofs.ltOf]using h
  .simp only[sortWorldK,putRowK];rw[<-hflat d']
 .intro m os dk hsz x y;have hW:∀b' o v,H b' o=some v->(sortWorldK enc k w b 0 m dk os).cell? ⟨b',o,none⟩=some v:=fun b' o v h=>zOC (hne b' o v h) (hH b' o v h)
  have:=zKp (hcmp x.1.1 y.1.1) hW (vs:=[.agg (enc x).toArray,.agg (enc y).toArray]) (by
   refine qW ?_ (qW ?_ jV)
   .simp only[Rel];exact⟨_,rfl,x.2.1,x.2.2⟩
   .simp only[Rel];exact⟨_,rfl,y.2.1,y.2.2⟩)
  simpa using this
 .intro j hj;have hj':j<(flatK enc k d).toList.length:=by simpa using hj
  have h1:(nI us)[j]?=some ((flatK enc k d)[j]!):=by rw[<-hdm,<-hflat d,jA1 hj',getElem!_pos _ j hj];simp
  simpa using hcell j _ h1
end
end Go.Abs
namespace Go.Abs
section
variable{P:Program}{env:Env} {U:St}
end
end Go.Abs
namespace Go.Abs
section
variable{P:Program}{H:Mem}{L:wM} {U:St}{w:World}
variable{n0:Nat}{env:Env}
theorem qS{t:Nat} {U:St}(ht:env t=.nil)(e:TypeId)(sz:Nat):b9 n0 (env.put (some t) (.row U.length 0)) (U++[AObj.row false e sz 0 []]) env U:=by
 intro H0 L0 w0 H L w N tmps h0 h1 h2;have hn:=iR h1.st e sz;refine⟨H,_,h1.trans hn,h2.1,fun x=>?_⟩;simp only[Env.put];split
 .rename_i hx;subst hx;have:=h2.2 x;rw[ht]at this;simp only[Rel]at this;rw[this];simp only[Rel];exact⟨rfl,⟨none,0,0,true⟩,by rw[<-h1.st.len];simp,rfl,jA _,fun _=>rfl⟩
 .exact Rel.mono (HLe.refl _) hn.lle _ (h2.2 x)
variable{e:TypeId}{sz:Nat}{cs:wE}
theorem m9{U:St}{l o n:Nat}(hl : U[l]?=some (.row false e sz n cs))(hc:cs[o]?=some .nil)(e':TypeId)(sz':Nat) :
 b9 n0 env (U.set l (.row false e sz n (cs.set o (.row U.length 0)))++[AObj.row false e' sz' 0 []]) env U:=by
 intro H0 L0 w0 H L w N tmps h0 h1 h2;have hn:=iR h1.st e' sz';have hlt:l < U.length:=(jA4.1 hl).1;have hl':(U++[AObj.row false e' sz' 0 []])[l]?=some (.row false e sz n cs):=by rw[jAl hlt];exact hl
 have hs:=zCW (o':=.row false e sz n (cs.set o (.row U.length 0))) hn.st hl' (fun li hob=>by
  simp only[qA]at hob ⊢;obtain⟨g0,g1,g2,g3⟩:=hob;refine⟨g0,g1,by simpa using g2,?_⟩;rcases g3 with ⟨q1,q2⟩|⟨b,cur,q1,q2,q3,q4,q5,q6,q7,q8⟩
  .subst q2;have:cs=[]:=jC9 (by simpa using g2);subst this;simp at hc
  .obtain⟨v,hv,hrel⟩:=q6.get hc;simp only[Rel]at hrel;subst hrel;have hset:cur.toList.take (n*sz)=(cur.toList.take (n*sz)).set o (.slice none 0 0):=by
    apply jCd;intro i;by_cases hi:i=o
    .subst hi;rw[jAm (jA4.1 hv).1,hv]
    .rw[jAa (Ne.symm hi)]
   refine .inr ⟨b,cur,q1,q2,q3,q4,q5,?_,q7,q8⟩;rw[hset];refine q6.set o ?_;simp only[Rel];exact⟨rfl,⟨none,0,0,true⟩,by rw[<-h1.st.len];simp,rfl,jA _,fun _=>rfl⟩)
 rw[List.set_append_left _ _ hlt]at hs;have hm:=h1.trans hn;exact⟨H,_,⟨hs,hm.step,hm.lle,hm.own⟩,h2.1,fun x=>Rel.mono (HLe.refl _) hn.lle _ (h2.2 x)⟩
variable{f:FuncId}{Q:Out->St->Prop}
theorem zO9{l n:Nat}(hU:U[l]?=some (.row false e sz n cs))(h:aG P f [.sl n cs] (U.set l (.row true e sz n cs)) Q):aG P f [.row l n] U Q:=by
 intro H L w vs hs hvs;obtain⟨v,vs',rfl,h1,h2⟩:=qF hvs;have:=jP h2;subst this;obtain⟨H',hn,hr⟩:=zEh hs hU h1;refine(h H' L w [v] hn.st (qW hr jV)).mono fun e w' hh=>?_
 obtain⟨o,U',H2,L2,g1,g2,g3⟩:=hh;exact⟨o,U',H2,L2,g1,hn.trans g2,g3⟩
theorem zLD{l n:Nat}(hU:U[l]?=some (.row true e sz n cs))(h:aG P f [.sl n cs] U Q):aG P f [.row l n] U Q:=by
 intro H L w vs hs hvs;obtain⟨v,vs',rfl,h1,h2⟩:=qF hvs;have:=jP h2;subst this;refine h H L w [v] hs (qW ?_ jV);simp only[Rel]at h1;obtain⟨_,li,e1,e2,e3,hv⟩:=h1;have hob:=hs.obj l li _ e1 hU;simp only[qA]at hob;obtain⟨_,hln,hcl,hob⟩:=hob;have hv:=hv hln.symm;rcases hob with ⟨hb,h0⟩|⟨b,cur,hb,hh,k1,k2,k3,k4,k5,k6⟩
 .rw[hb]at hv;subst h0;have hcs:cs=[]:=jC9 (by simpa using hcl);simp only[Rel];exact⟨none,0,hv,jA _,jB4 _,.inl ⟨trivial,hcs⟩⟩
 .rw[hb]at hv;simp only[Rel];exact⟨_,_,hv,k1,k2,.inr ⟨b,0,_,rfl,k4,k5,k6.1⟩⟩
theorem zTF{l n:Nat}(hU:U[l]?=some (.row false e sz n cs)):b9 n0 env (U.set l (.row true e sz n cs)) env U:=by
 intro H0 L0 w0 H L w N tmps h0 h1 h2;have hlt:l<L.length:=by rw[h1.st.len];exact(jA4.1 hU).1
 have hl:L[l]?=some L[l]:=by simp[hlt]
 have hob:=h1.st.obj l L[l] _ hl hU;simp only[qA]at hob;have hr:Rel H L (.row l n) (match L[l].block with|none=>.slice none 0 0|some b=>.slice (some ⟨b,0,none⟩) n L[l].cap):=by simp only[Rel];refine⟨?_,L[l],hl,hob.1,by rw[hob.2.1];exact jA _,fun _=>rfl⟩;split<;>rfl
 obtain⟨H',hn,_⟩:=zEh h1.st hU hr;exact⟨H',L,h1.trans hn,h2.mono hn.step.hle hn.lle⟩
end
end Go.Abs
namespace Go.Abs
section
variable{α:Type}{enc : α->wE}{k:Nat}
theorem gH(hk:∀x,(enc x).length=k):∀(l:List α),(l.flatMap enc).length=l.length*k
 |[]=>by simp
 |x::l=>by rw[jB6,jA5,hk,gH hk l,jAb,jBi,jCj]
theorem fL(hk:∀x,(enc x).length=k):∀{l:List α} {i:Nat} (h:i<l.length),(l.flatMap enc).drop (i*k)=enc l[i]++(l.drop (i+1)).flatMap enc
 |x::l,0,h=>by simp
 |x::l,i+1,h=>by rw[jBi,jCj,jB6,<-jBc,jD3 (hk x),fL hk (by simpa using h)];simp
theorem lJ(hk:∀x,(enc x).length=k){l:List α}{i:Nat}(h:i<l.length):(l.take (i+1)).flatMap enc=(l.take i).flatMap enc++enc l[i]:=by rw[jA6 h,jBr];simp
theorem zJD(hk:∀x,(enc x).length=k):∀{l:List α} {i:Nat} (x : α),i<l.length->(l.flatMap enc).take (i*k)++(enc x++(l.flatMap enc).drop (i*k+k))=(l.set i x).flatMap enc
 |y::l,0,x,h=>by simp[jD3 (hk y)]
 |y::l,i+1,x,h=>by have:=zJD hk (l:=l) (i:=i) x (by simpa using h);rw[List.set_cons_succ,jB6,jB6,<-this,jBi,jCj (i*k) k,List.take_add,List.take_left' (hk y),jD3 (hk y),jAq k,<-jBc,jD3 (hk y),jAu,jCj k (i*k)]
theorem dL(hp:∀x,qY (enc x)):∀(l:List α),qY (l.flatMap enc)
 |[]=>qY.nil
 |x::l=>by
  have h1:=hp x;have h2:=dL hp l;refine⟨?_,fun rf g=>?_⟩
  .rw[jB6,zI1,h1.1,h2.1]
  .rw[jB6,zNm,h1.2,h2.2]
end
end Go.Abs
namespace Go.Abs
section
variable{P:Program}
end
end Go.Abs
namespace Go.Abs
open Go.Proofs
section
variable{P:Program}{H:Mem}{L:wM} {U:St}{w:World}
theorem zPG(hs:RelSt H L U w)(ob:AObj)(o:Obj)(li:LI)(hli:li.block=some w.heap.size)(ho:qA H (L++[li]) (w.alloc o) li ob):Nxt H L w H (L++[li]) (U++[ob]) (w.alloc o):=by
 have hll:=LLe.append L [li];refine⟨⟨fun b o v hv=>?_,by simp[hs.len],fun i l o hL hU=>?_,fun i j l l' b hi hj hb hb'=>?_,fun i l b hL hb=>?_⟩,
  ⟨rfl,rfl,rfl,by simp,fun k hk _=>heap_alloc_old w _ (h:=hk),HLe.refl _,fun b o v hv=>.inl hv,jA _,pD (fun k hk=>heap_alloc_old w _ (h:=hk))⟩,hll,fun b ⟨i,l,hL,hb⟩=>?_⟩
 .rw[World.cell?_alloc_lt _ _ _ (hs.h_lt hv)];exact hs.pers b o v hv
 .rcases jW hL with hL'|⟨rfl,rfl⟩
  .have hi:i<L.length:=(jA4.1 hL').1;rw[jAl (by rw[<-hs.len];exact hi)]at hU;exact(hs.obj i l o hL' hU).carry (fun b hb=>heap_alloc_old w _ (h:=hs.lt i l b hL' hb)) (HLe.refl _) hll (fun _ _ _=>rfl)
  .rw[hs.len]at hU;rw[jAy (jA _)]at hU;simp only[jBv,jB3,jA2]at hU;subst hU;exact ho
 .rcases jW hi with hi'|⟨rfl,rfl⟩
  .rcases jW hj with hj'|⟨rfl,rfl⟩
   .exact hs.inj i j l l' b hi' hj' hb hb'
   .rw[hli]at hb';cases hb';have:=hs.lt i l _ hi' hb;omega
  .rw[hli]at hb;cases hb;rcases jW hj with hj'|⟨rfl,rfl⟩
   .have:=hs.lt j l' _ hj' hb';omega
   .rfl
 .rcases jW hL with hL'|⟨rfl,rfl⟩
  .have:=hs.lt i l b hL' hb;simp;omega
  .rw[hli]at hb;cases hb;simp
 .rcases jW hL with hL'|⟨rfl,rfl⟩
  .exact .inl ⟨i,l,hL',hb⟩
  .rw[hli]at hb;cases hb;exact .inr (jA _)
variable{ρ:Go.Shelf.Ren}
theorem zSi(LL:Lays8.n4 P ρ){i:TypeInfo}{z:Value}(hi:P.info? (ρ.t 25)=some i)(hz:i.zero=some z)(hzs:z.cells.size=i.size)(h0:0<i.size){n:Nat}(hb:n*i.bytes<=140737488355328)(hn63:n<=4611686018427387904) :
 Ret P (ρ.f 4) [.nil,.lit (.int .i64 n)] [] (.row 0 0) [.row false (ρ.t 25) i.size 0 []]:=by
 intro H L w vs hs hvs;obtain⟨v,vs',rfl,h1,h2⟩:=qF hvs;obtain⟨u,vs'',rfl,h3,h4⟩:=qF h2;have:=jP h4;subst this;simp only[Rel]at h1 h3;subst h1 h3;have hL:L=[]:=jC9 (by rw[hs.len];rfl);subst hL;have hn:n<=maxLen:=by simp only[maxLen];omega
 by_cases hz0:n=0
 .subst hz0;refine(Any8.slices_Grow_room LL none 0 0 0 w (jA _) (by omega) (by omega) (by omega)).mono fun e w' hh=>?_
  obtain⟨rfl,rfl⟩:=hh;have hnx:=iR hs (ρ.t 25) i.size;refine⟨.ret (.row 0 0),_,H,_,⟨_,rfl,?_⟩,hnx,rfl,rfl⟩;simp only[Rel];exact⟨rfl,⟨none,0,0,true⟩,by simp,rfl,jA _,fun _=>rfl⟩
 .refine(Any8.slices_Grow_grow LL i z hi hz h0 none 0 0 n [] w (jA _) (by omega) (by rw[jB1];exact hb) (by omega) (by simp) (fun _=>rfl) (fun a ha=>by cases ha)).mono fun e w' hh=>?_
  obtain⟨rfl,rfl⟩:=hh;have hge:=grownCap_ge w (0+n) 0 (ρ.t 25);have hcm:grownCap w (0+n) 0 (ρ.t 25)<=maxLen:=grownCap_le_maxLen w (0+n) 0 (ρ.t 25) (by omega);generalize grownCap w (0+n) 0 (ρ.t 25)=cap at hge hcm ⊢;have hd:=zBL hs;have hnx:=zPG hd.st (.row false (ρ.t 25) i.size 0 []) (.cells ((([]:wL).toArray++Builtin.zeroCells z.cells (0+n-0)++Builtin.zeroCells z.cells (cap-(0+n)))) (ρ.t 25)) ⟨some w.heap.size,cap,0,true⟩ rfl (by
   simp only[qA];refine⟨trivial,trivial,by simp,.inr ⟨w.heap.size,_,rfl,heap_alloc_new w.drew _,jB4 _,hcm,?_,?_,?_,fun o=>?_⟩⟩
   .simp only[Array.size_append,size_zeroCells,hzs];simp only[jCa,jBe,jB1,Nat.sub_zero,<-jB2]
    congr 1
    omega
   .simp[qE]
   .simp
   .cases hH:H w.heap.size o with
    |none=>rfl
    |some v=>have:=hs.h_lt hH;omega)
  have hnx:=hd.trans hnx;refine⟨.ret (.row 0 0),_,H,_,⟨_,rfl,?_⟩,hnx,rfl,rfl⟩;simp only[Rel];exact⟨rfl,⟨some w.heap.size,cap,0,true⟩,by simp,rfl,jA _,fun _=>rfl⟩
theorem zPu(LL:Lays8.n4 P ρ){sz bs:Nat}{z:Value}(hi:(P.info? (ρ.t 25)).map (fun i=>(i.size,i.bytes,i.zero))=some (sz,bs,some z))(hzs:z.cells.size=sz)(h0:0<sz){n:Nat}(hb:n*bs<=140737488355328)(hn63:n<=4611686018427387904) :
 Ret P (ρ.f 4) [.nil,.lit (.int .i64 n)] [] (.row 0 0) [.row false (ρ.t 25) sz 0 []]:=by
 rw[jAj]at hi;obtain⟨i,h1,h2⟩:=hi;simp only[jBp]at h2;obtain⟨rfl,rfl,h3⟩:=h2;exact zSi LL h1 h3 hzs h0 hb hn63
end
end Go.Abs
namespace Go.Proofs.YtdnelmeboihpkaaGreatDoor
open Go.Abs
theorem zY(n:Int)(h : -9223372036854775808<=n/\n<=9223372036854775807):IntKind.i64.wrap n=n:=IntWalk.i64_in _ h
theorem jZ(n:Nat)(h:n<9000000000000000000):IntKind.i64.wrap ((n:Int)+1)=(n:Int)+1:=IntWalk.i64_in _ (by omega)
def w64(n:Int):Int:=IntKind.i64.wrap n
def pP(a b c a' b' c':Int):Bool:=decide (Id.mk a b c=Id.mk a' b' c')
@[simp]theorem cW{x y:Id}:pP x.a x.b x.c y.a y.b y.c=decide (x=y):=rfl
def Id.zero:Id:=⟨0,0,0⟩
@[simp]theorem zZZ{x:Id}:pP x.a x.b x.c 0 0 0=decide (x=Id.zero):=rfl
@[simp]theorem Id.zero_a:Id.zero.a=0:=rfl
@[simp]theorem Id.zero_b:Id.zero.b=0:=rfl
@[simp]theorem Id.zero_c:Id.zero.c=0:=rfl
@[simp]theorem qH6:pP 0 0 0 0 0 0=true:=rfl
@[simp]theorem zUx{a b c a' b' c':Int}:zIe [.i,.i,.i] false (.agg [.lit (.int .i64 a),.lit (.int .i64 b),.lit (.int .i64 c)]) (.agg [.lit (.int .i64 a'),.lit (.int .i64 b'),.lit (.int .i64 c')]) =
 some (.lit (.bool (pP a b c a' b' c'))):=by simp[zIe,bA,iO,fC,pP]
@[simp]theorem qFJ{a b c a' b' c':Int}:zIe [.i,.i,.i] true (.agg [.lit (.int .i64 a),.lit (.int .i64 b),.lit (.int .i64 c)]) (.agg [.lit (.int .i64 a'),.lit (.int .i64 b'),.lit (.int .i64 c')]) =
 some (.lit (.bool (!pP a b c a' b' c'))):=by simp[zIe,bA,iO,fC,pP]
def aN(n k:Int):Int:=(if n<0 then w64 (0-w64 (n+1))else n).tmod k
theorem lZ(n k:Int)(hk:0<k):mv 12 [int n,int k] [] (int (aN n k)) []:=by
 refine ml [] [.slot 4] func12 (by kernel_rfl) ?_
 (conv in kq _ _=>cbv)
 have h0:¬k=0:=by omega
 by_cases h:n<0
 .simp[h,h0];exact zA 0 (by simp[aN,h,w64])
 .simp[h,h0];exact zA 0 (by simp[aN,h])
theorem gT{n k:Int}(hn:w64 n=n)(hk:0<k):0<=aN n k/\aN n k<k:=by
 unfold aN;have h:0<=(if n<0 then w64 (0-w64 (n+1))else n):=by simp only[w64,IntKind.wrap_i64]at hn ⊢;split<;>omega
 exact⟨Int.tmod_nonneg _ h,Int.tmod_lt_of_pos _ hk⟩
def nC:List Id->Id->wF
 |[],x=>[x]
 |y::l,x=>if cC y x=true then y::nC l x else if y=x then y::l else x::y::l
def zI7:List Id->Id->Nat
 |[],_=>0
 |y::l,x=>if cC y x=true then zI7 l x+1 else 0
theorem zOl:∀(l:wF) (x:Id),zI7 l x<=l.length
 |[],x=>by simp[zI7]
 |y::l,x=>by have:=zOl l x;simp only[zI7,jAb];split<;>omega
theorem zKh:∀(l:wF) (x:Id),nC l x=if l[zI7 l x]?=some x then l else l.take (zI7 l x)++x::l.drop (zI7 l x)
 |[],x=>by simp[nC,zI7]
 |y::l,x=>by
  simp only[nC,zI7];by_cases h:cC y x=true
  .simp only[h,if_true,jBo,zKh l x,jC8,List.drop_succ_cons];split<;>simp
  .simp only[h];by_cases hy:y=x<;>simp[hy]
theorem zSt(l:wF)(x:Id):(nC l x).length<=l.length+1:=by
 rw[zKh];have:=zOl l x;split
 .omega
 .simp;omega
theorem zN4:∀(l acc:wF),(l.foldl nC acc).length<=acc.length+l.length
 |[],acc=>by simp
 |x::l,acc=>by have h1:=zN4 l (nC acc x);have h2:=zSt acc x;simp only[jBh,jAb];omega
end Go.Proofs.YtdnelmeboihpkaaGreatDoor
