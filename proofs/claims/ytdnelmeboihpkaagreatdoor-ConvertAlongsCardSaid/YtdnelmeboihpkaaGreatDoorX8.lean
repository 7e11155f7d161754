/- Rules for simp on levels and contracts; the steps that a prover takes at calls, loops and  -/
import Derived.Test.YtdnelmeboihpkaaGreatDoorX7
import Derived.IntWalk
import Derived.Shelf.SlSortCmp.NoneTotal
import Derived.Shelf.Spec.SlicesGrow
set_option linter.unusedVariables false
set_option maxHeartbeats 8000000
set_option maxRecDepth 100000
set_option linter.unusedSimpArgs false
open Go.Proofs.Tryz
namespace Go.Abs
attribute [simp] KOp.dst
@[simp]theorem zZe{a b n:Nat}(h:a<=b):(a<=b+n)=True:=eq_true (by omega)
@[simp]def int(n:Int):A:=.lit (.int .i64 n)
@[simp]def bl(b:Bool):A:=.lit (.bool b)
section
variable{P:Program}{n0:Nat}{Qp:Value->wK}{K':wK}{KD:Env->Prop}{Q:Ex->wK}{env:Env} {U:St}{d:wC}
variable{rf:Bool->Nat->Nat->A}{g:Nat->wC}
def lvl(o:wC)(f:Nat->A)(b:A):A:=match o with
 |some i=>f i
 |none=>b
@[simp]theorem qGo{i:Nat}{f:Nat->A}{b:A}:lvl (some i) f b=f i:=rfl
@[simp]theorem qGn{f:Nat->A}{b:A}:lvl none f b=b:=rfl
variable{l:Nat}
@[simp]theorem qNm{o:Nat}:vw rf g (.ptr l o)=lvl (g l) (.ptr · o) (rf true l o):=by simp only[vw,lvl];cases g l<;>rfl
@[simp]theorem qNn{l n:Nat}:vw rf g (.row l n)=lvl (g l) (.row · n) (rf false l n):=by simp only[vw,lvl];cases g l<;>rfl
@[simp]theorem qNo{l n o:Nat}:vw rf g (.rwp l n o)=lvl (g l) (.rwp · n o) .any:=by simp only[vw,lvl];cases g l<;>rfl
@[simp]theorem qNk:vw rf g (.map l)=lvl (g l) .map .any:=by simp only[vw,lvl];cases g l<;>rfl
@[simp]theorem qNq{l n o k c:Nat}:vw rf g (.win l n o k c)=lvl (g l) (.win · n o k c) (zO0 o k c (rf false l n)):=by simp only[vw,lvl];cases g l<;>rfl
variable{cs:wE}
@[simp]theorem qIV{n o k c:Nat}:zO0 o k c (.sl n cs)=if k=0 then .sl 0 []else .sl k ((cs.drop o).take (k*c)):=rfl
@[simp]theorem qAf:vw rf g (.agg cs)=.agg (vwL rf g cs):=by simp only[vw]
@[simp]theorem qNp:vw rf g (.tup cs)=.tup (vwL rf g cs):=by simp only[vw]
@[simp]theorem qN5{n:Nat}:vw rf g (.sl n cs)=.sl n (vwL rf g cs):=by simp only[vw]
@[simp]theorem qNi{n:Nat}:vw rf g (.fsl n cs)=.fsl n (vwL rf g cs):=by simp only[vw]
@[simp]theorem qJX:vw rf g (.rptr cs)=.rptr (vwL rf g cs):=by simp only[vw]
variable{f:FuncId}
@[simp]theorem qNh{a b:wE}:vw rf g (.clo f a b)=.clo f (vwL rf g a) (vwL rf g b):=by simp only[vw]
@[simp]theorem qNg:vw rf g .any=.any:=by simp only[vw]
@[simp]theorem qNl:vw rf g .nil=.nil:=by simp only[vw]
variable{v:Value}
@[simp]theorem qNj:vw rf g (.lit v)=.lit v:=by simp only[vw]
variable{b:Nat}
@[simp]theorem qN6:vw rf g (yv b)=yv b:=by simp only[yv,vw]
@[simp]theorem qA4{b:Bool}{l n:Nat}:j5 b l n=.any:=rfl
@[simp]theorem qJI:vwL rf g []=[]:=by simp only[vwL]
@[simp]theorem qH8{c:A}:vwL rf g (c::cs)=vw rf g c::vwL rf g cs:=by simp only[vwL]
variable{ds:wE}
@[simp]theorem zMP:vwL rf g (cs++ds)=vwL rf g cs++vwL rf g ds:=by
 induction cs with
 |nil=>simp
 |cons c cs ih=>simp[ih]
@[simp]theorem qH9{n:Nat}:vwL rf g (cs.drop n)=(vwL rf g cs).drop n:=by
 induction cs generalizing n with
 |nil=>simp
 |cons c cs ih=>cases n<;>simp[ih]
@[simp]theorem qHA{n:Nat}:vwL rf g (cs.take n)=(vwL rf g cs).take n:=by
 induction cs generalizing n with
 |nil=>simp
 |cons c cs ih=>cases n<;>simp[ih]
@[simp]theorem qGC{o:Nat}:nrm0 (.ptr l o)=.ptr l o:=by simp only[nrm0]
@[simp]theorem qGD{l n:Nat}:nrm0 (.row l n)=.row l n:=by simp only[nrm0]
@[simp]theorem qGE{l n o:Nat}:nrm0 (.rwp l n o)=.rwp l n o:=by simp only[nrm0]
@[simp]theorem qGA:nrm0 (.map l)=.map l:=by simp only[nrm0]
@[simp]theorem qGG{l n o k c:Nat}:nrm0 (.win l n o k c)=.win l n o k c:=by simp only[nrm0]
@[simp]theorem qG5:nrm0 (.agg cs)=.agg (jO cs):=by simp only[nrm0]
@[simp]theorem qGF:nrm0 (.tup cs)=.tup (jO cs):=by simp only[nrm0]
@[simp]theorem qJv{n:Nat}:nrm0 (.sl n cs)=.sl n (jO cs):=by simp only[nrm0]
@[simp]theorem qG8{n:Nat}:nrm0 (.fsl n cs)=.sl n (jO cs):=by simp only[nrm0]
@[simp]theorem qB0:nrm0 (.rptr cs)=.rptr (jO cs):=by simp only[nrm0]
@[simp]theorem qG7{a b:wE}:nrm0 (.clo f a b)=.clo f (jO a) (jO b):=by simp only[nrm0]
@[simp]theorem qG6:nrm0 .any=.any:=by simp only[nrm0]
@[simp]theorem qGB:nrm0 .nil=.sl 0 []:=by simp only[nrm0]
@[simp]theorem qG9:nrm0 (.lit v)=.lit v:=by simp only[nrm0]
@[simp]theorem qJw:nrm0 (yv b)=yv b:=by simp only[yv,nrm0]
@[simp]theorem qBq:jO []=[]:=by simp only[jO]
@[simp]theorem zZr{c:A}:jO (c::cs)=nrm0 c::jO cs:=by simp only[jO]
@[simp]theorem zIb:jO (cs++ds)=jO cs++jO ds:=by
 induction cs with
 |nil=>simp
 |cons c cs ih=>simp[ih]
@[simp]theorem zZs{n:Nat}:jO (cs.drop n)=(jO cs).drop n:=by
 induction cs generalizing n with
 |nil=>simp
 |cons c cs ih=>cases n<;>simp[ih]
@[simp]theorem zZt{n:Nat}:jO (cs.take n)=(jO cs).take n:=by
 induction cs generalizing n with
 |nil=>simp
 |cons c cs ih=>cases n<;>simp[ih]
def qV(cs:wE):Prop:=jO cs=cs/\∀rf g,vwL rf g cs=cs
theorem qV.nil:qV []:=⟨by simp,by simp⟩
theorem qV.append(h:qV cs)(k:qV ds):qV (cs++ds):=⟨by simp[h.1,k.1],fun rf g=>by simp[h.2,k.2]⟩
theorem qV.drop(h:qV cs)(n:Nat):qV (cs.drop n):=⟨by simp[h.1],fun rf g=>by simp[h.2]⟩
theorem qV.take(h:qV cs)(n:Nat):qV (cs.take n):=⟨by simp[h.1],fun rf g=>by simp[h.2]⟩
theorem qV.int{k:IntKind}{n:Int}(h:qV cs):qV (.lit (.int k n)::cs):=⟨by simp[h.1],fun rf g=>by simp[h.2]⟩
theorem qV.lit(h:qV cs):qV (.lit v::cs):=⟨by simp[h.1],fun rf g=>by simp[h.2]⟩
theorem qV.sl{n:Nat}(k:qV ds)(h:qV cs):qV (.sl n ds::cs):=⟨by simp[h.1,k.1],fun rf g=>by simp[h.2,k.2]⟩
@[simp]theorem qB8:qP [] l=none:=rfl
@[simp]theorem zA6{k l:Nat}{ks:wA}:qP (k::ks) l=if l=k then some 0 else (qP ks l).map (· + 1):=rfl
@[simp]theorem qDD{n l:Nat}:back [] n l=n+l:=by cases l<;>rfl
variable{js:wA}
@[simp]theorem qA9{j n:Nat}:back (j::js) n 0=j:=rfl
@[simp]theorem zOk{j n l:Nat}:back (j::js) n (l+1)=back js n l:=rfl
@[simp]theorem zZA{s t:St}:q9 s [] t=s++t:=by simp only[q9]
@[simp]theorem zDm{s os:St}{j:Nat}{o:AObj}:q9 s (j::js) (o::os)=q9 (s.set j o) js os:=rfl
@[simp]theorem qA6:dD js [] []:=trivial
@[simp]theorem zXO{a a':A}{aS aS':wE}:dD js (a'::aS') (a::aS)=((a=vw j5 (qP js) a'\/a=nrm0 (vw j5 (qP js) a'))/\dD js aS' aS):=rfl
def zKh(o:Option AObj)(J:AObj->Prop):Prop:=match o with
 |some o=>J o
 |none=>False
@[simp]theorem zZx{o:AObj}{J:AObj->Prop}:zKh (some o) J=J o:=rfl
@[simp]theorem qBO:aB U rf g [] []:=trivial
@[simp]theorem zMB{j:Nat}{o:AObj}{os:St}:aB U rf g (j::js) (o::os)=(zKh U[j]? (fun p=>o=vwO rf g p\/o=xW (vwO rf g p))/\aB U rf g js os):=by simp only[aB,zKh];cases U[j]?<;>rfl
@[simp]theorem qJJ:vwO rf g (.box cs)=.box (vwL rf g cs):=rfl
variable{fz:Bool}{e:TypeId}
@[simp]theorem qJK{sz n:Nat}:vwO rf g (.row fz e sz n cs)=.row fz e sz n (vwL rf g cs):=rfl
variable{fr:Bool}{nk:Nat}{es:List (wB×A)}
@[simp]theorem qAe:vwO rf g (.mp fr nk es)=.mp fr nk (es.map fun p=>(p.1,vw rf g p.2)):=rfl
@[simp]theorem qJL:vwO rf g .rsv=.rsv:=rfl
@[simp]theorem qGJ:xW .rsv=.rsv:=rfl
@[simp]theorem qHd{n:Nat}:cH js n .rsv=.rsv:=rfl
variable{met:wA}
@[simp]theorem qAc{m n:Nat}:vwO rf g (.it m n met)=(match g m with|some i=>AObj.it i n met|none=>.dead):=rfl
@[simp]theorem qJz:xW (.mp fr nk es)=.mp fr nk (es.map fun p=>(p.1,nrm0 p.2)):=rfl
@[simp]theorem qJx{m n:Nat}:xW (.it m n met)=.it m n met:=rfl
@[simp]theorem qJ5{n:Nat}:cH js n (.mp fr nk es)=.mp fr nk (es.map fun p=>(p.1,ren js n p.2)):=rfl
@[simp]theorem qJ3{n m k:Nat}:cH js n (.it m k met)=.it (back js n m) k met:=rfl
@[simp]theorem qAd{M:Nat}{r:Loop}{es:List (Nat×A)}:vwO rf g (.lp b r M es)=.lp b r M (es.map fun p=>(p.1,vw rf g p.2)):=rfl
@[simp]theorem qJy{M:Nat}{r:Loop}{es:List (Nat×A)}:xW (.lp b r M es)=.lp b r M (es.map fun p=>(p.1,nrm0 p.2)):=rfl
@[simp]theorem qJ4{n b M:Nat}{r:Loop}{es:List (Nat×A)}:cH js n (.lp b r M es)=.lp b r M (es.map fun p=>(p.1,ren js n p.2)):=rfl
@[simp]theorem qGH:xW (.box cs)=.box (jO cs):=rfl
@[simp]theorem qGI{sz n:Nat}:xW (.row fz e sz n cs)=.row fz e sz n (jO cs):=rfl
@[simp]theorem qHb{n:Nat}:cH js n (.box cs)=.box (zZC js n cs):=rfl
@[simp]theorem qHc{n:Nat}{sz m:Nat}:cH js n (.row fz e sz m cs)=.row fz e sz m (zZC js n cs):=rfl
@[simp]theorem qMX{n:Nat}{a:A}:ren js n a=vw j5 (fun l=>some (back js n l)) a:=rfl
@[simp]theorem qJ2{n:Nat}:zZC js n cs=vwL j5 (fun l=>some (back js n l)) cs:=rfl
def zSL(k:Nat)(o:Option AObj)(n:Nat)(J:List A->A):A:=match o with
 |some (.row _ _ _ m cs)=>if n=m then J cs else .any
 |_=>.any
variable{J:List A->A}
@[simp]theorem zZN{k n m:Nat}{sz:Nat}:zSL k (some (.row fz e sz m cs)) n J=if n=m then J cs else .any:=rfl
@[simp]theorem qBN{b:Bool}{l n:Nat}:seen U g 0 b l n=.any:=rfl
@[simp]theorem qBM{k l n:Nat}:seen U g (k+1) false l n=zSL k U[l]? n (fun cs=>.sl n (vwL (seen U g k) g cs)):=by
 simp only[seen,zSL];cases U[l]? with
 |none=>rfl
 |some o=>cases o<;>rfl
def zK0(o:Option AObj)(J:List A->A):A:=match o with
 |some (.box cs)=>J cs
 |_=>.any
@[simp]theorem qBK:zK0 (some (.box cs)) J=J cs:=rfl
@[simp]theorem qBL{sz n:Nat}:zK0 (some (.row fz e sz n cs)) J=.any:=rfl
@[simp]theorem zZM:zK0 none J=.any:=rfl
@[simp]theorem qHp{k l n:Nat}:seen U g (k+1) true l n=zK0 U[l]? (fun cs=>.rptr ((vwL (seen U g k) g cs).drop n)):=by
 simp only[seen,zK0];cases U[l]? with
 |none=>rfl
 |some o=>cases o<;>rfl
def zOa:List A->A
 |[x]=>x
 |l=>.tup l
@[simp]theorem qBT{x:A}:zOa [x]=x:=rfl
@[simp]theorem qBS:zOa []=.tup []:=rfl
@[simp]theorem qBU{x y:A}{l:wE}:zOa (x::y::l)=.tup (x::y::l):=rfl
def zFj(env:Env) (U:St):List RS->(List A->Prop)->Prop
 |[],J=>J []
 | .slot t::rs,J=>zFj env U rs fun l=>J (env t::l)
 | .cell a n agg::rs,J=>m7 ((ldA U n (env a)).bind (gJ agg)) fun r=>zFj env U rs fun l=>J (r::l)
@[simp]theorem qHf{J:List A->Prop}:zFj env U [] J=J []:=rfl
variable{rs:List RS}
@[simp]theorem qBC{t:Nat}{J:List A->Prop}:zFj env U (.slot t::rs) J=zFj env U rs fun l=>J (env t::l):=rfl
@[simp]theorem qBB{a n:Nat}{agg:Bool}{J:List A->Prop}:zFj env U (.cell a n agg::rs) J=m7 ((ldA U n (env a)).bind (gJ agg)) fun r=>zFj env U rs fun l=>J (r::l):=rfl
theorem zIm:∀{rs:List RS} {J:List A->Prop},zFj env U rs J=match cZ env U rs with|some l=>J l|none=>False
 |[],J=>rfl
 | .slot t::rs,J=>by simp only[zFj,cZ,o7];rw[zIm];cases cZ env U rs<;>rfl
 | .cell a n agg::rs,J=>by
  simp only[zFj,cZ,o7];cases (ldA U n (env a)).bind (gJ agg)with
  |none=>rfl
  |some r =>
   simp only[m7];rw[zIm];cases cZ env U rs<;>rfl
@[simp]theorem qJ6{R:Out->St->Prop}:zFk rs R env U = zFj env U rs fun l=>R (.ret (zOa l)) U:=by
 rw[zIm,zFk,zP8];cases cZ env U rs with
 |none=>rfl
 |some l =>
  cases l with
  |nil=>rfl
  |cons x l=>cases l<;>rfl
def rY(n:Nat)(r:A) (U1:St)(o:Out) (U':St):Prop :=
 ∃(r':A) (ks:wA) (fuel:Nat),o=.ret r'/\(∀i,i<n->ks[i]?=some i)/\ks.Nodup/\aB U' (seen U' (qP ks) fuel) (qP ks) ks U1 /\
  (r=vw (seen U' (qP ks) fuel) (qP ks) r'\/r=nrm0 (vw (seen U' (qP ks) fuel) (qP ks) r'))
variable{r:A}{U0 U1:St}
theorem zI{fn:Func}{c:Code}{k:K}(hf:P.funcs[f]?=some fn)(hb:fn.body=some c)(hc:zU P fn.ntmps c=some k.erase)(hr:i7 P fn.results.toList=some rs)
 {args:wE} (h:wpF P k rs args U0 (rY U0.length r U1)):Ret P f args U0 r U1:=zAF (uJ hf hb hc hr h)
theorem zM{hint:Nat->Option wD}{fn:Func}{c:Code}{k:K}(hf:P.funcs[f]?=some fn)(hb:fn.body=some c)(hc:qJ P fn.ntmps hint c=some k.erase)(hr:i7 P fn.results.toList=some rs)
 {args:wE} (h:wpF P k rs args U0 (rY U0.length r U1)):Ret P f args U0 r U1:=zAF (r8 hf hb hc hr h)
variable{r':A}{U':St}
theorem zA(fuel:Nat)(h:r=vw (seen U' (fun _=>none) fuel) (fun _=>none) r'\/r=nrm0 (vw (seen U' (fun _=>none) fuel) (fun _=>none) r')):rY 0 r [] (.ret r') U' :=
 ⟨r',[],fuel,rfl,fun i hi=>by omega,by simp,trivial,h⟩
def kv:List Nat->Bool|[]=>true|a::l=>if l.contains a then false else kv l
theorem ku:∀{l:wA},kv l=true->l.Nodup
 |[],_=>List.nodup_nil
 |a::l,h=>by
  simp[kv] at h;exact List.nodup_cons.2 ⟨h.1,ku h.2⟩
def km(n:Nat)(l:wA):Bool:=if l.take n=List.range n then kv l else false
theorem kh{n:Nat}{l:wA}(h:km n l=true):l.Nodup:=by
 simp[km] at h;exact ku h.2
theorem kg{n:Nat}{l:wA}(h:km n l=true)(i:Nat)(hi:i<n):l[i]?=some i:=by
 simp[km] at h;rw[<-List.getElem?_take_of_lt hi,h.1];simp[hi]
theorem zG{n:Nat} (ks:wA)(fuel:Nat)(hk:∀i,i<n->ks[i]?=some i)(hd:ks.Nodup)(ho:aB U' (seen U' (qP ks) fuel) (qP ks) ks U1)
 (h:r=vw (seen U' (qP ks) fuel) (qP ks) r'\/r=nrm0 (vw (seen U' (qP ks) fuel) (qP ks) r')):rY n r U1 (.ret r') U':=⟨r',ks,fuel,rfl,hk,hd,ho,h⟩
theorem ke{n:Nat} (ks:wA)(fuel:Nat)(hk:km n ks=true)(ho:aB U' (seen U' (qP ks) fuel) (qP ks) ks U1)
 (h:r=vw (seen U' (qP ks) fuel) (qP ks) r'\/r=nrm0 (vw (seen U' (qP ks) fuel) (qP ks) r')):rY n r U1 (.ret r') U':=zG ks fuel (kg hk) (kh hk) ho h
theorem mv{n:Nat} (ks:wA)(fuel:Nat)(hk:km n ks=true)(h:(aB U' (seen U' (qP ks) fuel) (qP ks) ks U1)/\(r=vw (seen U' (qP ks) fuel) (qP ks) r'\/r=nrm0 (vw (seen U' (qP ks) fuel) (qP ks) r'))):rY n r U1 (.ret r') U':=ke ks fuel hk h.1 h.2
theorem zK6:∀{s:St} {j:Nat} {o:AObj},s[j]?=some o->s.set j o=s
 |[],_,_,h=>by simp at h
 |x::s,0,o,h=>by simp at h;simp[h]
 |x::s,j+1,o,h=>by simp only[jBo]at h;simp[zK6 h]
theorem zT{args args':wE}(h:Ret P f args [] r [])(ha:dD [] args' args)(hr:∀m,vw j5 (fun l=>some (m+l)) r=r)(hq:K' (env.put d r) U):aV P f args' U (outK d env K' Qp):=by
 refine cS h [] (by simp) trivial ha ?_;have:ren [] U.length r=r:=by
  have:=hr U.length
  simpa[ren]using this
 rw[this]
 simpa[outK]using hq
theorem mu{args args':wE}(h:Ret P f args [] r [])(e:(dD [] args' args)/\∀m,vw j5 (fun l=>some (m+l)) r=r)(hq:K' (env.put d r) U):aV P f args' U (outK d env K' Qp):=zT h e.1 e.2 hq
theorem qA{args args':wE}(h:Ret P f args [] r [])(ha:dD [] args' args)(hr:∀m,vw j5 (fun l=>some (m+l)) r=r)(hq:KD (env.put d r)):tP P U d KD f args' env:=by
 refine⟨r,cS h [] (by simp) trivial ha ?_,hq⟩;have:ren [] U.length r=r:=by
  have:=hr U.length
  simpa[ren]using this
 rw[this];simp
theorem zW{args args':wE} (h:Ret P f args U0 r U1)(js:wA)(hd:js.Nodup)(ho:aB U j5 (qP js) js U0)(ha:dD js args' args)
 (hq:K' (env.put d (ren js U.length r)) (q9 U js (U1.map (cH js U.length)))):aV P f args' U (outK d env K' Qp):=cS h js hd ho ha (by simpa[outK]using hq)
theorem mr{args args':wE} (h:Ret P f args U0 r U1)(js:wA)(e:(js.Nodup)/\(aB U j5 (qP js) js U0)/\dD js args' args)
 (hq:K' (env.put d (ren js U.length r)) (q9 U js (U1.map (cH js U.length)))):aV P f args' U (outK d env K' Qp):=zW h js e.1 e.2.1 e.2.2 hq
def zWg{S:Type}(E:S->List (Nat×A))(T:S->St)(I:S->Prop) (μ:S->Nat)(n:Nat)(e:Env)(t:St):Prop:=∃s,I s/\μ s=n/\e=qS (E s)/\t=T s
theorem qO{S:Type}{W:(Ex->wK)->wK}(E:S->List (Nat×A))(T:S->St)(I:S->Prop) (μ:S->Nat)(s0:S)(h0:I s0)(start:bW n0 (qS (E s0)) (T s0) env U)
 (round:∀s,I s->W (rnd n0 (zWg E T I μ) (μ s) Q) (qS (E s)) (T s)):zI9 n0 W Q env U:=zUA E T I μ s0 h0 start round
theorem zS{S:Type}{E:S->List (Nat×A)}{T:S->St}{I:S->Prop} {μ:S->Nat}{n:Nat}(s:S)(hs:I s)(hm : μ s<n)(hw:bW n0 (qS (E s)) (T s) env U):rnd n0 (zWg E T I μ) n Q .norm env U :=
 zZE s hs hm hw
theorem zP(ks:wA)(fuel:Nat){l:List (Nat×A)} (hk:∀i,i<n0->ks[i]?=some i)(hd:ks.Nodup)(ho:aB U (seen U (qP ks) fuel) (qP ks) ks U')
 (hl:∀p∈l,p.2=vw (seen U (qP ks) fuel) (qP ks) (env p.1)\/p.2=nrm0 (vw (seen U (qP ks) fuel) (qP ks) (env p.1))):bW n0 (qS l) U' env U:=bW.sel ks fuel l hk hd ho hl
theorem kf(ks:wA)(fuel:Nat){l:List (Nat×A)} (hk:km n0 ks=true)(ho:aB U (seen U (qP ks) fuel) (qP ks) ks U')
 (hl:∀p∈l,p.2=vw (seen U (qP ks) fuel) (qP ks) (env p.1)\/p.2=nrm0 (vw (seen U (qP ks) fuel) (qP ks) (env p.1))):bW n0 (qS l) U' env U:=zP ks fuel (kg hk) (kh hk) ho hl
theorem mw(ks:wA)(fuel:Nat){l:List (Nat×A)} (hk:km n0 ks=true)(h:(aB U (seen U (qP ks) fuel) (qP ks) ks U')/\∀p∈l,p.2=vw (seen U (qP ks) fuel) (qP ks) (env p.1)\/p.2=nrm0 (vw (seen U (qP ks) fuel) (qP ks) (env p.1))):bW n0 (qS l) U' env U:=kf ks fuel hk h.1 h.2
end
end Go.Abs
namespace Go.Abs
section
variable{P:Program}{KD:Env->Prop}{env:Env} {U:St}{d:wC}
variable{f:FuncId}
theorem j3{args args':wE}{r:A}(h:Ret P f args [] r [])(ha:dD [] args' args)(hr:∀m,vw j5 (fun l=>some (m+l)) r=r)(hq:KD (env.put d r)):zBL P U d KD f args' env:=by
 refine⟨r,fun τ _=>cS h [] (by simp) trivial ha ?_,hq⟩;have:ren [] τ.length r=r:=by
  have:=hr τ.length
  simpa[ren]using this
 rw[this];simp
def tF(U:St)(js:wA):List Nat->St->Prop
 |[],[]=>True
 |j::ks,o::os=>(zKh U[j]? fun p=>(∃cs,p=.box cs)/\(∀n,cH js n o=p)/\(o=vwO j5 (qP js) p\/o=xW (vwO j5 (qP js) p)))/\tF U js ks os
 |_,_=>False
@[simp]theorem zZL{js:wA}:tF U js [] []:=trivial
@[simp]theorem zXy{js ks:wA}{j:Nat}{o:AObj}{os:St}:tF U js (j::ks) (o::os)=((zKh U[j]? fun p=>(∃cs,p=.box cs)/\(∀n,cH js n o=p)/\(o=vwO j5 (qP js) p\/o=xW (vwO j5 (qP js) p)))/\tF U js ks os):=rfl
theorem vR{js:wA} {τ:St}(hk:a8 U τ):∀{ks:wA} {os:St},tF U js ks os->tF τ js ks os
 |[],[],_=>trivial
 |j::ks,o::os,h=>by
  obtain⟨h1,h2⟩:=h;refine⟨?_,vR hk h2⟩;cases hj : U[j]? with
  |none=>rw[hj]at h1;exact h1.elim
  |some p =>
   rw[hj]at h1;obtain⟨⟨cs,rfl⟩,h3⟩:=h1;rw[hk j cs hj];exact⟨⟨cs,rfl⟩,h3⟩
 |[],_::_,h=>h.elim
 |_::_,[],h=>h.elim
theorem zFp{js:wA}:∀{ks:wA} {os:St},tF U js ks os->aB U j5 (qP js) ks os
 |[],[],_=>trivial
 |j::ks,o::os,h=>by
  obtain⟨h1,h2⟩:=h;refine⟨?_,zFp h2⟩;cases hj : U[j]? with
  |none=>rw[hj]at h1;exact h1.elim
  |some p=>rw[hj]at h1;exact h1.2.2
 |[],_::_,h=>h.elim
 |_::_,[],h=>h.elim
theorem zFo{js:wA}{n:Nat}:∀{ks:wA} {os:St},tF U js ks os->q9 U ks (os.map (cH js n)) = U
 |[],[],_=>by simp
 |j::ks,o::os,h=>by
  obtain⟨h1,h2⟩:=h;cases hj : U[j]? with
  |none=>rw[hj]at h1;exact h1.elim
  |some p =>
   rw[hj]at h1;simp only[jAi,zDm];rw[h1.2.1 n,zK6 hj];exact zFo h2
 |[],_::_,h=>h.elim
 |_::_,[],h=>h.elim
theorem zHA{args args':wE} {U0:St}{r:A}(h:Ret P f args U0 r U0)(js:wA)(hd:js.Nodup)(ho:tF U js js U0)(ha:dD js args' args)(hr:∀n,ren js n r=r)(hq:KD (env.put d r)) :
 zBL P U d KD f args' env:=by
 refine⟨r,fun τ hk=>cS h js hd (zFp (vR hk ho)) ha ?_,hq⟩;rw[hr,zFo (vR hk ho)];simp
end
end Go.Abs
namespace Go.Abs
section
variable{P:Program}{Qp:Value->wK}{Qd:Value->St->Prop}{K':wK}{env:Env} {U:St}{d:wC}{x y:Operand}
def zKc(a:A)(J:A->Prop):Prop:=match a with
 | .ptr l o=>J (.ptr l o)
 | .rptr cs=>J (.rptr cs)
 |_=>False
variable{l:Nat}
@[simp]theorem qBo{o:Nat}{J:A->Prop}:zKc (.ptr l o) J=J (.ptr l o):=rfl
variable{cs:wE}
@[simp]theorem zZq{J:A->Prop}:zKc (.rptr cs) J=J (.rptr cs):=rfl
theorem zPr{J:A->Prop}:jP (z7 env U (.nilc d x)) J=zKc (ev env x) J:=by simp only[z7,zKc,jP];generalize ev env x=a;cases a<;>simp
@[simp]theorem qHT:wpO P Qp K' (.nilc d x) env U = zKc (ev env x) fun r=>K' (env.put d r) U:=zPr (d:=d)
@[simp]theorem qAp{fl:Nat}:jX P Qd fl K' (.nilc d x) env U = wpO P cW K' (.nilc d x) env U:=by simp[jX,KOp.lite,KOp.keeps]
def zED:List A->(List Int->Prop)->Prop
 |[],J=>J []
 | .lit (.int .i64 n)::l,J=>zED l fun ks=>J (n::ks)
 |_,_=>False
variable{J:List Int->Prop}
@[simp]theorem qBj:zED [] J=J []:=rfl
@[simp]theorem zZh{n:Int}{l:wE}:zED (.lit (.int .i64 n)::l) J=zED l fun ks=>J (n::ks):=rfl
theorem zJT:∀(l:wE) (J:List Int->Prop),zED l J=match zBz l with|some ks=>J ks|none=>False
 |[],J=>rfl
 |a::l,J=>by
  cases a<;>try rfl
  rename_i v;cases v<;>try rfl
  rename_i k n;cases k<;>try rfl
  simp only[zED,zBz,zJT l];cases zBz l<;>rfl
def zFW(nk:Nat)(k:A)(J:List Int->Prop):Prop:=match zBx nk k with
 |some ks=>J ks
 |none=>False
variable{nk:Nat}
@[simp]theorem qFZ:zFW nk (.agg cs) J=zED cs fun ks=>(ks.length=nk/\nk≠1)/\J ks:=by
 simp only[zFW,zBx,zJT];cases zBz cs with
 |none=>rfl
 |some ks =>
  simp only;by_cases h:ks.length=nk/\nk≠1<;>simp[h]
@[simp]theorem qGa{n:Int}:zFW nk (.lit (.int .i64 n)) J=(nk=1/\J [n]):=by simp only[zFW,zBx];by_cases h:nk=1<;>simp[h]
def zCy(o:Option AObj)(J:Bool->Nat->List (wB×A)->Prop):Prop:=match o with
 |some (.mp fr nk es)=>J fr nk es
 |_=>False
@[simp]theorem qBn{fr:Bool}{es:List (wB×A)}{J:Bool->Nat->List (wB×A)->Prop}:zCy (some (.mp fr nk es)) J=J fr nk es:=rfl
def zSa(o:Option AObj)(J:Nat->Nat->List Nat->Prop):Prop:=match o with
 |some (.it m n met)=>J m n met
 |_=>False
@[simp]theorem qBi{m n:Nat}{met:wA}{J:Nat->Nat->List Nat->Prop}:zSa (some (.it m n met)) J=J m n met:=rfl
@[simp]theorem qKt{m:MOp}{xs:List Operand}:wpO P Qp K' (.mop d m xs) env U = dU m (xs.map (ev env)) (fun r τ=>K' (env.put d r) τ) U:=by simp only[wpO]
variable{K:A->St->Prop}
@[simp]theorem qJu:dU (.mk nk) [] K U = K (.map U.length) (U++[.mp true nk []]):=rfl
@[simp]theorem qGx{z:Value}{ok:Bool}{k:A}:dU (.get nk z ok) [.map l,k] K U = zFW nk k fun ks=>zCy U[l]? fun _ nk' es=>nk'=nk/\K (sU z ok (fF ks es)) U:=by
 simp only[dU,zFW,zCy];cases zBx nk k with
 |none=>rfl
 |some ks =>
  cases U[l]? with
  |none=>rfl
  |some o=>cases o<;>rfl
@[simp]theorem qG1{k v:A}:dU (.set nk) [.map l,k,v] K U = zFW nk k fun ks=>zCy U[l]? fun fr nk' es=>nk'=nk/\K (.lit undef) (U.set l (.mp fr nk (putI ks v es))):=by
 simp only[dU,zFW,zCy];cases zBx nk k with
 |none=>rfl
 |some ks =>
  cases U[l]? with
  |none=>rfl
  |some o=>cases o<;>rfl
@[simp]theorem qGv{k:A}:dU (.del nk) [.map l,k] K U = zFW nk k fun ks=>zCy U[l]? fun _ nk' es=>nk'=nk/\K (.tup []) (U.set l (.mp false nk (zCe ks es))):=by
 simp only[dU,zFW,zCy];cases zBx nk k with
 |none=>rfl
 |some ks =>
  cases U[l]? with
  |none=>rfl
  |some o=>cases o<;>rfl
@[simp]theorem qG0:dU .rng [.map l] K U = zCy U[l]? fun fr _ es=>fr=true/\K (.ptr U.length 0) (U++[.it l es.length []]):=by
 simp only[dU,zCy];cases U[l]? with
 |none=>rfl
 |some o =>
  cases o<;>try rfl
  rename_i fr nk es;cases fr<;>simp
@[simp]theorem qGz{j:Nat}:dU .nxt [.ptr j 0] K U = zSa U[j]? fun l n met=>zCy U[l]? fun fr _ es=>fr=true/\n=es.length /\
 (∀(i:Nat) (p:wB×A),i∉met->es[i]?=some p->K (.tup [.lit (.bool true),zD1 p.1,p.2]) (U.set j (.it l n (met++[i]))))/\((∀i,i<n->i∈met)->K (.tup [.lit (.bool false)]) U):=by
 simp only[dU,zCy,zSa];cases U[j]? with
 |none=>rfl
 |some o =>
  cases o<;>try rfl
  rename_i l n met;simp only;cases U[l]? with
  |none=>rfl
  |some o =>
   cases o<;>try rfl
   rename_i fr nk es;cases fr<;>simp
@[simp]theorem qGw{j:Nat}:dU .ent [.ptr j 0] K U = zSa U[j]? fun l n met=>zCy U[l]? fun fr _ es=>fr=true/\∃i p,met.getLast?=some i/\es[i]?=some p/\n=es.length/\K (.tup [zD1 p.1,p.2]) U:=by
 simp only[dU,zCy,zSa];cases U[j]? with
 |none=>rfl
 |some o =>
  cases o<;>try rfl
  rename_i l n met;simp only;cases U[l]? with
  |none=>rfl
  |some o =>
   cases o<;>try(cases met.getLast?<;>rfl)
   rename_i fr nk es;cases fr
   .cases met.getLast?<;>simp
   .cases met.getLast? with
    |none=>simp
    |some i =>
     simp only;apply propext;cases hp:es[i]? with
     |none =>
      refine⟨fun h=>h.2.elim,?_⟩;rintro⟨_,i',p',h1,h2,_⟩;have h1:=jB0 h1;subst h1;rw[hp]at h2;exact absurd h2 (by simp)
     |some p =>
      refine⟨fun h=>⟨trivial,i,p,rfl,hp,h.1,h.2⟩,?_⟩;rintro⟨_,i',p',h1,h2,h3,h4⟩;have h1:=jB0 h1;subst h1;rw[hp]at h2;have h2:=jB0 h2;subst h2;exact⟨h3,h4⟩
@[simp]theorem qGt{sz:Nat}{zs:wL}{l n o k c:Nat}:dU (.clr sz zs) [.win l n o k c] K U = (match U[l]? with
 |some (.row fz e s m cs)=>(n=m/\s=sz/\fz=false/\o+k*sz<=cs.length)/\K (.tup []) (U.set l (.row false e sz n (cs.take o++(List.replicate k (zs.map jJ)).flatten++cs.drop (o+k*sz))))
 |_=>False):=rfl
@[simp]theorem qGy{e:TypeId}{sz bytes:Nat}{zs:wL}{k k':IntKind}{n c:Int}:dU (.mks e sz bytes zs) [.lit (.int k n),.lit (.int k' c)] K U = ((0<=n/\c=n/\n<=1000000000000/\bytes*n.toNat<=281474976710656)/\K (.row U.length n.toNat) (U++[.row false e sz n.toNat ((List.replicate n.toNat (zs.map jJ)).flatten)])):=rfl
@[simp]theorem qGu{k k':IntKind}{n:Int}:dU (.cvt k) [.lit (.int k' n)] K U = K (.lit (.int k (k.wrap n))) U:=rfl
@[simp]theorem qBm{n:Nat}:dU .str [.fsl n cs] K U = (match zAf cs with
 |some xs=>(xs.length=n/\n≠0)/\K (.lit (.string (strOfNums xs))) U
 |none=>False):=rfl
@[simp]theorem qBl{xs:wE}:dU .boom xs K U = False:=by cases xs<;>rfl
@[simp]theorem qJW{rf:Bool->Nat->Nat->A}{g:Nat->wC}(ks:wB):vw rf g (zD1 ks)=zD1 ks:=by
 have:∀ks:wB,vwL rf g (ks.map fun n=>A.lit (.int .i64 n))=ks.map fun n=>A.lit (.int .i64 n):=fun ks=>by
  induction ks with
  |nil=>rfl
  |cons k ks ih=>simp[vwL,ih]
 match ks with
 |[]=>simp[zD1]
 |[n]=>simp[zD1]
 |a::b::ks=>simp only[zD1,qAf,this]
end
end Go.Abs
namespace Go.Abs
attribute [simp] A.bnd dT AObj.bnd uG
@[simp]theorem qK1{b k:Nat}:(yv b).bnd k=true:=rfl
section
variable{P:Program}{Qp:Value->wK}{Qd:Value->St->Prop}{K':wK}{env:Env} {U:St}{d:wC}{x:Operand}
def zZg:A->Option Int
 | .lit (.int _ j)=>some j
 |_=>none
variable{j:Int}
@[simp]theorem qGl{k:IntKind}:zZg (.lit (.int k j))=some j:=rfl
@[simp]theorem zWj{n:Nat}:jI env n none=some (n:Int):=rfl
@[simp]theorem zWk{n:Nat}:jI env n (some x)=zZg (ev env x):=by
 simp only[jI,zZg];cases ev env x with
 |lit u=>cases u<;>rfl
 |_=>rfl
def oP(a b:Option Int)(J:Int->Int->Prop):Prop:=match a,b with
 |some l,some h=>J l h
 |_,_=>False
@[simp]theorem zXT{l h:Int}{J:Int->Int->Prop}:oP (some l) (some h) J=J l h:=rfl
def zSR(a:A)(lo:Option Int)(hi:Nat->Option Int)(sz:Nat)(J:A->Prop):Prop:=match a with
 | .sl n cs=>oP lo (hi n) fun l h=>(0<=l/\l<=h/\h<=n)/\J (.sl (h-l).toNat ((cs.drop (l.toNat*sz)).take ((h-l).toNat*sz)))
 | .fsl n cs=>oP lo (hi n) fun l h=>(0<=l/\l<=h/\h<=n)/\J (.sl (h-l).toNat ((cs.drop (l.toNat*sz)).take ((h-l).toNat*sz)))
 | .nil=>oP lo (hi 0) fun l h=>(l=0/\h=0)/\J .nil
 |_=>False
variable{J:A->Prop}{cs:wE}{lo:Option Int}{hi:Nat->Option Int}{sz:Nat}
@[simp]theorem qJC{n:Nat}:zSR (.sl n cs) lo hi sz J=oP lo (hi n) fun l h=>(0<=l/\l<=h/\h<=n)/\J (.sl (h-l).toNat ((cs.drop (l.toNat*sz)).take ((h-l).toNat*sz))):=rfl
@[simp]theorem qHs{n:Nat}:zSR (.fsl n cs) lo hi sz J=oP lo (hi n) fun l h=>(0<=l/\l<=h/\h<=n)/\J (.sl (h-l).toNat ((cs.drop (l.toNat*sz)).take ((h-l).toNat*sz))):=rfl
@[simp]theorem qHt:zSR .nil lo hi sz J=oP lo (hi 0) fun l h=>(l=0/\h=0)/\J .nil:=rfl
@[simp]theorem qKz{lo hi:Option Operand}:wpO P Qp K' (.slc d x sz lo hi none) env U = zSR (ev env x) (jI env 0 lo) (fun n=>jI env n hi) sz fun r=>K' (env.put d r) U:=by
 show jP (z7 env U (.slc d x sz lo hi none)) _=_;simp only[z7,zSR];generalize ev env x=a;cases a<;>try rfl
 all_goals
  simp only[oP];generalize jI env _ lo=u;generalize jI env _ hi=v;cases u<;>cases v<;>rfl
def tV(o:Option AObj)(n sz:Nat)(J:Prop):Prop:=match o with
 |some (.row _ _ s m _)=>if n=m/\s=sz then J else False
 |_=>False
variable{fz:Bool}
@[simp]theorem zZI{e s n m sz:Nat}{J:Prop}:tV (some (.row fz e s m cs)) n sz J=((n=m/\s=sz)/\J):=by simp only[tV];by_cases h:n=m/\s=sz<;>simp[h]
def zGY(U:St)(a:A)(lo:Option Int)(hi:Nat->Option Int)(sz:Nat)(J:A->Prop):Prop:=match a with
 | .row l n=>tV U[l]? n sz (oP lo (hi n) fun l' h=>(0<=l'/\l'<=h/\h<=n)/\J (.win l n (l'.toNat*sz) (h-l').toNat sz))
 | .win l n o k c=>tV U[l]? n sz (oP lo (hi k) fun l' h=>((0<=l'/\l'<=h/\h<=k)/\c=sz)/\J (.win l n (o+l'.toNat*sz) (h-l').toNat sz))
 |_=>False
@[simp]theorem qBE{l n:Nat}:zGY U (.row l n) lo hi sz J=tV U[l]? n sz (oP lo (hi n) fun l' h=>(0<=l'/\l'<=h/\h<=n)/\J (.win l n (l'.toNat*sz) (h-l').toNat sz)):=rfl
@[simp]theorem qBF{l n o k c:Nat}:zGY U (.win l n o k c) lo hi sz J=tV U[l]? n sz (oP lo (hi k) fun l' h=>((0<=l'/\l'<=h/\h<=k)/\c=sz)/\J (.win l n (o+l'.toNat*sz) (h-l').toNat sz)):=rfl
theorem zGZ{lo hi:Option Operand}:jP (z7 env U (.rslc d x sz lo hi)) J=zGY U (ev env x) (jI env 0 lo) (fun n=>jI env n hi) sz J:=by
 simp only[z7,zGY];generalize ev env x=a;have key:∀(ob:Option AObj) (n k:Nat) (f:Int->Int->Prop×A),jP (match ob with
  |some (.row _ _ s m _)=>if n=m/\s=sz then (match jI env 0 lo,jI env k hi with
   |some l',some h=>some (f l' h)
   |_,_=>none)else none
  |_=>none) J=tV ob n sz (oP (jI env 0 lo) (jI env k hi) fun l' h=>(f l' h).1/\J (f l' h).2):=by
  intro ob n k f;simp only[tV,oP];cases ob with
  |none=>rfl
  |some ob =>
   cases ob<;>try rfl
   simp only;split
   .generalize jI env 0 lo=u;generalize jI env k hi=v;cases u<;>cases v<;>rfl
   .rfl
 cases a<;>try rfl
 .rename_i l n;exact key U[l]? n n fun l' h=>(0<=l'/\l'<=h/\h<=n,.win l n (l'.toNat*sz) (h-l').toNat sz)
 .rename_i l n o k c;exact key U[l]? n k fun l' h=>((0<=l'/\l'<=h/\h<=k)/\c=sz,.win l n (o+l'.toNat*sz) (h-l').toNat sz)
@[simp]theorem qHV{lo hi:Option Operand}:wpO P Qp K' (.rslc d x sz lo hi) env U = zGY U (ev env x) (jI env 0 lo) (fun n=>jI env n hi) sz fun r=>K' (env.put d r) U:=zGZ (d:=d)
@[simp]theorem qAr{fl:Nat}{lo hi:Option Operand}:jX P Qd fl K' (.rslc d x sz lo hi) env U = zGY (oD fl U) (ev env x) (jI env 0 lo) (fun n=>jI env n hi) sz fun r=>K' (env.put d r) U:=zGZ (d:=d)
@[simp]theorem qFL{sz l n:Nat}{k:IntKind}:vB U sz (.row l n) (.lit (.int k j)) J=tV U[l]? n sz ((0<=j/\j<n)/\J (.rwp l n (j.toNat*sz))):=by
 simp only[vB,tV];cases U[l]? with
 |none=>rfl
 |some o=>cases o<;>rfl
@[simp]theorem qFM{sz l n o k' c:Nat}{k:IntKind}:vB U sz (.win l n o k' c) (.lit (.int k j)) J=tV U[l]? n sz ((0<=j/\j<k')/\J (.rwp l n (o+j.toNat*sz))):=by
 simp only[vB,tV];cases U[l]? with
 |none=>rfl
 |some o=>cases o<;>rfl
def zDq(o:Option AObj)(n:Nat)(J:Prop):Prop:=match o with
 |some (.row _ _ _ m _)=>if n=m then J else False
 |_=>False
@[simp]theorem zZH{e s n m:Nat}{J:Prop}:zDq (some (.row fz e s m cs)) n J=(n=m/\J):=by simp only[zDq];by_cases h:n=m<;>simp[h]
@[simp]theorem qGi{l n:Nat}:oL U (.row l n) J=zDq U[l]? n (J (.lit (.int .i64 n))):=by
 simp only[oL,zDq];cases U[l]? with
 |none=>rfl
 |some o=>cases o<;>rfl
@[simp]theorem qGj{l n o k c:Nat}:oL U (.win l n o k c) J=zDq U[l]? n (J (.lit (.int .i64 k))):=by
 simp only[oL,zDq];cases U[l]? with
 |none=>rfl
 |some o=>cases o<;>rfl
@[simp]theorem qGf{l n o k c:Nat}:zFX U (.win l n o k c) J=zDq U[l]? n (J (.lit (.int .i64 k))):=by
 simp only[zFX,zDq];cases U[l]? with
 |none=>rfl
 |some o=>cases o<;>rfl
def zQ6(ob:Option AObj)(l n o off:Nat):Option A:=match ob with
 |some (.row _ _ _ m _)=>if n=m then some (.rwp l n (o+off))else none
 |_=>none
@[simp]theorem zXK{e s n m l o off:Nat}:zQ6 (some (.row fz e s m cs)) l n o off=if n=m then some (.rwp l n (o+off))else none:=rfl
@[simp]theorem qA3{l n o off:Nat}:zCO U off (.rwp l n o)=zQ6 U[l]? l n o off:=by
 simp only[zCO,zQ6];cases U[l]? with
 |none=>rfl
 |some o=>cases o<;>rfl
end
mutual
theorem zF9{rf:Bool->Nat->Nat->A}{g:Nat->wC}{k:Nat}(hg:∀l,l<k->g l=some l):∀(a:A),a.bnd k=true->vw rf g a=a
 | .any,_=>by simp
 | .nil,_=>by simp
 | .lit _,_=>by simp
 | .agg cs,h=>by simp[lC hg cs h]
 | .tup cs,h=>by simp[lC hg cs h]
 | .sl _ cs,h=>by simp[lC hg cs h]
 | .fsl _ cs,h=>by simp[lC hg cs h]
 | .rptr cs,h=>by simp[lC hg cs h]
 | .ptr l _,h=>by simp[hg l (by simpa using h)]
 | .row l _,h=>by simp[hg l (by simpa using h)]
 | .rwp l _ _,h=>by simp[hg l (by simpa using h)]
 | .win l _ _ _ _,h=>by simp[hg l (by simpa[A.bnd]using h)]
 | .map l,h=>by simp only[vw];rw[hg l (by simpa using h)]
 | .clo _ fs cs,h=>by simp only[A.bnd,jA6]at h;simp[lC hg fs h.1,lC hg cs h.2]
theorem lC{rf:Bool->Nat->Nat->A}{g:Nat->wC}{k:Nat}(hg:∀l,l<k->g l=some l):∀(cs:wE),dT k cs=true->vwL rf g cs=cs
 |[],_=>by simp
 |c::cs,h=>by simp only[dT,jA6]at h;simp[zF9 hg c h.1,lC hg cs h.2]
end
theorem zI2{rf:Bool->Nat->Nat->A}{g:Nat->wC}{k:Nat}(hg:∀l,l<k->g l=some l)(o:AObj)(h:o.bnd k=true):vwO rf g o=o:=by
 cases o with
 |dead=>rfl
 |box cs=>simp only[AObj.bnd]at h;simp[lC hg cs h]
 |row fz e sz n cs=>simp only[AObj.bnd]at h;simp[lC hg cs h]
 |lp b r M es =>
  simp only[AObj.bnd,jB5]at h;simp only[qAd,AObj.lp.injEq,true_and]
  conv=>rhs;rw[<-List.map_id es]
  exact jC2 fun p hp=>by rw[zF9 hg _ (h p hp)];rfl
 |mp fr nk es =>
  simp only[AObj.bnd,jB5]at h;simp only[qAe,AObj.mp.injEq,true_and]
  conv=>rhs;rw[<-List.map_id es]
  exact jC2 fun p hp=>by rw[zF9 hg _ (h p hp)];rfl
 |it m n met =>
  simp only[AObj.bnd,decide_eq_true_eq]at h;rw[qAc,hg m h]
 |rsv=>rfl
theorem zC7:∀{l:wA} {x:Nat} {r:wA},x∉l->qP (l++r) x=(qP r x).map (· + l.length)
 |[],x,r,_=>by simp
 |y::l,x,r,h=>by
  simp only[jA3,not_or]at h;simp only[jB6,zA6,h.1,if_false,zC7 h.2,Option.map_map]
  congr 1
theorem zA5:∀{l:wA} {x i:Nat} {r:wA},qP l x=some i->qP (l++r) x=some i
 |[],x,i,r,h=>by simp at h
 |y::l,x,i,r,h=>by
  simp only[jB6,zA6]at h⊢;split
  .rename_i e;simpa[e]using h
  .rename_i e;simp only[e,if_false,jAh]at h;obtain⟨j,hj,rfl⟩:=h;rw[zA5 hj];rfl
theorem vJ:∀{k l:Nat},l<k->qP (List.range k) l=some l
 |k+1,l,h=>by
  rw[List.range_succ];rcases jAx l k with hl|hl
  .exact zA5 (vJ hl)
  .have e:l=k:=by omega
   subst e;rw[zC7 (by simp)];simp
def Cl(m:Nat)(S:St):Prop:=S.length=m/\∀o∈S,o.bnd m=true
theorem Cl.app{m k:Nat}{S own:St}(h:Cl m S)(hk:own.length=k)(ho:∀o∈own,o.bnd (m+k)=true):Cl (m+k) (S++own):=by
 refine⟨by simp[h.1,hk],fun o hm=>?_⟩;rcases jAc.1 hm with hm|hm
 .exact AObj.bnd_mono (Nat.le_add_right m k) _ (h.2 o hm)
 .exact ho o hm
section
variable{P:Program}{n0:Nat}{Qp:Value->wK}{Qd:Value->St->Prop}{K':wK}{KD:Env->Prop}{Q:Ex->wK}{env:Env} {U:St}{d:wC}
theorem aL{m k:Nat}{S own:St}(h:S.length=m):(S++own)[m+k]?=own[k]?:=by rw[jAy (by omega)];congr 1;omega
variable{m:Nat}
theorem aW{S own:St}(h:S.length=m):(S++own)[m]?=own[0]?:=by rw[jAy (by omega)];congr 1;omega
variable{o:AObj}
theorem cM{m k:Nat}{S own:St}(h:S.length=m):(S++own).set (m+k) o=S++own.set k o:=by rw[List.set_append_right _ _ (by omega)];congr 2;omega
theorem zBF{S own:St}(h:S.length=m):(S++own).set m o=S++own.set 0 o:=by rw[List.set_append_right _ _ (by omega)];congr 2;omega
theorem zFs{rf:Bool->Nat->Nat->A}{g:Nat->wC}{m:Nat}(hg:∀l,l<m->g l=some l) {U:St}:∀(k:Nat) (S:St),k+S.length<=m->(∀i o,S[i]?=some o->U[k+i]?=some o)->(∀o∈S,o.bnd m=true)->aB U rf g (List.range' k S.length) S
 |_,[],_,_,_=>trivial
 |k,o::S,hk,h,hb=>by simp only[jA9,List.range'_succ,zMB];refine⟨?_,zFs hg (k+1) S (by simp only[jA9]at hk;omega) (fun i o' hi=>by have:=h (i+1) o' (by simpa using hi);rwa[show k+1+i=k+(i+1) by omega]) (fun o' ho'=>hb o' (jAm _ ho'))⟩;have:=h 0 o (by simp);simp only[jC3]at this;rw[this];exact .inl (zI2 hg o (hb o (jAr ..))).symm
theorem zNS{rf:Bool->Nat->Nat->A}{S own:St}(h:Cl m S):aB (S++own) rf (qP (List.range m)) (List.range m) S:=by have:=zFs (rf:=rf) (g:=qP (List.range m)) (m:=m) (fun l hl=>vJ hl) (U:=S++own) 0 S (by rw[h.1];omega) (fun i o hi=>by rw[jB1,jAj (jA4.1 hi).1];exact hi) h.2;rw[h.1,<-List.range_eq_range']at this;exact this
theorem zCQ:∀{k j n l:Nat},l<k->back (List.range' j k) n l=j+l
 |k+1,j,n,0,_=>by simp[List.range'_succ]
 |k+1,j,n,l+1,h=>by simp only[List.range'_succ,zOk];rw[zCQ (by omega)];omega
theorem zDU{k n l:Nat}(h:l<k):back (List.range k) n l=l:=by rw[List.range_eq_range',zCQ h];omega
theorem zAA:∀{S' S own:St} (k:Nat) (pre:St),pre.length=k->S'.length=S.length->q9 (pre++S++own) (List.range' k S.length) S'=pre++S'++own
 |[],[],own,k,pre,_,_=>by simp
 |o'::S',o::S,own,k,pre,hk,hl=>by
  simp only[jA9,List.range'_succ,zDm];have e:(pre++(o::S)++own).set k o'=(pre++[o'])++S++own:=by subst hk;simp
  rw[e,zAA (k+1) (pre++[o']) (by simp[hk]) (by simpa using hl)];simp
 |[],o::S,_,_,_,_,hl=>by simp at hl
 |_::_,[],_,_,_,_,hl=>by simp at hl
theorem zBW{b:Nat}{S S' own:St}{x args:wE}(h:Cl m S)(h':Cl m S')(hy:iO P b x S fun o τ=>o=.ret (.lit (.bool true))/\τ = S')(ha:dD (List.range m) args x){Q:Out->St->Prop}(hq:Q (.ret (.lit (.bool true))) (S'++own)) :
 iO P b args (S++own) Q:=by
 refine zOr hy (List.range m) List.nodup_range (zNS h) ha ?_;have e:S'.map (cH (List.range m) (S++own).length)=S':=by
  conv=>rhs;rw[<-List.map_id S']
  exact jC2 fun o ho=>by simp only[cH,id];exact zI2 (fun l hl=>by rw[zDU hl]) o (h'.2 o ho)
 rw[e];have:=zAA (own:=own) 0 [] rfl (by rw[h.1,h'.1]:S'.length=S.length);rw[h.1,<-List.range_eq_range']at this;simp only[jBl]at this;rw[this]
 simpa[ren]using hq
variable{e:TypeId}{sz:Nat}{cs:wE}
theorem zUO{H:Mem}{L:wM}{w:World}(hs:RelSt H L U w){l n:Nat}{v:Value}(hU:U[l]?=some (.row false e sz n cs))(hv:Rel H L (.row l n) v) :
 ∃H',Nxt H L w H' L (U.set l (.row true e sz n cs)) w/\Rel H' L (.sl n cs) v:=by
 simp only[Rel]at hv;obtain⟨_,li,e1,e2,e3,hv⟩:=hv;have hob:=hs.obj l li _ e1 hU;simp only[qB]at hob;obtain⟨_,hln,hcl,hob⟩:=hob;have hv:=hv hln.symm;rcases hob with ⟨hb,h0⟩|⟨b,cur,hb,hh,k1,k2,k3,k4,k5,k6⟩
 .rw[hb]at hv;subst h0;have hcs:cs=[]:=jCe (by simpa using hcl);refine⟨H,⟨⟨hs.pers,by simp[hs.len],fun i x o hL ho=>?_,hs.inj,hs.lt⟩,Step.refl _ _ _,LLe.refl _,fun _ h=>.inl h⟩,?_⟩
  .by_cases hi:i=l
   .subst hi;rw[e1]at hL;cases hL;rw[jAk (jA4.1 hU).1]at ho;cases ho;simp only[qB];exact⟨e2,hln,hcl,.inl ⟨hb,trivial⟩⟩
   .rw[jAa (Ne.symm hi)]at ho;exact hs.obj i x o hL ho
  .simp only[Rel];exact⟨none,0,hv,jA _,jB4 _,.inl ⟨trivial,hcs⟩⟩
 .rw[hb]at hv;have hcell:∀(j:Nat) u,(cur.toList.take (n*sz))[j]?=some u->w.cell? ⟨b,j,none⟩=some u:=fun j u hu=>by
   rw[cell_of_row w b j cur e (0,0) hh];rw[jBj]at hu;split at hu
   .simpa using hu
   .cases hu
  have hA:=sW (H:=H) (B:=b) (us:=cur.toList.take (n*sz)) (fun o v hv'=>by rw[k6]at hv';cases hv');have hle:HLe H (zFS H b (cur.toList.take (n*sz))):=fun b' o' v' hv'=>by
   simp only[hA];split
   .rename_i e;subst e;rw[k6]at hv';cases hv'
   .exact hv'
  have hat:At (zFS H b (cur.toList.take (n*sz))) b 0 (cur.toList.take (n*sz)):=fun i u hu=>by simp[hA,hu]
  refine⟨zFS H b (cur.toList.take (n*sz)),xK hs e1 hb rfl rfl rfl rfl (fun d=>by rw[hh];simp) rfl (fun _ _=>rfl) hle (fun b' o' v' hv'=>?_) (fun o' v' hv'=>?_) ?_,?_⟩
  .simp only[hA]at hv';split at hv'
   .rename_i e;exact .inr e
   .exact .inl hv'
  .simp only[hA,if_true]at hv';exact hcell _ _ hv'
  .simp only[qB];refine⟨e2,hln,hcl,.inr ⟨b,cur,hb,hh,k1,k2,k3,qE.mono hle (LLe.refl _) _ k4,k5,hat,fun o ho=>?_⟩⟩;simp only[hA,if_true];rw[jBd];simp only[jAs];omega
  .simp only[Rel];exact⟨_,_,hv,k1,k2,.inr ⟨b,0,_,rfl,qE.mono hle (LLe.refl _) _ k4,k5,hat⟩⟩
theorem zOs{b l n:Nat}(hU:U[l]?=some (.row false e sz n cs)){Q:Out->St->Prop}(h:iO P b [.sl n cs] (U.set l (.row true e sz n cs)) Q):iO P b [.row l n] U Q:=by intro H L w vs hs hvs;obtain⟨v,vs',rfl,h1,h2⟩:=qH hvs;have:=jU h2;subst this;obtain⟨H',hn,hr⟩:=zUO hs hU h1;obtain⟨f,tmps,x,y,k1,k2⟩:=h H' L w [v] hn.st (qY hr jV);refine⟨f,tmps,x,y,k1,k2.mono fun e w' hh=>?_⟩;obtain⟨o,U',H2,L2,g1,g2,g3⟩:=hh;exact⟨o,U',H2,L2,g1,hn.trans g2,g3⟩
theorem exY{b m k n:Nat}{S S' own:St}{J:A->St->Prop}(ho:own[k]?=some (.row false e sz n cs))(h:Cl m S)(h':Cl m S')(hc:dT 0 cs=true)
 (hy:iO P b [.sl n cs] S fun o τ=>o=.ret (.lit (.bool true))/\τ = S')(hq:J (.lit (.bool true)) (S'++own.set k (.row true e sz n cs))) :
 ∃r U',(iO P b [.row (m+k) n] (S++own) fun o τ=>o=.ret r/\τ = U')/\J r U':=by
 refine⟨_,_,zOs (by rw[aL h.1];exact ho) ?_,hq⟩;rw[cM h.1];exact zBW h h' hy (by simp[lC (k:=0) (fun l hl=>by omega) cs hc]) ⟨rfl,rfl⟩
theorem zCC{H:Mem}{L:wM}{w:World}(hs:RelSt H L U w){l:Nat}{o':AObj}(hl : U[l]?=some o)(h:∀li,qB H L w li o->qB H L w li o'):RelSt H L (U.set l o') w:=by
 refine⟨hs.pers,by simp[hs.len],fun i x p hL hp=>?_,hs.inj,hs.lt⟩;by_cases hi:i=l
 .subst hi;rw[jAk (jA4.1 hl).1]at hp;cases hp;exact h x (hs.obj i x o hL hl)
 .rw[jAa (Ne.symm hi)]at hp;exact hs.obj i x p hL hp
theorem yJ{l o:Nat}(hl : U[l]?=some (.box cs))(hc:cs[o]?=some .nil)(e:TypeId)(sz:Nat):bW n0 env (U.set l (.box (cs.set o (.row U.length 0)))++[AObj.row false e sz 0 []]) env U:=by
 intro H0 L0 w0 H L w N tmps h0 h1 h2;have hn:=gZ h1.st e sz;have hlt:l < U.length:=(jA4.1 hl).1;have hl':(U++[AObj.row false e sz 0 []])[l]?=some (.box cs):=by rw[jAj hlt];exact hl
 have hs:=zCC (o':=.box (cs.set o (.row U.length 0))) hn.st hl' (fun li hob=>by
  simp only[qB]at hob ⊢;obtain⟨g0,b,vs,e',g1,g2,g3,g4,g5⟩:=hob;obtain⟨v,hv,hrel⟩:=g3.get hc;simp only[Rel]at hrel;subst hrel;have hset:vs=vs.set o (.slice none 0 0):=by
   apply jCa;intro i;by_cases hi:i=o
   .subst hi;rw[jAk (jA4.1 hv).1,hv]
   .rw[jAa (Ne.symm hi)]
  refine⟨g0,b,vs,e',g1,g2,?_,g4,g5⟩;rw[hset];refine g3.set o ?_;simp only[Rel];exact⟨rfl,⟨none,0,0,true⟩,by rw[<-h1.st.len];simp,rfl,jA _,fun _=>rfl⟩)
 rw[List.set_append_left _ _ hlt]at hs;have hm:=h1.trans hn;exact⟨H,_,⟨hs,hm.step,hm.lle,hm.own⟩,h2.1,fun x=>Rel.mono (HLe.refl _) hn.lle _ (h2.2 x)⟩
variable{f:FuncId}{r:A}
theorem zH9{K:wK}{args args':wE} {U1:St}(h:Ret P f args [] r U1)(ha:dD [] args' args)(hq:K (env.put d (ren [] U.length r)) (U++U1.map (cH [] U.length))):zBM P U d K f args' env :=
 ⟨_,_,a8.append _ _,cS h [] (by simp) trivial ha ⟨rfl,by simp⟩,hq⟩
theorem tH{rf:Bool->Nat->Nat->A}{g:Nat->wC} {U τ:St}(hk:c6 U τ):∀{js:wA} {os:St},(∀o∈os,o≠AObj.rsv)->aB U rf g js os->aB τ rf g js os
 |[],[],_,h=>h
 |j::js,o::os,hn,h=>by
  simp only[aB]at h⊢;cases hj : U[j]? with
  |none=>rw[hj]at h;exact h.1.elim
  |some x =>
   rw[hj]at h;have hx:x≠AObj.rsv:=fun e=>by
    subst e;rcases h.1 with e|e
    all_goals
     exact hn o (jAr ..) (by simpa[vwO]using e)
   rw[hk j x hj hx];exact⟨h.1,tH hk (fun o ho=>hn o (jAm _ ho)) h.2⟩
 |[],_::_,_,h=>h
 |_::_,[],_,h=>h
variable{s0:St}
theorem zNr{K:wK}{args args':wE}(h:Ret P f args s0 r s0)(js:wA)(hjs:js.Nodup)(hn:∀o∈s0,o≠AObj.rsv)(hd:aB U j5 (qP js) js s0)(ha:dD js args' args)
 (hput:∀τ:St,c6 U τ->q9 τ js (s0.map (cH js τ.length)) = τ)(hq:K (env.put d (ren js U.length r)) U):zFC P U d K f args' env :=
 ⟨ren js U.length r,[],fun o ho=>(by cases ho),fun τ hl hk=>by rw[<-hl];exact cS h js hjs (tH hk hn hd) ha ⟨rfl,by simp[hput τ hk]⟩,by simpa using hq⟩
theorem zCB{c:Nat}:∀{js:wA} {U s1:St},(∀j∈js,j<c)->(∀j∈js,j < U.length)->s1.length=js.length->KA c U (q9 U js s1)
 |[],U,s1,_,_,hl=>by
  have:s1=[]:=jCe hl;subst this
  simpa[q9]using KA.refl c U
 |j::js,U,o::s1,hc,hj,hl=>by have h1:=hc j (jAr ..);have ih:=zCB (c:=c) (js:=js) (U:=U.set j o) (s1:=s1) (fun i hi=>hc i (jAm _ hi)) (fun i hi=>by rw[jBy];exact hj i (jAm _ hi)) (by simpa using hl);intro l cs hle hU;exact ih l cs hle (by rw[jAa (by omega)];exact hU)
 |_::_,_,[],_,_,hl=>by simp at hl
theorem zHd{rf:Bool->Nat->Nat->A}{g:Nat->wC} {U:St}:∀{js:wA} {os:St},(∀o∈os,o≠AObj.rsv)->aB U rf g js os->∀j∈js,∃x,U[j]?=some x/\x≠AObj.rsv
 |[],_,_,_,j,hj=>by cases hj
 |_::_,[],_,h,_,_=>h.elim
 |i::js,o::os,hn,h,j,hj=>by
  simp only[aB]at h;rcases jA3.1 hj with rfl|hj
  .cases hx : U[j]? with
   |none=>rw[hx]at h;exact h.1.elim
   |some x =>
    rw[hx]at h;refine⟨x,rfl,fun e=>?_⟩;subst e;rcases h.1 with e|e
    all_goals
     exact hn o (jAr ..) (by simpa[vwO]using e)
  .exact zHd (fun o ho=>hn o (jAm _ ho)) h.2 j hj
theorem zP6{js:wA}{n:Nat}(h:o≠AObj.rsv):cH js n o≠AObj.rsv:=by cases o<;>first|(exact(h rfl).elim)|(simp only[cH,vwO];first|(split<;>simp)|simp)
theorem zFa:∀{js:wA} {s vs:St} {q:Nat},(∀o∈vs,o≠AObj.rsv)->vs.length=js.length->(q9 s js vs)[q]?=some AObj.rsv->s[q]?=some AObj.rsv
 |[],s,[],q,_,_,h=>by simpa[q9]using h
 |[],_,_::_,_,_,hl,_=>by simp at hl
 |_::_,_,[],_,_,hl,_=>by simp at hl
 |j::js,s,o::vs,q,hn,hl,h=>by
  have h2:(s.set j o)[q]?=some AObj.rsv:=zFa (js:=js) (fun x hx=>hn x (jAm _ hx)) (by simpa using hl) h;by_cases e:q=j
  .subst e;rcases jAx q s.length with hlt|hge
   .rw[jAk hlt]at h2;cases h2;exact(hn _ (jAr ..) rfl).elim
   .rw[jBd (by simpa using hge)]at h2;cases h2
  .rw[jAa (Ne.symm e)]at h2;exact h2
theorem zFb:∀{js:wA} {s vs:St} {q:Nat} {o:AObj},q∉js->vs.length=js.length->q9 (s.set q o) js vs=(q9 s js vs).set q o
 |[],s,[],q,o,_,_=>by simp[q9]
 |[],_,_::_,_,_,_,hl=>by simp at hl
 |_::_,_,[],_,_,_,hl=>by simp at hl
 |j::js,s,x::vs,q,o,hq,hl=>by
  have hne:q≠j:=fun e=>hq (by simp[e])
  show q9 ((s.set q o).set j x) js vs=(q9 (s.set j x) js vs).set q o;rw[List.set_comm _ _ hne];exact zFb (fun h=>hq (jAm _ h)) (by simpa using hl)
variable{s1:St}
theorem zNt{K:wK}{args args':wE}(h:Ret P f args s0 r s1)(js:wA)(hjs:js.Nodup)(hn0:∀o∈s0,o≠AObj.rsv)(hn1:∀o∈s1,o≠AObj.rsv)(hd:aB U j5 (qP js) js s0)(ha:dD js args' args)
 (hl:s1.length=js.length)(hq:K (env.put d (ren js U.length r)) (q9 U js (s1.map (cH js U.length)))):zFE P U d K f args' env:=by
 have hn1':∀o∈s1.map (cH js U.length),o≠AObj.rsv:=fun o ho=>by obtain⟨x,hx,rfl⟩:=jAg.1 ho;exact zP6 (hn1 x hx)
 refine⟨ren js U.length r,fun τ=>q9 τ js (s1.map (cH js U.length)),⟨fun q hq=>zFa hn1' (by simpa using hl) hq,fun τ q o _ _ hq=>zFb (fun hm=>?_) (by simpa using hl)⟩,fun τ hlt hk=>?_,hq⟩
 .obtain⟨x,hx,hne⟩:=zHd hn0 hd q hm;rw[hq]at hx;cases hx;exact hne rfl
 .rw[<-hlt];exact cS h js hjs (tH hk hn0 hd) ha ⟨rfl,rfl⟩
theorem bV{K:wK}{args args':wE}(h:Ret P f args s0 r s1)(js:wA)(hjs:js.Nodup)(hd:aB U j5 (qP js) js s0)(ha:dD js args' args)
 (hq:K (env.put d (ren js U.length r)) (q9 U js (s1.map (cH js U.length)))):zBO P U d K f args' env:=⟨_,_,cS h js hjs hd ha ⟨rfl,rfl⟩,hq⟩
theorem aK{K:wK}{c:Nat}{args args':wE}(h:Ret P f args s0 r s1)(js:wA)(hjs:js.Nodup)(hd:aB U j5 (qP js) js s0)(ha:dD js args' args)
 (hc:∀j∈js,j<c)(hlt:∀j∈js,j < U.length)(hl:s1.length=js.length)(hq:K (env.put d (ren js U.length r)) (q9 U js (s1.map (cH js U.length)))):zFD P c U d K f args' env :=
 ⟨_,_,zCB hc hlt (by simpa using hl),cS h js hjs hd ha ⟨rfl,rfl⟩,hq⟩
theorem zNs{K:wK}{c:Nat}{args args':wE}(h:Ret P f args s0 r s1)(js:wA)(hjs:js.Nodup)(hd:aB U j5 (qP js) js s0)(ha:dD js args' args)
 (hc:∀j∈js,j<c)(hlt:∀j∈js,j < U.length)(hl:s1.length=js.length)(hr:zFJ U (q9 U js (s1.map (cH js U.length))))(hq:K (env.put d (ren js U.length r)) (q9 U js (s1.map (cH js U.length)))):zFB P c U d K f args' env :=
 ⟨_,_,⟨zCB hc hlt (by simpa using hl),hr⟩,cS h js hjs hd ha ⟨rfl,rfl⟩,hq⟩
theorem zIn{S own:St}(h:Cl m S)(hr:r.bnd 0=true):rY m r S (.ret r) (S++own) :=
 zG (List.range m) 0 (fun i hi=>by simp[hi]) List.nodup_range (zNS h) (.inl (zF9 (k:=0) (fun l hl=>by omega) r hr).symm)
theorem vC{g:FuncId}{first cap:wE}{X:List wE}(h:∀(b m:Nat)(T:Nat->St),(∀i,i<=X.length->Cl m (T i))->(∀i (h:i<X.length),iO P b X[i] (T i) fun o τ=>o=.ret (.lit (.bool true))/\τ = T (i+1)) ->
 Ret P g (first++[yv b]++cap) (T 0) (.tup []) (T X.length)):zMX P g first cap X:=fun b m T hT hY=>aV.mono (h b m T hT hY) fun _ _ ⟨h1,h2⟩=>⟨⟨_,h1⟩,h2⟩
end
end Go.Abs
namespace Go.Proofs.YtdnelmeboihpkaaGreatDoor
open Go.Abs
def kH(w b:wA)(k:K):K:=K.chg w b k
noncomputable def kq(f:Func)(e:List (Nat×wA)):K:=zY Tryz.prog f qD e
variable{f:FuncId}{fn:Func}{U0 U1:St}{r:A}
theorem mq(e:List (Nat×wA))(rs:List RS)(hf:Tryz.prog.funcs[f]?=some fn)(q:(fn.body.isSome,zU Tryz.prog fn.ntmps (fn.body.getD .skip),i7 Tryz.prog fn.results.toList)=(true,some (kq fn e).erase,some rs)){args:wE} (h:wpF Tryz.prog (kq fn e) rs args U0 (rY U0.length r U1)):Ret Tryz.prog f args U0 r U1:=by
 simp only[Prod.mk.injEq] at q;obtain⟨a,b,c⟩:=q;obtain⟨x,hx⟩:=Option.isSome_iff_exists.1 a;rw[hx] at b;exact zI hf hx b c h
theorem mn(hint:Nat->Option wD)(e:List (Nat×wA))(rs:List RS)(hf:Tryz.prog.funcs[f]?=some fn)(q:(fn.body.isSome,qJ Tryz.prog fn.ntmps hint (fn.body.getD .skip),i7 Tryz.prog fn.results.toList)=(true,some (zY Tryz.prog fn hint e).erase,some rs)){args:wE} (h:wpF Tryz.prog (zY Tryz.prog fn hint e) rs args U0 (rY U0.length r U1)):Ret Tryz.prog f args U0 r U1:=by
 simp only[Prod.mk.injEq] at q;obtain⟨a,b,c⟩:=q;obtain⟨x,hx⟩:=Option.isSome_iff_exists.1 a;rw[hx] at b;exact zM hf hx b c h
theorem ml(hint:Nat->Option wD)(w b:wA)(e:List (Nat×wA))(rs:List RS)(hf:Tryz.prog.funcs[f]?=some fn)(q:(fn.body.isSome,qJ Tryz.prog fn.ntmps hint (fn.body.getD .skip),i7 Tryz.prog fn.results.toList)=(true,some (kH w b (zY Tryz.prog fn hint e)).erase,some rs)){args:wE} (h:wpF Tryz.prog (kH w b (zY Tryz.prog fn hint e)) rs args U0 (rY U0.length r U1)):Ret Tryz.prog f args U0 r U1:=by
 simp only[Prod.mk.injEq] at q;obtain⟨a,b,c⟩:=q;obtain⟨x,hx⟩:=Option.isSome_iff_exists.1 a;rw[hx] at b;exact zM hf hx b c h
theorem mj(w b:wA)(e:List (Nat×wA))(rs:List RS)(hf:Tryz.prog.funcs[f]?=some fn)(q:(fn.body.isSome,zU Tryz.prog fn.ntmps (fn.body.getD .skip),i7 Tryz.prog fn.results.toList)=(true,some (kH w b (kq fn e)).erase,some rs)){args:wE} (h:wpF Tryz.prog (kH w b (kq fn e)) rs args U0 (rY U0.length r U1)):Ret Tryz.prog f args U0 r U1:=by
 simp only[Prod.mk.injEq] at q;obtain⟨a,b,c⟩:=q;obtain⟨x,hx⟩:=Option.isSome_iff_exists.1 a;rw[hx] at b;exact zI hf hx b c h
abbrev ky(f:Func)(k:K):Prop:=zU Tryz.prog f.ntmps (f.body.getD .skip)=some k.erase
theorem m_{f:Func}{k:K}(h:zU Tryz.prog f.ntmps (f.body.getD .skip)=some k.erase):ky f k:=h
@[simp]theorem kw{n:Nat}(a:1<n)(b:n<210):zF Tryz.prog n=true:=by
 have h:(List.range 210).all (fun n=>n<2||zF Tryz.prog n)=true:=by kernel_rfl
 have:=List.all_eq_true.1 h n (List.mem_range.2 b);by_cases q:n<2;omega;simpa[q]using this
abbrev my:=Ret Tryz.prog
theorem zJK(n:Int):my 122 [int n] [] (bl false) []:=by
 refine mq [] [.slot 2] func122 (by kernel_rfl) ?_
 (conv in kq _ _=>cbv)
 simp;exact zA 0 (by simp)
def bT(a b:Int):Int:=if a<b then -1 else if b<a then 1 else 0
theorem gV(a b:Int):my 80 [int a,int b] [] (int (bT a b)) []:=by
 refine mq [] [.slot 4] func80 (by kernel_rfl) ?_
 (conv in kq _ _=>cbv)
 simp;refine mu (zJK a) (by simp) ?_;simp;refine mu (zJK b) (by simp) ?_;simp;refine jM (fun h=>?_) (fun h=>?_)<;>simp at h<;>simp
 .exact zA 0 (by simp[bT,h])
 refine jM (fun h'=>?_) (fun h'=>?_)<;>simp at h'<;>simp
 .exact zA 0 (by simp[bT,h',Int.not_lt.2 h])
 .exact zA 0 (by simp[bT,Int.not_lt.2 h,Int.not_lt.2 h'])
def orI:List Int->Int
 |[]=>0
 |a::l=>if a=0 then orI l else a
def yC(l:wB):wE:=l.map int
theorem zA1:∀(l:wB),qV (yC l)
 |[]=>qV.nil
 |_::l=>qV.lit (zA1 l)
@[simp]theorem qFN(l:wB):(yC l).length=l.length:=by simp[yC]
@[simp]theorem qBz(l:wB):jO (yC l)=yC l:=(zA1 l).1
@[simp]theorem qJV{rf g}(l:wB):vwL rf g (yC l)=yC l:=(zA1 l).2 _ _
@[simp]theorem qFO:yC []=[]:=rfl
@[simp]theorem qBc(n:Int)(l:wB):yC (n::l)=.lit (.int .i64 n)::yC l:=rfl
@[simp]theorem dW(a b:wB):yC (a++b)=yC a++yC b:=by simp[yC]
theorem iG{l:wB}{i:Nat}(h:i<l.length):(yC l).drop i=.lit (.int .i64 l[i])::yC (l.drop (i+1)):=by rw[yC,<-List.map_drop,jAp h];rfl
theorem zTv{n:Nat}(h:n<=maxLen):IntKind.i64.wrap (n:Int)=n:=IntWalk.i64_in _ (by simp[maxLen]at h;omega)
theorem qF{i n:Nat}(h:i<n)(hn:n<=maxLen):IntKind.i64.wrap ((i:Int)+1)=(i:Int)+1:=IntWalk.i64_in _ (by simp[maxLen]at hn;omega)
theorem zS6(l:wB):my 79 [.sl l.length (yC l)] [] (int (orI l)) []:=by
 refine mq [] [.slot 2] func79 (by kernel_rfl) ?_
 (conv in kq _ _=>cbv)
 simp;intro hl;refine qO (S:=Nat) (fun i=>[(3,int 0),(6,.sl l.length (yC l)),(7,int l.length),(8,int i)]) (fun s=>[]) (fun i=>i<=l.length/\orI l=orI (l.drop i)) (fun i=>l.length-i) 0 (by simp)
  (mw [] 0 (by rfl) (by simp)) ?_
 rintro i ⟨hi,ho⟩;simp;refine jM (fun h=>?_) (fun h=>?_)<;>simp at h
 .simp[h,iG h];have hd:l.drop i=l[i]::l.drop (i+1):=jAp h;refine jM (fun h'=>?_) (fun h'=>?_)<;>simp at h'<;>simp
  .exact zA 0 (by rw[ho,hd];simp[orI,h'])
  .refine zS (i+1) ⟨h,by rw[ho,hd];simp[orI,h']⟩ (by omega) (mw [] 0 (by rfl) (by simp[qF h hl]))
 .simp;have:i=l.length:=by omega
  exact zA 0 (by rw[ho,this];simp[orI])
structure Id where
 a:Int
 b:Int
 c:Int
 deriving DecidableEq
abbrev wF:=List Id
theorem Id.eq_iff{x y:Id}:x=y↔x.a=y.a/\x.b=y.b/\x.c=y.c:=by cases x;cases y;simp
def zL(d:Id):wE:=[.lit (.int .i64 d.a),.lit (.int .i64 d.b),.lit (.int .i64 d.c)]
def zA2(d:Id):wB:=[d.a,d.b,d.c]
def zV:List Id->wE
 |[]=>[]
 |d::l=>.lit (.int .i64 d.a)::.lit (.int .i64 d.b)::.lit (.int .i64 d.c)::zV l
@[simp]theorem zYs:zV []=[]:=rfl
@[simp]theorem fL(d:Id)(l:wF):zV (d::l)=.lit (.int .i64 d.a)::.lit (.int .i64 d.b)::.lit (.int .i64 d.c)::zV l:=rfl
@[simp]theorem zLt:∀l:wF,(zV l).length=l.length*3
 |[]=>rfl
 |d::l=>by simp[zLt l];omega
theorem yH:∀(a b:wF),zV (a++b)=zV a++zV b
 |[],b=>rfl
 |d::a,b=>by simp[yH a b]
theorem dZ:∀(l:wF),qV (zV l)
 |[]=>qV.nil
 |_::l=>qV.lit (qV.lit (qV.lit (dZ l)))
@[simp]theorem zXf(l:wF):jO (zV l)=zV l:=(dZ l).1
@[simp]theorem qBZ{rf g}(l:wF):vwL rf g (zV l)=zV l:=(dZ l).2 _ _
theorem yA:∀{l:wF} {i:Nat} (h:i<l.length),(zV l).drop (i*3)=.lit (.int .i64 l[i].a)::.lit (.int .i64 l[i].b)::.lit (.int .i64 l[i].c)::zV (l.drop (i+1))
 |v::l,0,h=>by simp
 |v::l,i+1,h=>by
  have e:(i+1)*3=i*3+3:=by omega
  rw[e,fL]
  simpa using yA (l:=l) (i:=i) (by simpa using h)
theorem zIW:∀(l:wF) (i:Nat),(zV l).take (i*3)=zV (l.take i)
 |[],i=>by simp
 |v::l,0=>by simp
 |v::l,i+1=>by
  have e:(i+1)*3=i*3+3:=by omega
  rw[e,fL]
  simpa using zIW l i
theorem sB:∀(l:wF) (i:Nat),(zV l).drop (i*3)=zV (l.drop i)
 |[],i=>by simp
 |v::l,0=>by simp
 |v::l,i+1=>by
  have e:(i+1)*3=i*3+3:=by omega
  rw[e,fL]
  simpa using sB l i
def zCc(x y:Id):Int:=orI [bT x.a y.a,bT x.b y.b,bT x.c y.c]
def bZ(x y:Id):Bool:=if x.a≠y.a then decide (x.a<y.a)else if x.b≠y.b then decide (x.b<y.b)else decide (x.c<y.c)
end Go.Proofs.YtdnelmeboihpkaaGreatDoor
namespace Go.Abs
open Go.Sort Go.Proofs
section
variable{P:Program} {β:Type}{H:Mem}{L:wM}{w:World}
variable{g:FuncId}
theorem zJP{args:wE}{r:Int}(h:Ret P g args [] (int r) []){vs:wL}{W:World}(hH:∀b o v,H b o=some v->W.cell? ⟨b,o,none⟩=some v)(hvs:qE H [] args vs) :
 Calls P g vs.toArray W fun e w'=>e=.returned (.int .i64 r)/\∃q os',w'=grow (W.drewN q) os':=by
 have hs:RelSt H [] [] W:=⟨hH,rfl,fun i l o hl=>by simp at hl,fun i j l l' b hl=>by simp at hl,fun i l b hl=>by simp at hl⟩;refine(h H [] W vs hs hvs).mono fun e w' hh=>?_
 obtain⟨o,U',H',L',ho,hn,rfl,rfl⟩:=hh;obtain⟨v,rfl,hv⟩:=ho;simp only[int,Rel]at hv;subst hv;refine⟨rfl,w'.drawn-W.drawn,w'.heap.extract W.heap.size w'.heap.size,?_⟩;have hh:w'.heap=W.heap++w'.heap.extract W.heap.size w'.heap.size:=by
  apply Array.ext_getElem?;intro k;rcases jAx k W.heap.size with hk|hk
  .rw[jDr hk];exact hn.step.keep k hk (fun⟨i,l,hi,_⟩=>by simp at hi)
  .rw[Array.getElem?_append_right hk,Array.getElem?_extract];split
   .congr 1;omega
   .rw[Array.getElem?_eq_none];omega
 have h1:=hn.step.os;have h2:=hn.step.tape;have h3:=hn.step.output;have h4:=hn.step.drawn;cases w' with
 |mk heap tape drawn os output =>
  cases W with
  |mk heap' tape' drawn' os' output' =>
   simp only at h1 h2 h3 h4 hh;simp only[grow,World.drewN,World.mk.injEq];exact⟨hh,h2,by omega,h1,h3⟩
def mS(us:List (β×wL)):wL:=us.flatMap (·.2)
@[simp]theorem qAZ:mS ([]:List (β×wL))=[]:=rfl
@[simp]theorem zLC{p : β×wL}{us:List (β×wL)}:mS (p::us)=p.2++mS us:=rfl
def zQ4(H:Mem)(encA : β->wE)(us:List (β×wL)):Prop:=∀p∈us,qE H [] (encA p.1) p.2/\∀v∈p.2,one v
theorem zDu{encA : β->wE}(hb:∀b,dT 0 (encA b)=true):∀(l:List β) (vs:wL),qE H L (l.flatMap encA) vs->(∀v∈vs,one v)->∃us:List (β×wL),us.map (·.1)=l/\mS us=vs/\zQ4 H encA us
 |[],vs,h,_=>⟨[],rfl,(jU h).symm,fun p hp=>by simp at hp⟩
 |b::l,vs,h,h1=>by
  rw[jBb]at h;obtain⟨us,ws,rfl,k1,k2⟩:=h.split;obtain⟨rest,r1,r2,r3⟩:=zDu hb l ws k2 (fun v hv=>h1 v (List.mem_append_right _ hv));refine⟨(b,us)::rest,by simp[r1],by simp[r2],fun p hp=>?_⟩;rcases jA3.1 hp with rfl|hp
  .exact⟨qE.levels (k:=0) (fun l hl=>by omega) _ (hb b) k1,fun v hv=>h1 v (jBm _ hv)⟩
  .exact r3 p hp
theorem zE6{encA : β->wE}(hb:∀b,dT 0 (encA b)=true):∀{us:List (β×wL)},zQ4 H encA us->qE H L ((us.map (·.1)).flatMap encA) (mS us)/\∀v∈mS us,one v
 |[],_=>⟨jV,by simp⟩
 |p::us,h=>by
  obtain⟨k1,k2⟩:=h p (jAr ..);obtain⟨r1,r2⟩:=zE6 hb (us:=us) fun q hq=>h q (jAm _ hq)
  refine⟨?_,fun v hv=>?_⟩
  .simp only[jAi,jBb,zLC];exact(qE.levels (k:=0) (fun l hl=>by omega) _ (hb p.1) k1).append r1
  .rcases jAc.1 hv with hv|hv
   .exact k2 v hv
   .exact r2 v hv
theorem zBr{encA : β->wE}{sz:Nat}(hlen:∀b,(encA b).length=sz):∀{us:List (β×wL)},zQ4 H encA us->(mS us).length=us.length*sz
 |[],_=>by simp
 |p::us,h=>by have:=(h p (jAr ..)).1.length;simp[this,hlen,zBr hlen (us:=us) fun q hq=>h q (jAm _ hq),jBu,jCn]
def zHz(P:Program)(f g:FuncId)(encA : β->wE)(cf : β->β->Int):Prop :=
 ∀(H:Mem) (w:World) (b cap:Nat) (us:List (β×wL)),(∀b o v,H b o=some v->w.cell? ⟨b,o,none⟩=some v)->(∀o,H b o=none)->b<w.heap.size->us≠[]->us.length<4611686018427387904->zQ4 H encA us ->
  (∀j u,(mS us)[j]?=some u->w.cell? ⟨b,j,none⟩=some u/\w.frozen? ⟨b,j,none⟩=false) ->
  Calls P f #[.slice (some ⟨b,0,none⟩) us.length cap,.func (.func g) #[] #[]] w fun e w'=>e=.returned (.tuple #[]) /\
   ∃(us':List (β×wL)) (n:Nat) (os:Array Obj),us'.Perm us/\us'.Pairwise (fun x y=>¬cf y.1 x.1<0)/\w'=grow (putRow id (Go.Sort.ahead w n) b 0 (mS us').toArray) os
def pA(cf : β->β->Int)(l:List β):List β:=l.mergeSort fun x y=>!decide (cf y x<0)
structure Ord(cf : β->β->Int):Prop where
 irrefl:∀x,¬cf x x<0
 trans:∀x y z,cf x y<0->cf y z<0->cf x z<0
 ntrans:∀x y z,¬cf x y<0->¬cf y z<0->¬cf x z<0
 anti:∀x y,¬cf x y<0->¬cf y x<0->x=y
variable{cf:β->β->Int}
theorem zBG(ho:Ord cf){l l':List β}(hp:l'.Perm l)(hs:l'.Pairwise fun x y=>¬cf y x<0):l'=pA cf l:=by
 have h1:=List.pairwise_mergeSort (le:=fun x y=>!decide (cf y x<0)) (fun a b c h1 h2=>by simp only[jBr,decide_eq_false_iff_not]at *;exact ho.ntrans c b a h2 h1)
  (fun a b=>by
   simp only[jBh,jBr,decide_eq_false_iff_not];by_cases h:cf b a<0
   .exact .inr fun h'=>ho.irrefl _ (ho.trans _ _ _ h h')
   .exact .inl h) l
 refine List.Perm.eq_of_pairwise (le:=fun x y=>¬cf y x<0) (fun a b _ _ h1 h2=>ho.anti a b h2 h1) hs ?_ (hp.trans (List.mergeSort_perm l _).symm);exact h1.imp (fun h=>by simpa using h)
variable{b:Nat}{cur:Array Value}
theorem zKp{e:TypeId}(hh:w.heap[b]?=some (.cells cur e (0,0)))(n:Nat)(F:Array Value)(os:Array Obj) :
 (grow (putRow id (Go.Sort.ahead w n) b 0 F) os).heap[b]?=some (.cells (putCells id 0 F cur) e (0,0)):=by
 have hlt:b<w.heap.size:=(jD6.1 hh).1;simp only[grow];rw[jDr (by simpa[Go.Sort.ahead]using hlt)];simp only[putRow,mapBlock,Array.getElem?_modify,if_true];simp only[Go.Sort.ahead,hh,jDm,onCells]
theorem zBA{b k:Nat}(hk:k<w.heap.size)(hne:k≠b)(n:Nat)(F:Array Value)(os:Array Obj):(grow (putRow id (Go.Sort.ahead w n) b 0 F) os).heap[k]?=w.heap[k]?:=by simp only[grow];rw[jDr (by simpa[Go.Sort.ahead]using hk)];simp only[putRow,mapBlock,Array.getElem?_modify,Go.Sort.ahead];rw[if_neg (Ne.symm hne)]
variable{F:Array Value}
theorem zFY(h:F.size<=cur.size):(putCells id 0 F cur).size=cur.size/\(putCells id 0 F cur).toList.take F.size=F.toList:=by
 have hsz:(putCells id 0 F cur).size=cur.size:=by simp[putCells]
 refine⟨hsz,?_⟩;apply jCa;intro i;rw[jBj];split
 .rename_i hi;have hi2:i<cur.size:=by omega
  simp[putCells,hi,hi2]
 .rename_i hi;rw[jBd (by simp;omega)]
theorem zS2{U:St}(hs:RelSt H L U w){l:Nat}{li:LI}{o:AObj}{w':World}(hl:L[l]?=some li)(hb:li.block=some b)
 (hos:w'.os=w.os)(htape:w'.tape=w.tape)(hout:w'.output=w.output)(hdr:w.drawn<=w'.drawn)(hnd:∀d,w.heap[b]?≠some (.deferred d))(hsz:w.heap.size<=w'.heap.size)(hkeep:∀k,k<w.heap.size->k≠b->w'.heap[k]?=w.heap[k]?)
 (hnone:∀o',H b o'=none)(ho:qB H L w' li o):Nxt H L w H L (U.set l o) w':=by
 have hne:∀(i:Nat) l' b',L[i]?=some l'->l'.block=some b'->i≠l->b'≠b:=fun i l' b' h1 h2 hi e=>hi (hs.inj i l l' li b' h1 hl h2 (by rw[hb,e]))
 refine⟨⟨fun b' o' v hv=>?_,by simp[hs.len],fun i l' o' hL hU=>?_,hs.inj,fun i l' b' h1 h2=>jC8 (hs.lt i l' b' h1 h2) hsz⟩,
  ⟨hos,htape,hout,hsz,fun k hk hn=>hkeep k hk (fun e=>hn ⟨l,li,hl,by rw[hb,e]⟩),HLe.refl _,fun _ _ _ h=>.inl h,hdr,fun k d hk=>?_⟩,LLe.refl _,fun _ h=>.inl h⟩
 .have hbb:b'≠b:=fun e=>by subst e;rw[hnone]at hv;cases hv
  have hc:=hs.pers b' o' v hv;have hlt:=hs.h_lt hv;simp only[World.cell?]at hc ⊢;rw[hkeep b' hlt hbb];exact hc
 .by_cases hi:i=l
  .subst hi;rw[hl]at hL;cases hL;rw[jAk (by rw[<-hs.len];exact(jA4.1 hl).1)]at hU;cases hU;exact ho
  .rw[jAa (Ne.symm hi)]at hU;exact(hs.obj i l' o' hL hU).carry (fun b' hb'=>hkeep b' (hs.lt i l' b' hL hb') (hne i l' b' hL hb' hi)) (HLe.refl _) (LLe.refl _) (fun _ _ _=>rfl)
 .have hks:=(jD6.1 hk).1;by_cases hkb:k=b
  .subst hkb;exact(hnd d hk).elim
  .rw[hkeep k hks hkb];exact hk
variable{f:FuncId}{encA:β->wE}
theorem zKA{sz:Nat}(hsz:0<sz)(hlen:∀b,(encA b).length=sz)(hb:∀b,dT 0 (encA b)=true)(ho:Ord cf)(e:TypeId)
 (hS:zHz P f g encA cf)(hnone:∀(p:Option Addr)(cap:Nat)(fv:Value)(w:World),Calls P f #[.slice p 0 cap,fv] w fun e w'=>e=.returned (.tuple #[])/\w'=w)(l:List β)(hmx:l.length<4611686018427387904) :
 Ret P f [.row 0 l.length,.clo g [] []] [.row false e sz l.length (l.flatMap encA)] (.tup []) [.row false e sz l.length ((pA cf l).flatMap encA)]:=by
 intro H L w vs hs hvs;obtain⟨v,vs',rfl,h1,h2⟩:=qH hvs;obtain⟨fv,vs'',rfl,h3,h4⟩:=qH h2;have:=jU h4;subst this;simp only[Rel]at h3;obtain⟨fs,cs,rfl,k1,k2⟩:=h3;have:=jU k1;subst this;have:=jU k2;subst this;simp only[Rel]at h1;obtain⟨_,li,e1,e2,e3,hv⟩:=h1;have hob:=hs.obj 0 li _ e1 rfl;simp only[qB]at hob;obtain⟨_,hln,hcl,hob⟩:=hob;have hv:=hv hln.symm;have htup:Rel H L (.tup []) (.tuple #[]):=by simp[Rel,qE]
 by_cases hl:l=[]
 .subst hl;have hsl:∃p cap,v=.slice p 0 cap:=by
   rw[hv];split
   .exact⟨_,_,rfl⟩
   .exact⟨_,_,rfl⟩
  obtain⟨p,cap,rfl⟩:=hsl;refine(hnone p cap _ w).mono fun e' w' hh=>?_
  obtain⟨rfl,rfl⟩:=hh;exact⟨.ret (.tup []),_,H,L,⟨_,rfl,htup⟩,Nxt.refl hs,rfl,by simp[pA]⟩
 .rcases hob with ⟨hbk,h0⟩|⟨b,cur,hbk,hh,g1,g2,g3,g4,g5,g6⟩
  .exact(hl (jCe h0)).elim
  .rw[hbk]at hv;subst hv;obtain⟨us,u1,u2,u3⟩:=zDu hb l _ g4 g5;have hul:us.length=l.length:=by rw[<-u1];simp
   have hus:us≠[]:=fun h=>hl (by rw[<-u1,h];rfl)
   have hlt:=hs.lt 0 li b e1 hbk;have hcell:∀j u,(mS us)[j]?=some u->w.cell? ⟨b,j,none⟩=some u/\w.frozen? ⟨b,j,none⟩=false:=fun j u hu=>by
    rw[u2,jBj]at hu;split at hu
    .refine⟨?_,by simp[World.frozen?,hh]⟩;rw[cell_of_row w b j cur e (0,0) hh]
     simpa using hu
    .cases hu
   have hmax:us.length<4611686018427387904:=by rw[hul];exact hmx
   have hc:=hS H w b li.cap us (fun b o v=>hs.pers b o v) g6 hlt hus hmax u3 hcell;rw[hul]at hc;refine hc.mono fun e' w' hx=>?_
   obtain⟨rfl,us',n,os,hp,hsrt,rfl⟩:=hx;have u3':zQ4 H encA us':=fun p hp'=>u3 p (hp.mem_iff.1 hp')
   have hl':(us'.map (·.1))=pA cf l:=by refine zBG ho (by rw[<-u1];exact hp.map _) ?_;rw[jCy];exact hsrt
   obtain⟨j1,j2⟩:=zE6 (L:=L) hb u3';rw[hl']at j1;have hfl:(mS us').length=l.length*sz:=by rw[zBr hlen u3',hp.length_eq,hul]
   have hfit:(mS us').toArray.size<=cur.size:=by rw[jC7,hfl,g3];exact jB8 _ g1
   obtain⟨p1,p2⟩:=zFY hfit;rw[jC7,hfl]at p2;have hnx:=zS2 hs e1 hbk (o:=.row false e sz l.length ((pA cf l).flatMap encA)) (w':=grow (putRow id (Go.Sort.ahead w n) b 0 (mS us').toArray) os) rfl rfl rfl (by simp[grow,Go.Sort.ahead]) (fun d=>by rw[hh];simp) (by simp[grow,Go.Sort.ahead]) (fun k hk hne=>zBA hk hne n _ os) g6 (by
    simp only[qB];refine⟨e2,hln,?_,.inr ⟨b,_,hbk,zKp hh n _ os,g1,g2,by rw[p1];exact g3,?_,?_,g6⟩⟩
    .rw[<-j1.length,hfl]
    .rw[p2];exact j1
    .rw[p2];exact j2)
   exact⟨.ret (.tup []),_,H,L,⟨_,rfl,htup⟩,hnx,rfl,rfl⟩
theorem zJ6{α:Type}{enc : α->wL}{k:Nat}(hk:∀x,(enc x).length=k):∀(l:List α) (i j:Nat) (hi:i<l.length),j<k->(l.flatMap enc)[i*k+j]?=(enc l[i])[j]?
 |[],i,j,hi,_=>by simp at hi
 |x::l,0,j,_,hj=>by rw[jBb,jAj (by rw[hk];omega)];simp
 |x::l,i+1,j,hi,hj=>by
  have hi':i<l.length:=by simpa using hi
  rw[jBb,jAy (by rw[hk,jBu];omega),hk];have:(i+1)*k+j-k=i*k+j:=by rw[jBu];omega
  rw[this,zJ6 hk l i j hi' hj];rfl
theorem zDc{α:Type}{enc : α->wL}{k:Nat}(hk:∀x,(enc x).length=k):∀(l:List α),(l.flatMap enc).length=l.length*k
 |[]=>by simp
 |x::l=>by rw[jBb,jA5,hk,zDc hk l,jA9,jBu,jCn]
theorem zLB{α:Type} [Inhabited α]{enc : α->wL}{k:Nat}(hk:∀x,(enc x).length=k)(d:Array α):(flatK enc k d).toList=d.toList.flatMap enc:=by
 apply jCa;intro t;rcases jAx t (d.size*k)with ht|ht
 .have k0:0<k:=by
   rcases Nat.eq_zero_or_pos k with h|h
   .subst h;simp at ht
   .exact h
  have hq:t / k<d.toList.length:=by rw[jB3];exact Nat.div_lt_of_lt_mul (by rw[Nat.mul_comm];exact ht)
  have hm:=Nat.mod_lt t k0;have he:t=t / k*k+t % k:=by rw[Nat.mul_comm];exact(Nat.div_add_mod t k).symm
  have h1:(flatK enc k d)[t]! = (enc d[t / k]!)[t % k]! := get_flatK enc k d t ht;have hts:t<(flatK enc k d).size:=by rw[size_flatK];exact ht
  have h2:(d.toList.flatMap enc)[t]?=(enc d.toList[t / k])[t % k]?:=by
   conv=>lhs;rw[he]
   exact zJ6 hk _ _ _ hq hm
  rw[h2];have hq':t / k<d.size:=by simpa using hq
  have hmm:t % k<(enc d[t / k]).length:=by rw[hk];exact hm
  rw[getElem!_pos _ t hts,getElem!_pos d (t / k) hq',getElem!_pos _ (t % k) hmm]at h1;rw[jD0,Array.getElem?_eq_getElem hts,h1];simp[hmm]
 .rw[jBd (by simpa using ht),jBd (by rw[zDc hk];simpa using ht)]
theorem zKl{α:Type} [Inhabited α]{d d':Array α}(h:PermIn 0 d.size d d'):d'.toList.Perm d.toList:=by
 obtain⟨h1,_,h3⟩:=h;have e1:d'.extract 0 d.size=d':=by rw[<-h1];simp
 rw[e1]at h3
 simpa using h3
theorem zGb{α:Type} [Inhabited α]{lt : α->α->Bool}{d:Array α}{n:Nat}(hn:n=d.size)(h:SortedIn lt 0 n d):d.toList.Pairwise fun x y=>lt y x=false:=by
 subst hn;rw[jCp];intro i j hi hj hij;have hi':i<d.size:=by simpa using hi
 have hj':j<d.size:=by simpa using hj
 have:=h i j (jB4 _) hij hj';rw[getElem!_pos d i hi',getElem!_pos d j hj']at this
 simpa using this
theorem zZX{β:Type}{cf : β->β->Int}(ho:Ord cf) {α:Type}(p : α->β):SWO (Go.Proofs.ltOf fun x y : α=>cf (p x) (p y)) where
 irrefl x:=by simpa[Go.Proofs.ltOf]using ho.irrefl (p x)
 trans x y z h1 h2:=by simp only[Go.Proofs.ltOf,decide_eq_true_eq]at *;exact ho.trans _ _ _ h1 h2
 ntrans x y z h1 h2:=by simp only[Go.Proofs.ltOf,decide_eq_false_iff_not]at *;exact ho.ntrans _ _ _ h1 h2
theorem zOt{b' o:Nat}{n:Nat}{os:Array Obj}{v:Value}(hne:b'≠b)(h:w.cell? ⟨b',o,none⟩=some v):(grow (putRow id (Go.Sort.ahead w n) b 0 F) os).cell? ⟨b',o,none⟩=some v:=by have hlt:=World.block_lt_of_cell? w _ h;simp only[World.cell?]at h⊢;rw[zBA hlt hne];exact h
theorem zSZ{k:Nat}(hlen:∀b,(encA b).length=k)(ho:Ord cf)(hcmp:∀a b,Ret P g [.agg (encA a),.agg (encA b)] [] (int (cf a b)) [])
 (hkit:∀(α:Type) [Inhabited α](enc : α->wL)(_:∀x,(enc x).length=k)(_:∀x,∀v∈enc x,v.oneCell'=true)(cf : α->α->Int)(_:SWO (Go.Proofs.ltOf cf))(blk off cap:Nat)(d:Array α)(w:World)
  (_:Go.Proofs.CmpLays P g #[] enc k cf blk off d.size w)(_:HoldsK enc k w blk off d)(_:blk<w.heap.size)(_:d.size<4611686018427387904),
  Calls P f #[.slice (some ⟨blk,off,none⟩) d.size cap,.func (.func g) #[] #[]] w fun e w'=>e=.returned (.tuple #[])/\∃d' n os,PermIn 0 d.size d d'/\SortedIn (Go.Proofs.ltOf cf) 0 d.size d'/\w'=sortWorldK enc k w blk off n d' os):zHz P f g encA cf:=by
 intro H w b cap us hH hnone hlt hus hmax hrel hcell;let α:={p : β×wL // (qE H [] (encA p.1) p.2/\∀v∈p.2,one v)};let d:Array α:=(us.attach.map fun p=>(⟨p.1,hrel p.1 p.2⟩ : α)).toArray;have hdm:d.toList.map (·.1)=us:=by simp only[d,jCc,Function.comp_def];exact(List.attach_map_val (f:=id)).trans (List.map_id us)
 have hds:d.size=us.length:=by simp[d]
 have:Inhabited α:=⟨⟨us.head hus,hrel _ (List.head_mem hus)⟩⟩;let enc : α->wL:=fun x=>x.1.2
 have hk:∀x,(enc x).length=k:=fun x=>by rw[<-hlen x.1.1];exact x.2.1.length
 have hflat:∀dd:Array α,(flatK enc k dd).toList=mS (dd.toList.map (·.1)):=fun dd=>by rw[zLB hk,mS,List.flatMap_map]
 have hne:∀b' o v,H b' o=some v->b'≠b:=fun b' o v h e=>by subst e;rw[hnone]at h;cases h
 have hk2:=hkit α enc hk (fun x v hv=>x.2.2 v hv) (fun x y=>cf x.1.1 y.1.1) (zZX ho fun x : α=>x.1.1) b 0 cap d w ?_ ?_ hlt (by rw[hds];exact hmax)
 .rw[hds]at hk2;refine hk2.mono fun e w' hx=>?_
  obtain⟨rfl,d',n,os,hp,hs,rfl⟩:=hx;refine⟨rfl,d'.toList.map (·.1),n,os,?_,?_,?_⟩
  .rw[<-hds]at hp;have:=(zKl hp).map (·.1);rw[hdm]at this;exact this
  .rw[jCy];have hsz':us.length=d'.size:=by rw[hp.1,hds]
   exact(zGb hsz' hs).imp fun h=>by simpa[Go.Proofs.ltOf]using h
  .simp only[sortWorldK,putRowK];rw[<-hflat d']
 .intro m os dk hsz x y;have hW:∀b' o v,H b' o=some v->(sortWorldK enc k w b 0 m dk os).cell? ⟨b',o,none⟩=some v:=fun b' o v h=>zOt (hne b' o v h) (hH b' o v h)
  have:=zJP (hcmp x.1.1 y.1.1) hW (vs:=[.agg (enc x).toArray,.agg (enc y).toArray]) (by
   refine qY ?_ (qY ?_ jV)
   .simp only[Rel];exact⟨_,rfl,x.2.1,x.2.2⟩
   .simp only[Rel];exact⟨_,rfl,y.2.1,y.2.2⟩)
  simpa using this
 .intro j hj;have hj':j<(flatK enc k d).toList.length:=by simpa using hj
  have h1:(mS us)[j]?=some ((flatK enc k d)[j]!):=by rw[<-hdm,<-hflat d,jA1 hj',getElem!_pos _ j hj];simp
  simpa using hcell j _ h1
end
end Go.Abs
namespace Go.Abs
section
variable{P:Program}{env:Env} {U:St}
end
end Go.Abs
namespace Go.Abs
section
variable{P:Program}{H:Mem}{L:wM} {U:St}{w:World}
theorem yK{n0 t:Nat}{env:Env} {U:St}(ht:env t=.nil)(e:TypeId)(sz:Nat):bW n0 (env.put (some t) (.row U.length 0)) (U++[AObj.row false e sz 0 []]) env U:=by
 intro H0 L0 w0 H L w N tmps h0 h1 h2;have hn:=gZ h1.st e sz;refine⟨H,_,h1.trans hn,h2.1,fun x=>?_⟩;simp only[Env.put];split
 .rename_i hx;subst hx;have:=h2.2 x;rw[ht]at this;simp only[Rel]at this;rw[this];simp only[Rel];exact⟨rfl,⟨none,0,0,true⟩,by rw[<-h1.st.len];simp,rfl,jA _,fun _=>rfl⟩
 .exact Rel.mono (HLe.refl _) hn.lle _ (h2.2 x)
theorem mH{n0:Nat}{env:Env} {U:St}{l o n:Nat}{e:TypeId}{sz:Nat}{cs:wE}(hl : U[l]?=some (.row false e sz n cs))(hc:cs[o]?=some .nil)(e':TypeId)(sz':Nat) :
 bW n0 env (U.set l (.row false e sz n (cs.set o (.row U.length 0)))++[AObj.row false e' sz' 0 []]) env U:=by
 intro H0 L0 w0 H L w N tmps h0 h1 h2;have hn:=gZ h1.st e' sz';have hlt:l < U.length:=(jA4.1 hl).1;have hl':(U++[AObj.row false e' sz' 0 []])[l]?=some (.row false e sz n cs):=by rw[jAj hlt];exact hl
 have hs:=zCC (o':=.row false e sz n (cs.set o (.row U.length 0))) hn.st hl' (fun li hob=>by
  simp only[qB]at hob ⊢;obtain⟨g0,g1,g2,g3⟩:=hob;refine⟨g0,g1,by simpa using g2,?_⟩;rcases g3 with ⟨q1,q2⟩|⟨b,cur,q1,q2,q3,q4,q5,q6,q7,q8⟩
  .subst q2;have:cs=[]:=jCe (by simpa using g2);subst this;simp at hc
  .obtain⟨v,hv,hrel⟩:=q6.get hc;simp only[Rel]at hrel;subst hrel;have hset:cur.toList.take (n*sz)=(cur.toList.take (n*sz)).set o (.slice none 0 0):=by
    apply jCa;intro i;by_cases hi:i=o
    .subst hi;rw[jAk (jA4.1 hv).1,hv]
    .rw[jAa (Ne.symm hi)]
   refine .inr ⟨b,cur,q1,q2,q3,q4,q5,?_,q7,q8⟩;rw[hset];refine q6.set o ?_;simp only[Rel];exact⟨rfl,⟨none,0,0,true⟩,by rw[<-h1.st.len];simp,rfl,jA _,fun _=>rfl⟩)
 rw[List.set_append_left _ _ hlt]at hs;have hm:=h1.trans hn;exact⟨H,_,⟨hs,hm.step,hm.lle,hm.own⟩,h2.1,fun x=>Rel.mono (HLe.refl _) hn.lle _ (h2.2 x)⟩
end
end Go.Abs
namespace Go.Abs
section
variable{α:Type}{enc : α->wE}{k:Nat}
theorem fN(hk:∀x,(enc x).length=k):∀(l:List α),(l.flatMap enc).length=l.length*k
 |[]=>by simp
 |x::l=>by rw[jBb,jA5,hk,fN hk l,jA9,jBu,jCn]
theorem eX(hk:∀x,(enc x).length=k):∀{l:List α} {i:Nat} (h:i<l.length),(l.flatMap enc).drop (i*k)=enc l[i]++(l.drop (i+1)).flatMap enc
 |x::l,0,h=>by simp
 |x::l,i+1,h=>by rw[jBu,jCn,jBb,<-jBc,jD5 (hk x),eX hk (by simpa using h)];simp
theorem iT(hk:∀x,(enc x).length=k){l:List α}{i:Nat}(h:i<l.length):(l.take (i+1)).flatMap enc=(l.take i).flatMap enc++enc l[i]:=by rw[jA8 h,jBz];simp
theorem zJp(hk:∀x,(enc x).length=k):∀{l:List α} {i:Nat} (x : α),i<l.length->(l.flatMap enc).take (i*k)++(enc x++(l.flatMap enc).drop (i*k+k))=(l.set i x).flatMap enc
 |y::l,0,x,h=>by simp[jD5 (hk y)]
 |y::l,i+1,x,h=>by have:=zJp hk (l:=l) (i:=i) x (by simpa using h);rw[List.set_cons_succ,jBb,jBb,<-this,jBu,jCn (i*k) k,List.take_add,List.take_left' (hk y),jD5 (hk y),jBk k,<-jBc,jD5 (hk y),jAq,jCn k (i*k)]
theorem c7(hp:∀x,qV (enc x)):∀(l:List α),qV (l.flatMap enc)
 |[]=>qV.nil
 |x::l=>by
  have h1:=hp x;have h2:=c7 hp l;refine⟨?_,fun rf g=>?_⟩
  .rw[jBb,zIb,h1.1,h2.1]
  .rw[jBb,zMP,h1.2,h2.2]
end
end Go.Abs
namespace Go.Abs
section
variable{P:Program}
end
end Go.Abs
namespace Go.Abs
open Go.Proofs
section
variable{P:Program}{H:Mem}{L:wM} {U:St}{w:World}
theorem zPt(hs:RelSt H L U w)(ob:AObj)(o:Obj)(li:LI)(hli:li.block=some w.heap.size)(ho:qB H (L++[li]) (w.alloc o) li ob):Nxt H L w H (L++[li]) (U++[ob]) (w.alloc o):=by
 have hll:=LLe.append L [li];refine⟨⟨fun b o v hv=>?_,by simp[hs.len],fun i l o hL hU=>?_,fun i j l l' b hi hj hb hb'=>?_,fun i l b hL hb=>?_⟩,
  ⟨rfl,rfl,rfl,by simp,fun k hk _=>heap_alloc_old w _ (h:=hk),HLe.refl _,fun b o v hv=>.inl hv,jA _,oT (fun k hk=>heap_alloc_old w _ (h:=hk))⟩,hll,fun b ⟨i,l,hL,hb⟩=>?_⟩
 .rw[World.cell?_alloc_lt _ _ _ (hs.h_lt hv)];exact hs.pers b o v hv
 .rcases jQ hL with hL'|⟨rfl,rfl⟩
  .have hi:i<L.length:=(jA4.1 hL').1;rw[jAj (by rw[<-hs.len];exact hi)]at hU;exact(hs.obj i l o hL' hU).carry (fun b hb=>heap_alloc_old w _ (h:=hs.lt i l b hL' hb)) (HLe.refl _) hll (fun _ _ _=>rfl)
  .rw[hs.len]at hU;rw[jAy (jA _)]at hU;simp only[jBx,jB2,jA2]at hU;subst hU;exact ho
 .rcases jQ hi with hi'|⟨rfl,rfl⟩
  .rcases jQ hj with hj'|⟨rfl,rfl⟩
   .exact hs.inj i j l l' b hi' hj' hb hb'
   .rw[hli]at hb';cases hb';have:=hs.lt i l _ hi' hb;omega
  .rw[hli]at hb;cases hb;rcases jQ hj with hj'|⟨rfl,rfl⟩
   .have:=hs.lt j l' _ hj' hb';omega
   .rfl
 .rcases jQ hL with hL'|⟨rfl,rfl⟩
  .have:=hs.lt i l b hL' hb;simp;omega
  .rw[hli]at hb;cases hb;simp
 .rcases jQ hL with hL'|⟨rfl,rfl⟩
  .exact .inl ⟨i,l,hL',hb⟩
  .rw[hli]at hb;cases hb;exact .inr (jA _)
variable{ρ:Go.Shelf.Ren}
theorem zRN(LL:Lays8.n4 P ρ){i:TypeInfo}{z:Value}(hi:P.info? (ρ.t 25)=some i)(hz:i.zero=some z)(hzs:z.cells.size=i.size)(h0:0<i.size){n:Nat}(hb:n*i.bytes<=140737488355328)(hn63:n<=4611686018427387904) :
 Ret P (ρ.f 4) [.nil,.lit (.int .i64 n)] [] (.row 0 0) [.row false (ρ.t 25) i.size 0 []]:=by
 intro H L w vs hs hvs;obtain⟨v,vs',rfl,h1,h2⟩:=qH hvs;obtain⟨u,vs'',rfl,h3,h4⟩:=qH h2;have:=jU h4;subst this;simp only[Rel]at h1 h3;subst h1 h3;have hL:L=[]:=jCe (by rw[hs.len];rfl);subst hL;have hn:n<=maxLen:=by simp only[maxLen];omega
 by_cases hz0:n=0
 .subst hz0;refine(Any8.slices_Grow_room LL none 0 0 0 w (jA _) (by omega) (by omega) (by omega)).mono fun e w' hh=>?_
  obtain⟨rfl,rfl⟩:=hh;have hnx:=gZ hs (ρ.t 25) i.size;refine⟨.ret (.row 0 0),_,H,_,⟨_,rfl,?_⟩,hnx,rfl,rfl⟩;simp only[Rel];exact⟨rfl,⟨none,0,0,true⟩,by simp,rfl,jA _,fun _=>rfl⟩
 .refine(Any8.slices_Grow_grow LL i z hi hz h0 none 0 0 n [] w (jA _) (by omega) (by rw[jB1];exact hb) (by omega) (by simp) (fun _=>rfl) (fun a ha=>by cases ha)).mono fun e w' hh=>?_
  obtain⟨rfl,rfl⟩:=hh;have hge:=grownCap_ge w (0+n) 0 (ρ.t 25);have hcm:grownCap w (0+n) 0 (ρ.t 25)<=maxLen:=grownCap_le_maxLen w (0+n) 0 (ρ.t 25) (by omega);generalize grownCap w (0+n) 0 (ρ.t 25)=cap at hge hcm ⊢;have hd:=zB3 hs;have hnx:=zPt hd.st (.row false (ρ.t 25) i.size 0 []) (.cells ((([]:wL).toArray++Builtin.zeroCells z.cells (0+n-0)++Builtin.zeroCells z.cells (cap-(0+n)))) (ρ.t 25)) ⟨some w.heap.size,cap,0,true⟩ rfl (by
   simp only[qB];refine⟨trivial,trivial,by simp,.inr ⟨w.heap.size,_,rfl,heap_alloc_new w.drew _,jB4 _,hcm,?_,?_,?_,fun o=>?_⟩⟩
   .simp only[Array.size_append,size_zeroCells,hzs];simp only[jC7,jB9,jB1,Nat.sub_zero,<-jB]
    congr 1
    omega
   .simp[qE]
   .simp
   .cases hH:H w.heap.size o with
    |none=>rfl
    |some v=>have:=hs.h_lt hH;omega)
  have hnx:=hd.trans hnx;refine⟨.ret (.row 0 0),_,H,_,⟨_,rfl,?_⟩,hnx,rfl,rfl⟩;simp only[Rel];exact⟨rfl,⟨some w.heap.size,cap,0,true⟩,by simp,rfl,jA _,fun _=>rfl⟩
theorem zOY(LL:Lays8.n4 P ρ){sz bs:Nat}{z:Value}(hi:(P.info? (ρ.t 25)).map (fun i=>(i.size,i.bytes,i.zero))=some (sz,bs,some z))(hzs:z.cells.size=sz)(h0:0<sz){n:Nat}(hb:n*bs<=140737488355328)(hn63:n<=4611686018427387904) :
 Ret P (ρ.f 4) [.nil,.lit (.int .i64 n)] [] (.row 0 0) [.row false (ρ.t 25) sz 0 []]:=by
 rw[jAh]at hi;obtain⟨i,h1,h2⟩:=hi;simp only[jBg]at h2;obtain⟨rfl,rfl,h3⟩:=h2;exact zRN LL h1 h3 hzs h0 hb hn63
end
end Go.Abs
namespace Go.Proofs.YtdnelmeboihpkaaGreatDoor
open Go.Abs
theorem z8(n:Int)(h : -9223372036854775808<=n/\n<=9223372036854775807):IntKind.i64.wrap n=n:=IntWalk.i64_in _ h
theorem jY(n:Nat)(h:n<9000000000000000000):IntKind.i64.wrap ((n:Int)+1)=(n:Int)+1:=IntWalk.i64_in _ (by omega)
def w64(n:Int):Int:=IntKind.i64.wrap n
def o8(a b c a' b' c':Int):Bool:=decide (Id.mk a b c=Id.mk a' b' c')
@[simp]theorem eQ{x y:Id}:o8 x.a x.b x.c y.a y.b y.c=decide (x=y):=rfl
def Id.zero:Id:=⟨0,0,0⟩
@[simp]theorem zZK{x:Id}:o8 x.a x.b x.c 0 0 0=decide (x=Id.zero):=rfl
@[simp]theorem Id.zero_a:Id.zero.a=0:=rfl
@[simp]theorem Id.zero_b:Id.zero.b=0:=rfl
@[simp]theorem Id.zero_c:Id.zero.c=0:=rfl
@[simp]theorem qHi:o8 0 0 0 0 0 0=true:=rfl
@[simp]theorem zUa{a b c a' b' c':Int}:zHD [.i,.i,.i] false (.agg [.lit (.int .i64 a),.lit (.int .i64 b),.lit (.int .i64 c)]) (.agg [.lit (.int .i64 a'),.lit (.int .i64 b'),.lit (.int .i64 c')]) =
 some (.lit (.bool (o8 a b c a' b' c'))):=by simp[zHD,aX,gW,eM,o8]
@[simp]theorem qFx{a b c a' b' c':Int}:zHD [.i,.i,.i] true (.agg [.lit (.int .i64 a),.lit (.int .i64 b),.lit (.int .i64 c)]) (.agg [.lit (.int .i64 a'),.lit (.int .i64 b'),.lit (.int .i64 c')]) =
 some (.lit (.bool (!o8 a b c a' b' c'))):=by simp[zHD,aX,gW,eM,o8]
def yM(n k:Int):Int:=(if n<0 then w64 (0-w64 (n+1))else n).tmod k
theorem eU(n k:Int)(hk:0<k):my 12 [int n,int k] [] (int (yM n k)) []:=by
 refine mq [] [.slot 4] func12 (by kernel_rfl) ?_
 (conv in kq _ _=>cbv)
 have h0:¬k=0:=by omega
 by_cases h:n<0
 .simp[h,h0];exact zA 0 (by simp[yM,h,w64])
 .simp[h,h0];exact zA 0 (by simp[yM,h])
theorem cC{n k:Int}(hn:w64 n=n)(hk:0<k):0<=yM n k/\yM n k<k:=by
 unfold yM;have h:0<=(if n<0 then w64 (0-w64 (n+1))else n):=by simp only[w64,IntKind.wrap_i64]at hn ⊢;split<;>omega
 exact⟨Int.tmod_nonneg _ h,Int.tmod_lt_of_pos _ hk⟩
def mK:List Id->Id->wF
 |[],x=>[x]
 |y::l,x=>if bZ y x=true then y::mK l x else if y=x then y::l else x::y::l
def zIj:List Id->Id->Nat
 |[],_=>0
 |y::l,x=>if bZ y x=true then zIj l x+1 else 0
theorem zNO:∀(l:wF) (x:Id),zIj l x<=l.length
 |[],x=>by simp[zIj]
 |y::l,x=>by have:=zNO l x;simp only[zIj,jA9];split<;>omega
theorem zJH:∀(l:wF) (x:Id),mK l x=if l[zIj l x]?=some x then l else l.take (zIj l x)++x::l.drop (zIj l x)
 |[],x=>by simp[mK,zIj]
 |y::l,x=>by
  simp only[mK,zIj];by_cases h:bZ y x=true
  .simp only[h,if_true,jBo,zJH l x,jCd,List.drop_succ_cons];split<;>simp
  .simp only[h];by_cases hy:y=x<;>simp[hy]
theorem zRY(l:wF)(x:Id):(mK l x).length<=l.length+1:=by
 rw[zJH];have:=zNO l x;split
 .omega
 .simp;omega
theorem zNh:∀(l acc:wF),(l.foldl mK acc).length<=acc.length+l.length
 |[],acc=>by simp
 |x::l,acc=>by have h1:=zNh l (mK acc x);have h2:=zRY acc x;simp only[jBp,jA9];omega
end Go.Proofs.YtdnelmeboihpkaaGreatDoor
