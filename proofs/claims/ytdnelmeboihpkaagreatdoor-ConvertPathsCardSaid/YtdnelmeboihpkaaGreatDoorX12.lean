/- value.SameType, trace.sameDef, trace.sameNode, trace.bodied. -/
import Derived.Test.YtdnelmeboihpkaaGreatDoorX11
set_option linter.unusedVariables false
set_option maxHeartbeats 8000000
set_option maxRecDepth 100000
set_option linter.unusedSimpArgs false
open Go.Proofs.Tryz
namespace Go.Proofs.YtdnelmeboihpkaaGreatDoor
open Go.Abs
@[simp]theorem zPT:zC prog 90=true:=by kernel_rfl
mutual
def aF:Typ->Typ->Bool
 | .mk k i l,.mk k' i' l'=>decide (k=k')&&(decide (i=i')&&lX l l')
def lX:List Typ->List Typ->Bool
 |[],[]=>true
 |x::a,y::b=>aF x y&&lX a b
 |_,_=>false
end
theorem zGx:∀(a b:wQ),lX a b=sV aF a b
 |[],[]=>by simp only[lX,sV]
 |x::a,y::b=>by simp only[lX,sV,zGx a b]
 |[],_::_=>by simp only[lX,sV]
 |_::_,[]=>by simp only[lX,sV]
theorem zGw(a b:Typ):aF a b=(decide (a.k=b.k)&&(decide (a.id=b.id)&&sV aF a.kids b.kids)):=by cases a;cases b;simp only[aF,zGx];rfl
mutual
theorem pU:∀(a b:Typ),aF a b=true↔a=b
 | .mk k i l,.mk k' i' l'=>by simp only[aF,jA6,decide_eq_true_eq,zED l l',Typ.mk.injEq]
theorem zED:∀(a b:wQ),lX a b=true↔a=b
 |[],[]=>by simp[lX]
 |x::a,y::b=>by simp only[lX,jA6,pU x y,zED a b,jBd]
 |[],_::_=>by simp[lX]
 |_::_,[]=>by simp[lX]
end
mutual
theorem zCE:∀(a b:Typ),my 90 [.agg (zB a),.agg (zB b)] [] (bl (aF a b)) []
 | .mk k i l,b=>by
  have ih:=zBd l;generalize ha:Typ.mk k i l=a;have hal:a.kids=l:=by rw[<-ha];rfl
  rw[<-hal]at ih;refine mq [] [.slot 4] func90 (by kernel_rfl) ?_
  (conv in kq _ _=>cbv)
  have hd:=zGw a b;by_cases h1:a.k=b.k
  .by_cases h2:a.id=b.id
   .simp[zB,h1,h2];refine mu (zTd 90 zPT aF a.kids b.kids fun x hx y hy=>ih x hx y) (by simp) ?_;simp;exact zA 0 (by simp[hd,h1,h2])
   .have h3:oG a.id.a a.id.b a.id.c b.id.a b.id.b b.id.c=false:=by rw[cC];exact decide_eq_false h2
    simp[zB,h1,h3];exact zA 0 (by simp[hd,h2])
  .simp[zB,h1];exact zA 0 (by simp[hd,h1])
theorem zBd:∀(l:wQ),∀x∈l,∀y:Typ,my 90 [.agg (zB x),.agg (zB y)] [] (bl (aF x y)) []
 |[],x,hx,_=>by simp at hx
 |z::l,x,hx,y=>by
  rcases jA1.1 hx with e|hx
  .rw[e];exact zCE z y
  .exact zBd l x hx y
end
def zKs(k:Int):Bool:=decide (k=2)||(decide (k=3)||(decide (k=4)||decide (k=5)))
def fE(n:Int):Int:=if 1099511627776<n then 1099511627776 else if n < -1099511627776 then -1099511627776 else n
def fN(b:Bool):Val:=.mk 1 (if b then 1 else 0) []
structure EVar where
 id:Id
 n:Int
 v:Val
abbrev wM:=List EVar
def oA(b:EVar):wE:=[.lit (.int .i64 b.id.a),.lit (.int .i64 b.id.b),.lit (.int .i64 b.id.c),.lit (.int .i64 b.n),.lit (.int .i64 b.v.k),.lit (.int .i64 b.v.n),.sl b.v.kids.length (zS b.v.kids)]
theorem tS(b:EVar):qP (oA b):=by have h:=dW b.v.kids;exact⟨by simp[oA,h.1],fun rf g=>by simp[oA,h.2]⟩
def mD(l:wM):wE:=l.flatMap oA
theorem vY(l:wM):qP (mD l):=cW tS l
@[simp]theorem zTL(l:wM):jH (mD l)=mD l:=(vY l).1
@[simp]theorem zYW{rf g}(l:wM):vwL rf g (mD l)=mD l:=(vY l).2 _ _
@[simp]theorem zV4:mD []=[]:=rfl
@[simp]theorem zV3(l:wM):(mD l).length=l.length*7:=by rw[mD,fF (k:=7) (fun _=>rfl)]
@[simp]theorem zZG(d:EVar):(oA d).length=7:=rfl
@[simp]theorem zZF(d:EVar):(oA d).take 7=oA d:=jAc (jA _)
@[simp]theorem zX2(d:EVar)(l:wE):(oA d++l).take 7=oA d:=by rw[jBz (by simp)];exact jAc (by simp)
@[simp]theorem zYj(d:EVar):jH (oA d)=oA d:=(tS d).1
@[simp]theorem qGi(d:EVar) {rf g}:vwL rf g (oA d)=oA d:=(tS d).2 _ _
def o8(env:wM)(id:Id)(n:Int):Val:=((env.reverse.find? fun b=>decide (b.id=id/\b.n=n)).map EVar.v).getD (.mk 0 0 [])
theorem zDD(env:wM)(b:EVar)(id:Id)(n:Int):o8 (env++[b]) id n=if b.id=id/\b.n=n then b.v else o8 env id n:=by unfold o8;rw[List.reverse_append,List.reverse_singleton,jCw,jD7];by_cases h:b.id=id/\b.n=n<;>simp[h]
theorem zHB(v:Val):my 151 [.agg (zL v)] [] (int (uV v)) []:=by
 refine mq [] [.slot 2] func151 (by kernel_rfl) ?_
 (conv in kq _ _=>cbv)
 simp[zL];intro hl;refine qM (S:=Nat) (fun i=>[(3,int (zHE (v.kids.take i))),(7,.sl v.kids.length (zS v.kids)),(8,int v.kids.length),(9,int i)]) (fun s=>[]) (fun i=>i<=v.kids.length) (fun i=>v.kids.length-i) 0 (by simp)
  (mw [] 0 (by rfl) (by simp[zHE])) ?_
 intro i hi;simp;by_cases h:i<v.kids.length
 .simp[h,jY h];refine mu (zHB v.kids[i]) (by simp[zL]) ?_;simp;exact zN (i+1) h (by omega) (mw [] 0 (by rfl) (by simp[z6 h hl,zG6 h]))
 .have:i=v.kids.length:=by omega
  subst this;simp;exact zA 0 (by simp[zJR v])
termination_by qN v
decreasing_by exact cL (jA3 _)
mutual
def bI:Val->Nat
 | .mk _ _ l=>aC l+1
def aC:List Val->Nat
 |[]=>0
 |v::l=>max (bI v) (aC l)
end
theorem gQ(v:Val):bI v=aC v.kids+1:=by cases v;simp only[bI,Val.kids]
theorem iP(v:Val):qN v=1+jT v.kids:=by cases v;simp only[qN,Val.kids]
theorem zCq:∀{l:wH} {v:Val},v∈l->bI v<=aC l
 |x::l,v,h=>by
  simp only[aC];rcases jA1.1 h with rfl|h
  .omega
  .have:=zCq h;omega
theorem gF:∀(a b:wH),jT (a++b)=jT a+jT b
 |[],b=>by simp[jT]
 |x::a,b=>by simp[jT,gF a b];omega
variable{i:Nat}
theorem zCG{l:wH}(h:i<l.length):jT (l.take (i+1))=jT (l.take i)+qN l[i]:=by rw[jA8 h,gF];simp[jT]
theorem zBh(l:wH)(i:Nat):jT l=jT (l.take i)+jT (l.drop i):=by
 conv=>lhs;rw[<-jC0 i l]
 exact gF _ _
def eY:A:=.clo 111 [] [.ptr 0 0,.ptr 1 0]
def sSt(L:Nat):St:=[.box [int L],.box [eY]]
def pS(L:Nat)(d:Int):St:=[.box [int L],.box [eY],.box [int d]]
def zCU(v:Val)(d:Int):Prop:=∀L:Nat,qN v<=L->L<=256->my 111 [.agg (zL v),int d,.ptr 0 0,.ptr 1 0] (sSt L) (bl true) (sSt (L-qN v))
theorem zOZ(v:Val)(d:Int)(hd:0<=d/\d<=100)(h:zCU v (d+1))(L:Nat)(hL:qN v<=L)(hL2:L<=256) :
 my 113 [.agg (zL v),.ptr 1 0,.ptr 2 0] (pS L d) (bl false) (pS (L-qN v) d):=by
 refine mq [] [.slot 4] func113 (by kernel_rfl) ?_
 (conv in kq _ _=>cbv)
 have hw:=qA (d+1) (by omega);simp[pS,eY,hw,zL];refine mr (h L hL hL2) [0,1] (by simp[sSt,eY,zL]) ?_;simp[sSt,eY];exact mv [0,1,2] 0 (by rfl) (by simp[eY])
theorem zTx(l:wH)(d:Int)(hd:0<=d/\d<=100)(h:∀x∈l,zCU x (d+1))(L:Nat)(hL:jT l<=L)(hL2:L<=256) :
 my 153 [.sl l.length (zS l),.clo 113 [] [.ptr 1 0,.ptr 2 0]] (pS L d) (int (-1)) (pS (L-jT l) d):=by
 refine mq [] [.slot 4] func153 (by kernel_rfl) ?_
 (conv in kq _ _=>cbv)
 simp[pS,eY];intro hl;refine qM (S:=Nat) (fun i=>[(0,.sl l.length (zS l)),(1,.clo 113 [] [.ptr 1 0,.ptr 2 0]),(6,.sl l.length (zS l)),(7,int l.length),(8,int i)]) (fun i=>pS (L-jT (l.take i)) d) (fun i=>i<=l.length) (fun i=>l.length-i) 0 (by simp)
  (mw [0,1,2] 0 (by rfl) (by simp[pS,eY,jT])) ?_
 intro i hi;by_cases hil:i<l.length
 .have e1:=zCG hil;have e2:=zBh l (i+1);simp[hil,jY hil,pS,eY];refine mr (zOZ l[i] d hd (h _ (jA3 hil)) (L-jT (l.take i)) (by omega) (by omega)) [0,1,2] (by simp[pS,eY,zL]) ?_;simp[pS,eY];exact zN (i+1) hil (by omega) (mw [0,1,2] 0 (by rfl) (by simp[pS,eY,e1,Nat.sub_sub,z6 hil hl]))
 .have:i=l.length:=by omega
  subst this;simp[pS,eY];exact mv [0,1,2] 0 (by rfl) (by simp[eY])
theorem zST(l:wH)(d:Int)(hd:0<=d/\d<=100)(h:∀x∈l,zCU x (d+1))(L:Nat)(hL:jT l<=L)(hL2:L<=256) :
 my 112 [.sl l.length (zS l),.clo 113 [] [.ptr 1 0,.ptr 2 0]] (pS L d) (bl false) (pS (L-jT l) d):=by
 refine mq [] [.slot 4] func112 (by kernel_rfl) ?_
 (conv in kq _ _=>cbv)
 simp[pS,eY];refine mr (zTx l d hd h L hL hL2) [0,1,2] (by simp[pS,eY]) ?_;simp[pS,eY];exact mv [0,1,2] 0 (by rfl) (by simp[eY])
theorem zEK(v:Val)(d:Int)(hd:1<=d/\d+bI v<=25):zCU v d:=by
 intro L hL hL2;refine mq [] [.slot 6] func111 (by kernel_rfl) ?_
 (conv in kq _ _=>cbv)
 have e1:=iP v;have e2:=gQ v;have hw:IntKind.i64.wrap ((L:Int)-1)=((L-1:Nat):Int):=by rw[IntWalk.i64_in _ (by omega)];omega
 have hd24:d<=24:=by omega
 simp[sSt,eY,hw,hd24,zL];refine mr (zST v.kids d (by omega) (fun x hx=>zEK x (d+1) (by have:=zCq hx;omega)) (L-1) (by omega) (by omega)) [0,1,3] (by simp[pS,eY]) ?_;simp[pS,eY];exact mv [0,1] 0 (by rfl) (by simp[eY,e1,Nat.sub_sub])
termination_by qN v
decreasing_by exact cL hx
theorem zSd(v:Val)(h1:qN v<=256)(h2:bI v<=24):my 73 [.agg (zL v)] [] (bl true) []:=by
 refine mq [] [.slot 2] func73 (by kernel_rfl) ?_
 (conv in kq _ _=>cbv)
 simp[zL];refine mr (zEK v 1 (by omega) 256 h1 (by omega)) [1,2] (by simp[sSt,eY,zL]) ?_;simp[sSt,eY];exact zA 0 (by simp)
def zJp(l:wF):List (wB×A):=l.foldl (fun es d=>putI (xZ d) (.lit (.bool true)) es) []
theorem zO8(l:wF)(x:Id):zJp (l++[x])=putI (xZ x) (.lit (.bool true)) (zJp l):=by simp[zJp,jCf]
theorem zRw(l:wF)(k:Nat):∀p∈zJp l,p.2.bnd k=true:=by
 induction l using mK with
 |nil=>simp[zJp]
 |snoc l y ih =>
  rw[zO8];have:∀es:List (wB×A),(∀p∈es,p.2.bnd k=true)->∀p∈putI (xZ y) (.lit (.bool true)) es,p.2.bnd k=true:=by
   intro es;induction es with
   |nil=>intro _ p hp;simp[putI]at hp;subst hp;rfl
   |cons q es ih =>
    intro h p hp;simp only[putI]at hp;split at hp
    .rcases jA1.1 hp with rfl|hp
     .rfl
     .exact h p (jAo _ hp)
    .rcases jA1.1 hp with rfl|hp
     .exact h _ (jAs ..)
     .exact ih (fun p hp=>h p (jAo _ hp)) p hp
  exact this _ ih
variable{rf:Bool->Nat->Nat->A}{g:Nat->wC}
@[simp]theorem qHP(l:wF):((zJp l).map fun p=>(p.1,vw rf g p.2))=zJp l:=by
 have h:=zRw l 0;generalize zJp l=es at h;induction es with
 |nil=>rfl
 |cons p es ih =>
  rw[jAg,ih fun q hq=>h q (jAo _ hq),zES (k:=0) (fun l hl=>by omega) p.2 (h p (jAs ..))]
def zQY:Nat->Option wD:=fun|2=>some [(3,1),(4,0),(0,0),(1,0),(2,0),(5,0),(6,0)]|_=>none
abbrev kx(f:Func)(h:Nat->Option wD)(k:K):Prop:=qF Tryz.prog f.ntmps h (f.body.getD .skip)=some k.erase
theorem mz{f:Func}{h:Nat->Option wD}{k:K}(e:qF Tryz.prog f.ntmps h (f.body.getD .skip)=some k.erase):kx f h k:=e
def atV(l:wB)(i most:Int):Int:=if i<0\/(l.length:Int)<=i then 0 else bO (l.getD i.toNat 0) most
theorem fB(l:wB)(i most:Int)(hm:0<most):my 38 [.sl l.length (jQ l),int i,int most] [] (int (atV l i most)) []:=by
 refine mq [] [.slot 6] func38 (by kernel_rfl) ?_
 (conv in kq _ _=>cbv)
 by_cases h:i<0
 .simp[h];exact zA 0 (by simp[atV,h])
 by_cases h2:(l.length:Int)<=i
 .simp[h,h2];exact fun _=>zA 0 (by simp[atV,h2])
 .obtain⟨j,rfl⟩:∃j:Nat,i=j:=⟨i.toNat,by omega⟩;have hj:j<l.length:=by omega
  have hd:=eI hj;simp[h,h2,hj,hd];intro _;refine mu (zBv l[j] most hm) (by simp) ?_;simp;exact zA 0 (by simp[atV,hj,h,show ¬l.length<=j by omega])
variable{l:wB}
theorem yA{i most:Int}(hl:∀x∈l,w64 x=x)(hm:0<most):0<=atV l i most/\atV l i most<most:=by
 unfold atV;split
 .omega
 .rename_i h;have hj:i.toNat<l.length:=by omega
  rw[jBe,jA0 hj];exact rA (hl _ (jA3 hj)) hm
def idR(k:Int):Id:=⟨0,IntKind.i64.wrap (1+IntKind.i64.wrap (k.tdiv 32)),k.tmod 32⟩
theorem sR(k:Int):my 83 [int k] [] (.agg (zG (idR k))) []:=by
 refine mq [] [.cell 2 3 true] func83 (by kernel_rfl) ?_
 (conv in kq _ _=>cbv)
 simp;exact zA 0 (by simp[zG,idR])
theorem zC7(d:Id):my 62 [.agg (zG d)] [] (.agg (zB (.mk 3 d []))) []:=by
 refine mq [] [.cell 2 5 true] func62 (by kernel_rfl) ?_
 (conv in kq _ _=>cbv)
 simp[zG];exact zA 0 (by simp[zB])
theorem zT8(t:Typ):my 126 [.agg (zB t)] [] (.agg (zB (.mk 2 ⟨0,0,0⟩ [t]))) []:=by
 refine mq [] [.cell 2 5 true] func126 (by kernel_rfl) ?_
 (conv in kq _ _=>cbv)
 simp[zB];exact zA 0 (by simp[zB,qW])
mutual
theorem mU:∀(a b:Typ),my 39 [.agg (zB a),.agg (zB b)] [] (bl (aF a b)) []
 | .mk k i l,b=>by
  have ih:=zEE l;generalize ha:Typ.mk k i l=a;have hal:a.kids=l:=by rw[<-ha];rfl
  rw[<-hal]at ih;refine mq [] [.slot 4] func39 (by kernel_rfl) ?_
  (conv in kq _ _=>cbv)
  have hd:=zGw a b;by_cases h1:a.k=b.k
  .by_cases h2:a.id=b.id
   .by_cases h3:a.kids.length=b.kids.length
    .simp[zB,h1,h2,h3];intro hl;refine qM (S:=Nat) (fun j=>[(2,.ptr 0 0),(3,.ptr 1 0),(5,int j)]) (fun _=>[.box (zB a),.box (zB b)]) (fun j=>j<=a.kids.length/\∀(m:Nat) (hm:m<j) (hma:m<a.kids.length) (hmb:m<b.kids.length),aF a.kids[m] b.kids[m]=true) (fun j=>a.kids.length-j) 0 (by simp)
      (mw [0,1] 0 (by rfl) (by simp[zB,h1,h2,h3])) ?_
     rintro j ⟨hj,hs⟩;by_cases h:j<a.kids.length
     .have hb:j<b.kids.length:=by omega
      simp[zB,h,lN h,lN hb,hb];intro hl';refine zZ (ih a.kids[j] (jA3 h) b.kids[j]) (by simp[zB]) (by simp) ?_;cases hab:aF a.kids[j] b.kids[j]
      .have:sV aF a.kids b.kids=false:=by rw[<-jCn,s9 h3];intro hh;have:=hh j h;rw[hab]at this;cases this
       simp;exact zA 0 (by simp[hd,this])
      .simp;exact zN (j+1) ⟨h,fun m hm hma hmb=>by
        by_cases e:m=j
        .subst e;exact hab
        .exact hs m (by omega) hma hmb⟩ (by omega) (mw [0,1] 0 (by rfl) (by simp[zB,z6 h (show a.kids.length<=maxLen by omega)]))
     .have hj':j=a.kids.length:=by omega
      have:sV aF a.kids b.kids=true:=(s9 h3).2 fun m hm=>hs m (by omega) hm (by omega)
      simp[zB,h]
      first|exact fun _=>zA 0 (by simp[hd,h1,h2,this])|exact zA 0 (by simp[hd,h1,h2,this])
    .have h4:=zDh (same:=aF) h3;have h5:¬((a.kids.length:Int)=b.kids.length):=by omega
     simp[zB,h1,h2,h3,h5]
     first|exact fun _ _=>zA 0 (by simp[hd,h4])|exact fun _=>zA 0 (by simp[hd,h4])|exact zA 0 (by simp[hd,h4])
   .have h3:oG a.id.a a.id.b a.id.c b.id.a b.id.b b.id.c=false:=by rw[cC];exact decide_eq_false h2
    simp[zB,h1,h3];exact zA 0 (by simp[hd,h2])
  .simp[zB,h1];exact zA 0 (by simp[hd,h1])
theorem zEE:∀(l:wQ),∀x∈l,∀y:Typ,my 39 [.agg (zB x),.agg (zB y)] [] (bl (aF x y)) []
 |[],x,hx,_=>by simp at hx
 |z::l,x,hx,y=>by
  rcases jA1.1 hx with e|hx
  .rw[e];exact mU z y
  .exact zEE l x hx y
end
structure Mk where
 mods:List Md
 defs:List Dfn
 l:List Int
 at_:Int
 temp:Int
 left:Int
 own:Int
 home:Id
 name:Int
def mkB(m:Mk):wE:=[.sl m.mods.length (qO m.mods),.row 1 m.defs.length,.sl m.l.length (jQ m.l),int m.at_,int m.temp,int m.left,int m.own,int m.home.a,int m.home.b,int m.home.c,int m.name]
def mkS(m:Mk):St:=[.box (mkB m),.row false 41 31 m.defs.length (z7 m.defs)]
theorem zR8(m:Mk)(n:Int)(hn:0<n)(h0:0<=m.at_)(h1:m.at_<=1000000000000000) :
 my 128 [.ptr 0 0,int n] (mkS m) (int (atV m.l m.at_ n)) (mkS {m with at_:=m.at_+1}):=by
 refine mq [] [.slot 4] func128 (by kernel_rfl) ?_
 (conv in kq _ _=>cbv)
 have w1:=qA (m.at_+1) (by omega);have w2:=qA m.at_ (by omega);simp[mkS,mkB,w1,w2];refine zZ (fB m.l m.at_ n hn) (by simp) (by simp) ?_;simp;exact mv [0,1] 0 (by rfl) (by simp)
theorem aL(m:Mk)(kind n:Int)(kids:wG)(h0:0<=m.temp)(h1:m.temp<=1000000000000000)(h2 : -1000000000000000<=m.left)(h3:m.left<=1000000000000000) :
 my 132 [.ptr 0 0,int kind,int n,.sl kids.length (qL kids)] (mkS m) (.agg (zH (.mk ⟨0,0,m.temp⟩ kind n Id.zero Typ.zero kids []))) (mkS {m with temp:=m.temp+1,left:=m.left-1}):=by
 refine mq [] [.cell 8 15 true] func132 (by kernel_rfl) ?_
 (conv in kq _ _=>cbv)
 have w1:=qA (m.temp+1) (by omega);have w2:=qA m.temp (by omega);have w3:=qA (m.left-1) (by omega);simp[mkS,mkB,w1,w2,w3];exact mv [0,1] 0 (by rfl) (by simp[zH,Typ.zero,Id.zero,Typ.kids,Typ.k,Typ.id])
def scA:List EVar->A
 |[]=>.lit (.pointer none)
 |b::l=>.rptr (oA b++[scA l])
@[simp]theorem qIh:scA []=.lit (.pointer none):=rfl
theorem uU(b:EVar)(l:wM):scA (b::l)=.rptr [.lit (.int .i64 b.id.a),.lit (.int .i64 b.id.b),.lit (.int .i64 b.id.c),.lit (.int .i64 b.n),.lit (.int .i64 b.v.k),.lit (.int .i64 b.v.n),.sl b.v.kids.length (zS b.v.kids),scA l]:=rfl
@[simp]theorem zR7:∀l:wM,nrm0 (scA l)=scA l
 |[]=>rfl
 |b::l=>by simp[uU,zR7 l]
@[simp]theorem zYX{rf:Bool->Nat->Nat->A}{g:Nat->wC}:∀l:wM,vw rf g (scA l)=scA l
 |[]=>rfl
 |b::l=>by simp[uU,zYX l]
@[simp]theorem zVz(l:wM):cellsOf (scA l)=some [scA l]:=by cases l<;>rfl
abbrev scE(V:wM):A:=scA V.reverse
@[simp]theorem qIi:scE []=.lit (.pointer none):=rfl
@[simp]theorem qFH(V:wM)(b:EVar):scE (V++[b])=scA (b::V.reverse):=by simp[scE]
@[simp]theorem qA3(V:wM)(a b:EVar):scE (V++[a,b])=scA (b::a::V.reverse):=by simp[scE]
def zCw(l:wM)(id:Id)(n:Int):Val:=((l.find? fun b=>decide (b.id=id/\b.n=n)).map EVar.v).getD (.mk 0 0 [])
theorem zKM(b:EVar)(l:wM)(id:Id)(n:Int):zCw (b::l) id n=if b.id=id/\b.n=n then b.v else zCw l id n:=by unfold zCw;rw[jD7];by_cases h:b.id=id/\b.n=n<;>simp[h]
def zRR(a b c n a' b' c' n':Int):Bool:=decide (Id.mk a b c=Id.mk a' b' c'/\n=n')
@[simp]theorem qFG{x y:Id}{n m:Int}:zRR x.a x.b x.c n y.a y.b y.c m=decide (x=y/\n=m):=rfl
@[simp]theorem qDV{a b c n a' b' c' n':Int}:zGS [.i,.i,.i,.i] false (.agg [.lit (.int .i64 a),.lit (.int .i64 b),.lit (.int .i64 c),.lit (.int .i64 n)]) (.agg [.lit (.int .i64 a'),.lit (.int .i64 b'),.lit (.int .i64 c'),.lit (.int .i64 n')]) =
 some (.lit (.bool (zRR a b c n a' b' c' n'))):=by simp[zGS,aP,gI,eD,and_assoc,zRR]
theorem zQt(l:wM)(id:Id)(n:Int):my 175 [scA l,.agg [int id.a,int id.b,int id.c,int n]] [] (.agg (zL (zCw l id n))) []:=by
 refine mq [] [.cell 4 3 true] func175 (by kernel_rfl) ?_
 (conv in kq _ _=>cbv)
 simp;refine qM (S:=wM) (fun s=>[(0,scA s),(3,.ptr 0 0),(4,.ptr 1 0)]) (fun _=>[.box [int id.a,int id.b,int id.c,int n],.box [int 0,int 0,.nil]])
  (fun s=>zCw l id n=zCw s id n) (fun s=>s.length) l rfl (mw [0,1] 0 (by rfl) (by simp)) ?_
 intro s hs;cases s with
 |nil =>
  simp;exact zA 0 (by rw[hs];simp[zCw,zL,Val.k,Val.n,Val.kids])
 |cons b s =>
  rw[zKM]at hs;by_cases h:b.id=id/\b.n=n
  .rw[if_pos h]at hs;obtain⟨rfl,rfl⟩:=h;simp[uU];exact zA 0 (by rw[hs];simp[zL])
  .rw[if_neg h]at hs;have hd:decide (b.id=id/\b.n=n)=false:=by simpa using h
   simp[uU,hd,-Bool.decide_and];exact zN s hs (by simp) (mw [0,1] 0 (by rfl) (by simp))
theorem iF(l:wM)(b:EVar):my 109 [scA l,.agg (zG b.id),int b.n,.agg (zL b.v)] [] (scA (b::l)) []:=by
 refine mq [] [.slot 8] func109 (by kernel_rfl) ?_
 (conv in kq _ _=>cbv)
 simp[zG,zL];exact zA 1 (by simp[uU])
theorem zBA(v:Val):my 152 [.agg (zL v)] [] (int (mZ v)) []:=by
 refine mq [] [.slot 2] func152 (by kernel_rfl) ?_
 (conv in kq _ _=>cbv)
 simp[zL];intro hl;refine qM (S:=Nat) (fun i=>[(3,int (zHo (v.kids.take i))),(7,.sl v.kids.length (zS v.kids)),(8,int v.kids.length),(9,int i)]) (fun s=>[]) (fun i=>i<=v.kids.length) (fun i=>v.kids.length-i) 0 (by simp)
  (mw [] 0 (by rfl) (by simp[zHo])) ?_
 intro i hi;simp;by_cases h:i<v.kids.length
 .simp[h,jY h];refine mu (zBA v.kids[i]) (by simp[zL]) ?_;simp;exact zN (i+1) h (by omega) (mw [] 0 (by rfl) (by simp[z6 h hl,zGg h,zO9]))
 .have:i=v.kids.length:=by omega
  subst this;simp;exact zA 0 (by simp[zF7 v,w64])
termination_by qN v
decreasing_by exact cL (jA3 _)
def zE:wE:=[.lit (.int .i64 0),.lit (.int .i64 0),.lit (.int .i64 0),.lit (.int .i64 0),.lit (.int .i64 0),.lit (.int .i64 0),.lit (.int .i64 0),.lit (.int .i64 0),.lit (.int .i64 0),.lit (.int .i64 0),.lit (.int .i64 0),.lit (.int .i64 0),.nil,.nil,.nil]
def zD:wE:=[.lit (.int .i64 0),.lit (.int .i64 0),.lit (.int .i64 0),.lit (.int .i64 0),.lit (.int .i64 0),.lit (.int .i64 0),.lit (.int .i64 0),.lit (.string ⟨#[]⟩),.nil,.lit (.int .i64 0),.lit (.int .i64 0),.lit (.int .i64 0),.lit (.int .i64 0),.nil,.lit (.int .i64 0),.lit (.int .i64 0),.lit (.int .i64 0),.lit (.int .i64 0),.lit (.int .i64 0),.lit (.int .i64 0),.lit (.int .i64 0),.lit (.int .i64 0),.lit (.int .i64 0),.lit (.int .i64 0),.lit (.int .i64 0),.lit (.int .i64 0),.nil,.nil,.nil,.lit (.int .i64 0),.nil]
@[simp]theorem zZO{z:Value}{a:A}:rX z true (some a)=.tup [a,.lit (.bool true)]:=rfl
@[simp]theorem zXM:rX (.agg #[(.int .i64 0),(.int .i64 0),(.int .i64 0),(.int .i64 0),(.int .i64 0),(.int .i64 0),(.int .i64 0),(.int .i64 0),(.int .i64 0),(.int .i64 0),(.int .i64 0),(.int .i64 0),(.slice none 0 0),(.slice none 0 0),(.slice none 0 0)]) true none=.tup [.agg zE,.lit (.bool false)]:=by kernel_rfl
@[simp]theorem zXL:rX (.agg #[(.int .i64 0),(.int .i64 0),(.int .i64 0),(.int .i64 0),(.int .i64 0),(.int .i64 0),(.int .i64 0),(.string ⟨#[]⟩),(.slice none 0 0),(.int .i64 0),(.int .i64 0),(.int .i64 0),(.int .i64 0),(.slice none 0 0),(.int .i64 0),(.int .i64 0),(.int .i64 0),(.int .i64 0),(.int .i64 0),(.int .i64 0),(.int .i64 0),(.int .i64 0),(.int .i64 0),(.int .i64 0),(.int .i64 0),(.int .i64 0),(.slice none 0 0),(.slice none 0 0),(.slice none 0 0),(.int .i64 0),(.slice none 0 0)]) true none=.tup [.agg zD,.lit (.bool false)]:=by kernel_rfl
@[simp]theorem qLE:zE.length=15:=rfl
@[simp]theorem qLD:zD.length=31:=rfl
def zHn{α:Type}(idf : α->Id)(enc : α->wE)(l:List α):List (wB×A):=l.map fun x=>(xZ (idf x),.agg (enc x))
@[simp]theorem zMT{α:Type}{idf : α->Id}{enc : α->wE}(hp:∀x,qP (enc x))(l:List α):((zHn idf enc l).map fun p=>(p.1,vw rf g p.2))=zHn idf enc l:=by
 simp only[zHn,jCg];refine jC3 fun x _=>?_
 simp[(hp x).2]
@[simp]theorem qHO(l:wG):((zHn Exp.id zH l).map fun p=>(p.1,vw rf g p.2))=zHn Exp.id zH l:=zMT xO l
@[simp]theorem qHN(l:wP):((zHn Dfn.id zI l).map fun p=>(p.1,vw rf g p.2))=zHn Dfn.id zI l:=zMT bJ l
structure Bnd where
 id:Id
 n:Int
 typ:Typ
abbrev wI:=List Bnd
def cI(b:Bnd):wE:=[.lit (.int .i64 b.id.a),.lit (.int .i64 b.id.b),.lit (.int .i64 b.id.c),.lit (.int .i64 b.n),.lit (.int .i64 b.typ.k),.lit (.int .i64 b.typ.id.a),.lit (.int .i64 b.typ.id.b),.lit (.int .i64 b.typ.id.c),.sl b.typ.kids.length (jG b.typ.kids)]
theorem xN(b:Bnd):qP (cI b):=by have h1:=yW b.typ.kids;exact⟨by simp[cI,h1.1],fun rf g=>by simp[cI,h1.2]⟩
def zW(l:wI):wE:=l.flatMap cI
theorem zAx(l:wI):qP (zW l):=cW xN l
@[simp]theorem zVT(l:wI):jH (zW l)=zW l:=(zAx l).1
@[simp]theorem qAI{rf g}(l:wI):vwL rf g (zW l)=zW l:=(zAx l).2 _ _
@[simp]theorem zXa:zW []=[]:=rfl
theorem zCo(x:Bnd)(l:wI):zW (x::l)=cI x++zW l:=rfl
theorem vV(l l':wI):zW (l++l')=zW l++zW l':=by simp only[zW,jBw]
@[simp]theorem zWZ(l:wI):(zW l).length=l.length*9:=by rw[zW,fF (k:=9) (fun _=>rfl)]
theorem gO{l:wI}(h:i<l.length):(zW l).drop (i*9)=cI l[i]++zW (l.drop (i+1)):=by rw[zW,zW,fR (k:=9) (fun _=>rfl) h]
theorem zB0{l:wI}(h:i<l.length):zW (l.take (i+1))=zW (l.take i)++cI l[i]:=by rw[zW,zW,iI (k:=9) (fun _=>rfl) h]
@[simp]theorem qDE(d:Bnd):(cI d).length=9:=rfl
@[simp]theorem qDD(d:Bnd):(cI d).take 9=cI d:=jAc (jA _)
@[simp]theorem zZ6(d:Bnd)(l:wE):(cI d++l).take 9=cI d:=by rw[jBz (by simp)];exact jAc (by simp)
@[simp]theorem qAe(d:Bnd):jH (cI d)=cI d:=(xN d).1
@[simp]theorem qIu(d:Bnd) {rf g}:vwL rf g (cI d)=cI d:=(xN d).2 _ _
theorem tmN{x k:Int}(h:0<=x):x.tmod k=x % k:=jDr h
theorem tdN{x k:Int}(h:0<=x):x.tdiv k=x / k:=Int.tdiv_eq_ediv_of_nonneg h
theorem zDa(m:Mk)(h0:0<=m.name)(h1:m.name<=1000000000000000) :
 ∃s:ByteArray,my 133 [.ptr 0 0] (mkS m) (.lit (.string s)) (mkS {m with name:=m.name+1}):=by
 have w1:=qA (m.name+1) (by omega);have e1:(m.name+1).tmod 3=(m.name+1) % 3:=tmN (by omega);have e2:(m.name+1).tdiv 3=(m.name+1) / 3:=tdN (by omega);have e3:((m.name+1).tdiv 3).tmod 8=((m.name+1) / 3) % 8:=by rw[e2];exact tmN (by omega)
 have w2:IntKind.i64.wrap ((m.name+1).tdiv 3)=(m.name+1).tdiv 3:=IntWalk.i64_in _ (by rw[e2];omega);have a0:0<=(m.name+1).tmod 3:=by omega
 have a1:(m.name+1).tmod 3<3:=by omega
 have b0:0<=((m.name+1).tdiv 3).tmod 8:=by omega
 have b1:((m.name+1).tdiv 3).tmod 8<8:=by omega
 have hA:∃s1 rest,s1.size<=10/\List.drop ((m.name+1).tmod 3).toNat [A.lit (.string ⟨#[117]⟩),A.lit (.string ⟨#[118]⟩),A.lit (.string ⟨#[119]⟩)]=A.lit (.string s1)::rest:=by
  have:((m.name+1).tmod 3).toNat=0\/((m.name+1).tmod 3).toNat=1\/((m.name+1).tmod 3).toNat=2:=by omega
  rcases this with e|e|e<;>rw[e]<;>exact⟨_,_,by decide,rfl⟩
 have hB:∃s1 rest,s1.size<=10/\List.drop (((m.name+1).tdiv 3).tmod 8).toNat [A.lit (.string ⟨#[]⟩),A.lit (.string ⟨#[49]⟩),A.lit (.string ⟨#[50]⟩),A.lit (.string ⟨#[51]⟩),A.lit (.string ⟨#[52]⟩),A.lit (.string ⟨#[53]⟩),A.lit (.string ⟨#[54]⟩),A.lit (.string ⟨#[55]⟩)]=A.lit (.string s1)::rest:=by
  generalize ((m.name+1).tdiv 3).tmod 8=b at b0 b1;have:b.toNat=0\/b.toNat=1\/b.toNat=2\/b.toNat=3\/b.toNat=4\/b.toNat=5\/b.toNat=6\/b.toNat=7:=by omega
  rcases this with e|e|e|e|e|e|e|e<;>rw[e]<;>exact⟨_,_,by decide,rfl⟩
 obtain⟨sa,ra,hsa,hA⟩:=hA;obtain⟨sb,rb,hsb,hB⟩:=hB;refine⟨sa++sb,?_⟩;refine mq [] [.slot 2] func133 (by kernel_rfl) ?_
 (conv in kq _ _=>cbv)
 have h3:((m.name+1).tmod 3).toNat<3:=by omega
 have h8:(((m.name+1).tdiv 3).tmod 8).toNat<8:=by omega
 simp[mkS,mkB,w1,w2,hA,hB,a0,a1,b0,b1,h3,h8];refine⟨by omega,?_⟩;exact mv [0,1] 0 (by rfl) (by simp)
theorem zSv(m:Mk)(b:Bnd)(h0:0<=m.temp)(h1:m.temp<=1000000000000000)(h2 : -1000000000000000<=m.left)(h3:m.left<=1000000000000000) :
 my 130 [.ptr 0 0,.agg (cI b)] (mkS m) (.agg (zH (.mk ⟨0,0,m.temp⟩ 2 b.n b.id Typ.zero [] []))) (mkS {m with temp:=m.temp+1,left:=m.left-1}):=by
 refine mq [] [.cell 4 15 true] func130 (by kernel_rfl) ?_
 (conv in kq _ _=>cbv)
 simp[mkS,mkB,cI];refine mr (aL m 2 b.n [] h0 h1 h2 h3) [0,1] (by simp[mkS,mkB]) ?_;simp[mkS,mkB,zH];exact mv [0,1] 0 (by rfl) (by simp)
theorem zDE(env:wI)(t:Typ)(hE:env.length<=1000000):my 129 [.sl env.length (zW env),.agg (zB t)] [] (.sl (env.filter fun b=>aF b.typ t).length (zW (env.filter fun b=>aF b.typ t))) []:=by
 refine mq [] [.slot 4] func129 (by kernel_rfl) ?_
 (conv in kq _ _=>cbv)
 simp[zB];refine qM (S:=Nat) (fun i=>[(0,.sl env.length (zW env)),(3,.ptr 0 0),(5,.row 1 ((env.take i).filter fun b=>aF b.typ t).length),(6,int i)]) (fun i=>[.box (zB t),.row false 139 9 ((env.take i).filter fun b=>aF b.typ t).length (zW ((env.take i).filter fun b=>aF b.typ t))]) (fun i=>i<=env.length) (fun i=>env.length-i) 0 (by simp)
  ((jW (t:=5) (by simp) 139 9).trans (mw [0,1] 0 (by rfl) (by simp[zB]))) ?_
 intro i hi;by_cases h:i<env.length
 .simp[h,gO h,cI,zB];intro hl;refine zZ (mU env[i].typ t) (by simp[zB]) (by simp) ?_;have hst:((env.take (i+1)).filter fun b=>aF b.typ t)=((env.take i).filter fun b=>aF b.typ t)++(if aF env[i].typ t then [env[i]]else []):=by rw[jA8 h,jD8];cases hs:aF env[i].typ t<;>simp[hs]
  cases hs:aF env[i].typ t
  .simp;rw[hs]at hst;simp only[jAi,if_false,jB8]at hst;exact zN (i+1) h (by omega) (mw [0,1] 0 (by rfl) (by simp[zB,hst,z6 h hl]))
  .simp[h,gO h,cI];rw[hs]at hst;simp only[if_true]at hst;have hle:((env.take i).filter fun b=>aF b.typ t).length<=i:=jBu (jCi _ _) (by simp;omega);refine⟨⟨by simp[maxLen];omega,by omega⟩,?_⟩;exact zN (i+1) h (by omega) (mw [0,1] 0 (by rfl) (by simp[zB,hst,vV,zCo,cI,z6 h hl]))
 .have:i=env.length:=by omega
  subst this;simp;exact fun _=>zA 1 (by simp)
theorem lJ(env:wI)(b:Bnd)(hE:env.length<=1000000):my 134 [.sl env.length (zW env),.agg (cI b)] [] (.sl (env.length+1) (zW (env++[b]))) []:=by
 refine mn zQY [] [.slot 4] func134 (by kernel_rfl) ?_
 (conv in zY _ _ _ _=>cbv)
 simp[cI];exact⟨⟨by simp[maxLen];omega,by omega⟩,⟨by simp[maxLen];omega,by omega⟩,zA 1 (by simp[vV,zCo,cI])⟩
def zFs(ds:wP):St:=[.row false 41 31 ds.length (z7 ds)]
def vO(ds:wP)(i:Id):Dfn×Bool:=match ds.find? fun d=>decide (d.id=i)with
 |some d=>(d,true)
 |none=>(Dfn.zero,false)
theorem zBD{ds:wP}{x:Id}(h:i<ds.length)(hn:∀d∈ds.take i,d.id≠x)(he:ds[i].id=x):(ds.find? fun d=>decide (d.id=x))=some ds[i]:=by
 have e:ds=ds.take i++ds[i]::ds.drop (i+1):=by rw[<-jB0 h,jC0]
 have h1:((ds.take i).find? fun d=>decide (d.id=x))=none:=jD0.2 fun d hd=>by simpa using hn d hd
 have h2:∀y,y=ds[i]->(ds.find? fun d=>decide (d.id=x))=some y:=fun y hy=>by rw[<-hy]at e he;rw[e,List.find?_append,h1];simp[he]
 exact h2 _ rfl
theorem zJB(M:List Md)(ds:wP)(x:Id)(hL:ds.length<=1000000):my 36 [.agg [.sl M.length (qO M),.row 0 ds.length],.agg (zG x)] (zFs ds) (.tup [.agg (zI (vO ds x).1),bl (vO ds x).2]) (zFs ds):=by
 refine mq [] [.cell 4 31 true,.slot 5] func36 (by kernel_rfl) ?_
 (conv in kq _ _=>cbv)
 simp[zFs,zG];refine qM (S:=Nat) (fun i=>[(2,.ptr 1 0),(3,.ptr 2 0),(4,.ptr 3 0),(6,int i)]) (fun _=>[.row false 41 31 ds.length (z7 ds),.box [.sl M.length (qO M),.row 0 ds.length],.box (zG x),.box (zI Dfn.zero)]) (fun i=>i<=ds.length/\∀d∈ds.take i,d.id≠x) (fun i=>ds.length-i) 0 (by simp)
  (mw [0,1,2,3] 0 (by rfl) (by simp[zG,zI,Dfn.zero,Id.zero,Typ.zero,Exp.zero])) ?_
 rintro i ⟨hi,hn⟩;by_cases h:i<ds.length
 .have hd:=j6 h;have hb3:i*31+3<=ds.length*31:=by omega
  have hb31:i*31+31<=ds.length*31:=by omega
  have hw:=yK i (by omega);by_cases he:ds[i].id=x
  .have hv:vO ds x=(ds[i],true):=by unfold vO;rw[zBD h hn he]
   have he3:oG ds[i].id.a ds[i].id.b ds[i].id.c x.a x.b x.c=true:=by rw[cC];exact decide_eq_true he
   simp[h,hd,zG,zI,he3,hb3,hb31];exact mv [0] 0 (by rfl) (by simp[hv,zI])
  .have he3:oG ds[i].id.a ds[i].id.b ds[i].id.c x.a x.b x.c=false:=by rw[cC];exact decide_eq_false he
   simp[h,hd,zG,zI,he3,hb3,hb31];exact zN (i+1) ⟨h,fun d hd'=>by
    rw[jA8 h]at hd';rcases jAa.1 hd' with hd'|hd'
    .exact hn d hd'
    .rw[jAl.1 hd'];exact he⟩ (by omega) (mw [0,1,2,3] 0 (by rfl) (by simp[zG,zI,Dfn.zero,Id.zero,Typ.zero,Exp.zero,hw]))
 .have:i=ds.length:=by omega
  subst this;rw[jAr]at hn;have hv:vO ds x=(Dfn.zero,false):=by unfold vO;rw[jD0.2 fun d hd=>by simpa using hn d hd]
  simp[zI,Dfn.zero,Id.zero,Typ.zero,Exp.zero]
  first|exact fun _=>mv [0] 0 (by rfl) (by simp[hv,zI,Dfn.zero,Id.zero,Typ.zero,Exp.zero])|exact mv [0] 0 (by rfl) (by simp[hv,zI,Dfn.zero,Id.zero,Typ.zero,Exp.zero])
theorem zTZ(M:List Md)(ds:wP)(x:Id)(hL:ds.length<=1000000):my 36 [.agg [.sl M.length (qO M),.sl ds.length (z7 ds)],.agg (zG x)] [] (.tup [.agg (zI (vO ds x).1),bl (vO ds x).2]) []:=by
 refine mq [] [.cell 4 31 true,.slot 5] func36 (by kernel_rfl) ?_
 (conv in kq _ _=>cbv)
 simp[zFs,zG];refine qM (S:=Nat) (fun i=>[(2,.ptr 0 0),(3,.ptr 1 0),(4,.ptr 2 0),(6,int i)]) (fun _=>[.box [.sl M.length (qO M),.sl ds.length (z7 ds)],.box (zG x),.box (zI Dfn.zero)]) (fun i=>i<=ds.length/\∀d∈ds.take i,d.id≠x) (fun i=>ds.length-i) 0 (by simp)
  (mw [0,1,2] 0 (by rfl) (by simp[zG,zI,Dfn.zero,Id.zero,Typ.zero,Exp.zero])) ?_
 rintro i ⟨hi,hn⟩;by_cases h:i<ds.length
 .have hd:=j6 h;have hb3:i*31+3<=ds.length*31:=by omega
  have hb31:i*31+31<=ds.length*31:=by omega
  have hw:=yK i (by omega);by_cases he:ds[i].id=x
  .have hv:vO ds x=(ds[i],true):=by unfold vO;rw[zBD h hn he]
   have he3:oG ds[i].id.a ds[i].id.b ds[i].id.c x.a x.b x.c=true:=by rw[cC];exact decide_eq_true he
   simp[h,hd,zG,zI,he3,hb3,hb31];intro hl;exact mv [] 0 (by rfl) (by simp[hv,zI])
  .have he3:oG ds[i].id.a ds[i].id.b ds[i].id.c x.a x.b x.c=false:=by rw[cC];exact decide_eq_false he
   simp[h,hd,zG,zI,he3,hb3,hb31];intro hl;exact zN (i+1) ⟨h,fun d hd'=>by
    rw[jA8 h]at hd';rcases jAa.1 hd' with hd'|hd'
    .exact hn d hd'
    .rw[jAl.1 hd'];exact he⟩ (by omega) (mw [0,1,2] 0 (by rfl) (by simp[zG,zI,Dfn.zero,Id.zero,Typ.zero,Exp.zero,hw]))
 .have:i=ds.length:=by omega
  subst this;rw[jAr]at hn;have hv:vO ds x=(Dfn.zero,false):=by unfold vO;rw[jD0.2 fun d hd=>by simpa using hn d hd]
  simp[zI,Dfn.zero,Id.zero,Typ.zero,Exp.zero]
  first|exact fun _=>mv [] 0 (by rfl) (by simp[hv,zI,Dfn.zero,Id.zero,Typ.zero,Exp.zero])|exact mv [] 0 (by rfl) (by simp[hv,zI,Dfn.zero,Id.zero,Typ.zero,Exp.zero])
def zH8{α:Type}(idf : α->Id)(D:List α)(c : α->Bool)(met:wA):wF:=met.filterMap fun i=>(D[i]?).bind fun x=>if c x then some (idf x)else none
variable{met:wA}
theorem zOW{α:Type}{idf : α->Id}{D:List α}{c : α->Bool}{x : α}(h:D[i]?=some x):zH8 idf D c (met++[i])=if c x then zH8 idf D c met++[idf x]else zH8 idf D c met:=by simp only[zH8,List.filterMap_append,List.filterMap_cons,List.filterMap_nil,h,Option.bind_some];cases c x<;>simp
theorem zI9{α β:Type}{f g : α->Option β}:∀{l:List α},(∀x∈l,f x=g x)->l.filterMap f=l.filterMap g
 |[],_=>rfl
 |x::l,h=>by rw[List.filterMap_cons,List.filterMap_cons,h x (jAs ..),zI9 fun y hy=>h y (jAo _ hy)]
theorem zLM{α:Type}{idf : α->Id}{c : α->Bool}(D:List α):zH8 idf D c (List.range D.length)=(D.filter c).map idf:=by
 induction D using mK with
 |nil=>rfl
 |snoc D y ih =>
  have h1:zH8 idf (D++[y]) c (List.range D.length)=zH8 idf D c (List.range D.length):=by
   unfold zH8;refine zI9 fun i hi=>?_
   rw[jAj (jBr.1 hi)]
  rw[jA5,jAx,List.range_succ,zOW (x:=y) (by simp),h1,ih,jD8,jBl];cases hc:c y<;>simp[hc]
structure Met(n:Nat)(met:List Nat):Prop where
 nd:met.Nodup
 lt:∀i∈met,i<n
theorem Met.snoc{n:Nat}(h:Met n met)(hi:i<n)(hn:i∉met):Met n (met++[i]):=by
 refine⟨?_,fun j hj=>?_⟩
 .rw[jCu];refine⟨h.nd,by simp,fun a ha b hb=>?_⟩;simp only[jAl]at hb;subst hb;exact fun e=>hn (e▸ha)
 .rcases jAa.1 hj with hj|hj
  .exact h.lt j hj
  .rw[jAl.1 hj];exact hi
theorem Met.le{n:Nat}(h:Met n met):met.length<=n:=by
 have:=h.nd.length_le_of_subset (l₂:=List.range n) fun i hi=>jBr.2 (h.lt i hi)
 simpa using this
theorem Met.perm{n:Nat}(h:Met n met)(ha:∀i,i<n->i∈met):met.Perm (List.range n) :=
 (List.perm_ext_iff_of_nodup h.nd List.nodup_range).2 fun i=>⟨fun hi=>jBr.2 (h.lt i hi),fun hi=>ha i (jBr.1 hi)⟩
theorem Met.sel{α:Type}{idf : α->Id}{c : α->Bool}{D:List α}(h:Met D.length met)(ha:∀i,i<D.length->i∈met):(zH8 idf D c met).Perm ((D.filter c).map idf):=by rw[<-zLM];exact(h.perm ha).filterMap _
@[simp]theorem qEM{α:Type}{idf : α->Id}{enc : α->wE}{D:List α}:(zHn idf enc D).length=D.length:=by simp[zHn]
structure Hd where
 id:Id
 kind:Int
 slots:List Slt
 res:Typ
abbrev wO:=List Hd
def Dfn.hd(d:Dfn):Hd:=⟨d.id,d.kind,d.slots,d.res⟩
abbrev q9:Typ:=.mk 0 Id.zero []
abbrev jO:Typ:=.mk 1 Id.zero []
abbrev j5(t:Typ):Typ:=.mk 2 Id.zero [t]
abbrev yB(d:Id):Typ:=.mk 3 d []
inductive TyOk(hs:List Hd):Nat->Typ->Prop
 |int (r:Nat):TyOk hs r q9
 |bool (r:Nat):TyOk hs r jO
 |list (r:Nat) (t:Typ) (h:TyOk hs r t):TyOk hs (r+1) (j5 t)
 |dfn (r k:Nat) (h:k<hs.length) (h1:∀(j:Nat) (hj:j<k),hs[j].id≠hs[k].id) (h2:hs[k].kind=0\/hs[k].kind=1/\0<hs[k].slots.length) (h3:hs[k].slots.length<=6)
  (h4:∀s∈hs[k].slots,TyOk hs r s.typ):TyOk hs (r+1) (yB hs[k].id)
variable{hs:wO}{t:Typ}
theorem TyOk.mono{r r':Nat}(h:TyOk hs r t)(hr:r<=r'):TyOk hs r' t:=by
 induction h generalizing r' with
 |int r=>exact .int _
 |bool r=>exact .bool _
 |list r t h ih =>
  obtain⟨q,rfl⟩:∃q,r'=q+1:=⟨r'-1,by omega⟩;exact .list _ _ (ih (by omega))
 |dfn r k h h1 h2 h3 h4 ih =>
  obtain⟨q,rfl⟩:∃q,r'=q+1:=⟨r'-1,by omega⟩;exact .dfn _ k h h1 h2 h3 fun s hs'=>ih s hs' (by omega)
def dF(env:wI)(x:Id)(n:Int):Option Typ:=(env.reverse.find? fun b=>decide (b.id=x)&&decide (b.n=n)).map (·.typ)
inductive WT(hs:List Hd)(own:Int):List Bnd->Exp->Typ->Prop
 |int (env i n) (h1 : -1099511627776<=n) (h2:n<=1099511627776):WT hs own env (.mk i 0 n Id.zero Typ.zero [] []) q9
 |bool (env i n) (h:n=0\/n=1):WT hs own env (.mk i 1 n Id.zero Typ.zero [] []) jO
 |var (env i n x t) (h:dF env x n=some t):WT hs own env (.mk i 2 n x Typ.zero [] []) t
 |call (env i) (k:Nat) (h:k<hs.length) (ks) (ho:(k:Int)<own) (hk:hs[k].kind=2) (hl:ks.length=hs[k].slots.length) (hw:∀(j:Nat) (hj:j<ks.length),WT hs own env ks[j] (hs[k].slots[j]'(hl▸hj)).typ) :
  WT hs own env (.mk i 3 0 hs[k].id Typ.zero ks []) hs[k].res
 |arith (env i n a b) (h1:0<=n) (h2:n<=4) (ha:WT hs own env a q9) (hb:WT hs own env b q9):WT hs own env (.mk i 4 n Id.zero Typ.zero [a,b] []) q9
 |less (env i a b) (ha:WT hs own env a q9) (hb:WT hs own env b q9):WT hs own env (.mk i 4 5 Id.zero Typ.zero [a,b] []) jO
 |same (env i a b u) (ha:WT hs own env a u) (hb:WT hs own env b u):WT hs own env (.mk i 4 6 Id.zero Typ.zero [a,b] []) jO
 |andor (env i n a b) (h:n=7\/n=8) (ha:WT hs own env a jO) (hb:WT hs own env b jO):WT hs own env (.mk i 4 n Id.zero Typ.zero [a,b] []) jO
 |not (env i a) (ha:WT hs own env a jO):WT hs own env (.mk i 4 9 Id.zero Typ.zero [a] []) jO
 |join (env i a b t) (ha:WT hs own env a (j5 t)) (hb:WT hs own env b (j5 t)):WT hs own env (.mk i 4 10 Id.zero Typ.zero [a,b] []) (j5 t)
 |len (env i a t) (ha:WT hs own env a (j5 t)):WT hs own env (.mk i 4 11 Id.zero Typ.zero [a] []) q9
 |ite (env i a b c t) (ha:WT hs own env a jO) (hb:WT hs own env b t) (hc:WT hs own env c t):WT hs own env (.mk i 5 0 Id.zero Typ.zero [a,b,c] []) t
 |lets (env i a b u t ns) (hn:ns.length<=10) (ha:WT hs own env a u) (hb:WT hs own (env++[⟨i,0,u⟩]) b t):WT hs own env (.mk i 6 0 Id.zero Typ.zero [a,b] ns) t
 |record (env i) (k:Nat) (h:k<hs.length) (ks) (hk:hs[k].kind=0) (hl:ks.length=hs[k].slots.length) (hw:∀(j:Nat) (hj:j<ks.length),WT hs own env ks[j] (hs[k].slots[j]'(hl▸hj)).typ) :
  WT hs own env (.mk i 7 0 hs[k].id Typ.zero ks []) (yB hs[k].id)
 |field (env i) (k:Nat) (h:k<hs.length) (j:Nat) (hj:j<hs[k].slots.length) (a) (hk:hs[k].kind=0) (ha:WT hs own env a (yB hs[k].id)):WT hs own env (.mk i 8 j hs[k].id Typ.zero [a] []) hs[k].slots[j].typ
 |case (env i) (k:Nat) (h:k<hs.length) (j:Nat) (hj:j<hs[k].slots.length) (a) (hk:hs[k].kind=1) (ha:WT hs own env a hs[k].slots[j].typ):WT hs own env (.mk i 9 j hs[k].id Typ.zero [a] []) (yB hs[k].id)
 |mtch (env i) (k:Nat) (h:k<hs.length) (a ks t ns) (hn:ns.length<=10) (hk:hs[k].kind=1) (hl:ks.length=hs[k].slots.length) (ha:WT hs own env a (yB hs[k].id))
  (hw:∀(j:Nat) (hj:j<ks.length),WT hs own (env++[⟨i,j,(hs[k].slots[j]'(hl▸hj)).typ⟩]) ks[j] t):WT hs own env (.mk i 10 0 hs[k].id Typ.zero (a::ks) ns) t
 |list (env i t ks) (hw:∀(j:Nat) (hj:j<ks.length),WT hs own env ks[j] t):WT hs own env (.mk i 11 0 Id.zero t ks []) (j5 t)
 |fold (env i l s b u t ns) (hn:ns.length<=10) (hl:WT hs own env l (j5 u)) (hs':WT hs own env s t) (hb:WT hs own (env++[⟨i,0,u⟩]++[⟨i,1,t⟩]) b t):WT hs own env (.mk i 12 0 Id.zero Typ.zero [l,s,b] ns) t
mutual
def tmps:Exp->wB
 | .mk i _ _ _ _ ks _=>yF ks++[i.c]
def yF:List Exp->wB
 |[]=>[]
 |e::l=>tmps e++yF l
end
mutual
def Exp.num0:Exp->Prop
 | .mk i _ _ _ _ ks _=>(i.a=0/\i.b=0)/\zJ0 ks
def zJ0:List Exp->Prop
 |[]=>True
 |e::l=>e.num0/\zJ0 l
end
theorem zBS:∀l:wG,zJ0 l↔∀e∈l,e.num0
 |[]=>by simp[zJ0]
 |e::l=>by simp[zJ0,zBS l]
variable{ns:List ByteArray}
theorem iM{c k n:Int}{r:Id}{ks:wG}(h:∀e∈ks,e.num0):(Exp.mk ⟨0,0,c⟩ k n r t ks ns).num0:=by simp only[Exp.num0,zBS,true_and];exact h
theorem vI{c k n:Int}{r:Id}:(Exp.mk ⟨0,0,c⟩ k n r t [] ns).num0:=iM (by simp)
theorem zAS{es:wG}{n:Nat}(hn:es.length=n)(h:∀(j:Nat)(_:j<es.length),es[j].num0):∀e∈es,e.num0:=fun e he=>by obtain⟨j,hj,rfl⟩:=jAn he;exact h j hj
structure Seg(lo hi:Int)(l:List Int):Prop where
 nd:l.Nodup
 rng:∀x∈l,lo<=x/\x<hi
variable{a b c:Int}
theorem Seg.append{l':wB}(h:Seg a b l)(h':Seg b c l')(hab:a<=b)(hbc:b<=c):Seg a c (l++l'):=by
 refine⟨jCu.2 ⟨h.nd,h'.nd,fun x hx y hy e=>?_⟩,fun x hx=>?_⟩
 .have h1:=h.rng x hx;have h2:=h'.rng y hy;omega
 .rcases jAa.1 hx with hx|hx
  .have:=h.rng x hx;omega
  .have:=h'.rng x hx;omega
theorem Seg.perm{l':wB}(h:Seg a b l)(hp:l.Perm l'):Seg a b l':=⟨hp.nodup_iff.1 h.nd,fun x hx=>h.rng x (hp.mem_iff.2 hx)⟩
theorem Seg.one(a:Int):Seg a (a+1) [a]:=⟨by simp,fun x hx=>by simp at hx;omega⟩
theorem Seg.nil:Seg a b []:=⟨by simp,fun x hx=>by simp at hx⟩
theorem Seg.mono{a' b':Int}(h:Seg a b l)(h1:a'<=a)(h2:b<=b'):Seg a' b' l:=⟨h.nd,fun x hx=>by have:=h.rng x hx;omega⟩
structure Adv(m m':Mk)(c:Int):Prop where
 mods:m'.mods=m.mods
 defs:m'.defs=m.defs
 l:m'.l=m.l
 own:m'.own=m.own
 home:m'.home=m.home
 at1:m.at_<=m'.at_
 at2:m'.at_<=m.at_+c
 temp1:m.temp<=m'.temp
 temp2:m'.temp<=m.temp+c
 left1:m.left-c<=m'.left
 left2:m'.left<=m.left
 name1:m.name<=m'.name
 name2:m'.name<=m.name+c
variable{m m1:Mk}{c':Int}
theorem Adv.trans{m2:Mk}(h:Adv m m1 c)(k:Adv m1 m2 c'):Adv m m2 (c+c'):=by obtain⟨h1,h2,h3,h4,h5,h6,h7,h8,h9,h10,h11,h12,h13⟩:=h;obtain⟨k1,k2,k3,k4,k5,k6,k7,k8,k9,k10,k11,k12,k13⟩:=k;exact⟨k1.trans h1,k2.trans h2,k3.trans h3,k4.trans h4,k5.trans h5,by omega,by omega,by omega,by omega,by omega,by omega,by omega,by omega⟩
theorem Adv.mono(h:Adv m m1 c)(hc:c<=c'):Adv m m1 c':=by obtain⟨h1,h2,h3,h4,h5,h6,h7,h8,h9,h10,h11,h12,h13⟩:=h;exact⟨h1,h2,h3,h4,h5,by omega,by omega,by omega,by omega,by omega,by omega,by omega,by omega⟩
structure Lim(m:Mk)(c:Int):Prop where
 at1:0<=m.at_
 at2:m.at_+c<=1000000000000000
 temp1:0<=m.temp
 temp2:m.temp+c<=1000000000000000
 left1 : -1000000000000000<=m.left-c
 left2:m.left<=1000000000000000
 name1:0<=m.name
 name2:m.name+c<=1000000000000000
theorem Lim.adv(h:Lim m (c+c'))(k:Adv m m1 c):Lim m1 c':=by obtain⟨h1,h2,h3,h4,h5,h6,h7,h8⟩:=h;obtain⟨k1,k2,k3,k4,k5,k6,k7,k8,k9,k10,k11,k12,k13⟩:=k;exact⟨by omega,by omega,by omega,by omega,by omega,by omega,by omega,by omega⟩
theorem Lim.mono(h:Lim m c)(hc:c'<=c):Lim m c':=by obtain⟨h1,h2,h3,h4,h5,h6,h7,h8⟩:=h;exact⟨by omega,by omega,by omega,by omega,by omega,by omega,by omega,by omega⟩
theorem y9(m:Mk):Adv m {m with temp:=m.temp+1,left:=m.left-1} 1:=⟨rfl,rfl,rfl,rfl,rfl,by simp,by simp;omega,by simp;omega,by simp,by simp,by simp;omega,by simp,by simp;omega⟩
theorem zMm(m:Mk):Adv m {m with at_:=m.at_+1} 1:=⟨rfl,rfl,rfl,rfl,rfl,by simp;omega,by simp,by simp,by simp;omega,by simp;omega,by simp,by simp,by simp;omega⟩
theorem zAr(m:Mk):Adv m {m with name:=m.name+1} 1:=⟨rfl,rfl,rfl,rfl,rfl,by simp,by simp;omega,by simp,by simp;omega,by simp;omega,by simp,by simp;omega,by simp⟩
structure Cx(hs:List Hd)(R:Nat)(m:Mk):Prop where
 heads:m.defs.map Dfn.hd=hs
 len:hs.length<=100
 len0:0<hs.length
 mods:0<m.mods.length
 nums:∀x∈m.l,w64 x=x
 own:m.own<=1000
 typs:∀(k:Nat) (h:k<hs.length),hs[k].kind=0\/hs[k].kind=1->TyOk hs R (yB hs[k].id)
 slots:∀(k:Nat) (h:k<hs.length),hs[k].slots.length<=6/\∀s∈hs[k].slots,TyOk hs R s.typ
variable{R:Nat}
theorem Cx.adv{m':Mk}(h:Cx hs R m)(k:Adv m m' c):Cx hs R m':=by obtain⟨h1,h2,h3,h4,h5,h6,h7,h8⟩:=h;exact⟨by rw[k.defs];exact h1,h2,h3,by rw[k.mods];exact h4,by rw[k.l];exact h5,by rw[k.own];exact h6,h7,h8⟩
theorem Cx.dlen(h:Cx hs R m):m.defs.length=hs.length:=by rw[<-h.heads,jAd]
theorem Cx.get(h:Cx hs R m){k:Nat}(hk:k<m.defs.length):hs[k]'(h.dlen▸hk)=m.defs[k].hd:=by obtain⟨rfl,_⟩:=h;simp
structure EnvOk(hs:List Hd)(R:Nat)(temp:Int)(env:List Bnd):Prop where
 typs:∀b∈env,TyOk hs R b.typ
 nd:env.Pairwise fun b c=>¬(b.id=c.id/\b.n=c.n)
 new:∀b∈env,b.id.b=0->b.id.c<temp
variable{temp:Int}{env:wI}
theorem EnvOk.mono{temp':Int}(h:EnvOk hs R temp env)(ht:temp<=temp'):EnvOk hs R temp' env:=⟨h.typs,h.nd,fun b hb h0=>by have:=h.new b hb h0;omega⟩
theorem EnvOk.snoc(h:EnvOk hs R temp env)(c n:Int)(t:Typ)(ht:TyOk hs R t)(hc:∀b∈env,b.id=⟨0,0,c⟩->b.n≠n)(hct:c<temp):EnvOk hs R temp (env++[⟨⟨0,0,c⟩,n,t⟩]):=by
 refine⟨fun b hb=>?_,?_,fun b hb h0=>?_⟩
 .rcases jAa.1 hb with hb|hb
  .exact h.typs b hb
  .rw[jAl.1 hb];exact ht
 .rw[jCt];refine⟨h.nd,by simp,fun b hb c' hc'=>?_⟩;rw[jAl.1 hc'];exact fun e=>hc b hb e.1 e.2
 .rcases jAa.1 hb with hb|hb
  .exact h.new b hb h0
  .rw[jAl.1 hb];exact hct
theorem zGf(h:env.Pairwise fun b c=>¬(b.id=c.id/\b.n=c.n)){b:Bnd}(hb:b∈env):dF env b.id b.n=some b.typ:=by
 induction env using mK with
 |nil=>simp at hb
 |snoc l y ih =>
  rw[jCt]at h;unfold dF;rw[List.reverse_append];simp only[List.reverse_cons,List.reverse_nil,jBm,jCw,jD7];rcases jAa.1 hb with hb'|hb'
  .have hne:=h.2.2 b hb' y (by simp);have:(decide (y.id=b.id)&&decide (y.n=b.n))=false:=by
    rw[jCo];by_cases e:y.id=b.id
    .right;rw[decide_eq_false_iff_not];exact fun e'=>hne ⟨e.symm,e'.symm⟩
    .left;simpa using e
   rw[this];exact ih h.1 hb'
  .rw[jAl.1 hb'];simp
def zAn(m:Mk)(k:Nat):Bool:=match m.defs[k]? with
 |some d=>decide ((k:Int)<m.own)&&(decide (d.mod=m.home)||decide (d.mod=(m.mods.headD ⟨Id.zero,⟨#[]⟩,[],[]⟩).id))
 |none=>false
theorem zUo{k:Nat}(h:zAn m k=true):(k:Int)<m.own:=by
 unfold zAn at h;split at h
 .rw[jA6]at h;exact of_decide_eq_true h.1
 .cases h
theorem zER(m:Mk)(k:Nat)(hk:k<m.defs.length)(hm:0<m.mods.length):my 168 [.ptr 0 0,int k] (mkS m) (bl (zAn m k)) (mkS m):=by
 refine mq [] [.slot 4] func168 (by kernel_rfl) ?_
 (conv in kq _ _=>cbv)
 have hd:=j6 hk;have hb31:k*31+31<=m.defs.length*31:=by omega
 have hv:zAn m k=(decide ((k:Int)<m.own)&&(decide (m.defs[k].mod=m.home)||decide (m.defs[k].mod=(m.mods.headD ⟨Id.zero,⟨#[]⟩,[],[]⟩).id))):=by unfold zAn;rw[jA0 hk]
 cases hmm:m.mods with
 |nil=>rw[hmm]at hm;simp at hm
 |cons m0 M =>
  rw[hmm]at hv;simp only[jCx]at hv;simp[mkS,mkB,hk,hd,hb31,zI,hmm,fD,m7];by_cases h1:(k:Int)<m.own
  .by_cases h2:m.defs[k].mod=m.home
   .simp[h1,h2];exact mv [0,1] 0 (by rfl) (by simp[hmm,fD,m7,hv,h1,h2])
   .have e2:oG m.defs[k].mod.a m.defs[k].mod.b m.defs[k].mod.c m.home.a m.home.b m.home.c=false:=by rw[cC];exact decide_eq_false h2
    simp[h1,e2];exact ke [0,1] 0 (by rfl) (by simp[hmm,fD,m7]) (by simp[hv,h1,h2]<;>congr)
  .simp[h1];exact mv [0,1] 0 (by rfl) (by simp[hmm,fD,m7,hv,h1])
def zC2(m:Mk)(kind:Int)(k:Nat):Bool:=(match m.defs[k]? with
 |some d=>decide (d.kind=kind)
 |none=>false)&&zAn m k
def ofV(m:Mk)(kind:Int)(x:Nat):Int:=match (List.range m.defs.length).find? fun i=>zC2 m kind ((x+i) % m.defs.length)with
 |some i=>(((x+i) % m.defs.length:Nat):Int)
 |none=>-1
variable{p:Nat->Bool}
theorem zOQ{n i:Nat}(h:i<n)(hp:p i=true)(hn:∀j<i,p j=false):(List.range n).find? p=some i:=by rw[List.find?_range_eq_some];exact⟨hp,by simpa using h,fun j hj=>by simpa using hn j hj⟩
theorem zL8{n:Nat}(hn:∀j<n,p j=false):(List.range n).find? p=none:=by
 rw[jD0];intro x hx
 simpa using hn x (by simpa using hx)
theorem zTP(m:Mk)(kind:Int)(x:Nat):ofV m kind x = -1\/∃k:Nat,∃h:k<m.defs.length,ofV m kind x=k/\m.defs[k].kind=kind/\zAn m k=true:=by
 unfold ofV;split
 .rename_i i hi;right;have hp:=jD1 hi;have hlt:0<m.defs.length:=by have:=jBr.1 (jD9 hi);omega
  have hk:=Nat.mod_lt (x+i) hlt;refine⟨_,hk,rfl,?_⟩;unfold zC2 at hp;rw[jA0 hk]at hp
  simpa using hp
 .left;rfl
theorem zRC(m:Mk)(kind:Int)(x:Nat)(hx:x<=1000000)(hd:0<m.defs.length)(hd':m.defs.length<=100)(hm:0<m.mods.length):my 167 [.ptr 0 0,int kind,int x] (mkS m) (int (ofV m kind x)) (mkS m):=by
 refine mq [] [.slot 6] func167 (by kernel_rfl) ?_
 (conv in kq _ _=>cbv)
 simp[mkS,mkB];refine qM (S:=Nat) (fun i=>[(0,.ptr 0 0),(1,int kind),(2,int x),(7,int m.defs.length),(8,int i)]) (fun _=>mkS m) (fun i=>i<=m.defs.length/\∀j<i,zC2 m kind ((x+j) % m.defs.length)=false) (fun i=>m.defs.length-i) 0 (by simp)
  (mw [0,1] 0 (by rfl) (by simp[mkS,mkB])) ?_
 rintro i ⟨hi,hn⟩;by_cases h:i<m.defs.length
 .have hk:=Nat.mod_lt (x+i) hd;have w1:=qA ((x:Int)+i) (by omega);have w2:=yK i (by omega);have e1:Int.tmod ((x:Int)+i) (m.defs.length:Int)=(((x+i) % m.defs.length:Nat):Int):=by rw[tmN (by omega)];simp
  have hnil:m.defs≠[]:=fun e=>by rw[e]at hd;simp at hd
  have hne:¬((m.defs.length:Int)=0):=by omega
  generalize hkk:(x+i) % m.defs.length=k at hk e1;have hdr:=j6 hk;have hdr3:List.drop (k*31+3) (z7 m.defs)=(zI m.defs[k]++z7 (m.defs.drop (k+1))).drop 3:=by rw[<-jBb,hdr]
  have hb4:k*31+3+1<=m.defs.length*31:=by omega
  have hg:zC2 m kind k=(decide (m.defs[k].kind=kind)&&zAn m k):=by unfold zC2;rw[jA0 hk]
  simp[mkS,mkB,h,w1,e1,hne,hk,hdr3,hb4,zI,hnil];have hround:zC2 m kind k=false->∀j<i+1,zC2 m kind ((x+j) % m.defs.length)=false:=fun hg' j hj=>by
   by_cases e:j=i
   .subst e;rw[hkk];exact hg'
   .exact hn j (by omega)
  have hhit:zC2 m kind k=true->ofV m kind x=k:=fun hg'=>by unfold ofV;rw[zOQ h (by rw[hkk];exact hg') hn];simp only[hkk]
  by_cases h1:m.defs[k].kind=kind
  .simp[h1];refine mr (zER m k hk hm) [0,1] (by simp[mkS,mkB]) ?_;cases h2:zAn m k
   .simp[mkS,mkB];exact zN (i+1) ⟨h,hround (by rw[hg,h2];simp)⟩ (by omega) (mw [0,1] 0 (by rfl) (by simp[mkS,mkB,w2]))
   .simp[mkS,mkB];exact mv [0,1] 0 (by rfl) (by simp[hhit (by rw[hg,h1,h2];simp)])
  .simp[h1];exact zN (i+1) ⟨h,hround (by rw[hg];simp[h1])⟩ (by omega) (mw [0,1] 0 (by rfl) (by simp[mkS,mkB,w2]))
 .have:i=m.defs.length:=by omega
  subst this;have hr:ofV m kind x = -1:=by unfold ofV;rw[zL8 hn]
  simp[mkS,mkB];exact mv [0,1] 0 (by rfl) (by simp[hr])
def qI(l:wP)(id:Id):Option Dfn:=l.find? fun d=>decide (d.id=id)
theorem xU(d:Dfn)(l:wP)(id:Id):qI (d::l) id=if d.id=id then some d else qI l id:=by unfold qI;rw[jD7];by_cases h:d.id=id<;>simp[h]
theorem zKB(l:wP)(id:Id):vO l id=((qI l id).getD .zero,(qI l id).isSome):=by unfold vO qI;cases l.find? fun d=>decide (d.id=id)<;>rfl
theorem zSV(d:Dfn)(id:Id):my 144 [.agg (zI d),.ptr 0 0] [.box (zG id)] (bl (decide (d.id=id))) [.box (zG id)]:=by
 refine mq [] [.slot 3] func144 (by kernel_rfl) ?_
 (conv in kq _ _=>cbv)
 simp[zI,zG,zTe];exact mv [0] 0 (by rfl) (by simp)
def zFn:List Dfn->Id->Nat->Int
 |[],_,_=>-1
 |d::l,id,n=>if d.id=id then n else zFn l id (n+1)
theorem zGa:∀(l:wP) (id:Id) (n:Nat),(qI l id=none/\zFn l id n = -1)\/∃(i:Nat) (h:i<l.length),zFn l id n=(n+i:Nat)/\qI l id=some l[i]
 |[],id,n=>.inl ⟨rfl,rfl⟩
 |d::l,id,n=>by
  simp only[xU,zFn];by_cases hd:d.id=id
  .exact .inr ⟨0,by simp,by simp[hd],by simp[hd]⟩
  .simp only[hd,if_false];rcases zGa l id (n+1)with h|⟨i,hi,h1,h2⟩
   .exact .inl h
   .exact .inr ⟨i+1,by simpa using hi,by rw[h1];congr 1;omega,by simpa using h2⟩
theorem zHh(l:wP)(id:Id):my 143 [.sl l.length (z7 l),.clo 144 [] [.ptr 0 0]] [.box (zG id)] (int (zFn l id 0)) [.box (zG id)]:=by
 refine mq [] [.slot 4] func143 (by kernel_rfl) ?_
 (conv in kq _ _=>cbv)
 simp;intro hl;refine qM (S:=Nat) (fun i=>[(0,.sl l.length (z7 l)),(1,.clo 144 [] [.ptr 0 0]),(6,.sl l.length (z7 l)),(7,int l.length),(8,int i)]) (fun s=>[.box (zG id)]) (fun i=>i<=l.length/\zFn l id 0=zFn (l.drop i) id i) (fun i=>l.length-i) 0 (by simp)
  (mw [0] 0 (by rfl) (by simp[zG])) ?_
 rintro i ⟨hi,ho⟩;by_cases h:i<l.length
 .have hd:l.drop i=l[i]::l.drop (i+1):=jB0 h;simp[h,j6 h];refine mr (zSV l[i] id) [0] (by simp) ?_;simp;refine qY (fun h'=>?_) (fun h'=>?_)<;>simp at h'
  .simp;exact ke [0] 0 (by rfl) (by simp) (by rw[ho,hd];simp[zFn,h'])
  .simp;exact zN (i+1) ⟨h,by rw[ho,hd];simp[zFn,h']⟩ (by omega) (mw [0] 0 (by rfl) (by simp[z6 h hl]))
 .have hi:i=l.length:=by omega
  subst hi;simp;exact ke [0] 0 (by rfl) (by simp) (by rw[ho];simp[zFn])
def dL(p:Prg)(id:Id):A:=.tup [.agg (zI ((qI p.defs id).getD .zero)),bl (qI p.defs id).isSome]
theorem mY(p:Prg)(id:Id):my 96 [.agg (zT p),.agg (zG id)] [] (dL p id) []:=by
 refine mq [] [.cell 4 31 true,.slot 5] func96 (by kernel_rfl) ?_
 (conv in kq _ _=>cbv)
 simp[zT];refine mr (zHh p.defs id) [1] (by simp) ?_;simp;rcases zGa p.defs id 0 with ⟨h1,h2⟩|⟨i,hi,h1,h2⟩
 .simp[h2];exact zA 0 (by simp[dL,h1,zI,Dfn.zero,Id.zero,Typ.zero,Exp.zero])
 .have hn:¬((i:Int)<0):=by omega
  simp[h1,hn,hi,j6 hi];exact zA 0 (by simp[dL,h2])
theorem pP(p:Prg)(hL:p.defs.length<=1000000)(id:Id):my 36 [.agg (zT p),.agg (zG id)] [] (dL p id) []:=by have h:=zTZ p.mods p.defs id hL;rw[zKB]at h;exact h
def x6:Option Dfn->Bool
 |some d=>decide (d.kind=0\/d.kind=1)
 |none=>false
def y8(p:Prg):Nat->Typ->Bool
 | 0,_=>false
 |n+1,t=>if t.k=2 then (match t.kids with
  |[x]=>decide (t.id=Id.zero)&&y8 p n x
  |_=>false)else if t.kids≠[]then false else if t.k=3 then x6 (qI p.defs t.id)else decide (t.id=Id.zero)&&decide (t.k=0\/t.k=1)
def validT(p:Prg)(t:Typ):Bool:=y8 p 24 t
theorem zEQ(p:Prg)(t0:Typ):my 114 [.agg (zT p),.agg (zB t0)] [] (bl (validT p t0)) []:=by
 refine mq [] [.slot 4] func114 (by kernel_rfl) ?_
 (conv in kq _ _=>cbv)
 simp[zT];refine qM (S:=Nat×Typ) (fun s=>[(2,.ptr 0 0),(3,.ptr 1 0),(5,int s.1)]) (fun s=>[.box (zT p),.box (zB s.2)]) (fun s=>1<=s.1/\s.1<=25/\validT p t0=y8 p (25-s.1) s.2) (fun s=>25-s.1) (1,t0) (by simp[validT])
  (mw [0,1] 0 (by rfl) (by simp[zT])) ?_
 rintro⟨i,t⟩ ⟨hi0,hi,ho⟩;simp only at hi0 hi ho;by_cases h:i<=24
 .have hi24:(i:Int)<=24:=by omega
  obtain⟨n,hn⟩:∃n,25-i=n+1:=⟨24-i,by omega⟩;have hn':25-(i+1)=n:=by omega
  have hw:=yK i (by omega);rw[hn]at ho;cases t with
  |mk k id kids =>
  by_cases h2:k=2
  .subst h2;by_cases hid:id=Id.zero
   .subst hid;rcases kids with _|⟨x,_|⟨y,l⟩⟩
    .simp[zB,zT,hi24];exact zA 0 (by rw[ho];simp[y8])
    .simp[zB,zT,hi24];intro _;refine zN (i+1,x) ⟨by simp,by simp only;omega,?_⟩ (by simp only;omega) (mw [0,1] 0 (by rfl) (by simp[zT,zB,qW,hw]));simp only;rw[ho,hn'];simp[y8]
    .have h1:¬((l.length:Int)+1+1=1):=by omega
     simp[zB,zT,hi24,h1];exact fun _=>zA 0 (by rw[ho];simp[y8])
   .have hv:y8 p (n+1) (.mk 2 id kids)=false:=by simp only[y8,Typ.k_mk,Typ.id_mk,Typ.kids_mk,if_true];split<;>simp[hid]
    simp[zB,zT,hi24,hid];exact zA 0 (by rw[ho,hv];simp)
  by_cases h3:k=3
  .subst h3;simp[zB,zT,hi24];refine mu (mY p id) (by simp[zT,zG,dL]) ?_;cases hf:qI p.defs id with
   |none =>
    have hv:y8 p (n+1) (.mk 3 id kids)=false:=by cases kids<;>simp[y8,hf,x6]
    simp[dL,hf,zI,Dfn.zero,Id.zero,Typ.zero,Exp.zero];exact zA 0 (by rw[ho,hv];simp)
   |some f =>
    by_cases h0:f.kind=0\/f.kind=1
    .have hv:y8 p (n+1) (.mk 3 id kids)=decide (kids.length=0):=by cases kids<;>simp[y8,hf,x6,h0]
     rcases h0 with h0|h0
     all_goals
      simp[dL,hf,zI,h0];exact fun _=>zA 0 (by rw[ho,hv];simp)
    .have hv:y8 p (n+1) (.mk 3 id kids)=false:=by cases kids<;>simp[y8,hf,x6,h0]
     have g0:f.kind≠0:=fun e=>h0 (.inl e)
     have g1:f.kind≠1:=fun e=>h0 (.inr e)
     simp[dL,hf,zI,g0,g1];exact zA 0 (by rw[ho,hv];simp)
  .by_cases h0:k=0\/k=1
   .by_cases hid:id=Id.zero
    .subst hid;have hv:y8 p (n+1) (.mk k Id.zero kids)=decide (kids.length=0):=by cases kids<;>simp[y8,h2,h3,h0]
     rcases h0 with rfl|rfl
     all_goals
      simp[zB,zT,hi24];exact fun _=>zA 0 (by rw[ho,hv];simp)
    .have hv:y8 p (n+1) (.mk k id kids)=false:=by simp only[y8,Typ.k_mk,Typ.id_mk,Typ.kids_mk,h2,h3,if_false];simp[hid]
     rcases h0 with rfl|rfl
     all_goals
      simp[zB,zT,hi24,hid];exact zA 0 (by rw[ho,hv];simp)
   .have hv:y8 p (n+1) (.mk k id kids)=false:=by simp only[y8,Typ.k_mk,Typ.id_mk,Typ.kids_mk,h2,h3,if_false];simp[h0]
    have g0:k≠0:=fun e=>h0 (.inl e)
    have g1:k≠1:=fun e=>h0 (.inr e)
    simp[zB,zT,hi24,g0,g1,h2,h3];exact zA 0 (by rw[ho,hv];simp)
 .have:i=25:=by omega
  subst this;simp;exact zA 0 (by rw[ho];simp[y8])
@[simp]theorem qFX{f:Nat}{o:KOp}{env:Env}(h1:6<f)(h2:f<1000):dI f o env=True:=by
 unfold dI;split
 .omega
 .omega
 .rw[if_neg (by omega),if_neg (by omega),if_neg (by omega)]
variable{P:Program}
@[simp]theorem qAX{Qd:Value->St->Prop}{f d l:Nat}{zs:wK}{K':wJ}{env:Env} {U:St}:jU P Qd f K' (.alr (some d) l zs) env U = wpO P cO K' (.alr (some d) l zs) env U:=by simp[jU,KOp.lite,KOp.keeps]
@[simp]theorem qIC{d l:Nat}{zs:wK}{Qp:Value->wJ}{K':wJ}{env:Env} {U:St}:wpO P Qp K' (.alr (some d) l zs) env U = (match U[l]? with
 |some .rsv=>K' (env.put (some d) (.ptr l 0)) (U.set l (.box (zs.map qZ)))
 |_=>False):=rfl
def k_(l:wA):Option wD:=some (l.zipIdx.map fun p=>(p.2,p.1))
def qEl:Nat->Option wD:=fun|17=>k_ [0,0,1,1,1,1,7,0,0,0,304,0,0]|_=>none
abbrev bL:FuncId:=85
def cH(hs:wO)(own:Int)(f:FuncId)(m:Mk)(args:wE)(env:wI)(t:Typ)(c:Int):Prop :=
 ∃(e:Exp) (m':Mk),my f args (mkS m) (.agg (zH e)) (mkS m')/\Adv m m' c/\WT hs own env e t/\Seg m.temp m'.temp (tmps e)/\e.num0
def dN(hs:wO)(R:Nat)(c depth:Int)(Q:Nat->Prop)(len:Nat):Prop :=
 ∀(m:Mk) (r:Nat) (t:Typ) (env:wI),Cx hs R m->Lim m c->TyOk hs r t->Q r->EnvOk hs R m.temp env->0<env.length->env.length<=len ->
  cH hs m.own bL m [.ptr 0 0,.agg (zB t),.sl env.length (zW env),int depth] env t c
theorem Adv.zero(m:Mk):Adv m m 0:=⟨rfl,rfl,rfl,rfl,rfl,by omega,by omega,by omega,by omega,by omega,by omega,by omega,by omega⟩
theorem nN(e:Exp):∀es:wG,yF (es++[e])=yF es++tmps e
 |[]=>by simp[yF]
 |x::es=>by simp[yF,nN e es]
variable{depth:Int}{Q:Nat->Prop}
theorem zMN{len:Nat}(hk:dN hs R c depth Q len)(hc:0<=c)(env:wI)(h1:0<env.length)(h2:env.length<=len) :
 ∀(ts:wQ) (m:Mk),Cx hs R m->Lim m (ts.length*c)->(∀t∈ts,∃r,TyOk hs r t/\Q r)->EnvOk hs R m.temp env ->
  ∃(es:wG) (ms:Nat->Mk),es.length=ts.length/\ms 0=m/\(∀j≤ts.length,Adv m (ms j) (j*c))/\Seg m.temp (ms ts.length).temp (yF es) /\
   ∀(j:Nat) (hj:j<es.length) (hj':j<ts.length),my bL [.ptr 0 0,.agg (zB ts[j]),.sl env.length (zW env),int depth] (mkS (ms j)) (.agg (zH es[j])) (mkS (ms (j+1)))/\WT hs m.own env es[j] ts[j]/\es[j].num0:=by
 intro ts;induction ts using mK with
 |nil =>
  intro m hx hl ht he;refine⟨[],fun _=>m,rfl,rfl,fun j hj=>?_,Seg.nil,fun j hj=>by simp at hj⟩;have:j=0:=by simpa using hj
  subst this;exact(Adv.zero m).mono (by simp)
 |snoc ts t ih =>
  intro m hx hl ht he;have e1:((ts++[t]).length:Int)*c=ts.length*c+c:=by rw[jA5,jAx,jDa,Int.add_mul];simp
  rw[e1]at hl;have hz:0<=(ts.length:Int)*c:=Int.mul_nonneg (by omega) hc;obtain⟨es,ms,q1,q2,q3,q4,q5⟩:=ih m hx (hl.mono (by omega)) (fun t' ht'=>ht t' (by simp[ht'])) he;have a1:=q3 ts.length (jA _);obtain⟨r,hr,hQ⟩:=ht t (by simp);obtain⟨e,m',g1,g2,g3,g4,g5⟩:=hk (ms ts.length) r t env (hx.adv a1) (Lim.adv (c:=ts.length*c) (c':=c) hl a1) hr hQ (he.mono a1.temp1) h1 h2;refine⟨es++[e],fun j=>if j<=ts.length then ms j else m',by simp[q1],by simp[q2],fun j hj=>?_,?_,fun j hj hj'=>?_⟩
  .by_cases hle:j<=ts.length
   .simp only[hle,if_true];exact q3 j hle
   .have:j=ts.length+1:=by simp at hj;omega
    subst this;simp only[show ¬(ts.length+1<=ts.length) by omega,if_false];have:=a1.trans g2;rw[show (((ts.length+1:Nat):Int))*c=ts.length*c+c by rw[jDa,Int.add_mul];simp];exact this
  .rw[nN];simp only[jA5,jAx,show ¬(ts.length+1<=ts.length) by omega,if_false];exact q4.append g4 a1.temp1 g2.temp1
  .simp only[jA5,jAx]at hj hj';by_cases hlt:j<ts.length
   .have hjes:j<es.length:=by omega
    rw[jBn hjes,jBn hlt];simp only[show j<=ts.length by omega,if_true,show j+1<=ts.length by omega];exact q5 j hjes hlt
   .have:j=ts.length:=by omega
    subst this;rw[jC1 (by omega),jC1 (by omega)];simp only[jA,if_true,show ¬(ts.length+1<=ts.length) by omega,if_false,jBx,q1,jCl];rw[a1.own]at g3;exact⟨g1,g3,g5⟩
theorem zRj{len:Nat}(hk:dN hs R c depth Q len)(hc:0<=c)(env:wI)(h1:0<env.length)(h2:env.length<=len)(t:Typ){r:Nat}(hr:TyOk hs r t)(hQ:Q r)
 (m:Mk)(hx:Cx hs R m)(he:EnvOk hs R m.temp env):∀(k:Nat),Lim m (k*c) ->
  ∃(es:wG) (ms:Nat->Mk),es.length<=k/\ms 0=m/\(∀j≤es.length,Adv m (ms j) (j*c))/\Seg m.temp (ms es.length).temp (yF es)/\(∀j<es.length,0<(ms j).left)/\(es.length=k\/(ms es.length).left<=0) /\
   ∀(j:Nat) (hj:j<es.length),my bL [.ptr 0 0,.agg (zB t),.sl env.length (zW env),int depth] (mkS (ms j)) (.agg (zH es[j])) (mkS (ms (j+1)))/\WT hs m.own env es[j] t/\es[j].num0:=by
 intro k;induction k with
 |zero =>
  intro hl;refine⟨[],fun _=>m,jA _,rfl,fun j hj=>?_,Seg.nil,fun j hj=>by simp at hj,.inl rfl,fun j hj=>by simp at hj⟩;have:j=0:=by simpa using hj
  subst this;exact(Adv.zero m).mono (by simp)
 |succ k ih =>
  intro hl;have e1:(((k+1:Nat):Int))*c=k*c+c:=by rw[jDa,Int.add_mul];simp
  rw[e1]at hl;obtain⟨es,ms,q0,q2,q3,q4,q6,q7,q5⟩:=ih (hl.mono (by omega));by_cases hdone:es.length=k/\0<(ms es.length).left
  .obtain⟨hek,hleft⟩:=hdone;have a1:=q3 es.length (jA _);rw[hek]at a1;obtain⟨e,m',g1,g2,g3,g4,g5⟩:=hk (ms k) r t env (hx.adv a1) (Lim.adv (c:=k*c) (c':=c) hl a1) hr hQ (he.mono a1.temp1) h1 h2;refine⟨es++[e],fun j=>if j<=k then ms j else m',by simp[hek],by simp[q2],fun j hj=>?_,?_,fun j hj=>?_,.inl (by simp[hek]),fun j hj=>?_⟩
   .simp only[jA5,jAx,hek]at hj;by_cases hle:j<=k
    .simp only[hle,if_true];exact q3 j (by omega)
    .have:j=k+1:=by omega
     subst this;simp only[show ¬(k+1<=k) by omega,if_false];rw[e1];exact a1.trans g2
   .rw[nN];rw[hek]at q4;simp only[jA5,jAx,hek,show ¬(k+1<=k) by omega,if_false];exact q4.append g4 a1.temp1 g2.temp1
   .simp only[jA5,jAx,hek]at hj;simp only[show j<=k by omega,if_true];by_cases e:j=k
    .subst e;rw[hek]at hleft;exact hleft
    .exact q6 j (by omega)
   .simp only[jA5,jAx,hek]at hj;by_cases hlt:j<k
    .have hjes:j<es.length:=by omega
     rw[jBn hjes];simp only[show j<=k by omega,if_true,show j+1<=k by omega];exact q5 j hjes
    .have:j=k:=by omega
     subst this;rw[jC1 (by omega)];simp only[jA,if_true,show ¬(j+1<=j) by omega,if_false,jBx,hek,jCl];rw[a1.own]at g3;exact⟨g1,g3,g5⟩
  .refine⟨es,ms,by omega,q2,q3,q4,q6,.inr ?_,q5⟩;rcases q7 with q7|q7
   .by_cases h:0<(ms es.length).left
    .exact(hdone ⟨q7,h⟩).elim
    .omega
   .exact q7
def yJ(p:Prg)(id:Id):Option (Typ×Typ):=match qI p.defs id with
 |none=>none
 |some d=>if d.kind=5 then (match d.slots with|[s]=>some (s.typ,d.res)|_=>none)else none
def zCI(p:Prg)(l:wF)(i:Nat):Bool:=match yJ p (l.getD i .zero)with
 |none=>false
 |some a=>decide (i=0)||(match yJ p (l.getD (i-1) .zero)with|some b=>aF a.1 b.2|none=>false)
def pN(p:Prg)(l:wF):Nat->Bool
 | 0=>true
 |n+1=>pN p l n&&zCI p l n
def zAX(p:Prg)(l:wF):Bool:=pN p l l.length
theorem zJ6{p:Prg}{l:wF}{n m:Nat}(hnm:n<=m)(h:pN p l m=true):pN p l n=true:=by
 induction hnm with
 |refl=>exact h
 |step _ ih=>exact ih (by simp only[pN,jA6]at h;exact h.1)
theorem zGo{p:Prg}{l:wF}(hi:i<l.length)(h:zCI p l i=false):zAX p l=false:=by
 cases hp:zAX p l with
 |false=>rfl
 |true =>
  have:=zJ6 (show i+1<=l.length by omega) hp;simp[pN,h]at this
end Go.Proofs.YtdnelmeboihpkaaGreatDoor
