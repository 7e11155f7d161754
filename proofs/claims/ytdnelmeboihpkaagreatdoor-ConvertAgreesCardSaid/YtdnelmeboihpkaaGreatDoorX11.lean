/- value.SameType, trace.sameDef, trace.sameNode, trace.bodied. -/
import Derived.Test.YtdnelmeboihpkaaGreatDoorX10
set_option linter.unusedVariables false
set_option maxHeartbeats 8000000
set_option maxRecDepth 100000
set_option linter.unusedSimpArgs false
open Go.Proofs.Tryz
namespace Go.Proofs.YtdnelmeboihpkaaGreatDoor
open Go.Abs
@[simp]theorem zRi:zC prog 90=true:=by kernel_rfl
mutual
def aU:Typ->Typ->Bool
 | .mk k i l,.mk k' i' l'=>decide (k=k')&&(decide (i=i')&&nE l l')
def nE:List Typ->List Typ->Bool
 |[],[]=>true
 |x::a,y::b=>aU x y&&nE a b
 |_,_=>false
end
theorem zH9:∀(a b:wS),nE a b=uK aU a b
 |[],[]=>by simp only[nE,uK]
 |x::a,y::b=>by simp only[nE,uK,zH9 a b]
 |[],_::_=>by simp only[nE,uK]
 |_::_,[]=>by simp only[nE,uK]
theorem zH8(a b:Typ):aU a b=(decide (a.k=b.k)&&(decide (a.id=b.id)&&uK aU a.kids b.kids)):=by cases a;cases b;simp only[aU,zH9];rfl
mutual
theorem sA:∀(a b:Typ),aU a b=true↔a=b
 | .mk k i l,.mk k' i' l'=>by simp only[aU,jA7,decide_eq_true_eq,zFG l l',Typ.mk.injEq]
theorem zFG:∀(a b:wS),nE a b=true↔a=b
 |[],[]=>by simp[nE]
 |x::a,y::b=>by simp only[nE,jA7,sA x y,zFG a b,jBb]
 |[],_::_=>by simp[nE]
 |_::_,[]=>by simp[nE]
end
mutual
theorem zDE:∀(a b:Typ),mv 90 [.agg (zB a),.agg (zB b)] [] (bl (aU a b)) []
 | .mk k i l,b=>by
  have ih:=zBW l;generalize ha:Typ.mk k i l=a;have hal:a.kids=l:=by rw[<-ha];rfl
  rw[<-hal]at ih;refine ml [] [.slot 4] func90 (by kernel_rfl) ?_
  (conv in kq _ _=>cbv)
  have hd:=zH8 a b;by_cases h1:a.k=b.k
  .by_cases h2:a.id=b.id
   .simp[zB,h1,h2];refine mq (zUw 90 zRi aU a.kids b.kids fun x hx y hy=>ih x hx y) (by simp) ?_;simp;exact zA 0 (by simp[hd,h1,h2])
   .have h3:pP a.id.a a.id.b a.id.c b.id.a b.id.b b.id.c=false:=by rw[cW];exact decide_eq_false h2
    simp[zB,h1,h3];exact zA 0 (by simp[hd,h2])
  .simp[zB,h1];exact zA 0 (by simp[hd,h1])
theorem zBW:∀(l:wS),∀x∈l,∀y:Typ,mv 90 [.agg (zB x),.agg (zB y)] [] (bl (aU x y)) []
 |[],x,hx,_=>by simp at hx
 |z::l,x,hx,y=>by
  rcases jA3.1 hx with e|hx
  .rw[e];exact zDE z y
  .exact zBW l x hx y
end
def zCo(k:Int):Bool:=decide (k=2)||(decide (k=3)||(decide (k=4)||decide (k=5)))
def bH(n:Int):Int:=if 1099511627776<n then 1099511627776 else if n < -1099511627776 then -1099511627776 else n
theorem zF6(n:Int):mv 206 [int n] [] (int (bH n)) []:=by
 refine ml [] [.slot 2] func206 (by kernel_rfl) ?_
 (conv in kq _ _=>cbv)
 by_cases h1:n < -1099511627776
 .simp[h1];exact zA 0 (by simp[bH,h1,show ¬1099511627776<n by omega])
 .by_cases h2:1099511627776<n
  .simp[h1,h2];exact zA 0 (by simp[bH,h2])
  .simp[h1,h2];exact zA 0 (by simp[bH,h1,h2])
def eI(b:Bool):Val:=.mk 1 (if b then 1 else 0) []
theorem hU(b:Bool):mv 205 [bl b] [] (.agg (zF (eI b))) []:=by
 refine ml [] [.cell 2 3 true] func205 (by kernel_rfl) ?_
 (conv in kq _ _=>cbv)
 cases b with
 |true =>
  simp;exact zA 0 (by simp[zF,eI,Val.k,Val.n,Val.kids])
 |false =>
  simp;exact zA 0 (by simp[zF,eI,Val.k,Val.n,Val.kids])
structure EVar where
 id:Id
 n:Int
 v:Val
abbrev wO:=List EVar
def iY(b:EVar):wE:=[.lit (.int .i64 b.id.a),.lit (.int .i64 b.id.b),.lit (.int .i64 b.id.c),.lit (.int .i64 b.n),.lit (.int .i64 b.v.k),.lit (.int .i64 b.v.n),.sl b.v.kids.length (zR b.v.kids)]
theorem vC(b:EVar):qY (iY b):=by have h:=eW b.v.kids;exact⟨by simp[iY,h.1],fun rf g=>by simp[iY,h.2]⟩
def y3(l:wO):wE:=l.flatMap iY
theorem zAj(l:wO):qY (y3 l):=dL vC l
@[simp]theorem zVg(l:wO):jT (y3 l)=y3 l:=(zAj l).1
@[simp]theorem qAy{rf g}(l:wO):vwL rf g (y3 l)=y3 l:=(zAj l).2 _ _
@[simp]theorem zWT:y3 []=[]:=rfl
theorem zHX(x:EVar)(l:wO):y3 (x::l)=iY x++y3 l:=rfl
theorem zE3(l l':wO):y3 (l++l')=y3 l++y3 l':=by simp only[y3,jBr]
@[simp]theorem zWS(l:wO):(y3 l).length=l.length*7:=by rw[y3,gH (k:=7) (fun _=>rfl)]
variable{i:Nat}
theorem sP{l:wO}(h:i<l.length):(y3 l).drop (i*7)=iY l[i]++y3 (l.drop (i+1)):=by rw[y3,y3,fL (k:=7) (fun _=>rfl) h]
@[simp]theorem qBh(d:EVar):(iY d).length=7:=rfl
@[simp]theorem qBg(d:EVar):(iY d).take 7=iY d:=jA9 (jA _)
@[simp]theorem zYU(d:EVar)(l:wE):(iY d++l).take 7=iY d:=by rw[jC (by simp)];exact jA9 (by simp)
@[simp]theorem zZB(d:EVar):jT (iY d)=iY d:=(vC d).1
@[simp]theorem qIa(d:EVar) {rf g}:vwL rf g (iY d)=iY d:=(vC d).2 _ _
theorem xB(env:wO)(b:EVar)(hE:env.length<=1000000):mv 170 [.sl env.length (y3 env),.agg (zK b.id),int b.n,.agg (zF b.v)] [] (.sl (env.length+1) (y3 (env++[b]))) []:=by
 refine ml [] [.slot 8] func170 (by kernel_rfl) ?_
 (conv in kq _ _=>cbv)
 simp[zK,zF];exact⟨⟨by simp[maxLen];omega,by omega⟩,⟨by simp[maxLen];omega,by omega⟩,zA 1 (by simp[zE3,zHX,iY])⟩
def lX(env:wO)(id:Id)(n:Int):Val:=((env.reverse.find? fun b=>decide (b.id=id/\b.n=n)).map EVar.v).getD (.mk 0 0 [])
theorem zAE(env:wO)(b:EVar)(id:Id)(n:Int):lX (env++[b]) id n=if b.id=id/\b.n=n then b.v else lX env id n:=by unfold lX;rw[List.reverse_append,List.reverse_singleton,jCw,jD6];by_cases h:b.id=id/\b.n=n<;>simp[h]
theorem zTa(env:wO)(id:Id)(n:Int)(hE:env.length<=1000000):mv 198 [.sl env.length (y3 env),.agg (zK id),int n] [] (.agg (zF (lX env id n))) []:=by
 refine ml [] [.cell 6 3 true] func198 (by kernel_rfl) ?_
 (conv in kq _ _=>cbv)
 have hw0:=zY ((env.length:Int)-1) (by omega);simp[zK,hw0];intro hl;refine qK (S:=Nat) (fun k=>[(0,.sl env.length (y3 env)),(2,int n),(4,.ptr 0 0),(6,.ptr 1 0),(7,int ((k:Int)-1))]) (fun _=>[.box (zK id),.box [int 0,int 0,.sl 0 []]])
  (fun k=>k<=env.length/\lX env id n=lX (env.take k) id n) (fun k=>k) env.length ⟨jA _,by rw[jAt]⟩
  (mu [0,1] 0 (by rfl) (by simp[zK])) ?_
 rintro k ⟨hk,ho⟩;cases k with
 |zero =>
  simp;exact zA 0 (by rw[ho];simp[lX,zF,Val.k,Val.n,Val.kids])
 |succ m =>
  have hm:m<env.length:=by omega
  have e1:((m+1:Nat):Int)-1=m:=by omega
  have hw1:=zY ((m:Int)-1) (by omega);rw[jA6 hm,zAE]at ho;by_cases h1:env[m].id=id
  .by_cases h2:env[m].n=n
   .rw[if_pos ⟨h1,h2⟩]at ho;simp[e1,hm,sP hm,iY,zK,h1,h2];exact zA 0 (by rw[ho];simp[zF])
   .rw[if_neg (fun h=>h2 h.2)]at ho;simp[e1,hm,sP hm,iY,zK,h1,h2];exact zO m ⟨by omega,ho⟩ (by omega) (mu [0,1] 0 (by rfl) (by simp[zK,hw1]))
  .rw[if_neg (fun h=>h1 h.1)]at ho;simp[e1,hm,sP hm,iY,zK,h1];exact zO m ⟨by omega,ho⟩ (by omega) (mu [0,1] 0 (by rfl) (by simp[zK,hw1]))
theorem zII(v:Val):mv 151 [.agg (zF v)] [] (int (sD v)) []:=by
 refine ml [] [.slot 2] func151 (by kernel_rfl) ?_
 (conv in kq _ _=>cbv)
 simp[zF];intro hl;refine qK (S:=Nat) (fun i=>[(3,int (zFR (v.kids.take i))),(7,.sl v.kids.length (zR v.kids)),(8,int v.kids.length),(9,int i)]) (fun s=>[]) (fun i=>i<=v.kids.length) (fun i=>v.kids.length-i) 0 (by simp)
  (mu [] 0 (by rfl) (by simp[zFR])) ?_
 intro i hi;simp;by_cases h:i<v.kids.length
 .simp[h,qL h];refine mq (zII v.kids[i]) (by simp[zF]) ?_;simp;exact zO (i+1) h (by omega) (mu [] 0 (by rfl) (by simp[z8 h hl,zDb h]))
 .have:i=v.kids.length:=by omega
  subst this;simp;exact zA 0 (by simp[zFL v])
termination_by qN v
decreasing_by exact aW (jA0 _)
mutual
def aD:Val->Nat
 | .mk _ _ l=>aQ l+1
def aQ:List Val->Nat
 |[]=>0
 |v::l=>max (aD v) (aQ l)
end
theorem iX(v:Val):aD v=aQ v.kids+1:=by cases v;simp only[aD,Val.kids]
theorem lQ(v:Val):qN v=1+j5 v.kids:=by cases v;simp only[qN,Val.kids]
theorem zDq:∀{l:wI} {v:Val},v∈l->aD v<=aQ l
 |x::l,v,h=>by
  simp only[aQ];rcases jA3.1 h with rfl|h
  .omega
  .have:=zDq h;omega
theorem iK:∀(a b:wI),j5 (a++b)=j5 a+j5 b
 |[],b=>by simp[j5]
 |x::a,b=>by simp[j5,iK a b];omega
theorem zDG{l:wI}(h:i<l.length):j5 (l.take (i+1))=j5 (l.take i)+qN l[i]:=by rw[jA6 h,iK];simp[j5]
theorem zCa(l:wI)(i:Nat):j5 l=j5 (l.take i)+j5 (l.drop i):=by
 conv=>lhs;rw[<-jC1 i l]
 exact iK _ _
def fY:A:=.clo 111 [] [.ptr 0 0,.ptr 1 0]
def sSt(L:Nat):St:=[.box [int L],.box [fY]]
def r9(L:Nat)(d:Int):St:=[.box [int L],.box [fY],.box [int d]]
def zDV(v:Val)(d:Int):Prop:=∀L:Nat,qN v<=L->L<=256->mv 111 [.agg (zF v),int d,.ptr 0 0,.ptr 1 0] (sSt L) (bl true) (sSt (L-qN v))
theorem zQe(v:Val)(d:Int)(hd:0<=d/\d<=100)(h:zDV v (d+1))(L:Nat)(hL:qN v<=L)(hL2:L<=256) :
 mv 113 [.agg (zF v),.ptr 1 0,.ptr 2 0] (r9 L d) (bl false) (r9 (L-qN v) d):=by
 refine ml [] [.slot 4] func113 (by kernel_rfl) ?_
 (conv in kq _ _=>cbv)
 have hw:=zY (d+1) (by omega);simp[r9,fY,hw,zF];refine mn (h L hL hL2) [0,1] (by simp[sSt,fY,zF]) ?_;simp[sSt,fY];exact mr [0,1,2] 0 (by rfl) (by simp[fY])
theorem zUH(l:wI)(d:Int)(hd:0<=d/\d<=100)(h:∀x∈l,zDV x (d+1))(L:Nat)(hL:j5 l<=L)(hL2:L<=256) :
 mv 153 [.sl l.length (zR l),.clo 113 [] [.ptr 1 0,.ptr 2 0]] (r9 L d) (int (-1)) (r9 (L-j5 l) d):=by
 refine ml [] [.slot 4] func153 (by kernel_rfl) ?_
 (conv in kq _ _=>cbv)
 simp[r9,fY];intro hl;refine qK (S:=Nat) (fun i=>[(0,.sl l.length (zR l)),(1,.clo 113 [] [.ptr 1 0,.ptr 2 0]),(6,.sl l.length (zR l)),(7,int l.length),(8,int i)]) (fun i=>r9 (L-j5 (l.take i)) d) (fun i=>i<=l.length) (fun i=>l.length-i) 0 (by simp)
  (mu [0,1,2] 0 (by rfl) (by simp[r9,fY,j5])) ?_
 intro i hi;by_cases hil:i<l.length
 .have e1:=zDG hil;have e2:=zCa l (i+1);simp[hil,qL hil,r9,fY];refine mn (zQe l[i] d hd (h _ (jA0 hil)) (L-j5 (l.take i)) (by omega) (by omega)) [0,1,2] (by simp[r9,fY,zF]) ?_;simp[r9,fY];exact zO (i+1) hil (by omega) (mu [0,1,2] 0 (by rfl) (by simp[r9,fY,e1,Nat.sub_sub,z8 hil hl]))
 .have:i=l.length:=by omega
  subst this;simp[r9,fY];exact mr [0,1,2] 0 (by rfl) (by simp[fY])
theorem zUm(l:wI)(d:Int)(hd:0<=d/\d<=100)(h:∀x∈l,zDV x (d+1))(L:Nat)(hL:j5 l<=L)(hL2:L<=256) :
 mv 112 [.sl l.length (zR l),.clo 113 [] [.ptr 1 0,.ptr 2 0]] (r9 L d) (bl false) (r9 (L-j5 l) d):=by
 refine ml [] [.slot 4] func112 (by kernel_rfl) ?_
 (conv in kq _ _=>cbv)
 simp[r9,fY];refine mn (zUH l d hd h L hL hL2) [0,1,2] (by simp[r9,fY]) ?_;simp[r9,fY];exact mr [0,1,2] 0 (by rfl) (by simp[fY])
theorem zFO(v:Val)(d:Int)(hd:1<=d/\d+aD v<=25):zDV v d:=by
 intro L hL hL2;refine ml [] [.slot 6] func111 (by kernel_rfl) ?_
 (conv in kq _ _=>cbv)
 have e1:=lQ v;have e2:=iX v;have hw:IntKind.i64.wrap ((L:Int)-1)=((L-1:Nat):Int):=by rw[IntWalk.i64_in _ (by omega)];omega
 have hd24:d<=24:=by omega
 simp[sSt,fY,hw,hd24,zF];refine mn (zUm v.kids d (by omega) (fun x hx=>zFO x (d+1) (by have:=zDq hx;omega)) (L-1) (by omega) (by omega)) [0,1,3] (by simp[r9,fY]) ?_;simp[r9,fY];exact mr [0,1] 0 (by rfl) (by simp[fY,e1,Nat.sub_sub])
termination_by qN v
decreasing_by exact aW hx
theorem zTs(v:Val)(h1:qN v<=256)(h2:aD v<=24):mv 73 [.agg (zF v)] [] (bl true) []:=by
 refine ml [] [.slot 2] func73 (by kernel_rfl) ?_
 (conv in kq _ _=>cbv)
 simp[zF];refine mn (zFO v 1 (by omega) 256 h1 (by omega)) [1,2] (by simp[sSt,fY,zF]) ?_;simp[sSt,fY];exact zA 0 (by simp)
def zKw(l:wF):List (wB×A):=l.foldl (fun es d=>putI (zAI d) (.lit (.bool true)) es) []
theorem zPC(l:wF)(x:Id):zKw (l++[x])=putI (zAI x) (.lit (.bool true)) (zKw l):=by simp[zKw,jCe]
theorem zSA(l:wF)(k:Nat):∀p∈zKw l,p.2.bnd k=true:=by
 induction l using nQ with
 |nil=>simp[zKw]
 |snoc l y ih =>
  rw[zPC];have:∀es:List (wB×A),(∀p∈es,p.2.bnd k=true)->∀p∈putI (zAI y) (.lit (.bool true)) es,p.2.bnd k=true:=by
   intro es;induction es with
   |nil=>intro _ p hp;simp[putI]at hp;subst hp;rfl
   |cons q es ih =>
    intro h p hp;simp only[putI]at hp;split at hp
    .rcases jA3.1 hp with rfl|hp
     .rfl
     .exact h p (jAh _ hp)
    .rcases jA3.1 hp with rfl|hp
     .exact h _ (jAr ..)
     .exact ih (fun p hp=>h p (jAh _ hp)) p hp
  exact this _ ih
variable{rf:Bool->Nat->Nat->A}{g:Nat->wC}
@[simp]theorem qJG(l:wF):((zKw l).map fun p=>(p.1,vw rf g p.2))=zKw l:=by
 have h:=zSA l 0;generalize zKw l=es at h;induction es with
 |nil=>rfl
 |cons p es ih =>
  rw[jAg,ih fun q hq=>h q (jAh _ hq),zFY (k:=0) (fun l hl=>by omega) p.2 (h p (jAr ..))]
def zSl:Nat->Option wD:=fun|2=>some [(3,1),(4,0),(0,0),(1,0),(2,0),(5,0),(6,0)]|_=>none
abbrev kv(f:Func)(h:Nat->Option wD)(k:K):Prop:=qM Tryz.prog f.ntmps h (f.body.getD .skip)=some k.erase
theorem mw{f:Func}{h:Nat->Option wD}{k:K}(e:qM Tryz.prog f.ntmps h (f.body.getD .skip)=some k.erase):kv f h k:=e
def atV(l:wB)(i most:Int):Int:=if i<0\/(l.length:Int)<=i then 0 else aN (l.getD i.toNat 0) most
theorem gA(l:wB)(i most:Int)(hm:0<most):mv 38 [.sl l.length (yH l),int i,int most] [] (int (atV l i most)) []:=by
 refine ml [] [.slot 6] func38 (by kernel_rfl) ?_
 (conv in kq _ _=>cbv)
 by_cases h:i<0
 .simp[h];exact zA 0 (by simp[atV,h])
 by_cases h2:(l.length:Int)<=i
 .simp[h,h2];exact fun _=>zA 0 (by simp[atV,h2])
 .obtain⟨j,rfl⟩:∃j:Nat,i=j:=⟨i.toNat,by omega⟩;have hj:j<l.length:=by omega
  have hd:=cO hj;simp[h,h2,hj,hd];intro _;refine mq (lZ l[j] most hm) (by simp) ?_;simp;exact zA 0 (by simp[atV,hj,h,show ¬l.length<=j by omega])
variable{l:wB}
theorem yJ{i most:Int}(hl:∀x∈l,w64 x=x)(hm:0<most):0<=atV l i most/\atV l i most<most:=by
 unfold atV;split
 .omega
 .rename_i h;have hj:i.toNat<l.length:=by omega
  rw[jB7,jA1 hj];exact gT (hl _ (jA0 hj)) hm
def idR(k:Int):Id:=⟨0,IntKind.i64.wrap (1+IntKind.i64.wrap (k.tdiv 32)),k.tmod 32⟩
theorem uH(k:Int):mv 83 [int k] [] (.agg (zK (idR k))) []:=by
 refine ml [] [.cell 2 3 true] func83 (by kernel_rfl) ?_
 (conv in kq _ _=>cbv)
 simp;exact zA 0 (by simp[zK,idR])
theorem zBN(d:Id):mv 62 [.agg (zK d)] [] (.agg (zB (.mk 3 d []))) []:=by
 refine ml [] [.cell 2 5 true] func62 (by kernel_rfl) ?_
 (conv in kq _ _=>cbv)
 simp[zK];exact zA 0 (by simp[zB])
theorem zUT(t:Typ):mv 126 [.agg (zB t)] [] (.agg (zB (.mk 2 ⟨0,0,0⟩ [t]))) []:=by
 refine ml [] [.cell 2 5 true] func126 (by kernel_rfl) ?_
 (conv in kq _ _=>cbv)
 simp[zB];exact zA 0 (by simp[zB,qI])
mutual
theorem nZ:∀(a b:Typ),mv 39 [.agg (zB a),.agg (zB b)] [] (bl (aU a b)) []
 | .mk k i l,b=>by
  have ih:=zFH l;generalize ha:Typ.mk k i l=a;have hal:a.kids=l:=by rw[<-ha];rfl
  rw[<-hal]at ih;refine ml [] [.slot 4] func39 (by kernel_rfl) ?_
  (conv in kq _ _=>cbv)
  have hd:=zH8 a b;by_cases h1:a.k=b.k
  .by_cases h2:a.id=b.id
   .by_cases h3:a.kids.length=b.kids.length
    .simp[zB,h1,h2,h3];intro hl;refine qK (S:=Nat) (fun j=>[(2,.ptr 0 0),(3,.ptr 1 0),(5,int j)]) (fun _=>[.box (zB a),.box (zB b)]) (fun j=>j<=a.kids.length/\∀(m:Nat) (hm:m<j) (hma:m<a.kids.length) (hmb:m<b.kids.length),aU a.kids[m] b.kids[m]=true) (fun j=>a.kids.length-j) 0 (by simp)
      (mu [0,1] 0 (by rfl) (by simp[zB,h1,h2,h3])) ?_
     rintro j ⟨hj,hs⟩;by_cases h:j<a.kids.length
     .have hb:j<b.kids.length:=by omega
      simp[zB,h,mU h,mU hb,hb];intro hl';refine z7 (ih a.kids[j] (jA0 h) b.kids[j]) (by simp[zB]) (by simp) ?_;cases hab:aU a.kids[j] b.kids[j]
      .have:uK aU a.kids b.kids=false:=by rw[<-jCo,uR h3];intro hh;have:=hh j h;rw[hab]at this;cases this
       simp;exact zA 0 (by simp[hd,this])
      .simp;exact zO (j+1) ⟨h,fun m hm hma hmb=>by
        by_cases e:m=j
        .subst e;exact hab
        .exact hs m (by omega) hma hmb⟩ (by omega) (mu [0,1] 0 (by rfl) (by simp[zB,z8 h (show a.kids.length<=maxLen by omega)]))
     .have hj':j=a.kids.length:=by omega
      have:uK aU a.kids b.kids=true:=(uR h3).2 fun m hm=>hs m (by omega) hm (by omega)
      simp[zB,h]
      first|exact fun _=>zA 0 (by simp[hd,h1,h2,this])|exact zA 0 (by simp[hd,h1,h2,this])
    .have h4:=zEq (same:=aU) h3;have h5:¬((a.kids.length:Int)=b.kids.length):=by omega
     simp[zB,h1,h2,h3,h5]
     first|exact fun _ _=>zA 0 (by simp[hd,h4])|exact fun _=>zA 0 (by simp[hd,h4])|exact zA 0 (by simp[hd,h4])
   .have h3:pP a.id.a a.id.b a.id.c b.id.a b.id.b b.id.c=false:=by rw[cW];exact decide_eq_false h2
    simp[zB,h1,h3];exact zA 0 (by simp[hd,h2])
  .simp[zB,h1];exact zA 0 (by simp[hd,h1])
theorem zFH:∀(l:wS),∀x∈l,∀y:Typ,mv 39 [.agg (zB x),.agg (zB y)] [] (bl (aU x y)) []
 |[],x,hx,_=>by simp at hx
 |z::l,x,hx,y=>by
  rcases jA3.1 hx with e|hx
  .rw[e];exact nZ z y
  .exact zFH l x hx y
end
structure Mk where
 mods:List Md
 defs:List Dfn
 l:List Int
 at_:Int
 temp:Int
 left:Int
 own:Int
 home:Id
 name:Int
def mkB(m:Mk):wE:=[.sl m.mods.length (qH m.mods),.row 1 m.defs.length,.sl m.l.length (yH m.l),int m.at_,int m.temp,int m.left,int m.own,int m.home.a,int m.home.b,int m.home.c,int m.name]
def mkS(m:Mk):St:=[.box (mkB m),.row false 41 31 m.defs.length (z6 m.defs)]
theorem zSL(m:Mk)(n:Int)(hn:0<n)(h0:0<=m.at_)(h1:m.at_<=1000000000000000) :
 mv 128 [.ptr 0 0,int n] (mkS m) (int (atV m.l m.at_ n)) (mkS {m with at_:=m.at_+1}):=by
 refine ml [] [.slot 4] func128 (by kernel_rfl) ?_
 (conv in kq _ _=>cbv)
 have w1:=zY (m.at_+1) (by omega);have w2:=zY m.at_ (by omega);simp[mkS,mkB,w1,w2];refine z7 (gA m.l m.at_ n hn) (by simp) (by simp) ?_;simp;exact mr [0,1] 0 (by rfl) (by simp)
theorem aZ(m:Mk)(kind n:Int)(kids:wG)(h0:0<=m.temp)(h1:m.temp<=1000000000000000)(h2 : -1000000000000000<=m.left)(h3:m.left<=1000000000000000) :
 mv 132 [.ptr 0 0,int kind,int n,.sl kids.length (qT kids)] (mkS m) (.agg (zI (.mk ⟨0,0,m.temp⟩ kind n Id.zero Typ.zero kids []))) (mkS {m with temp:=m.temp+1,left:=m.left-1}):=by
 refine ml [] [.cell 8 15 true] func132 (by kernel_rfl) ?_
 (conv in kq _ _=>cbv)
 have w1:=zY (m.temp+1) (by omega);have w2:=zY m.temp (by omega);have w3:=zY (m.left-1) (by omega);simp[mkS,mkB,w1,w2,w3];exact mr [0,1] 0 (by rfl) (by simp[zI,Typ.zero,Id.zero,Typ.kids,Typ.k,Typ.id])
def scA:List EVar->A
 |[]=>.lit (.pointer none)
 |b::l=>.rptr (iY b++[scA l])
@[simp]theorem qJY:scA []=.lit (.pointer none):=rfl
theorem xD(b:EVar)(l:wO):scA (b::l)=.rptr [.lit (.int .i64 b.id.a),.lit (.int .i64 b.id.b),.lit (.int .i64 b.id.c),.lit (.int .i64 b.n),.lit (.int .i64 b.v.k),.lit (.int .i64 b.v.n),.sl b.v.kids.length (zR b.v.kids),scA l]:=rfl
@[simp]theorem zSK:∀l:wO,nrm0 (scA l)=scA l
 |[]=>rfl
 |b::l=>by simp[xD,zSK l]
@[simp]theorem qAz{rf:Bool->Nat->Nat->A}{g:Nat->wC}:∀l:wO,vw rf g (scA l)=scA l
 |[]=>rfl
 |b::l=>by simp[xD,qAz l]
@[simp]theorem zWO(l:wO):cellsOf (scA l)=some [scA l]:=by cases l<;>rfl
abbrev scE(V:wO):A:=scA V.reverse
@[simp]theorem qJZ:scE []=.lit (.pointer none):=rfl
@[simp]theorem qH8(V:wO)(b:EVar):scE (V++[b])=scA (b::V.reverse):=by simp[scE]
@[simp]theorem qBU(V:wO)(a b:EVar):scE (V++[a,b])=scA (b::a::V.reverse):=by simp[scE]
def zDw(l:wO)(id:Id)(n:Int):Val:=((l.find? fun b=>decide (b.id=id/\b.n=n)).map EVar.v).getD (.mk 0 0 [])
theorem zMa(b:EVar)(l:wO)(id:Id)(n:Int):zDw (b::l) id n=if b.id=id/\b.n=n then b.v else zDw l id n:=by unfold zDw;rw[jD6];by_cases h:b.id=id/\b.n=n<;>simp[h]
def zTg(a b c n a' b' c' n':Int):Bool:=decide (Id.mk a b c=Id.mk a' b' c'/\n=n')
@[simp]theorem qH7{x y:Id}{n m:Int}:zTg x.a x.b x.c n y.a y.b y.c m=decide (x=y/\n=m):=rfl
@[simp]theorem qFK{a b c n a' b' c' n':Int}:zIe [.i,.i,.i,.i] false (.agg [.lit (.int .i64 a),.lit (.int .i64 b),.lit (.int .i64 c),.lit (.int .i64 n)]) (.agg [.lit (.int .i64 a'),.lit (.int .i64 b'),.lit (.int .i64 c'),.lit (.int .i64 n')]) =
 some (.lit (.bool (zTg a b c n a' b' c' n'))):=by simp[zIe,bA,iO,fC,and_assoc,zTg]
theorem zR8(l:wO)(id:Id)(n:Int):mv 175 [scA l,.agg [int id.a,int id.b,int id.c,int n]] [] (.agg (zF (zDw l id n))) []:=by
 refine ml [] [.cell 4 3 true] func175 (by kernel_rfl) ?_
 (conv in kq _ _=>cbv)
 simp;refine qK (S:=wO) (fun s=>[(0,scA s),(3,.ptr 0 0),(4,.ptr 1 0)]) (fun _=>[.box [int id.a,int id.b,int id.c,int n],.box [int 0,int 0,.nil]])
  (fun s=>zDw l id n=zDw s id n) (fun s=>s.length) l rfl (mu [0,1] 0 (by rfl) (by simp)) ?_
 intro s hs;cases s with
 |nil =>
  simp;exact zA 0 (by rw[hs];simp[zDw,zF,Val.k,Val.n,Val.kids])
 |cons b s =>
  rw[zMa]at hs;by_cases h:b.id=id/\b.n=n
  .rw[if_pos h]at hs;obtain⟨rfl,rfl⟩:=h;simp[xD];exact zA 0 (by rw[hs];simp[zF])
  .rw[if_neg h]at hs;have hd:decide (b.id=id/\b.n=n)=false:=by simpa using h
   simp[xD,hd,-Bool.decide_and];exact zO s hs (by simp) (mu [0,1] 0 (by rfl) (by simp))
theorem lH(l:wO)(b:EVar):mv 109 [scA l,.agg (zK b.id),int b.n,.agg (zF b.v)] [] (scA (b::l)) []:=by
 refine ml [] [.slot 8] func109 (by kernel_rfl) ?_
 (conv in kq _ _=>cbv)
 simp[zK,zF];exact zA 1 (by simp[xD])
theorem zC1(v:Val):mv 152 [.agg (zF v)] [] (int (mF v)) []:=by
 refine ml [] [.slot 2] func152 (by kernel_rfl) ?_
 (conv in kq _ _=>cbv)
 simp[zF];intro hl;refine qK (S:=Nat) (fun i=>[(3,int (zFf (v.kids.take i))),(7,.sl v.kids.length (zR v.kids)),(8,int v.kids.length),(9,int i)]) (fun s=>[]) (fun i=>i<=v.kids.length) (fun i=>v.kids.length-i) 0 (by simp)
  (mu [] 0 (by rfl) (by simp[zFf])) ?_
 intro i hi;simp;by_cases h:i<v.kids.length
 .simp[h,qL h];refine mq (zC1 v.kids[i]) (by simp[zF]) ?_;simp;exact zO (i+1) h (by omega) (mu [] 0 (by rfl) (by simp[z8 h hl,zCG h,zM7]))
 .have:i=v.kids.length:=by omega
  subst this;simp;exact zA 0 (by simp[zCz v,w64])
termination_by qN v
decreasing_by exact aW (jA0 _)
def zE:wE:=[.lit (.int .i64 0),.lit (.int .i64 0),.lit (.int .i64 0),.lit (.int .i64 0),.lit (.int .i64 0),.lit (.int .i64 0),.lit (.int .i64 0),.lit (.int .i64 0),.lit (.int .i64 0),.lit (.int .i64 0),.lit (.int .i64 0),.lit (.int .i64 0),.nil,.nil,.nil]
def zD:wE:=[.lit (.int .i64 0),.lit (.int .i64 0),.lit (.int .i64 0),.lit (.int .i64 0),.lit (.int .i64 0),.lit (.int .i64 0),.lit (.int .i64 0),.lit (.string ⟨#[]⟩),.nil,.lit (.int .i64 0),.lit (.int .i64 0),.lit (.int .i64 0),.lit (.int .i64 0),.nil,.lit (.int .i64 0),.lit (.int .i64 0),.lit (.int .i64 0),.lit (.int .i64 0),.lit (.int .i64 0),.lit (.int .i64 0),.lit (.int .i64 0),.lit (.int .i64 0),.lit (.int .i64 0),.lit (.int .i64 0),.lit (.int .i64 0),.lit (.int .i64 0),.nil,.nil,.nil,.lit (.int .i64 0),.nil]
@[simp]theorem qBp{z:Value}{a:A}:s7 z true (some a)=.tup [a,.lit (.bool true)]:=rfl
@[simp]theorem zZo:s7 (.agg #[(.int .i64 0),(.int .i64 0),(.int .i64 0),(.int .i64 0),(.int .i64 0),(.int .i64 0),(.int .i64 0),(.int .i64 0),(.int .i64 0),(.int .i64 0),(.int .i64 0),(.int .i64 0),(.slice none 0 0),(.slice none 0 0),(.slice none 0 0)]) true none=.tup [.agg zE,.lit (.bool false)]:=by kernel_rfl
@[simp]theorem zZn:s7 (.agg #[(.int .i64 0),(.int .i64 0),(.int .i64 0),(.int .i64 0),(.int .i64 0),(.int .i64 0),(.int .i64 0),(.string ⟨#[]⟩),(.slice none 0 0),(.int .i64 0),(.int .i64 0),(.int .i64 0),(.int .i64 0),(.slice none 0 0),(.int .i64 0),(.int .i64 0),(.int .i64 0),(.int .i64 0),(.int .i64 0),(.int .i64 0),(.int .i64 0),(.int .i64 0),(.int .i64 0),(.int .i64 0),(.int .i64 0),(.int .i64 0),(.slice none 0 0),(.slice none 0 0),(.slice none 0 0),(.int .i64 0),(.slice none 0 0)]) true none=.tup [.agg zD,.lit (.bool false)]:=by kernel_rfl
@[simp]theorem qNZ:zE.length=15:=rfl
@[simp]theorem qNY:zD.length=31:=rfl
def zIz{α:Type}(idf : α->Id)(enc : α->wE)(l:List α):List (wB×A):=l.map fun x=>(zAI (idf x),.agg (enc x))
@[simp]theorem zOc{α:Type}{idf : α->Id}{enc : α->wE}(hp:∀x,qY (enc x))(l:List α):((zIz idf enc l).map fun p=>(p.1,vw rf g p.2))=zIz idf enc l:=by
 simp only[zIz,jCg];refine jC6 fun x _=>?_
 simp[(hp x).2]
@[simp]theorem qJF(l:wG):((zIz Exp.id zI l).map fun p=>(p.1,vw rf g p.2))=zIz Exp.id zI l:=zOc zA7 l
@[simp]theorem qJE(l:wQ):((zIz Dfn.id zJ l).map fun p=>(p.1,vw rf g p.2))=zIz Dfn.id zJ l:=zOc bV l
structure Bnd where
 id:Id
 n:Int
 typ:Typ
abbrev wJ:=List Bnd
def c7(b:Bnd):wE:=[.lit (.int .i64 b.id.a),.lit (.int .i64 b.id.b),.lit (.int .i64 b.id.c),.lit (.int .i64 b.n),.lit (.int .i64 b.typ.k),.lit (.int .i64 b.typ.id.a),.lit (.int .i64 b.typ.id.b),.lit (.int .i64 b.typ.id.c),.sl b.typ.kids.length (jQ b.typ.kids)]
theorem zA6(b:Bnd):qY (c7 b):=by have h1:=y9 b.typ.kids;exact⟨by simp[c7,h1.1],fun rf g=>by simp[c7,h1.2]⟩
def qC(l:wJ):wE:=l.flatMap c7
theorem zBn(l:wJ):qY (qC l):=dL zA6 l
@[simp]theorem zXt(l:wJ):jT (qC l)=qC l:=(zBn l).1
@[simp]theorem qCj{rf g}(l:wJ):vwL rf g (qC l)=qC l:=(zBn l).2 _ _
@[simp]theorem zY2:qC []=[]:=rfl
theorem zDp(x:Bnd)(l:wJ):qC (x::l)=c7 x++qC l:=rfl
theorem zAg(l l':wJ):qC (l++l')=qC l++qC l':=by simp only[qC,jBr]
@[simp]theorem zY1(l:wJ):(qC l).length=l.length*9:=by rw[qC,gH (k:=9) (fun _=>rfl)]
theorem iV{l:wJ}(h:i<l.length):(qC l).drop (i*9)=c7 l[i]++qC (l.drop (i+1)):=by rw[qC,qC,fL (k:=9) (fun _=>rfl) h]
theorem zCs{l:wJ}(h:i<l.length):qC (l.take (i+1))=qC (l.take i)++c7 l[i]:=by rw[qC,qC,lJ (k:=9) (fun _=>rfl) h]
@[simp]theorem qF3(d:Bnd):(c7 d).length=9:=rfl
@[simp]theorem qF2(d:Bnd):(c7 d).take 9=c7 d:=jA9 (jA _)
@[simp]theorem qAX(d:Bnd)(l:wE):(c7 d++l).take 9=c7 d:=by rw[jC (by simp)];exact jA9 (by simp)
@[simp]theorem qB5(d:Bnd):jT (c7 d)=c7 d:=(zA6 d).1
@[simp]theorem qKl(d:Bnd) {rf g}:vwL rf g (c7 d)=c7 d:=(zA6 d).2 _ _
theorem tmN{x k:Int}(h:0<=x):x.tmod k=x % k:=jDr h
theorem tdN{x k:Int}(h:0<=x):x.tdiv k=x / k:=Int.tdiv_eq_ediv_of_nonneg h
theorem zEg(m:Mk)(h0:0<=m.name)(h1:m.name<=1000000000000000) :
 ∃s:ByteArray,mv 133 [.ptr 0 0] (mkS m) (.lit (.string s)) (mkS {m with name:=m.name+1}):=by
 have w1:=zY (m.name+1) (by omega);have e1:(m.name+1).tmod 3=(m.name+1) % 3:=tmN (by omega);have e2:(m.name+1).tdiv 3=(m.name+1) / 3:=tdN (by omega);have e3:((m.name+1).tdiv 3).tmod 8=((m.name+1) / 3) % 8:=by rw[e2];exact tmN (by omega)
 have w2:IntKind.i64.wrap ((m.name+1).tdiv 3)=(m.name+1).tdiv 3:=IntWalk.i64_in _ (by rw[e2];omega);have a0:0<=(m.name+1).tmod 3:=by omega
 have a1:(m.name+1).tmod 3<3:=by omega
 have b0:0<=((m.name+1).tdiv 3).tmod 8:=by omega
 have b1:((m.name+1).tdiv 3).tmod 8<8:=by omega
 have hA:∃s1 rest,s1.size<=10/\List.drop ((m.name+1).tmod 3).toNat [A.lit (.string ⟨#[117]⟩),A.lit (.string ⟨#[118]⟩),A.lit (.string ⟨#[119]⟩)]=A.lit (.string s1)::rest:=by
  have:((m.name+1).tmod 3).toNat=0\/((m.name+1).tmod 3).toNat=1\/((m.name+1).tmod 3).toNat=2:=by omega
  rcases this with e|e|e<;>rw[e]<;>exact⟨_,_,by decide,rfl⟩
 have hB:∃s1 rest,s1.size<=10/\List.drop (((m.name+1).tdiv 3).tmod 8).toNat [A.lit (.string ⟨#[]⟩),A.lit (.string ⟨#[49]⟩),A.lit (.string ⟨#[50]⟩),A.lit (.string ⟨#[51]⟩),A.lit (.string ⟨#[52]⟩),A.lit (.string ⟨#[53]⟩),A.lit (.string ⟨#[54]⟩),A.lit (.string ⟨#[55]⟩)]=A.lit (.string s1)::rest:=by
  generalize ((m.name+1).tdiv 3).tmod 8=b at b0 b1;have:b.toNat=0\/b.toNat=1\/b.toNat=2\/b.toNat=3\/b.toNat=4\/b.toNat=5\/b.toNat=6\/b.toNat=7:=by omega
  rcases this with e|e|e|e|e|e|e|e<;>rw[e]<;>exact⟨_,_,by decide,rfl⟩
 obtain⟨sa,ra,hsa,hA⟩:=hA;obtain⟨sb,rb,hsb,hB⟩:=hB;refine⟨sa++sb,?_⟩;refine ml [] [.slot 2] func133 (by kernel_rfl) ?_
 (conv in kq _ _=>cbv)
 have h3:((m.name+1).tmod 3).toNat<3:=by omega
 have h8:(((m.name+1).tdiv 3).tmod 8).toNat<8:=by omega
 simp[mkS,mkB,w1,w2,hA,hB,a0,a1,b0,b1,h3,h8];refine⟨by omega,?_⟩;exact mr [0,1] 0 (by rfl) (by simp)
theorem zTE(m:Mk)(b:Bnd)(h0:0<=m.temp)(h1:m.temp<=1000000000000000)(h2 : -1000000000000000<=m.left)(h3:m.left<=1000000000000000) :
 mv 130 [.ptr 0 0,.agg (c7 b)] (mkS m) (.agg (zI (.mk ⟨0,0,m.temp⟩ 2 b.n b.id Typ.zero [] []))) (mkS {m with temp:=m.temp+1,left:=m.left-1}):=by
 refine ml [] [.cell 4 15 true] func130 (by kernel_rfl) ?_
 (conv in kq _ _=>cbv)
 simp[mkS,mkB,c7];refine mn (aZ m 2 b.n [] h0 h1 h2 h3) [0,1] (by simp[mkS,mkB]) ?_;simp[mkS,mkB,zI];exact mr [0,1] 0 (by rfl) (by simp)
theorem zEJ(env:wJ)(t:Typ)(hE:env.length<=1000000):mv 129 [.sl env.length (qC env),.agg (zB t)] [] (.sl (env.filter fun b=>aU b.typ t).length (qC (env.filter fun b=>aU b.typ t))) []:=by
 refine ml [] [.slot 4] func129 (by kernel_rfl) ?_
 (conv in kq _ _=>cbv)
 simp[zB];refine qK (S:=Nat) (fun i=>[(0,.sl env.length (qC env)),(3,.ptr 0 0),(5,.row 1 ((env.take i).filter fun b=>aU b.typ t).length),(6,int i)]) (fun i=>[.box (zB t),.row false 139 9 ((env.take i).filter fun b=>aU b.typ t).length (qC ((env.take i).filter fun b=>aU b.typ t))]) (fun i=>i<=env.length) (fun i=>env.length-i) 0 (by simp)
  ((qS (t:=5) (by simp) 139 9).trans (mu [0,1] 0 (by rfl) (by simp[zB]))) ?_
 intro i hi;by_cases h:i<env.length
 .simp[h,iV h,c7,zB];intro hl;refine z7 (nZ env[i].typ t) (by simp[zB]) (by simp) ?_;have hst:((env.take (i+1)).filter fun b=>aU b.typ t)=((env.take i).filter fun b=>aU b.typ t)++(if aU env[i].typ t then [env[i]]else []):=by rw[jA6 h,jD7];cases hs:aU env[i].typ t<;>simp[hs]
  cases hs:aU env[i].typ t
  .simp;rw[hs]at hst;simp only[jAk,if_false,jBa]at hst;exact zO (i+1) h (by omega) (mu [0,1] 0 (by rfl) (by simp[zB,hst,z8 h hl]))
  .simp[h,iV h,c7];rw[hs]at hst;simp only[if_true]at hst;have hle:((env.take i).filter fun b=>aU b.typ t).length<=i:=jBt (jCn _ _) (by simp;omega);refine⟨⟨by simp[maxLen];omega,by omega⟩,?_⟩;exact zO (i+1) h (by omega) (mu [0,1] 0 (by rfl) (by simp[zB,hst,zAg,zDp,c7,z8 h hl]))
 .have:i=env.length:=by omega
  subst this;simp;exact fun _=>zA 1 (by simp)
theorem mQ(env:wJ)(b:Bnd)(hE:env.length<=1000000):mv 134 [.sl env.length (qC env),.agg (c7 b)] [] (.sl (env.length+1) (qC (env++[b]))) []:=by
 refine mj zSl [] [.slot 4] func134 (by kernel_rfl) ?_
 (conv in zV _ _ _ _=>cbv)
 simp[c7];exact⟨⟨by simp[maxLen];omega,by omega⟩,⟨by simp[maxLen];omega,by omega⟩,zA 1 (by simp[zAg,zDp,c7])⟩
def zGy(ds:wQ):St:=[.row false 41 31 ds.length (z6 ds)]
def x9(ds:wQ)(i:Id):Dfn×Bool:=match ds.find? fun d=>decide (d.id=i)with
 |some d=>(d,true)
 |none=>(Dfn.zero,false)
theorem zC5{ds:wQ}{x:Id}(h:i<ds.length)(hn:∀d∈ds.take i,d.id≠x)(he:ds[i].id=x):(ds.find? fun d=>decide (d.id=x))=some ds[i]:=by
 have e:ds=ds.take i++ds[i]::ds.drop (i+1):=by rw[<-jAo h,jC1]
 have h1:((ds.take i).find? fun d=>decide (d.id=x))=none:=jCx.2 fun d hd=>by simpa using hn d hd
 have h2:∀y,y=ds[i]->(ds.find? fun d=>decide (d.id=x))=some y:=fun y hy=>by rw[<-hy]at e he;rw[e,List.find?_append,h1];simp[he]
 exact h2 _ rfl
theorem zKK(M:List Md)(ds:wQ)(x:Id)(hL:ds.length<=1000000):mv 36 [.agg [.sl M.length (qH M),.row 0 ds.length],.agg (zK x)] (zGy ds) (.tup [.agg (zJ (x9 ds x).1),bl (x9 ds x).2]) (zGy ds):=by
 refine ml [] [.cell 4 31 true,.slot 5] func36 (by kernel_rfl) ?_
 (conv in kq _ _=>cbv)
 simp[zGy,zK];refine qK (S:=Nat) (fun i=>[(2,.ptr 1 0),(3,.ptr 2 0),(4,.ptr 3 0),(6,int i)]) (fun _=>[.row false 41 31 ds.length (z6 ds),.box [.sl M.length (qH M),.row 0 ds.length],.box (zK x),.box (zJ Dfn.zero)]) (fun i=>i<=ds.length/\∀d∈ds.take i,d.id≠x) (fun i=>ds.length-i) 0 (by simp)
  (mu [0,1,2,3] 0 (by rfl) (by simp[zK,zJ,Dfn.zero,Id.zero,Typ.zero,Exp.zero])) ?_
 rintro i ⟨hi,hn⟩;by_cases h:i<ds.length
 .have hd:=yG h;have hb3:i*31+3<=ds.length*31:=by omega
  have hb31:i*31+31<=ds.length*31:=by omega
  have hw:=jZ i (by omega);by_cases he:ds[i].id=x
  .have hv:x9 ds x=(ds[i],true):=by unfold x9;rw[zC5 h hn he]
   have he3:pP ds[i].id.a ds[i].id.b ds[i].id.c x.a x.b x.c=true:=by rw[cW];exact decide_eq_true he
   simp[h,hd,zK,zJ,he3,hb3,hb31];exact mr [0] 0 (by rfl) (by simp[hv,zJ])
  .have he3:pP ds[i].id.a ds[i].id.b ds[i].id.c x.a x.b x.c=false:=by rw[cW];exact decide_eq_false he
   simp[h,hd,zK,zJ,he3,hb3,hb31];exact zO (i+1) ⟨h,fun d hd'=>by
    rw[jA6 h]at hd';rcases jAc.1 hd' with hd'|hd'
    .exact hn d hd'
    .rw[jAp.1 hd'];exact he⟩ (by omega) (mu [0,1,2,3] 0 (by rfl) (by simp[zK,zJ,Dfn.zero,Id.zero,Typ.zero,Exp.zero,hw]))
 .have:i=ds.length:=by omega
  subst this;rw[jAt]at hn;have hv:x9 ds x=(Dfn.zero,false):=by unfold x9;rw[jCx.2 fun d hd=>by simpa using hn d hd]
  simp[zJ,Dfn.zero,Id.zero,Typ.zero,Exp.zero]
  first|exact fun _=>mr [0] 0 (by rfl) (by simp[hv,zJ,Dfn.zero,Id.zero,Typ.zero,Exp.zero])|exact mr [0] 0 (by rfl) (by simp[hv,zJ,Dfn.zero,Id.zero,Typ.zero,Exp.zero])
theorem zVu(M:List Md)(ds:wQ)(x:Id)(hL:ds.length<=1000000):mv 36 [.agg [.sl M.length (qH M),.sl ds.length (z6 ds)],.agg (zK x)] [] (.tup [.agg (zJ (x9 ds x).1),bl (x9 ds x).2]) []:=by
 refine ml [] [.cell 4 31 true,.slot 5] func36 (by kernel_rfl) ?_
 (conv in kq _ _=>cbv)
 simp[zGy,zK];refine qK (S:=Nat) (fun i=>[(2,.ptr 0 0),(3,.ptr 1 0),(4,.ptr 2 0),(6,int i)]) (fun _=>[.box [.sl M.length (qH M),.sl ds.length (z6 ds)],.box (zK x),.box (zJ Dfn.zero)]) (fun i=>i<=ds.length/\∀d∈ds.take i,d.id≠x) (fun i=>ds.length-i) 0 (by simp)
  (mu [0,1,2] 0 (by rfl) (by simp[zK,zJ,Dfn.zero,Id.zero,Typ.zero,Exp.zero])) ?_
 rintro i ⟨hi,hn⟩;by_cases h:i<ds.length
 .have hd:=yG h;have hb3:i*31+3<=ds.length*31:=by omega
  have hb31:i*31+31<=ds.length*31:=by omega
  have hw:=jZ i (by omega);by_cases he:ds[i].id=x
  .have hv:x9 ds x=(ds[i],true):=by unfold x9;rw[zC5 h hn he]
   have he3:pP ds[i].id.a ds[i].id.b ds[i].id.c x.a x.b x.c=true:=by rw[cW];exact decide_eq_true he
   simp[h,hd,zK,zJ,he3,hb3,hb31];intro hl;exact mr [] 0 (by rfl) (by simp[hv,zJ])
  .have he3:pP ds[i].id.a ds[i].id.b ds[i].id.c x.a x.b x.c=false:=by rw[cW];exact decide_eq_false he
   simp[h,hd,zK,zJ,he3,hb3,hb31];intro hl;exact zO (i+1) ⟨h,fun d hd'=>by
    rw[jA6 h]at hd';rcases jAc.1 hd' with hd'|hd'
    .exact hn d hd'
    .rw[jAp.1 hd'];exact he⟩ (by omega) (mu [0,1,2] 0 (by rfl) (by simp[zK,zJ,Dfn.zero,Id.zero,Typ.zero,Exp.zero,hw]))
 .have:i=ds.length:=by omega
  subst this;rw[jAt]at hn;have hv:x9 ds x=(Dfn.zero,false):=by unfold x9;rw[jCx.2 fun d hd=>by simpa using hn d hd]
  simp[zJ,Dfn.zero,Id.zero,Typ.zero,Exp.zero]
  first|exact fun _=>mr [] 0 (by rfl) (by simp[hv,zJ,Dfn.zero,Id.zero,Typ.zero,Exp.zero])|exact mr [] 0 (by rfl) (by simp[hv,zJ,Dfn.zero,Id.zero,Typ.zero,Exp.zero])
def zIF{α:Type}(idf : α->Id)(D:List α)(c : α->Bool)(met:wA):wF:=met.filterMap fun i=>(D[i]?).bind fun x=>if c x then some (idf x)else none
variable{met:wA}
theorem zQb{α:Type}{idf : α->Id}{D:List α}{c : α->Bool}{x : α}(h:D[i]?=some x):zIF idf D c (met++[i])=if c x then zIF idf D c met++[idf x]else zIF idf D c met:=by simp only[zIF,List.filterMap_append,List.filterMap_cons,List.filterMap_nil,h,Option.bind_some];cases c x<;>simp
theorem zJF{α β:Type}{f g : α->Option β}:∀{l:List α},(∀x∈l,f x=g x)->l.filterMap f=l.filterMap g
 |[],_=>rfl
 |x::l,h=>by rw[List.filterMap_cons,List.filterMap_cons,h x (jAr ..),zJF fun y hy=>h y (jAh _ hy)]
theorem zMZ{α:Type}{idf : α->Id}{c : α->Bool}(D:List α):zIF idf D c (List.range D.length)=(D.filter c).map idf:=by
 induction D using nQ with
 |nil=>rfl
 |snoc D y ih =>
  have h1:zIF idf (D++[y]) c (List.range D.length)=zIF idf D c (List.range D.length):=by
   unfold zIF;refine zJF fun i hi=>?_
   rw[jAl (jBx.1 hi)]
  rw[jA5,jAz,List.range_succ,zQb (x:=y) (by simp),h1,ih,jD7,jBs];cases hc:c y<;>simp[hc]
structure Met(n:Nat)(met:List Nat):Prop where
 nd:met.Nodup
 lt:∀i∈met,i<n
theorem Met.snoc{n:Nat}(h:Met n met)(hi:i<n)(hn:i∉met):Met n (met++[i]):=by
 refine⟨?_,fun j hj=>?_⟩
 .rw[jCu];refine⟨h.nd,by simp,fun a ha b hb=>?_⟩;simp only[jAp]at hb;subst hb;exact fun e=>hn (e▸ha)
 .rcases jAc.1 hj with hj|hj
  .exact h.lt j hj
  .rw[jAp.1 hj];exact hi
theorem Met.le{n:Nat}(h:Met n met):met.length<=n:=by
 have:=h.nd.length_le_of_subset (l₂:=List.range n) fun i hi=>jBx.2 (h.lt i hi)
 simpa using this
theorem Met.perm{n:Nat}(h:Met n met)(ha:∀i,i<n->i∈met):met.Perm (List.range n) :=
 (List.perm_ext_iff_of_nodup h.nd List.nodup_range).2 fun i=>⟨fun hi=>jBx.2 (h.lt i hi),fun hi=>ha i (jBx.1 hi)⟩
theorem Met.sel{α:Type}{idf : α->Id}{c : α->Bool}{D:List α}(h:Met D.length met)(ha:∀i,i<D.length->i∈met):(zIF idf D c met).Perm ((D.filter c).map idf):=by rw[<-zMZ];exact(h.perm ha).filterMap _
@[simp]theorem qGD{α:Type}{idf : α->Id}{enc : α->wE}{D:List α}:(zIz idf enc D).length=D.length:=by simp[zIz]
structure Hd where
 id:Id
 kind:Int
 slots:List Slt
 res:Typ
abbrev wP:=List Hd
def Dfn.hd(d:Dfn):Hd:=⟨d.id,d.kind,d.slots,d.res⟩
abbrev jO:Typ:=.mk 0 Id.zero []
abbrev jX:Typ:=.mk 1 Id.zero []
abbrev yC(t:Typ):Typ:=.mk 2 Id.zero [t]
abbrev yI(d:Id):Typ:=.mk 3 d []
inductive TyOk(hs:List Hd):Nat->Typ->Prop
 |int (r:Nat):TyOk hs r jO
 |bool (r:Nat):TyOk hs r jX
 |list (r:Nat) (t:Typ) (h:TyOk hs r t):TyOk hs (r+1) (yC t)
 |dfn (r k:Nat) (h:k<hs.length) (h1:∀(j:Nat) (hj:j<k),hs[j].id≠hs[k].id) (h2:hs[k].kind=0\/hs[k].kind=1/\0<hs[k].slots.length) (h3:hs[k].slots.length<=6)
  (h4:∀s∈hs[k].slots,TyOk hs r s.typ):TyOk hs (r+1) (yI hs[k].id)
variable{hs:wP}{t:Typ}
theorem TyOk.mono{r r':Nat}(h:TyOk hs r t)(hr:r<=r'):TyOk hs r' t:=by
 induction h generalizing r' with
 |int r=>exact .int _
 |bool r=>exact .bool _
 |list r t h ih =>
  obtain⟨q,rfl⟩:∃q,r'=q+1:=⟨r'-1,by omega⟩;exact .list _ _ (ih (by omega))
 |dfn r k h h1 h2 h3 h4 ih =>
  obtain⟨q,rfl⟩:∃q,r'=q+1:=⟨r'-1,by omega⟩;exact .dfn _ k h h1 h2 h3 fun s hs'=>ih s hs' (by omega)
def fX(env:wJ)(x:Id)(n:Int):Option Typ:=(env.reverse.find? fun b=>decide (b.id=x)&&decide (b.n=n)).map (·.typ)
inductive WT(hs:List Hd)(own:Int):List Bnd->Exp->Typ->Prop
 |int (env i n) (h1 : -1099511627776<=n) (h2:n<=1099511627776):WT hs own env (.mk i 0 n Id.zero Typ.zero [] []) jO
 |bool (env i n) (h:n=0\/n=1):WT hs own env (.mk i 1 n Id.zero Typ.zero [] []) jX
 |var (env i n x t) (h:fX env x n=some t):WT hs own env (.mk i 2 n x Typ.zero [] []) t
 |call (env i) (k:Nat) (h:k<hs.length) (ks) (ho:(k:Int)<own) (hk:hs[k].kind=2) (hl:ks.length=hs[k].slots.length) (hw:∀(j:Nat) (hj:j<ks.length),WT hs own env ks[j] (hs[k].slots[j]'(hl▸hj)).typ) :
  WT hs own env (.mk i 3 0 hs[k].id Typ.zero ks []) hs[k].res
 |arith (env i n a b) (h1:0<=n) (h2:n<=4) (ha:WT hs own env a jO) (hb:WT hs own env b jO):WT hs own env (.mk i 4 n Id.zero Typ.zero [a,b] []) jO
 |less (env i a b) (ha:WT hs own env a jO) (hb:WT hs own env b jO):WT hs own env (.mk i 4 5 Id.zero Typ.zero [a,b] []) jX
 |same (env i a b u) (ha:WT hs own env a u) (hb:WT hs own env b u):WT hs own env (.mk i 4 6 Id.zero Typ.zero [a,b] []) jX
 |andor (env i n a b) (h:n=7\/n=8) (ha:WT hs own env a jX) (hb:WT hs own env b jX):WT hs own env (.mk i 4 n Id.zero Typ.zero [a,b] []) jX
 |not (env i a) (ha:WT hs own env a jX):WT hs own env (.mk i 4 9 Id.zero Typ.zero [a] []) jX
 |join (env i a b t) (ha:WT hs own env a (yC t)) (hb:WT hs own env b (yC t)):WT hs own env (.mk i 4 10 Id.zero Typ.zero [a,b] []) (yC t)
 |len (env i a t) (ha:WT hs own env a (yC t)):WT hs own env (.mk i 4 11 Id.zero Typ.zero [a] []) jO
 |ite (env i a b c t) (ha:WT hs own env a jX) (hb:WT hs own env b t) (hc:WT hs own env c t):WT hs own env (.mk i 5 0 Id.zero Typ.zero [a,b,c] []) t
 |lets (env i a b u t ns) (hn:ns.length<=10) (ha:WT hs own env a u) (hb:WT hs own (env++[⟨i,0,u⟩]) b t):WT hs own env (.mk i 6 0 Id.zero Typ.zero [a,b] ns) t
 |record (env i) (k:Nat) (h:k<hs.length) (ks) (hk:hs[k].kind=0) (hl:ks.length=hs[k].slots.length) (hw:∀(j:Nat) (hj:j<ks.length),WT hs own env ks[j] (hs[k].slots[j]'(hl▸hj)).typ) :
  WT hs own env (.mk i 7 0 hs[k].id Typ.zero ks []) (yI hs[k].id)
 |field (env i) (k:Nat) (h:k<hs.length) (j:Nat) (hj:j<hs[k].slots.length) (a) (hk:hs[k].kind=0) (ha:WT hs own env a (yI hs[k].id)):WT hs own env (.mk i 8 j hs[k].id Typ.zero [a] []) hs[k].slots[j].typ
 |case (env i) (k:Nat) (h:k<hs.length) (j:Nat) (hj:j<hs[k].slots.length) (a) (hk:hs[k].kind=1) (ha:WT hs own env a hs[k].slots[j].typ):WT hs own env (.mk i 9 j hs[k].id Typ.zero [a] []) (yI hs[k].id)
 |mtch (env i) (k:Nat) (h:k<hs.length) (a ks t ns) (hn:ns.length<=10) (hk:hs[k].kind=1) (hl:ks.length=hs[k].slots.length) (ha:WT hs own env a (yI hs[k].id))
  (hw:∀(j:Nat) (hj:j<ks.length),WT hs own (env++[⟨i,j,(hs[k].slots[j]'(hl▸hj)).typ⟩]) ks[j] t):WT hs own env (.mk i 10 0 hs[k].id Typ.zero (a::ks) ns) t
 |list (env i t ks) (hw:∀(j:Nat) (hj:j<ks.length),WT hs own env ks[j] t):WT hs own env (.mk i 11 0 Id.zero t ks []) (yC t)
 |fold (env i l s b u t ns) (hn:ns.length<=10) (hl:WT hs own env l (yC u)) (hs':WT hs own env s t) (hb:WT hs own (env++[⟨i,0,u⟩]++[⟨i,1,t⟩]) b t):WT hs own env (.mk i 12 0 Id.zero Typ.zero [l,s,b] ns) t
mutual
def tmps:Exp->wB
 | .mk i _ _ _ _ ks _=>yN ks++[i.c]
def yN:List Exp->wB
 |[]=>[]
 |e::l=>tmps e++yN l
end
mutual
def Exp.num0:Exp->Prop
 | .mk i _ _ _ _ ks _=>(i.a=0/\i.b=0)/\zK7 ks
def zK7:List Exp->Prop
 |[]=>True
 |e::l=>e.num0/\zK7 l
end
theorem zCN:∀l:wG,zK7 l↔∀e∈l,e.num0
 |[]=>by simp[zK7]
 |e::l=>by simp[zK7,zCN l]
variable{ns:List ByteArray}
theorem lN{c k n:Int}{r:Id}{ks:wG}(h:∀e∈ks,e.num0):(Exp.mk ⟨0,0,c⟩ k n r t ks ns).num0:=by simp only[Exp.num0,zCN,true_and];exact h
theorem xW{c k n:Int}{r:Id}:(Exp.mk ⟨0,0,c⟩ k n r t [] ns).num0:=lN (by simp)
theorem zBK{es:wG}{n:Nat}(hn:es.length=n)(h:∀(j:Nat)(_:j<es.length),es[j].num0):∀e∈es,e.num0:=fun e he=>by obtain⟨j,hj,rfl⟩:=jAn he;exact h j hj
structure Seg(lo hi:Int)(l:List Int):Prop where
 nd:l.Nodup
 rng:∀x∈l,lo<=x/\x<hi
variable{a b c:Int}
theorem Seg.append{l':wB}(h:Seg a b l)(h':Seg b c l')(hab:a<=b)(hbc:b<=c):Seg a c (l++l'):=by
 refine⟨jCu.2 ⟨h.nd,h'.nd,fun x hx y hy e=>?_⟩,fun x hx=>?_⟩
 .have h1:=h.rng x hx;have h2:=h'.rng y hy;omega
 .rcases jAc.1 hx with hx|hx
  .have:=h.rng x hx;omega
  .have:=h'.rng x hx;omega
theorem Seg.perm{l':wB}(h:Seg a b l)(hp:l.Perm l'):Seg a b l':=⟨hp.nodup_iff.1 h.nd,fun x hx=>h.rng x (hp.mem_iff.2 hx)⟩
theorem Seg.one(a:Int):Seg a (a+1) [a]:=⟨by simp,fun x hx=>by simp at hx;omega⟩
theorem Seg.nil:Seg a b []:=⟨by simp,fun x hx=>by simp at hx⟩
theorem Seg.mono{a' b':Int}(h:Seg a b l)(h1:a'<=a)(h2:b<=b'):Seg a' b' l:=⟨h.nd,fun x hx=>by have:=h.rng x hx;omega⟩
structure Adv(m m':Mk)(c:Int):Prop where
 mods:m'.mods=m.mods
 defs:m'.defs=m.defs
 l:m'.l=m.l
 own:m'.own=m.own
 home:m'.home=m.home
 at1:m.at_<=m'.at_
 at2:m'.at_<=m.at_+c
 temp1:m.temp<=m'.temp
 temp2:m'.temp<=m.temp+c
 left1:m.left-c<=m'.left
 left2:m'.left<=m.left
 name1:m.name<=m'.name
 name2:m'.name<=m.name+c
variable{m m1:Mk}{c':Int}
theorem Adv.trans{m2:Mk}(h:Adv m m1 c)(k:Adv m1 m2 c'):Adv m m2 (c+c'):=by obtain⟨h1,h2,h3,h4,h5,h6,h7,h8,h9,h10,h11,h12,h13⟩:=h;obtain⟨k1,k2,k3,k4,k5,k6,k7,k8,k9,k10,k11,k12,k13⟩:=k;exact⟨k1.trans h1,k2.trans h2,k3.trans h3,k4.trans h4,k5.trans h5,by omega,by omega,by omega,by omega,by omega,by omega,by omega,by omega⟩
theorem Adv.mono(h:Adv m m1 c)(hc:c<=c'):Adv m m1 c':=by obtain⟨h1,h2,h3,h4,h5,h6,h7,h8,h9,h10,h11,h12,h13⟩:=h;exact⟨h1,h2,h3,h4,h5,by omega,by omega,by omega,by omega,by omega,by omega,by omega,by omega⟩
structure Lim(m:Mk)(c:Int):Prop where
 at1:0<=m.at_
 at2:m.at_+c<=1000000000000000
 temp1:0<=m.temp
 temp2:m.temp+c<=1000000000000000
 left1 : -1000000000000000<=m.left-c
 left2:m.left<=1000000000000000
 name1:0<=m.name
 name2:m.name+c<=1000000000000000
theorem Lim.adv(h:Lim m (c+c'))(k:Adv m m1 c):Lim m1 c':=by obtain⟨h1,h2,h3,h4,h5,h6,h7,h8⟩:=h;obtain⟨k1,k2,k3,k4,k5,k6,k7,k8,k9,k10,k11,k12,k13⟩:=k;exact⟨by omega,by omega,by omega,by omega,by omega,by omega,by omega,by omega⟩
theorem Lim.mono(h:Lim m c)(hc:c'<=c):Lim m c':=by obtain⟨h1,h2,h3,h4,h5,h6,h7,h8⟩:=h;exact⟨by omega,by omega,by omega,by omega,by omega,by omega,by omega,by omega⟩
theorem aL(m:Mk):Adv m {m with temp:=m.temp+1,left:=m.left-1} 1:=⟨rfl,rfl,rfl,rfl,rfl,by simp,by simp;omega,by simp;omega,by simp,by simp,by simp;omega,by simp,by simp;omega⟩
theorem zN1(m:Mk):Adv m {m with at_:=m.at_+1} 1:=⟨rfl,rfl,rfl,rfl,rfl,by simp;omega,by simp,by simp,by simp;omega,by simp;omega,by simp,by simp,by simp;omega⟩
theorem zBf(m:Mk):Adv m {m with name:=m.name+1} 1:=⟨rfl,rfl,rfl,rfl,rfl,by simp,by simp;omega,by simp,by simp;omega,by simp;omega,by simp,by simp;omega,by simp⟩
structure Cx(hs:List Hd)(R:Nat)(m:Mk):Prop where
 heads:m.defs.map Dfn.hd=hs
 len:hs.length<=100
 len0:0<hs.length
 mods:0<m.mods.length
 nums:∀x∈m.l,w64 x=x
 own:m.own<=1000
 typs:∀(k:Nat) (h:k<hs.length),hs[k].kind=0\/hs[k].kind=1->TyOk hs R (yI hs[k].id)
 slots:∀(k:Nat) (h:k<hs.length),hs[k].slots.length<=6/\∀s∈hs[k].slots,TyOk hs R s.typ
variable{R:Nat}
theorem Cx.adv{m':Mk}(h:Cx hs R m)(k:Adv m m' c):Cx hs R m':=by obtain⟨h1,h2,h3,h4,h5,h6,h7,h8⟩:=h;exact⟨by rw[k.defs];exact h1,h2,h3,by rw[k.mods];exact h4,by rw[k.l];exact h5,by rw[k.own];exact h6,h7,h8⟩
theorem Cx.dlen(h:Cx hs R m):m.defs.length=hs.length:=by rw[<-h.heads,jAe]
theorem Cx.get(h:Cx hs R m){k:Nat}(hk:k<m.defs.length):hs[k]'(h.dlen▸hk)=m.defs[k].hd:=by obtain⟨rfl,_⟩:=h;simp
structure EnvOk(hs:List Hd)(R:Nat)(temp:Int)(env:List Bnd):Prop where
 typs:∀b∈env,TyOk hs R b.typ
 nd:env.Pairwise fun b c=>¬(b.id=c.id/\b.n=c.n)
 new:∀b∈env,b.id.b=0->b.id.c<temp
variable{temp:Int}{env:wJ}
theorem EnvOk.mono{temp':Int}(h:EnvOk hs R temp env)(ht:temp<=temp'):EnvOk hs R temp' env:=⟨h.typs,h.nd,fun b hb h0=>by have:=h.new b hb h0;omega⟩
theorem EnvOk.snoc(h:EnvOk hs R temp env)(c n:Int)(t:Typ)(ht:TyOk hs R t)(hc:∀b∈env,b.id=⟨0,0,c⟩->b.n≠n)(hct:c<temp):EnvOk hs R temp (env++[⟨⟨0,0,c⟩,n,t⟩]):=by
 refine⟨fun b hb=>?_,?_,fun b hb h0=>?_⟩
 .rcases jAc.1 hb with hb|hb
  .exact h.typs b hb
  .rw[jAp.1 hb];exact ht
 .rw[jCt];refine⟨h.nd,by simp,fun b hb c' hc'=>?_⟩;rw[jAp.1 hc'];exact fun e=>hc b hb e.1 e.2
 .rcases jAc.1 hb with hb|hb
  .exact h.new b hb h0
  .rw[jAp.1 hb];exact hct
theorem zHo(h:env.Pairwise fun b c=>¬(b.id=c.id/\b.n=c.n)){b:Bnd}(hb:b∈env):fX env b.id b.n=some b.typ:=by
 induction env using nQ with
 |nil=>simp at hb
 |snoc l y ih =>
  rw[jCt]at h;unfold fX;rw[List.reverse_append];simp only[List.reverse_cons,List.reverse_nil,jBy,jCw,jD6];rcases jAc.1 hb with hb'|hb'
  .have hne:=h.2.2 b hb' y (by simp);have:(decide (y.id=b.id)&&decide (y.n=b.n))=false:=by
    rw[jCp];by_cases e:y.id=b.id
    .right;rw[decide_eq_false_iff_not];exact fun e'=>hne ⟨e.symm,e'.symm⟩
    .left;simpa using e
   rw[this];exact ih h.1 hb'
  .rw[jAp.1 hb'];simp
def zBc(m:Mk)(k:Nat):Bool:=match m.defs[k]? with
 |some d=>decide ((k:Int)<m.own)&&(decide (d.mod=m.home)||decide (d.mod=(m.mods.headD ⟨Id.zero,⟨#[]⟩,[],[]⟩).id))
 |none=>false
theorem zVC{k:Nat}(h:zBc m k=true):(k:Int)<m.own:=by
 unfold zBc at h;split at h
 .rw[jA7]at h;exact of_decide_eq_true h.1
 .cases h
theorem zFX(m:Mk)(k:Nat)(hk:k<m.defs.length)(hm:0<m.mods.length):mv 168 [.ptr 0 0,int k] (mkS m) (bl (zBc m k)) (mkS m):=by
 refine ml [] [.slot 4] func168 (by kernel_rfl) ?_
 (conv in kq _ _=>cbv)
 have hd:=yG hk;have hb31:k*31+31<=m.defs.length*31:=by omega
 have hv:zBc m k=(decide ((k:Int)<m.own)&&(decide (m.defs[k].mod=m.home)||decide (m.defs[k].mod=(m.mods.headD ⟨Id.zero,⟨#[]⟩,[],[]⟩).id))):=by unfold zBc;rw[jA1 hk]
 cases hmm:m.mods with
 |nil=>rw[hmm]at hm;simp at hm
 |cons m0 M =>
  rw[hmm]at hv;simp only[jCy]at hv;simp[mkS,mkB,hk,hd,hb31,zJ,hmm,gF,oF];by_cases h1:(k:Int)<m.own
  .by_cases h2:m.defs[k].mod=m.home
   .simp[h1,h2];exact mr [0,1] 0 (by rfl) (by simp[hmm,gF,oF,hv,h1,h2])
   .have e2:pP m.defs[k].mod.a m.defs[k].mod.b m.defs[k].mod.c m.home.a m.home.b m.home.c=false:=by rw[cW];exact decide_eq_false h2
    simp[h1,e2];exact mz [0,1] 0 (by rfl) (by simp[hmm,gF,oF]) (by simp[hv,h1,h2]<;>congr)
  .simp[h1];exact mr [0,1] 0 (by rfl) (by simp[hmm,gF,oF,hv,h1])
def zD2(m:Mk)(kind:Int)(k:Nat):Bool:=(match m.defs[k]? with
 |some d=>decide (d.kind=kind)
 |none=>false)&&zBc m k
def ofV(m:Mk)(kind:Int)(x:Nat):Int:=match (List.range m.defs.length).find? fun i=>zD2 m kind ((x+i) % m.defs.length)with
 |some i=>(((x+i) % m.defs.length:Nat):Int)
 |none=>-1
variable{p:Nat->Bool}
theorem zPU{n i:Nat}(h:i<n)(hp:p i=true)(hn:∀j<i,p j=false):(List.range n).find? p=some i:=by rw[List.find?_range_eq_some];exact⟨hp,by simpa using h,fun j hj=>by simpa using hn j hj⟩
theorem zML{n:Nat}(hn:∀j<n,p j=false):(List.range n).find? p=none:=by
 rw[jCx];intro x hx
 simpa using hn x (by simpa using hx)
theorem zVk(m:Mk)(kind:Int)(x:Nat):ofV m kind x = -1\/∃k:Nat,∃h:k<m.defs.length,ofV m kind x=k/\m.defs[k].kind=kind/\zBc m k=true:=by
 unfold ofV;split
 .rename_i i hi;right;have hp:=jD8 hi;have hlt:0<m.defs.length:=by have:=jBx.1 (jDi hi);omega
  have hk:=Nat.mod_lt (x+i) hlt;refine⟨_,hk,rfl,?_⟩;unfold zD2 at hp;rw[jA1 hk]at hp
  simpa using hp
 .left;rfl
theorem zSP(m:Mk)(kind:Int)(x:Nat)(hx:x<=1000000)(hd:0<m.defs.length)(hd':m.defs.length<=100)(hm:0<m.mods.length):mv 167 [.ptr 0 0,int kind,int x] (mkS m) (int (ofV m kind x)) (mkS m):=by
 refine ml [] [.slot 6] func167 (by kernel_rfl) ?_
 (conv in kq _ _=>cbv)
 simp[mkS,mkB];refine qK (S:=Nat) (fun i=>[(0,.ptr 0 0),(1,int kind),(2,int x),(7,int m.defs.length),(8,int i)]) (fun _=>mkS m) (fun i=>i<=m.defs.length/\∀j<i,zD2 m kind ((x+j) % m.defs.length)=false) (fun i=>m.defs.length-i) 0 (by simp)
  (mu [0,1] 0 (by rfl) (by simp[mkS,mkB])) ?_
 rintro i ⟨hi,hn⟩;by_cases h:i<m.defs.length
 .have hk:=Nat.mod_lt (x+i) hd;have w1:=zY ((x:Int)+i) (by omega);have w2:=jZ i (by omega);have e1:Int.tmod ((x:Int)+i) (m.defs.length:Int)=(((x+i) % m.defs.length:Nat):Int):=by rw[tmN (by omega)];simp
  have hnil:m.defs≠[]:=fun e=>by rw[e]at hd;simp at hd
  have hne:¬((m.defs.length:Int)=0):=by omega
  generalize hkk:(x+i) % m.defs.length=k at hk e1;have hdr:=yG hk;have hdr3:List.drop (k*31+3) (z6 m.defs)=(zJ m.defs[k]++z6 (m.defs.drop (k+1))).drop 3:=by rw[<-jBc,hdr]
  have hb4:k*31+3+1<=m.defs.length*31:=by omega
  have hg:zD2 m kind k=(decide (m.defs[k].kind=kind)&&zBc m k):=by unfold zD2;rw[jA1 hk]
  simp[mkS,mkB,h,w1,e1,hne,hk,hdr3,hb4,zJ,hnil];have hround:zD2 m kind k=false->∀j<i+1,zD2 m kind ((x+j) % m.defs.length)=false:=fun hg' j hj=>by
   by_cases e:j=i
   .subst e;rw[hkk];exact hg'
   .exact hn j (by omega)
  have hhit:zD2 m kind k=true->ofV m kind x=k:=fun hg'=>by unfold ofV;rw[zPU h (by rw[hkk];exact hg') hn];simp only[hkk]
  by_cases h1:m.defs[k].kind=kind
  .simp[h1];refine mn (zFX m k hk hm) [0,1] (by simp[mkS,mkB]) ?_;cases h2:zBc m k
   .simp[mkS,mkB];exact zO (i+1) ⟨h,hround (by rw[hg,h2];simp)⟩ (by omega) (mu [0,1] 0 (by rfl) (by simp[mkS,mkB,w2]))
   .simp[mkS,mkB];exact mr [0,1] 0 (by rfl) (by simp[hhit (by rw[hg,h1,h2];simp)])
  .simp[h1];exact zO (i+1) ⟨h,hround (by rw[hg];simp[h1])⟩ (by omega) (mu [0,1] 0 (by rfl) (by simp[mkS,mkB,w2]))
 .have:i=m.defs.length:=by omega
  subst this;have hr:ofV m kind x = -1:=by unfold ofV;rw[zML hn]
  simp[mkS,mkB];exact mr [0,1] 0 (by rfl) (by simp[hr])
def jK(l:wQ)(id:Id):Option Dfn:=l.find? fun d=>decide (d.id=id)
theorem zAD(d:Dfn)(l:wQ)(id:Id):jK (d::l) id=if d.id=id then some d else jK l id:=by unfold jK;rw[jD6];by_cases h:d.id=id<;>simp[h]
theorem zLQ(l:wQ)(id:Id):x9 l id=((jK l id).getD .zero,(jK l id).isSome):=by unfold x9 jK;cases l.find? fun d=>decide (d.id=id)<;>rfl
theorem zUo(d:Dfn)(id:Id):mv 144 [.agg (zJ d),.ptr 0 0] [.box (zK id)] (bl (decide (d.id=id))) [.box (zK id)]:=by
 refine ml [] [.slot 3] func144 (by kernel_rfl) ?_
 (conv in kq _ _=>cbv)
 simp[zJ,zK,zUx];exact mr [0] 0 (by rfl) (by simp)
def zGt:List Dfn->Id->Nat->Int
 |[],_,_=>-1
 |d::l,id,n=>if d.id=id then n else zGt l id (n+1)
theorem zHi:∀(l:wQ) (id:Id) (n:Nat),(jK l id=none/\zGt l id n = -1)\/∃(i:Nat) (h:i<l.length),zGt l id n=(n+i:Nat)/\jK l id=some l[i]
 |[],id,n=>.inl ⟨rfl,rfl⟩
 |d::l,id,n=>by
  simp only[zAD,zGt];by_cases hd:d.id=id
  .exact .inr ⟨0,by simp,by simp[hd],by simp[hd]⟩
  .simp only[hd,if_false];rcases zHi l id (n+1)with h|⟨i,hi,h1,h2⟩
   .exact .inl h
   .exact .inr ⟨i+1,by simpa using hi,by rw[h1];congr 1;omega,by simpa using h2⟩
theorem zIu(l:wQ)(id:Id):mv 143 [.sl l.length (z6 l),.clo 144 [] [.ptr 0 0]] [.box (zK id)] (int (zGt l id 0)) [.box (zK id)]:=by
 refine ml [] [.slot 4] func143 (by kernel_rfl) ?_
 (conv in kq _ _=>cbv)
 simp;intro hl;refine qK (S:=Nat) (fun i=>[(0,.sl l.length (z6 l)),(1,.clo 144 [] [.ptr 0 0]),(6,.sl l.length (z6 l)),(7,int l.length),(8,int i)]) (fun s=>[.box (zK id)]) (fun i=>i<=l.length/\zGt l id 0=zGt (l.drop i) id i) (fun i=>l.length-i) 0 (by simp)
  (mu [0] 0 (by rfl) (by simp[zK])) ?_
 rintro i ⟨hi,ho⟩;by_cases h:i<l.length
 .have hd:l.drop i=l[i]::l.drop (i+1):=jAo h;simp[h,yG h];refine mn (zUo l[i] id) [0] (by simp) ?_;simp;refine qX (fun h'=>?_) (fun h'=>?_)<;>simp at h'
  .simp;exact mz [0] 0 (by rfl) (by simp) (by rw[ho,hd];simp[zGt,h'])
  .simp;exact zO (i+1) ⟨h,by rw[ho,hd];simp[zGt,h']⟩ (by omega) (mu [0] 0 (by rfl) (by simp[z8 h hl]))
 .have hi:i=l.length:=by omega
  subst hi;simp;exact mz [0] 0 (by rfl) (by simp) (by rw[ho];simp[zGt])
def bR(p:Prg)(id:Id):A:=.tup [.agg (zJ ((jK p.defs id).getD .zero)),bl (jK p.defs id).isSome]
theorem oE(p:Prg)(id:Id):mv 96 [.agg (zP p),.agg (zK id)] [] (bR p id) []:=by
 refine ml [] [.cell 4 31 true,.slot 5] func96 (by kernel_rfl) ?_
 (conv in kq _ _=>cbv)
 simp[zP];refine mn (zIu p.defs id) [1] (by simp) ?_;simp;rcases zHi p.defs id 0 with ⟨h1,h2⟩|⟨i,hi,h1,h2⟩
 .simp[h2];exact zA 0 (by simp[bR,h1,zJ,Dfn.zero,Id.zero,Typ.zero,Exp.zero])
 .have hn:¬((i:Int)<0):=by omega
  simp[h1,hn,hi,yG hi];exact zA 0 (by simp[bR,h2])
theorem i4(p:Prg)(hL:p.defs.length<=1000000)(id:Id):mv 36 [.agg (zP p),.agg (zK id)] [] (bR p id) []:=by have h:=zVu p.mods p.defs id hL;rw[zLQ]at h;exact h
def tF:Option Dfn->Bool
 |some d=>decide (d.kind=0\/d.kind=1)
 |none=>false
def yE(p:Prg):Nat->Typ->Bool
 | 0,_=>false
 |n+1,t=>if t.k=2 then (match t.kids with
  |[x]=>decide (t.id=Id.zero)&&yE p n x
  |_=>false)else if t.kids≠[]then false else if t.k=3 then tF (jK p.defs t.id)else decide (t.id=Id.zero)&&decide (t.k=0\/t.k=1)
def validT(p:Prg)(t:Typ):Bool:=yE p 24 t
theorem zBU(p:Prg)(hL:p.defs.length<=1000000):∀(n:Nat) (d:Int) (t:Typ),d=25-(n:Int)->n<=24->mv 169 [.agg (zP p),.agg (zB t),int d] [] (bl (yE p n t)) []
 | 0,d,t,hd,_=>by
  refine ml [] [.slot 6] func169 (by kernel_rfl) ?_
  (conv in kq _ _=>cbv)
  subst hd;simp[zB,zP];exact zA 0 (by simp[yE])
 |n+1,d,t,hd,hn=>by
  refine ml [] [.slot 6] func169 (by kernel_rfl) ?_
  (conv in kq _ _=>cbv)
  have h24:¬(24<d):=by omega
  cases t with
  |mk k id kids =>
  by_cases hk:k=2
  .subst hk;by_cases hid:id=Id.zero
   .subst hid;rcases kids with _|⟨x,_|⟨y,l⟩⟩
    .simp[zB,zP,h24];exact zA 0 (by simp[yE])
    .have hw:=zY (d+1) (by omega);simp[zB,zP,h24];refine z7 (zBU p hL n (d+1) x (by omega) (by omega)) (by simp[zP,zB,hw,qI]) (by simp) ?_;simp;exact zA 0 (by simp[yE,Id.zero])
    .have h1:¬((l.length:Int)+1+1=1):=by omega
     simp[zB,zP,h24,h1];exact zA 0 (by simp[yE])
   .have hv:yE p (n+1) (.mk 2 id kids)=false:=by simp only[yE,Typ.k_mk,Typ.id_mk,Typ.kids_mk,if_true];split<;>simp[hid]
    simp[zB,zP,h24,hid,hv];exact zA 0 (by simp)
  .rcases kids with _|⟨x,l⟩
   .by_cases h3:k=3
    .subst h3;simp[zB,zP,h24];refine mq (i4 p hL id) (by simp[zP,zK,bR]) ?_;cases hf:jK p.defs id with
     |none =>
      simp[bR,hf,zJ,Dfn.zero,Id.zero,Typ.zero,Exp.zero];exact zA 0 (by simp[yE,hf,tF])
     |some f =>
      by_cases h0:f.kind=0
      all_goals
       simp[bR,hf,zJ,h0];exact zA 0 (by simp[yE,hf,tF,h0])
    .by_cases hid:id=Id.zero
     .subst hid;by_cases h0:k=0
      .subst h0;simp[zB,zP,h24];exact zA 0 (by simp[yE,Id.zero])
      .simp[zB,zP,h24,hk,h3,h0];exact zA 0 (by simp[yE,Id.zero,hk,h3,h0])
     .simp[zB,zP,h24,hk,h3,hid];have hv:yE p (n+1) (.mk k id [])=false:=by simp only[yE,Typ.k_mk,Typ.id_mk,Typ.kids_mk,hk,h3,if_false];simp[hid]
      exact zA 0 (by rw[hv];simp)
   .have hl:(0:Int)<(l.length:Int)+1:=by omega
    simp[zB,zP,h24,hk,hl];have hv:yE p (n+1) (.mk k id (x::l))=false:=by simp only[yE,Typ.k_mk,Typ.id_mk,Typ.kids_mk,hk,if_false];rfl
    exact fun _=>zA 0 (by rw[hv];simp)
theorem vZ(p:Prg)(hL:p.defs.length<=1000000)(t:Typ):mv 139 [.agg (zP p),.agg (zB t)] [] (bl (validT p t)) []:=by
 refine ml [] [.slot 4] func139 (by kernel_rfl) ?_
 (conv in kq _ _=>cbv)
 simp[zP,zB];refine mq (zBU p hL 24 1 t (by omega) (by omega)) (by simp[zP,zB]) ?_;simp;exact zA 0 (by simp[validT])
theorem zFW(p:Prg)(t0:Typ):mv 114 [.agg (zP p),.agg (zB t0)] [] (bl (validT p t0)) []:=by
 refine ml [] [.slot 4] func114 (by kernel_rfl) ?_
 (conv in kq _ _=>cbv)
 simp[zP];refine qK (S:=Nat×Typ) (fun s=>[(2,.ptr 0 0),(3,.ptr 1 0),(5,int s.1)]) (fun s=>[.box (zP p),.box (zB s.2)]) (fun s=>1<=s.1/\s.1<=25/\validT p t0=yE p (25-s.1) s.2) (fun s=>25-s.1) (1,t0) (by simp[validT])
  (mu [0,1] 0 (by rfl) (by simp[zP])) ?_
 rintro⟨i,t⟩ ⟨hi0,hi,ho⟩;simp only at hi0 hi ho;by_cases h:i<=24
 .have hi24:(i:Int)<=24:=by omega
  obtain⟨n,hn⟩:∃n,25-i=n+1:=⟨24-i,by omega⟩;have hn':25-(i+1)=n:=by omega
  have hw:=jZ i (by omega);rw[hn]at ho;cases t with
  |mk k id kids =>
  by_cases h2:k=2
  .subst h2;by_cases hid:id=Id.zero
   .subst hid;rcases kids with _|⟨x,_|⟨y,l⟩⟩
    .simp[zB,zP,hi24];exact zA 0 (by rw[ho];simp[yE])
    .simp[zB,zP,hi24];intro _;refine zO (i+1,x) ⟨by simp,by simp only;omega,?_⟩ (by simp only;omega) (mu [0,1] 0 (by rfl) (by simp[zP,zB,qI,hw]));simp only;rw[ho,hn'];simp[yE]
    .have h1:¬((l.length:Int)+1+1=1):=by omega
     simp[zB,zP,hi24,h1];exact fun _=>zA 0 (by rw[ho];simp[yE])
   .have hv:yE p (n+1) (.mk 2 id kids)=false:=by simp only[yE,Typ.k_mk,Typ.id_mk,Typ.kids_mk,if_true];split<;>simp[hid]
    simp[zB,zP,hi24,hid];exact zA 0 (by rw[ho,hv];simp)
  by_cases h3:k=3
  .subst h3;simp[zB,zP,hi24];refine mq (oE p id) (by simp[zP,zK,bR]) ?_;cases hf:jK p.defs id with
   |none =>
    have hv:yE p (n+1) (.mk 3 id kids)=false:=by cases kids<;>simp[yE,hf,tF]
    simp[bR,hf,zJ,Dfn.zero,Id.zero,Typ.zero,Exp.zero];exact zA 0 (by rw[ho,hv];simp)
   |some f =>
    by_cases h0:f.kind=0\/f.kind=1
    .have hv:yE p (n+1) (.mk 3 id kids)=decide (kids.length=0):=by cases kids<;>simp[yE,hf,tF,h0]
     rcases h0 with h0|h0
     all_goals
      simp[bR,hf,zJ,h0];exact fun _=>zA 0 (by rw[ho,hv];simp)
    .have hv:yE p (n+1) (.mk 3 id kids)=false:=by cases kids<;>simp[yE,hf,tF,h0]
     have g0:f.kind≠0:=fun e=>h0 (.inl e)
     have g1:f.kind≠1:=fun e=>h0 (.inr e)
     simp[bR,hf,zJ,g0,g1];exact zA 0 (by rw[ho,hv];simp)
  .by_cases h0:k=0\/k=1
   .by_cases hid:id=Id.zero
    .subst hid;have hv:yE p (n+1) (.mk k Id.zero kids)=decide (kids.length=0):=by cases kids<;>simp[yE,h2,h3,h0]
     rcases h0 with rfl|rfl
     all_goals
      simp[zB,zP,hi24];exact fun _=>zA 0 (by rw[ho,hv];simp)
    .have hv:yE p (n+1) (.mk k id kids)=false:=by simp only[yE,Typ.k_mk,Typ.id_mk,Typ.kids_mk,h2,h3,if_false];simp[hid]
     rcases h0 with rfl|rfl
     all_goals
      simp[zB,zP,hi24,hid];exact zA 0 (by rw[ho,hv];simp)
   .have hv:yE p (n+1) (.mk k id kids)=false:=by simp only[yE,Typ.k_mk,Typ.id_mk,Typ.kids_mk,h2,h3,if_false];simp[h0]
    have g0:k≠0:=fun e=>h0 (.inl e)
    have g1:k≠1:=fun e=>h0 (.inr e)
    simp[zB,zP,hi24,g0,g1,h2,h3];exact zA 0 (by rw[ho,hv];simp)
 .have:i=25:=by omega
  subst this;simp;exact zA 0 (by rw[ho];simp[yE])
@[simp]theorem qHO{f:Nat}{o:KOp}{env:Env}(h1:6<f)(h2:f<1000):c9 f o env=True:=by
 unfold c9;split
 .omega
 .omega
 .rw[if_neg (by omega),if_neg (by omega),if_neg (by omega)]
variable{P:Program}
@[simp]theorem qCy{Qd:Value->St->Prop}{f d l:Nat}{zs:wL}{K':wK}{env:Env} {U:St}:j7 P Qd f K' (.alr (some d) l zs) env U = wpO P dE K' (.alr (some d) l zs) env U:=by simp[j7,KOp.lite,KOp.keeps]
@[simp]theorem qK3{d l:Nat}{zs:wL}{Qp:Value->wK}{K':wK}{env:Env} {U:St}:wpO P Qp K' (.alr (some d) l zs) env U = (match U[l]? with
 |some .rsv=>K' (env.put (some d) (.ptr l 0)) (U.set l (.box (zs.map jN)))
 |_=>False):=rfl
def k_(l:wA):Option wD:=some (l.zipIdx.map fun p=>(p.2,p.1))
def qGa:Nat->Option wD:=fun|17=>k_ [0,0,1,1,1,1,7,0,0,0,304,0,0]|_=>none
noncomputable def zL3:{k:K//K.chg [87,77,147] [] (zV prog f131 qGa [])=k}:=⟨_,by conv=>lhs;cbv⟩
theorem zO8:kv f131 qGa zL3.1:=mw (by kernel_rfl)
abbrev bX:FuncId:=85
def c6(hs:wP)(own:Int)(f:FuncId)(m:Mk)(args:wE)(env:wJ)(t:Typ)(c:Int):Prop :=
 ∃(e:Exp) (m':Mk),mv f args (mkS m) (.agg (zI e)) (mkS m')/\Adv m m' c/\WT hs own env e t/\Seg m.temp m'.temp (tmps e)/\e.num0
def eL(hs:wP)(R:Nat)(c depth:Int)(Q:Nat->Prop)(len:Nat):Prop :=
 ∀(m:Mk) (r:Nat) (t:Typ) (env:wJ),Cx hs R m->Lim m c->TyOk hs r t->Q r->EnvOk hs R m.temp env->0<env.length->env.length<=len ->
  c6 hs m.own bX m [.ptr 0 0,.agg (zB t),.sl env.length (qC env),int depth] env t c
theorem Adv.zero(m:Mk):Adv m m 0:=⟨rfl,rfl,rfl,rfl,rfl,by omega,by omega,by omega,by omega,by omega,by omega,by omega,by omega⟩
theorem oT(e:Exp):∀es:wG,yN (es++[e])=yN es++tmps e
 |[]=>by simp[yN]
 |x::es=>by simp[yN,oT e es]
variable{depth:Int}{Q:Nat->Prop}
theorem zNW{len:Nat}(hk:eL hs R c depth Q len)(hc:0<=c)(env:wJ)(h1:0<env.length)(h2:env.length<=len) :
 ∀(ts:wS) (m:Mk),Cx hs R m->Lim m (ts.length*c)->(∀t∈ts,∃r,TyOk hs r t/\Q r)->EnvOk hs R m.temp env ->
  ∃(es:wG) (ms:Nat->Mk),es.length=ts.length/\ms 0=m/\(∀j≤ts.length,Adv m (ms j) (j*c))/\Seg m.temp (ms ts.length).temp (yN es) /\
   ∀(j:Nat) (hj:j<es.length) (hj':j<ts.length),mv bX [.ptr 0 0,.agg (zB ts[j]),.sl env.length (qC env),int depth] (mkS (ms j)) (.agg (zI es[j])) (mkS (ms (j+1)))/\WT hs m.own env es[j] ts[j]/\es[j].num0:=by
 intro ts;induction ts using nQ with
 |nil =>
  intro m hx hl ht he;refine⟨[],fun _=>m,rfl,rfl,fun j hj=>?_,Seg.nil,fun j hj=>by simp at hj⟩;have:j=0:=by simpa using hj
  subst this;exact(Adv.zero m).mono (by simp)
 |snoc ts t ih =>
  intro m hx hl ht he;have e1:((ts++[t]).length:Int)*c=ts.length*c+c:=by rw[jA5,jAz,jD9,Int.add_mul];simp
  rw[e1]at hl;have hz:0<=(ts.length:Int)*c:=Int.mul_nonneg (by omega) hc;obtain⟨es,ms,q1,q2,q3,q4,q5⟩:=ih m hx (hl.mono (by omega)) (fun t' ht'=>ht t' (by simp[ht'])) he;have a1:=q3 ts.length (jA _);obtain⟨r,hr,hQ⟩:=ht t (by simp);obtain⟨e,m',g1,g2,g3,g4,g5⟩:=hk (ms ts.length) r t env (hx.adv a1) (Lim.adv (c:=ts.length*c) (c':=c) hl a1) hr hQ (he.mono a1.temp1) h1 h2;refine⟨es++[e],fun j=>if j<=ts.length then ms j else m',by simp[q1],by simp[q2],fun j hj=>?_,?_,fun j hj hj'=>?_⟩
  .by_cases hle:j<=ts.length
   .simp only[hle,if_true];exact q3 j hle
   .have:j=ts.length+1:=by simp at hj;omega
    subst this;simp only[show ¬(ts.length+1<=ts.length) by omega,if_false];have:=a1.trans g2;rw[show (((ts.length+1:Nat):Int))*c=ts.length*c+c by rw[jD9,Int.add_mul];simp];exact this
  .rw[oT];simp only[jA5,jAz,show ¬(ts.length+1<=ts.length) by omega,if_false];exact q4.append g4 a1.temp1 g2.temp1
  .simp only[jA5,jAz]at hj hj';by_cases hlt:j<ts.length
   .have hjes:j<es.length:=by omega
    rw[jBl hjes,jBl hlt];simp only[show j<=ts.length by omega,if_true,show j+1<=ts.length by omega];exact q5 j hjes hlt
   .have:j=ts.length:=by omega
    subst this;rw[jC2 (by omega),jC2 (by omega)];simp only[jA,if_true,show ¬(ts.length+1<=ts.length) by omega,if_false,jBv,q1,jCz];rw[a1.own]at g3;exact⟨g1,g3,g5⟩
theorem zSx{len:Nat}(hk:eL hs R c depth Q len)(hc:0<=c)(env:wJ)(h1:0<env.length)(h2:env.length<=len)(t:Typ){r:Nat}(hr:TyOk hs r t)(hQ:Q r)
 (m:Mk)(hx:Cx hs R m)(he:EnvOk hs R m.temp env):∀(k:Nat),Lim m (k*c) ->
  ∃(es:wG) (ms:Nat->Mk),es.length<=k/\ms 0=m/\(∀j≤es.length,Adv m (ms j) (j*c))/\Seg m.temp (ms es.length).temp (yN es)/\(∀j<es.length,0<(ms j).left)/\(es.length=k\/(ms es.length).left<=0) /\
   ∀(j:Nat) (hj:j<es.length),mv bX [.ptr 0 0,.agg (zB t),.sl env.length (qC env),int depth] (mkS (ms j)) (.agg (zI es[j])) (mkS (ms (j+1)))/\WT hs m.own env es[j] t/\es[j].num0:=by
 intro k;induction k with
 |zero =>
  intro hl;refine⟨[],fun _=>m,jA _,rfl,fun j hj=>?_,Seg.nil,fun j hj=>by simp at hj,.inl rfl,fun j hj=>by simp at hj⟩;have:j=0:=by simpa using hj
  subst this;exact(Adv.zero m).mono (by simp)
 |succ k ih =>
  intro hl;have e1:(((k+1:Nat):Int))*c=k*c+c:=by rw[jD9,Int.add_mul];simp
  rw[e1]at hl;obtain⟨es,ms,q0,q2,q3,q4,q6,q7,q5⟩:=ih (hl.mono (by omega));by_cases hdone:es.length=k/\0<(ms es.length).left
  .obtain⟨hek,hleft⟩:=hdone;have a1:=q3 es.length (jA _);rw[hek]at a1;obtain⟨e,m',g1,g2,g3,g4,g5⟩:=hk (ms k) r t env (hx.adv a1) (Lim.adv (c:=k*c) (c':=c) hl a1) hr hQ (he.mono a1.temp1) h1 h2;refine⟨es++[e],fun j=>if j<=k then ms j else m',by simp[hek],by simp[q2],fun j hj=>?_,?_,fun j hj=>?_,.inl (by simp[hek]),fun j hj=>?_⟩
   .simp only[jA5,jAz,hek]at hj;by_cases hle:j<=k
    .simp only[hle,if_true];exact q3 j (by omega)
    .have:j=k+1:=by omega
     subst this;simp only[show ¬(k+1<=k) by omega,if_false];rw[e1];exact a1.trans g2
   .rw[oT];rw[hek]at q4;simp only[jA5,jAz,hek,show ¬(k+1<=k) by omega,if_false];exact q4.append g4 a1.temp1 g2.temp1
   .simp only[jA5,jAz,hek]at hj;simp only[show j<=k by omega,if_true];by_cases e:j=k
    .subst e;rw[hek]at hleft;exact hleft
    .exact q6 j (by omega)
   .simp only[jA5,jAz,hek]at hj;by_cases hlt:j<k
    .have hjes:j<es.length:=by omega
     rw[jBl hjes];simp only[show j<=k by omega,if_true,show j+1<=k by omega];exact q5 j hjes
    .have:j=k:=by omega
     subst this;rw[jC2 (by omega)];simp only[jA,if_true,show ¬(j+1<=j) by omega,if_false,jBv,hek,jCz];rw[a1.own]at g3;exact⟨g1,g3,g5⟩
  .refine⟨es,ms,by omega,q2,q3,q4,q6,.inr ?_,q5⟩;rcases q7 with q7|q7
   .by_cases h:0<(ms es.length).left
    .exact(hdone ⟨q7,h⟩).elim
    .omega
   .exact q7
def aF(p:Prg)(id:Id):Option (Typ×Typ):=match jK p.defs id with
 |none=>none
 |some d=>if d.kind=5 then (match d.slots with|[s]=>some (s.typ,d.res)|_=>none)else none
def zDJ(p:Prg)(l:wF)(i:Nat):Bool:=match aF p (l.getD i .zero)with
 |none=>false
 |some a=>decide (i=0)||(match aF p (l.getD (i-1) .zero)with|some b=>aU a.1 b.2|none=>false)
def r6(p:Prg)(l:wF):Nat->Bool
 | 0=>true
 |n+1=>r6 p l n&&zDJ p l n
def zBR(p:Prg)(l:wF):Bool:=r6 p l l.length
theorem zKE{p:Prg}{l:wF}{n m:Nat}(hnm:n<=m)(h:r6 p l m=true):r6 p l n=true:=by
 induction hnm with
 |refl=>exact h
 |step _ ih=>exact ih (by simp only[r6,jA7]at h;exact h.1)
theorem zHw{p:Prg}{l:wF}(hi:i<l.length)(h:zDJ p l i=false):zBR p l=false:=by
 cases hp:zBR p l with
 |false=>rfl
 |true =>
  have:=zKE (show i+1<=l.length by omega) hp;simp[r6,h]at this
end Go.Proofs.YtdnelmeboihpkaaGreatDoor
