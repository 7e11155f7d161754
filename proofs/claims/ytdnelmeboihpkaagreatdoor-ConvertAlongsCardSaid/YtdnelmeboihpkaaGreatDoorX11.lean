/- Numbers of the reference's evaluator: clip, truth. -/
import Derived.Test.YtdnelmeboihpkaaGreatDoorX10
set_option linter.unusedVariables false
set_option maxHeartbeats 8000000
set_option maxRecDepth 100000
set_option linter.unusedSimpArgs false
open Go.Proofs.Tryz
namespace Go.Proofs.YtdnelmeboihpkaaGreatDoor
open Go.Abs
def bB(n:Int):Int:=if 1099511627776<n then 1099511627776 else if n < -1099511627776 then -1099511627776 else n
theorem zFe(n:Int):my 206 [int n] [] (int (bB n)) []:=by
 refine mq [] [.slot 2] func206 (by kernel_rfl) ?_
 (conv in kq _ _=>cbv)
 by_cases h1:n < -1099511627776
 .simp[h1];exact zA 0 (by simp[bB,h1,show ¬1099511627776<n by omega])
 .by_cases h2:1099511627776<n
  .simp[h1,h2];exact zA 0 (by simp[bB,h2])
  .simp[h1,h2];exact zA 0 (by simp[bB,h1,h2])
def dR(b:Bool):Val:=.mk 1 (if b then 1 else 0) []
theorem gF(b:Bool):my 205 [bl b] [] (.agg (zC (dR b))) []:=by
 refine mq [] [.cell 2 3 true] func205 (by kernel_rfl) ?_
 (conv in kq _ _=>cbv)
 cases b with
 |true =>
  simp;exact zA 0 (by simp[zC,dR,Val.k,Val.n,Val.kids])
 |false =>
  simp;exact zA 0 (by simp[zC,dR,Val.k,Val.n,Val.kids])
structure EVar where
 id:Id
 n:Int
 v:Val
abbrev wO:=List EVar
def iE(b:EVar):wE:=[.lit (.int .i64 b.id.a),.lit (.int .i64 b.id.b),.lit (.int .i64 b.id.c),.lit (.int .i64 b.n),.lit (.int .i64 b.v.k),.lit (.int .i64 b.v.n),.sl b.v.kids.length (zR b.v.kids)]
theorem uT(b:EVar):qV (iE b):=by have h:=eD b.v.kids;exact⟨by simp[iE,h.1],fun rf g=>by simp[iE,h.2]⟩
def yZ(l:wO):wE:=l.flatMap iE
theorem x9(l:wO):qV (yZ l):=c7 uT l
@[simp]theorem zUK(l:wO):jO (yZ l)=yZ l:=(x9 l).1
@[simp]theorem qAj{rf g}(l:wO):vwL rf g (yZ l)=yZ l:=(x9 l).2 _ _
@[simp]theorem zW9:yZ []=[]:=rfl
theorem zH3(x:EVar)(l:wO):yZ (x::l)=iE x++yZ l:=rfl
theorem zEd(l l':wO):yZ (l++l')=yZ l++yZ l':=by simp only[yZ,jBz]
@[simp]theorem zW8(l:wO):(yZ l).length=l.length*7:=by rw[yZ,fN (k:=7) (fun _=>rfl)]
variable{i:Nat}
theorem sG{l:wO}(h:i<l.length):(yZ l).drop (i*7)=iE l[i]++yZ (l.drop (i+1)):=by rw[yZ,yZ,eX (k:=7) (fun _=>rfl) h]
@[simp]theorem qAT(d:EVar):(iE d).length=7:=rfl
@[simp]theorem qAS(d:EVar):(iE d).take 7=iE d:=jAe (jA _)
@[simp]theorem zYE(d:EVar)(l:wE):(iE d++l).take 7=iE d:=by rw[jC6 (by simp)];exact jAe (by simp)
@[simp]theorem zZv(d:EVar):jO (iE d)=iE d:=(uT d).1
@[simp]theorem qHD(d:EVar) {rf g}:vwL rf g (iE d)=iE d:=(uT d).2 _ _
theorem vQ(env:wO)(b:EVar)(hE:env.length<=1000000):my 170 [.sl env.length (yZ env),.agg (zL b.id),int b.n,.agg (zC b.v)] [] (.sl (env.length+1) (yZ (env++[b]))) []:=by
 refine mq [] [.slot 8] func170 (by kernel_rfl) ?_
 (conv in kq _ _=>cbv)
 simp[zL,zC];exact⟨⟨by simp[maxLen];omega,by omega⟩,⟨by simp[maxLen];omega,by omega⟩,zA 1 (by simp[zEd,zH3,iE])⟩
def lF(env:wO)(id:Id)(n:Int):Val:=((env.reverse.find? fun b=>decide (b.id=id/\b.n=n)).map EVar.v).getD (.mk 0 0 [])
theorem zAz(env:wO)(b:EVar)(id:Id)(n:Int):lF (env++[b]) id n=if b.id=id/\b.n=n then b.v else lF env id n:=by unfold lF;rw[List.reverse_append,List.reverse_singleton,jCu,jD7];by_cases h:b.id=id/\b.n=n<;>simp[h]
theorem zSF(env:wO)(id:Id)(n:Int)(hE:env.length<=1000000):my 198 [.sl env.length (yZ env),.agg (zL id),int n] [] (.agg (zC (lF env id n))) []:=by
 refine mq [] [.cell 6 3 true] func198 (by kernel_rfl) ?_
 (conv in kq _ _=>cbv)
 have hw0:=z8 ((env.length:Int)-1) (by omega);simp[zL,hw0];intro hl;refine qO (S:=Nat) (fun k=>[(0,.sl env.length (yZ env)),(2,int n),(4,.ptr 0 0),(6,.ptr 1 0),(7,int ((k:Int)-1))]) (fun _=>[.box (zL id),.box [int 0,int 0,.sl 0 []]])
  (fun k=>k<=env.length/\lF env id n=lF (env.take k) id n) (fun k=>k) env.length ⟨jA _,by rw[jAu]⟩
  (mw [0,1] 0 (by rfl) (by simp[zL])) ?_
 rintro k ⟨hk,ho⟩;cases k with
 |zero =>
  simp;exact zA 0 (by rw[ho];simp[lF,zC,Val.k,Val.n,Val.kids])
 |succ m =>
  have hm:m<env.length:=by omega
  have e1:((m+1:Nat):Int)-1=m:=by omega
  have hw1:=z8 ((m:Int)-1) (by omega);rw[jA8 hm,zAz]at ho;by_cases h1:env[m].id=id
  .by_cases h2:env[m].n=n
   .rw[if_pos ⟨h1,h2⟩]at ho;simp[e1,hm,sG hm,iE,zL,h1,h2];exact zA 0 (by rw[ho];simp[zC])
   .rw[if_neg (fun h=>h2 h.2)]at ho;simp[e1,hm,sG hm,iE,zL,h1,h2];exact zS m ⟨by omega,ho⟩ (by omega) (mw [0,1] 0 (by rfl) (by simp[zL,hw1]))
  .rw[if_neg (fun h=>h1 h.1)]at ho;simp[e1,hm,sG hm,iE,zL,h1];exact zS m ⟨by omega,ho⟩ (by omega) (mw [0,1] 0 (by rfl) (by simp[zL,hw1]))
theorem zIt(v:Val):my 151 [.agg (zC v)] [] (int (mU v)) []:=by
 refine mq [] [.slot 2] func151 (by kernel_rfl) ?_
 (conv in kq _ _=>cbv)
 simp[zC];intro hl;refine qO (S:=Nat) (fun i=>[(3,int (zF1 (v.kids.take i))),(7,.sl v.kids.length (zR v.kids)),(8,int v.kids.length),(9,int i)]) (fun s=>[]) (fun i=>i<=v.kids.length) (fun i=>v.kids.length-i) 0 (by simp)
  (mw [] 0 (by rfl) (by simp[zF1])) ?_
 intro i hi;simp;by_cases h:i<v.kids.length
 .simp[h,qT h];refine mu (zIt v.kids[i]) (by simp[zC]) ?_;simp;exact zS (i+1) h (by omega) (mw [] 0 (by rfl) (by simp[qF h hl,zCI h]))
 .have:i=v.kids.length:=by omega
  subst this;simp;exact zA 0 (by simp[zFv v])
termination_by zZ v
decreasing_by exact y4 (jA0 _)
mutual
def j6:Val->Nat
 | .mk _ _ l=>yI l+1
def yI:List Val->Nat
 |[]=>0
 |v::l=>max (j6 v) (yI l)
end
theorem gA(v:Val):j6 v=yI v.kids+1:=by cases v;simp only[j6,Val.kids]
theorem aR(v:Val):zZ v=1+qK v.kids:=by cases v;simp only[zZ,Val.kids]
theorem zCV:∀{l:wI} {v:Val},v∈l->j6 v<=yI l
 |x::l,v,h=>by
  simp only[yI];rcases jA3.1 h with rfl|h
  .omega
  .have:=zCV h;omega
theorem dC:∀(a b:wI),qK (a++b)=qK a+qK b
 |[],b=>by simp[qK]
 |x::a,b=>by simp[qK,dC a b];omega
theorem o9{l:wI}(h:i<l.length):qK (l.take (i+1))=qK (l.take i)+zZ l[i]:=by rw[jA8 h,dC];simp[qK]
theorem i5(l:wI)(i:Nat):qK l=qK (l.take i)+qK (l.drop i):=by
 conv=>lhs;rw[<-jCb i l]
 exact dC _ _
def yS:A:=.clo 111 [] [.ptr 0 0,.ptr 1 0]
def sSt(L:Nat):St:=[.box [int L],.box [yS]]
def rO(L:Nat)(d:Int):St:=[.box [int L],.box [yS],.box [int d]]
def zD8(v:Val)(d:Int):Prop:=∀L:Nat,zZ v<=L->L<=256->my 111 [.agg (zC v),int d,.ptr 0 0,.ptr 1 0] (sSt L) (bl true) (sSt (L-zZ v))
theorem zPD(v:Val)(d:Int)(hd:0<=d/\d<=100)(h:zD8 v (d+1))(L:Nat)(hL:zZ v<=L)(hL2:L<=256) :
 my 113 [.agg (zC v),.ptr 1 0,.ptr 2 0] (rO L d) (bl false) (rO (L-zZ v) d):=by
 refine mq [] [.slot 4] func113 (by kernel_rfl) ?_
 (conv in kq _ _=>cbv)
 have hw:=z8 (d+1) (by omega);simp[rO,yS,hw,zC];refine mr (h L hL hL2) [0,1] (by simp[sSt,yS,zC]) ?_;simp[sSt,yS];exact mv [0,1,2] 0 (by rfl) (by simp[yS])
theorem zUu(l:wI)(d:Int)(hd:0<=d/\d<=100)(h:∀x∈l,zD8 x (d+1))(L:Nat)(hL:qK l<=L)(hL2:L<=256) :
 my 153 [.sl l.length (zR l),.clo 113 [] [.ptr 1 0,.ptr 2 0]] (rO L d) (int (-1)) (rO (L-qK l) d):=by
 refine mq [] [.slot 4] func153 (by kernel_rfl) ?_
 (conv in kq _ _=>cbv)
 simp[rO,yS];intro hl;refine qO (S:=Nat) (fun i=>[(0,.sl l.length (zR l)),(1,.clo 113 [] [.ptr 1 0,.ptr 2 0]),(6,.sl l.length (zR l)),(7,int l.length),(8,int i)]) (fun i=>rO (L-qK (l.take i)) d) (fun i=>i<=l.length) (fun i=>l.length-i) 0 (by simp)
  (mw [0,1,2] 0 (by rfl) (by simp[rO,yS,qK])) ?_
 intro i hi;by_cases hil:i<l.length
 .have e1:=o9 hil;have e2:=i5 l (i+1);simp[hil,qT hil,rO,yS];refine mr (zPD l[i] d hd (h _ (jA0 hil)) (L-qK (l.take i)) (by omega) (by omega)) [0,1,2] (by simp[rO,yS,zC]) ?_;simp[rO,yS];exact zS (i+1) hil (by omega) (mw [0,1,2] 0 (by rfl) (by simp[rO,yS,e1,Nat.sub_sub,qF hil hl]))
 .have:i=l.length:=by omega
  subst this;simp[rO,yS];exact mv [0,1,2] 0 (by rfl) (by simp[yS])
theorem zTP(l:wI)(d:Int)(hd:0<=d/\d<=100)(h:∀x∈l,zD8 x (d+1))(L:Nat)(hL:qK l<=L)(hL2:L<=256) :
 my 112 [.sl l.length (zR l),.clo 113 [] [.ptr 1 0,.ptr 2 0]] (rO L d) (bl false) (rO (L-qK l) d):=by
 refine mq [] [.slot 4] func112 (by kernel_rfl) ?_
 (conv in kq _ _=>cbv)
 simp[rO,yS];refine mr (zUu l d hd h L hL hL2) [0,1,2] (by simp[rO,yS]) ?_;simp[rO,yS];exact mv [0,1,2] 0 (by rfl) (by simp[yS])
theorem zFy(v:Val)(d:Int)(hd:1<=d/\d+j6 v<=25):zD8 v d:=by
 intro L hL hL2;refine mq [] [.slot 6] func111 (by kernel_rfl) ?_
 (conv in kq _ _=>cbv)
 have e1:=aR v;have e2:=gA v;have hw:IntKind.i64.wrap ((L:Int)-1)=((L-1:Nat):Int):=by rw[IntWalk.i64_in _ (by omega)];omega
 have hd24:d<=24:=by omega
 simp[sSt,yS,hw,hd24,zC];refine mr (zTP v.kids d (by omega) (fun x hx=>zFy x (d+1) (by have:=zCV hx;omega)) (L-1) (by omega) (by omega)) [0,1,3] (by simp[rO,yS]) ?_;simp[rO,yS];exact mv [0,1] 0 (by rfl) (by simp[yS,e1,Nat.sub_sub])
termination_by zZ v
decreasing_by exact y4 hx
theorem zSW(v:Val)(h1:zZ v<=256)(h2:j6 v<=24):my 73 [.agg (zC v)] [] (bl true) []:=by
 refine mq [] [.slot 2] func73 (by kernel_rfl) ?_
 (conv in kq _ _=>cbv)
 simp[zC];refine mr (zFy v 1 (by omega) 256 h1 (by omega)) [1,2] (by simp[sSt,yS,zC]) ?_;simp[sSt,yS];exact zA 0 (by simp)
def zJW(l:wF):List (wB×A):=l.foldl (fun es d=>putI (zA2 d) (.lit (.bool true)) es) []
theorem zPq(l:wF)(x:Id):zJW (l++[x])=putI (zA2 x) (.lit (.bool true)) (zJW l):=by simp[zJW,jCh]
theorem zSp(l:wF)(k:Nat):∀p∈zJW l,p.2.bnd k=true:=by
 induction l using m9 with
 |nil=>simp[zJW]
 |snoc l y ih =>
  rw[zPq];have:∀es:List (wB×A),(∀p∈es,p.2.bnd k=true)->∀p∈putI (zA2 y) (.lit (.bool true)) es,p.2.bnd k=true:=by
   intro es;induction es with
   |nil=>intro _ p hp;simp[putI]at hp;subst hp;rfl
   |cons q es ih =>
    intro h p hp;simp only[putI]at hp;split at hp
    .rcases jA3.1 hp with rfl|hp
     .rfl
     .exact h p (jAm _ hp)
    .rcases jA3.1 hp with rfl|hp
     .exact h _ (jAr ..)
     .exact ih (fun p hp=>h p (jAm _ hp)) p hp
  exact this _ ih
variable{rf:Bool->Nat->Nat->A}{g:Nat->wC}
@[simp]theorem qJr(l:wF):((zJW l).map fun p=>(p.1,vw rf g p.2))=zJW l:=by
 have h:=zSp l 0;generalize zJW l=es at h;induction es with
 |nil=>rfl
 |cons p es ih =>
  rw[jAi,ih fun q hq=>h q (jAm _ hq),zF9 (k:=0) (fun l hl=>by omega) p.2 (h p (jAr ..))]
def zRQ:Nat->Option wD:=fun|2=>some [(3,1),(4,0),(0,0),(1,0),(2,0),(5,0),(6,0)]|_=>none
abbrev kx(f:Func)(h:Nat->Option wD)(k:K):Prop:=qJ Tryz.prog f.ntmps h (f.body.getD .skip)=some k.erase
theorem mz{f:Func}{h:Nat->Option wD}{k:K}(e:qJ Tryz.prog f.ntmps h (f.body.getD .skip)=some k.erase):kx f h k:=e
def atV(l:wB)(i most:Int):Int:=if i<0\/(l.length:Int)<=i then 0 else yM (l.getD i.toNat 0) most
theorem dK(l:wB)(i most:Int)(hm:0<most):my 38 [.sl l.length (yC l),int i,int most] [] (int (atV l i most)) []:=by
 refine mq [] [.slot 6] func38 (by kernel_rfl) ?_
 (conv in kq _ _=>cbv)
 by_cases h:i<0
 .simp[h];exact zA 0 (by simp[atV,h])
 by_cases h2:(l.length:Int)<=i
 .simp[h,h2];exact fun _=>zA 0 (by simp[atV,h2])
 .obtain⟨j,rfl⟩:∃j:Nat,i=j:=⟨i.toNat,by omega⟩;have hj:j<l.length:=by omega
  have hd:=iG hj;simp[h,h2,hj,hd];intro _;refine mu (eU l[j] most hm) (by simp) ?_;simp;exact zA 0 (by simp[atV,hj,h,show ¬l.length<=j by omega])
variable{l:wB}
theorem jT{i most:Int}(hl:∀x∈l,w64 x=x)(hm:0<most):0<=atV l i most/\atV l i most<most:=by
 unfold atV;split
 .omega
 .rename_i h;have hj:i.toNat<l.length:=by omega
  rw[jB7,jA1 hj];exact cC (hl _ (jA0 hj)) hm
def idR(k:Int):Id:=⟨0,IntKind.i64.wrap (1+IntKind.i64.wrap (k.tdiv 32)),k.tmod 32⟩
theorem tU(k:Int):my 83 [int k] [] (.agg (zL (idR k))) []:=by
 refine mq [] [.cell 2 3 true] func83 (by kernel_rfl) ?_
 (conv in kq _ _=>cbv)
 simp;exact zA 0 (by simp[zL,idR])
theorem zDl(d:Id):my 62 [.agg (zL d)] [] (.agg (zB (.mk 3 d []))) []:=by
 refine mq [] [.cell 2 5 true] func62 (by kernel_rfl) ?_
 (conv in kq _ _=>cbv)
 simp[zL];exact zA 0 (by simp[zB])
theorem zU7(t:Typ):my 126 [.agg (zB t)] [] (.agg (zB (.mk 2 ⟨0,0,0⟩ [t]))) []:=by
 refine mq [] [.cell 2 5 true] func126 (by kernel_rfl) ?_
 (conv in kq _ _=>cbv)
 simp[zB];exact zA 0 (by simp[zB,qN])
mutual
theorem iI:∀(a b:Typ),my 39 [.agg (zB a),.agg (zB b)] [] (bl (y7 a b)) []
 | .mk k i l,b=>by
  have ih:=zFr l;generalize ha:Typ.mk k i l=a;have hal:a.kids=l:=by rw[<-ha];rfl
  rw[<-hal]at ih;refine mq [] [.slot 4] func39 (by kernel_rfl) ?_
  (conv in kq _ _=>cbv)
  have hd:=zHa a b;by_cases h1:a.k=b.k
  .by_cases h2:a.id=b.id
   .by_cases h3:a.kids.length=b.kids.length
    .simp[zB,h1,h2,h3];intro hl;refine qO (S:=Nat) (fun j=>[(2,.ptr 0 0),(3,.ptr 1 0),(5,int j)]) (fun _=>[.box (zB a),.box (zB b)]) (fun j=>j<=a.kids.length/\∀(m:Nat) (hm:m<j) (hma:m<a.kids.length) (hmb:m<b.kids.length),y7 a.kids[m] b.kids[m]=true) (fun j=>a.kids.length-j) 0 (by simp)
      (mw [0,1] 0 (by rfl) (by simp[zB,h1,h2,h3])) ?_
     rintro j ⟨hj,hs⟩;by_cases h:j<a.kids.length
     .have hb:j<b.kids.length:=by omega
      simp[zB,h,mC h,mC hb,hb];intro hl';refine qA (ih a.kids[j] (jA0 h) b.kids[j]) (by simp[zB]) (by simp) ?_;cases hab:y7 a.kids[j] b.kids[j]
      .have:tX y7 a.kids b.kids=false:=by rw[<-jCm,uD h3];intro hh;have:=hh j h;rw[hab]at this;cases this
       simp;exact zA 0 (by simp[hd,this])
      .simp;exact zS (j+1) ⟨h,fun m hm hma hmb=>by
        by_cases e:m=j
        .subst e;exact hab
        .exact hs m (by omega) hma hmb⟩ (by omega) (mw [0,1] 0 (by rfl) (by simp[zB,qF h (show a.kids.length<=maxLen by omega)]))
     .have hj':j=a.kids.length:=by omega
      have:tX y7 a.kids b.kids=true:=(uD h3).2 fun m hm=>hs m (by omega) hm (by omega)
      simp[zB,h]
      first|exact fun _=>zA 0 (by simp[hd,h1,h2,this])|exact zA 0 (by simp[hd,h1,h2,this])
    .have h4:=zDO (same:=y7) h3;have h5:¬((a.kids.length:Int)=b.kids.length):=by omega
     simp[zB,h1,h2,h3,h5]
     first|exact fun _ _=>zA 0 (by simp[hd,h4])|exact fun _=>zA 0 (by simp[hd,h4])|exact zA 0 (by simp[hd,h4])
   .have h3:o8 a.id.a a.id.b a.id.c b.id.a b.id.b b.id.c=false:=by rw[eQ];exact decide_eq_false h2
    simp[zB,h1,h3];exact zA 0 (by simp[hd,h2])
  .simp[zB,h1];exact zA 0 (by simp[hd,h1])
theorem zFr:∀(l:wS),∀x∈l,∀y:Typ,my 39 [.agg (zB x),.agg (zB y)] [] (bl (y7 x y)) []
 |[],x,hx,_=>by simp at hx
 |z::l,x,hx,y=>by
  rcases jA3.1 hx with e|hx
  .rw[e];exact iI z y
  .exact zFr l x hx y
end
structure Mk where
 mods:List Md
 defs:List Dfn
 l:List Int
 at_:Int
 temp:Int
 left:Int
 own:Int
 home:Id
 name:Int
def mkB(m:Mk):wE:=[.sl m.mods.length (qG m.mods),.row 1 m.defs.length,.sl m.l.length (yC m.l),int m.at_,int m.temp,int m.left,int m.own,int m.home.a,int m.home.b,int m.home.c,int m.name]
def mkS(m:Mk):St:=[.box (mkB m),.row false 41 31 m.defs.length (z6 m.defs)]
theorem zS1(m:Mk)(n:Int)(hn:0<n)(h0:0<=m.at_)(h1:m.at_<=1000000000000000) :
 my 128 [.ptr 0 0,int n] (mkS m) (int (atV m.l m.at_ n)) (mkS {m with at_:=m.at_+1}):=by
 refine mq [] [.slot 4] func128 (by kernel_rfl) ?_
 (conv in kq _ _=>cbv)
 have w1:=z8 (m.at_+1) (by omega);have w2:=z8 m.at_ (by omega);simp[mkS,mkB,w1,w2];refine qA (dK m.l m.at_ n hn) (by simp) (by simp) ?_;simp;exact mv [0,1] 0 (by rfl) (by simp)
theorem aT(m:Mk)(kind n:Int)(kids:wG)(h0:0<=m.temp)(h1:m.temp<=1000000000000000)(h2 : -1000000000000000<=m.left)(h3:m.left<=1000000000000000) :
 my 132 [.ptr 0 0,int kind,int n,.sl kids.length (qQ kids)] (mkS m) (.agg (zJ (.mk ⟨0,0,m.temp⟩ kind n Id.zero Typ.zero kids []))) (mkS {m with temp:=m.temp+1,left:=m.left-1}):=by
 refine mq [] [.cell 8 15 true] func132 (by kernel_rfl) ?_
 (conv in kq _ _=>cbv)
 have w1:=z8 (m.temp+1) (by omega);have w2:=z8 m.temp (by omega);have w3:=z8 (m.left-1) (by omega);simp[mkS,mkB,w1,w2,w3];exact mv [0,1] 0 (by rfl) (by simp[zJ,Typ.zero,Id.zero,Typ.kids,Typ.k,Typ.id])
def scA:List EVar->A
 |[]=>.lit (.pointer none)
 |b::l=>.rptr (iE b++[scA l])
@[simp]theorem qJ9:scA []=.lit (.pointer none):=rfl
theorem vS(b:EVar)(l:wO):scA (b::l)=.rptr [.lit (.int .i64 b.id.a),.lit (.int .i64 b.id.b),.lit (.int .i64 b.id.c),.lit (.int .i64 b.n),.lit (.int .i64 b.v.k),.lit (.int .i64 b.v.n),.sl b.v.kids.length (zR b.v.kids),scA l]:=rfl
@[simp]theorem zS0:∀l:wO,nrm0 (scA l)=scA l
 |[]=>rfl
 |b::l=>by simp[vS,zS0 l]
@[simp]theorem qAk{rf:Bool->Nat->Nat->A}{g:Nat->wC}:∀l:wO,vw rf g (scA l)=scA l
 |[]=>rfl
 |b::l=>by simp[vS,qAk l]
@[simp]theorem zW4(l:wO):cellsOf (scA l)=some [scA l]:=by cases l<;>rfl
abbrev scE(V:wO):A:=scA V.reverse
@[simp]theorem qJA:scE []=.lit (.pointer none):=rfl
@[simp]theorem qHk(V:wO)(b:EVar):scE (V++[b])=scA (b::V.reverse):=by simp[scE]
@[simp]theorem qBG(V:wO)(a b:EVar):scE (V++[a,b])=scA (b::a::V.reverse):=by simp[scE]
def zCZ(l:wO)(id:Id)(n:Int):Val:=((l.find? fun b=>decide (b.id=id/\b.n=n)).map EVar.v).getD (.mk 0 0 [])
theorem zLA(b:EVar)(l:wO)(id:Id)(n:Int):zCZ (b::l) id n=if b.id=id/\b.n=n then b.v else zCZ l id n:=by unfold zCZ;rw[jD7];by_cases h:b.id=id/\b.n=n<;>simp[h]
def zSK(a b c n a' b' c' n':Int):Bool:=decide (Id.mk a b c=Id.mk a' b' c'/\n=n')
@[simp]theorem qHj{x y:Id}{n m:Int}:zSK x.a x.b x.c n y.a y.b y.c m=decide (x=y/\n=m):=rfl
@[simp]theorem qFy{a b c n a' b' c' n':Int}:zHD [.i,.i,.i,.i] false (.agg [.lit (.int .i64 a),.lit (.int .i64 b),.lit (.int .i64 c),.lit (.int .i64 n)]) (.agg [.lit (.int .i64 a'),.lit (.int .i64 b'),.lit (.int .i64 c'),.lit (.int .i64 n')]) =
 some (.lit (.bool (zSK a b c n a' b' c' n'))):=by simp[zHD,aX,gW,eM,and_assoc,zSK]
theorem zRm(l:wO)(id:Id)(n:Int):my 175 [scA l,.agg [int id.a,int id.b,int id.c,int n]] [] (.agg (zC (zCZ l id n))) []:=by
 refine mq [] [.cell 4 3 true] func175 (by kernel_rfl) ?_
 (conv in kq _ _=>cbv)
 simp;refine qO (S:=wO) (fun s=>[(0,scA s),(3,.ptr 0 0),(4,.ptr 1 0)]) (fun _=>[.box [int id.a,int id.b,int id.c,int n],.box [int 0,int 0,.nil]])
  (fun s=>zCZ l id n=zCZ s id n) (fun s=>s.length) l rfl (mw [0,1] 0 (by rfl) (by simp)) ?_
 intro s hs;cases s with
 |nil =>
  simp;exact zA 0 (by rw[hs];simp[zCZ,zC,Val.k,Val.n,Val.kids])
 |cons b s =>
  rw[zLA]at hs;by_cases h:b.id=id/\b.n=n
  .rw[if_pos h]at hs;obtain⟨rfl,rfl⟩:=h;simp[vS];exact zA 0 (by rw[hs];simp[zC])
  .rw[if_neg h]at hs;have hd:decide (b.id=id/\b.n=n)=false:=by simpa using h
   simp[vS,hd,-Bool.decide_and];exact zS s hs (by simp) (mw [0,1] 0 (by rfl) (by simp))
theorem iR(l:wO)(b:EVar):my 109 [scA l,.agg (zL b.id),int b.n,.agg (zC b.v)] [] (scA (b::l)) []:=by
 refine mq [] [.slot 8] func109 (by kernel_rfl) ?_
 (conv in kq _ _=>cbv)
 simp[zL,zC];exact zA 1 (by simp[vS])
theorem zCh(v:Val):my 152 [.agg (zC v)] [] (int (gM v)) []:=by
 refine mq [] [.slot 2] func152 (by kernel_rfl) ?_
 (conv in kq _ _=>cbv)
 simp[zC];intro hl;refine qO (S:=Nat) (fun i=>[(3,int (zEF (v.kids.take i))),(7,.sl v.kids.length (zR v.kids)),(8,int v.kids.length),(9,int i)]) (fun s=>[]) (fun i=>i<=v.kids.length) (fun i=>v.kids.length-i) 0 (by simp)
  (mw [] 0 (by rfl) (by simp[zEF])) ?_
 intro i hi;simp;by_cases h:i<v.kids.length
 .simp[h,qT h];refine mu (zCh v.kids[i]) (by simp[zC]) ?_;simp;exact zS (i+1) h (by omega) (mw [] 0 (by rfl) (by simp[qF h hl,zCw h,zMg]))
 .have:i=v.kids.length:=by omega
  subst this;simp;exact zA 0 (by simp[zCf v,w64])
termination_by zZ v
decreasing_by exact y4 (jA0 _)
def zE:wE:=[.lit (.int .i64 0),.lit (.int .i64 0),.lit (.int .i64 0),.lit (.int .i64 0),.lit (.int .i64 0),.lit (.int .i64 0),.lit (.int .i64 0),.lit (.int .i64 0),.lit (.int .i64 0),.lit (.int .i64 0),.lit (.int .i64 0),.lit (.int .i64 0),.nil,.nil,.nil]
def zD:wE:=[.lit (.int .i64 0),.lit (.int .i64 0),.lit (.int .i64 0),.lit (.int .i64 0),.lit (.int .i64 0),.lit (.int .i64 0),.lit (.int .i64 0),.lit (.string ⟨#[]⟩),.nil,.lit (.int .i64 0),.lit (.int .i64 0),.lit (.int .i64 0),.lit (.int .i64 0),.nil,.lit (.int .i64 0),.lit (.int .i64 0),.lit (.int .i64 0),.lit (.int .i64 0),.lit (.int .i64 0),.lit (.int .i64 0),.lit (.int .i64 0),.lit (.int .i64 0),.lit (.int .i64 0),.lit (.int .i64 0),.lit (.int .i64 0),.lit (.int .i64 0),.nil,.nil,.nil,.lit (.int .i64 0),.nil]
@[simp]theorem qBb{z:Value}{a:A}:sU z true (some a)=.tup [a,.lit (.bool true)]:=rfl
@[simp]theorem zYX:sU (.agg #[(.int .i64 0),(.int .i64 0),(.int .i64 0),(.int .i64 0),(.int .i64 0),(.int .i64 0),(.int .i64 0),(.int .i64 0),(.int .i64 0),(.int .i64 0),(.int .i64 0),(.int .i64 0),(.slice none 0 0),(.slice none 0 0),(.slice none 0 0)]) true none=.tup [.agg zE,.lit (.bool false)]:=by kernel_rfl
@[simp]theorem zYW:sU (.agg #[(.int .i64 0),(.int .i64 0),(.int .i64 0),(.int .i64 0),(.int .i64 0),(.int .i64 0),(.int .i64 0),(.string ⟨#[]⟩),(.slice none 0 0),(.int .i64 0),(.int .i64 0),(.int .i64 0),(.int .i64 0),(.slice none 0 0),(.int .i64 0),(.int .i64 0),(.int .i64 0),(.int .i64 0),(.int .i64 0),(.int .i64 0),(.int .i64 0),(.int .i64 0),(.int .i64 0),(.int .i64 0),(.int .i64 0),(.int .i64 0),(.slice none 0 0),(.slice none 0 0),(.slice none 0 0),(.int .i64 0),(.slice none 0 0)]) true none=.tup [.agg zD,.lit (.bool false)]:=by kernel_rfl
@[simp]theorem qNw:zE.length=15:=rfl
@[simp]theorem qNv:zD.length=31:=rfl
def zHZ{α:Type}(idf : α->Id)(enc : α->wE)(l:List α):List (wB×A):=l.map fun x=>(zA2 (idf x),.agg (enc x))
@[simp]theorem zNF{α:Type}{idf : α->Id}{enc : α->wE}(hp:∀x,qV (enc x))(l:List α):((zHZ idf enc l).map fun p=>(p.1,vw rf g p.2))=zHZ idf enc l:=by
 simp only[zHZ,jCc];refine jC2 fun x _=>?_
 simp[(hp x).2]
@[simp]theorem qJq(l:wG):((zHZ Exp.id zJ l).map fun p=>(p.1,vw rf g p.2))=zHZ Exp.id zJ l:=zNF zAs l
@[simp]theorem qJp(l:wQ):((zHZ Dfn.id zK l).map fun p=>(p.1,vw rf g p.2))=zHZ Dfn.id zK l:=zNF bP l
structure Bnd where
 id:Id
 n:Int
 typ:Typ
abbrev wJ:=List Bnd
def cO(b:Bnd):wE:=[.lit (.int .i64 b.id.a),.lit (.int .i64 b.id.b),.lit (.int .i64 b.id.c),.lit (.int .i64 b.n),.lit (.int .i64 b.typ.k),.lit (.int .i64 b.typ.id.a),.lit (.int .i64 b.typ.id.b),.lit (.int .i64 b.typ.id.c),.sl b.typ.kids.length (jL b.typ.kids)]
theorem zAr(b:Bnd):qV (cO b):=by have h1:=y9 b.typ.kids;exact⟨by simp[cO,h1.1],fun rf g=>by simp[cO,h1.2]⟩
def qC(l:wJ):wE:=l.flatMap cO
theorem zAX(l:wJ):qV (qC l):=c7 zAr l
@[simp]theorem zXb(l:wJ):jO (qC l)=qC l:=(zAX l).1
@[simp]theorem qBV{rf g}(l:wJ):vwL rf g (qC l)=qC l:=(zAX l).2 _ _
@[simp]theorem zYm:qC []=[]:=rfl
theorem zCT(x:Bnd)(l:wJ):qC (x::l)=cO x++qC l:=rfl
theorem x6(l l':wJ):qC (l++l')=qC l++qC l':=by simp only[qC,jBz]
@[simp]theorem zYl(l:wJ):(qC l).length=l.length*9:=by rw[qC,fN (k:=9) (fun _=>rfl)]
theorem iA{l:wJ}(h:i<l.length):(qC l).drop (i*9)=cO l[i]++qC (l.drop (i+1)):=by rw[qC,qC,eX (k:=9) (fun _=>rfl) h]
theorem zBY{l:wJ}(h:i<l.length):qC (l.take (i+1))=qC (l.take i)++cO l[i]:=by rw[qC,qC,iT (k:=9) (fun _=>rfl) h]
@[simp]theorem qFh(d:Bnd):(cO d).length=9:=rfl
@[simp]theorem qFg(d:Bnd):(cO d).take 9=cO d:=jAe (jA _)
@[simp]theorem qAJ(d:Bnd)(l:wE):(cO d++l).take 9=cO d:=by rw[jC6 (by simp)];exact jAe (by simp)
@[simp]theorem qBr(d:Bnd):jO (cO d)=cO d:=(zAr d).1
@[simp]theorem qJM(d:Bnd) {rf g}:vwL rf g (cO d)=cO d:=(zAr d).2 _ _
theorem tmN{x k:Int}(h:0<=x):x.tmod k=x % k:=jD1 h
theorem tdN{x k:Int}(h:0<=x):x.tdiv k=x / k:=Int.tdiv_eq_ediv_of_nonneg h
theorem zDG(m:Mk)(h0:0<=m.name)(h1:m.name<=1000000000000000) :
 ∃s:ByteArray,my 133 [.ptr 0 0] (mkS m) (.lit (.string s)) (mkS {m with name:=m.name+1}):=by
 have w1:=z8 (m.name+1) (by omega);have e1:(m.name+1).tmod 3=(m.name+1) % 3:=tmN (by omega);have e2:(m.name+1).tdiv 3=(m.name+1) / 3:=tdN (by omega);have e3:((m.name+1).tdiv 3).tmod 8=((m.name+1) / 3) % 8:=by rw[e2];exact tmN (by omega)
 have w2:IntKind.i64.wrap ((m.name+1).tdiv 3)=(m.name+1).tdiv 3:=IntWalk.i64_in _ (by rw[e2];omega);have a0:0<=(m.name+1).tmod 3:=by omega
 have a1:(m.name+1).tmod 3<3:=by omega
 have b0:0<=((m.name+1).tdiv 3).tmod 8:=by omega
 have b1:((m.name+1).tdiv 3).tmod 8<8:=by omega
 have hA:∃s1 rest,s1.size<=10/\List.drop ((m.name+1).tmod 3).toNat [A.lit (.string ⟨#[117]⟩),A.lit (.string ⟨#[118]⟩),A.lit (.string ⟨#[119]⟩)]=A.lit (.string s1)::rest:=by
  have:((m.name+1).tmod 3).toNat=0\/((m.name+1).tmod 3).toNat=1\/((m.name+1).tmod 3).toNat=2:=by omega
  rcases this with e|e|e<;>rw[e]<;>exact⟨_,_,by decide,rfl⟩
 have hB:∃s1 rest,s1.size<=10/\List.drop (((m.name+1).tdiv 3).tmod 8).toNat [A.lit (.string ⟨#[]⟩),A.lit (.string ⟨#[49]⟩),A.lit (.string ⟨#[50]⟩),A.lit (.string ⟨#[51]⟩),A.lit (.string ⟨#[52]⟩),A.lit (.string ⟨#[53]⟩),A.lit (.string ⟨#[54]⟩),A.lit (.string ⟨#[55]⟩)]=A.lit (.string s1)::rest:=by
  generalize ((m.name+1).tdiv 3).tmod 8=b at b0 b1;have:b.toNat=0\/b.toNat=1\/b.toNat=2\/b.toNat=3\/b.toNat=4\/b.toNat=5\/b.toNat=6\/b.toNat=7:=by omega
  rcases this with e|e|e|e|e|e|e|e<;>rw[e]<;>exact⟨_,_,by decide,rfl⟩
 obtain⟨sa,ra,hsa,hA⟩:=hA;obtain⟨sb,rb,hsb,hB⟩:=hB;refine⟨sa++sb,?_⟩;refine mq [] [.slot 2] func133 (by kernel_rfl) ?_
 (conv in kq _ _=>cbv)
 have h3:((m.name+1).tmod 3).toNat<3:=by omega
 have h8:(((m.name+1).tdiv 3).tmod 8).toNat<8:=by omega
 simp[mkS,mkB,w1,w2,hA,hB,a0,a1,b0,b1,h3,h8];refine⟨by omega,?_⟩;exact mv [0,1] 0 (by rfl) (by simp)
theorem zTq(m:Mk)(b:Bnd)(h0:0<=m.temp)(h1:m.temp<=1000000000000000)(h2 : -1000000000000000<=m.left)(h3:m.left<=1000000000000000) :
 my 130 [.ptr 0 0,.agg (cO b)] (mkS m) (.agg (zJ (.mk ⟨0,0,m.temp⟩ 2 b.n b.id Typ.zero [] []))) (mkS {m with temp:=m.temp+1,left:=m.left-1}):=by
 refine mq [] [.cell 4 15 true] func130 (by kernel_rfl) ?_
 (conv in kq _ _=>cbv)
 simp[mkS,mkB,cO];refine mr (aT m 2 b.n [] h0 h1 h2 h3) [0,1] (by simp[mkS,mkB]) ?_;simp[mkS,mkB,zJ];exact mv [0,1] 0 (by rfl) (by simp)
theorem zEv(env:wJ)(t:Typ)(hE:env.length<=1000000):my 129 [.sl env.length (qC env),.agg (zB t)] [] (.sl (env.filter fun b=>y7 b.typ t).length (qC (env.filter fun b=>y7 b.typ t))) []:=by
 refine mq [] [.slot 4] func129 (by kernel_rfl) ?_
 (conv in kq _ _=>cbv)
 simp[zB];refine qO (S:=Nat) (fun i=>[(0,.sl env.length (qC env)),(3,.ptr 0 0),(5,.row 1 ((env.take i).filter fun b=>y7 b.typ t).length),(6,int i)]) (fun i=>[.box (zB t),.row false 139 9 ((env.take i).filter fun b=>y7 b.typ t).length (qC ((env.take i).filter fun b=>y7 b.typ t))]) (fun i=>i<=env.length) (fun i=>env.length-i) 0 (by simp)
  ((yK (t:=5) (by simp) 139 9).trans (mw [0,1] 0 (by rfl) (by simp[zB]))) ?_
 intro i hi;by_cases h:i<env.length
 .simp[h,iA h,cO,zB];intro hl;refine qA (iI env[i].typ t) (by simp[zB]) (by simp) ?_;have hst:((env.take (i+1)).filter fun b=>y7 b.typ t)=((env.take i).filter fun b=>y7 b.typ t)++(if y7 env[i].typ t then [env[i]]else []):=by rw[jA8 h,jD8];cases hs:y7 env[i].typ t<;>simp[hs]
  cases hs:y7 env[i].typ t
  .simp;rw[hs]at hst;simp only[jAl,if_false,jBa]at hst;exact zS (i+1) h (by omega) (mw [0,1] 0 (by rfl) (by simp[zB,hst,qF h hl]))
  .simp[h,iA h,cO];rw[hs]at hst;simp only[if_true]at hst;have hle:((env.take i).filter fun b=>y7 b.typ t).length<=i:=jBv (jCq _ _) (by simp;omega);refine⟨⟨by simp[maxLen];omega,by omega⟩,?_⟩;exact zS (i+1) h (by omega) (mw [0,1] 0 (by rfl) (by simp[zB,hst,x6,zCT,cO,qF h hl]))
 .have:i=env.length:=by omega
  subst this;simp;exact fun _=>zA 1 (by simp)
theorem lY(env:wJ)(b:Bnd)(hE:env.length<=1000000):my 134 [.sl env.length (qC env),.agg (cO b)] [] (.sl (env.length+1) (qC (env++[b]))) []:=by
 refine mn zRQ [] [.slot 4] func134 (by kernel_rfl) ?_
 (conv in zY _ _ _ _=>cbv)
 simp[cO];exact⟨⟨by simp[maxLen];omega,by omega⟩,⟨by simp[maxLen];omega,by omega⟩,zA 1 (by simp[x6,zCT,cO])⟩
def zGa(ds:wQ):St:=[.row false 41 31 ds.length (z6 ds)]
def xT(ds:wQ)(i:Id):Dfn×Bool:=match ds.find? fun d=>decide (d.id=i)with
 |some d=>(d,true)
 |none=>(Dfn.zero,false)
theorem zCj{ds:wQ}{x:Id}(h:i<ds.length)(hn:∀d∈ds.take i,d.id≠x)(he:ds[i].id=x):(ds.find? fun d=>decide (d.id=x))=some ds[i]:=by
 have e:ds=ds.take i++ds[i]::ds.drop (i+1):=by rw[<-jAp h,jCb]
 have h1:((ds.take i).find? fun d=>decide (d.id=x))=none:=jCv.2 fun d hd=>by simpa using hn d hd
 have h2:∀y,y=ds[i]->(ds.find? fun d=>decide (d.id=x))=some y:=fun y hy=>by rw[<-hy]at e he;rw[e,List.find?_append,h1];simp[he]
 exact h2 _ rfl
theorem zKr(M:List Md)(ds:wQ)(x:Id)(hL:ds.length<=1000000):my 36 [.agg [.sl M.length (qG M),.row 0 ds.length],.agg (zL x)] (zGa ds) (.tup [.agg (zK (xT ds x).1),bl (xT ds x).2]) (zGa ds):=by
 refine mq [] [.cell 4 31 true,.slot 5] func36 (by kernel_rfl) ?_
 (conv in kq _ _=>cbv)
 simp[zGa,zL];refine qO (S:=Nat) (fun i=>[(2,.ptr 1 0),(3,.ptr 2 0),(4,.ptr 3 0),(6,int i)]) (fun _=>[.row false 41 31 ds.length (z6 ds),.box [.sl M.length (qG M),.row 0 ds.length],.box (zL x),.box (zK Dfn.zero)]) (fun i=>i<=ds.length/\∀d∈ds.take i,d.id≠x) (fun i=>ds.length-i) 0 (by simp)
  (mw [0,1,2,3] 0 (by rfl) (by simp[zL,zK,Dfn.zero,Id.zero,Typ.zero,Exp.zero])) ?_
 rintro i ⟨hi,hn⟩;by_cases h:i<ds.length
 .have hd:=yD h;have hb3:i*31+3<=ds.length*31:=by omega
  have hb31:i*31+31<=ds.length*31:=by omega
  have hw:=jY i (by omega);by_cases he:ds[i].id=x
  .have hv:xT ds x=(ds[i],true):=by unfold xT;rw[zCj h hn he]
   have he3:o8 ds[i].id.a ds[i].id.b ds[i].id.c x.a x.b x.c=true:=by rw[eQ];exact decide_eq_true he
   simp[h,hd,zL,zK,he3,hb3,hb31];exact mv [0] 0 (by rfl) (by simp[hv,zK])
  .have he3:o8 ds[i].id.a ds[i].id.b ds[i].id.c x.a x.b x.c=false:=by rw[eQ];exact decide_eq_false he
   simp[h,hd,zL,zK,he3,hb3,hb31];exact zS (i+1) ⟨h,fun d hd'=>by
    rw[jA8 h]at hd';rcases jAc.1 hd' with hd'|hd'
    .exact hn d hd'
    .rw[jAo.1 hd'];exact he⟩ (by omega) (mw [0,1,2,3] 0 (by rfl) (by simp[zL,zK,Dfn.zero,Id.zero,Typ.zero,Exp.zero,hw]))
 .have:i=ds.length:=by omega
  subst this;rw[jAu]at hn;have hv:xT ds x=(Dfn.zero,false):=by unfold xT;rw[jCv.2 fun d hd=>by simpa using hn d hd]
  simp[zK,Dfn.zero,Id.zero,Typ.zero,Exp.zero]
  first|exact fun _=>mv [0] 0 (by rfl) (by simp[hv,zK,Dfn.zero,Id.zero,Typ.zero,Exp.zero])|exact mv [0] 0 (by rfl) (by simp[hv,zK,Dfn.zero,Id.zero,Typ.zero,Exp.zero])
theorem zUZ(M:List Md)(ds:wQ)(x:Id)(hL:ds.length<=1000000):my 36 [.agg [.sl M.length (qG M),.sl ds.length (z6 ds)],.agg (zL x)] [] (.tup [.agg (zK (xT ds x).1),bl (xT ds x).2]) []:=by
 refine mq [] [.cell 4 31 true,.slot 5] func36 (by kernel_rfl) ?_
 (conv in kq _ _=>cbv)
 simp[zGa,zL];refine qO (S:=Nat) (fun i=>[(2,.ptr 0 0),(3,.ptr 1 0),(4,.ptr 2 0),(6,int i)]) (fun _=>[.box [.sl M.length (qG M),.sl ds.length (z6 ds)],.box (zL x),.box (zK Dfn.zero)]) (fun i=>i<=ds.length/\∀d∈ds.take i,d.id≠x) (fun i=>ds.length-i) 0 (by simp)
  (mw [0,1,2] 0 (by rfl) (by simp[zL,zK,Dfn.zero,Id.zero,Typ.zero,Exp.zero])) ?_
 rintro i ⟨hi,hn⟩;by_cases h:i<ds.length
 .have hd:=yD h;have hb3:i*31+3<=ds.length*31:=by omega
  have hb31:i*31+31<=ds.length*31:=by omega
  have hw:=jY i (by omega);by_cases he:ds[i].id=x
  .have hv:xT ds x=(ds[i],true):=by unfold xT;rw[zCj h hn he]
   have he3:o8 ds[i].id.a ds[i].id.b ds[i].id.c x.a x.b x.c=true:=by rw[eQ];exact decide_eq_true he
   simp[h,hd,zL,zK,he3,hb3,hb31];intro hl;exact mv [] 0 (by rfl) (by simp[hv,zK])
  .have he3:o8 ds[i].id.a ds[i].id.b ds[i].id.c x.a x.b x.c=false:=by rw[eQ];exact decide_eq_false he
   simp[h,hd,zL,zK,he3,hb3,hb31];intro hl;exact zS (i+1) ⟨h,fun d hd'=>by
    rw[jA8 h]at hd';rcases jAc.1 hd' with hd'|hd'
    .exact hn d hd'
    .rw[jAo.1 hd'];exact he⟩ (by omega) (mw [0,1,2] 0 (by rfl) (by simp[zL,zK,Dfn.zero,Id.zero,Typ.zero,Exp.zero,hw]))
 .have:i=ds.length:=by omega
  subst this;rw[jAu]at hn;have hv:xT ds x=(Dfn.zero,false):=by unfold xT;rw[jCv.2 fun d hd=>by simpa using hn d hd]
  simp[zK,Dfn.zero,Id.zero,Typ.zero,Exp.zero]
  first|exact fun _=>mv [] 0 (by rfl) (by simp[hv,zK,Dfn.zero,Id.zero,Typ.zero,Exp.zero])|exact mv [] 0 (by rfl) (by simp[hv,zK,Dfn.zero,Id.zero,Typ.zero,Exp.zero])
def zIq{α:Type}(idf : α->Id)(D:List α)(c : α->Bool)(met:wA):wF:=met.filterMap fun i=>(D[i]?).bind fun x=>if c x then some (idf x)else none
variable{met:wA}
theorem zPB{α:Type}{idf : α->Id}{D:List α}{c : α->Bool}{x : α}(h:D[i]?=some x):zIq idf D c (met++[i])=if c x then zIq idf D c met++[idf x]else zIq idf D c met:=by simp only[zIq,List.filterMap_append,List.filterMap_cons,List.filterMap_nil,h,Option.bind_some];cases c x<;>simp
theorem zJr{α β:Type}{f g : α->Option β}:∀{l:List α},(∀x∈l,f x=g x)->l.filterMap f=l.filterMap g
 |[],_=>rfl
 |x::l,h=>by rw[List.filterMap_cons,List.filterMap_cons,h x (jAr ..),zJr fun y hy=>h y (jAm _ hy)]
theorem zMA{α:Type}{idf : α->Id}{c : α->Bool}(D:List α):zIq idf D c (List.range D.length)=(D.filter c).map idf:=by
 induction D using m9 with
 |nil=>rfl
 |snoc D y ih =>
  have h1:zIq idf (D++[y]) c (List.range D.length)=zIq idf D c (List.range D.length):=by
   unfold zIq;refine zJr fun i hi=>?_
   rw[jAj (jC.1 hi)]
  rw[jA5,jAz,List.range_succ,zPB (x:=y) (by simp),h1,ih,jD8,jC0];cases hc:c y<;>simp[hc]
structure Met(n:Nat)(met:List Nat):Prop where
 nd:met.Nodup
 lt:∀i∈met,i<n
theorem Met.snoc{n:Nat}(h:Met n met)(hi:i<n)(hn:i∉met):Met n (met++[i]):=by
 refine⟨?_,fun j hj=>?_⟩
 .rw[jCs];refine⟨h.nd,by simp,fun a ha b hb=>?_⟩;simp only[jAo]at hb;subst hb;exact fun e=>hn (e▸ha)
 .rcases jAc.1 hj with hj|hj
  .exact h.lt j hj
  .rw[jAo.1 hj];exact hi
theorem Met.le{n:Nat}(h:Met n met):met.length<=n:=by
 have:=h.nd.length_le_of_subset (l₂:=List.range n) fun i hi=>jC.2 (h.lt i hi)
 simpa using this
theorem Met.perm{n:Nat}(h:Met n met)(ha:∀i,i<n->i∈met):met.Perm (List.range n) :=
 (List.perm_ext_iff_of_nodup h.nd List.nodup_range).2 fun i=>⟨fun hi=>jC.2 (h.lt i hi),fun hi=>ha i (jC.1 hi)⟩
theorem Met.sel{α:Type}{idf : α->Id}{c : α->Bool}{D:List α}(h:Met D.length met)(ha:∀i,i<D.length->i∈met):(zIq idf D c met).Perm ((D.filter c).map idf):=by rw[<-zMA];exact(h.perm ha).filterMap _
@[simp]theorem qGp{α:Type}{idf : α->Id}{enc : α->wE}{D:List α}:(zHZ idf enc D).length=D.length:=by simp[zHZ]
structure Hd where
 id:Id
 kind:Int
 slots:List Slt
 res:Typ
abbrev wP:=List Hd
def Dfn.hd(d:Dfn):Hd:=⟨d.id,d.kind,d.slots,d.res⟩
abbrev jK:Typ:=.mk 0 Id.zero []
abbrev jR:Typ:=.mk 1 Id.zero []
abbrev j8(t:Typ):Typ:=.mk 2 Id.zero [t]
abbrev yO(d:Id):Typ:=.mk 3 d []
inductive TyOk(hs:List Hd):Nat->Typ->Prop
 |int (r:Nat):TyOk hs r jK
 |bool (r:Nat):TyOk hs r jR
 |list (r:Nat) (t:Typ) (h:TyOk hs r t):TyOk hs (r+1) (j8 t)
 |dfn (r k:Nat) (h:k<hs.length) (h1:∀(j:Nat) (hj:j<k),hs[j].id≠hs[k].id) (h2:hs[k].kind=0\/hs[k].kind=1/\0<hs[k].slots.length) (h3:hs[k].slots.length<=6)
  (h4:∀s∈hs[k].slots,TyOk hs r s.typ):TyOk hs (r+1) (yO hs[k].id)
variable{hs:wP}{t:Typ}
theorem TyOk.mono{r r':Nat}(h:TyOk hs r t)(hr:r<=r'):TyOk hs r' t:=by
 induction h generalizing r' with
 |int r=>exact .int _
 |bool r=>exact .bool _
 |list r t h ih =>
  obtain⟨q,rfl⟩:∃q,r'=q+1:=⟨r'-1,by omega⟩;exact .list _ _ (ih (by omega))
 |dfn r k h h1 h2 h3 h4 ih =>
  obtain⟨q,rfl⟩:∃q,r'=q+1:=⟨r'-1,by omega⟩;exact .dfn _ k h h1 h2 h3 fun s hs'=>ih s hs' (by omega)
def fI(env:wJ)(x:Id)(n:Int):Option Typ:=(env.reverse.find? fun b=>decide (b.id=x)&&decide (b.n=n)).map (·.typ)
inductive WT(hs:List Hd)(own:Int):List Bnd->Exp->Typ->Prop
 |int (env i n) (h1 : -1099511627776<=n) (h2:n<=1099511627776):WT hs own env (.mk i 0 n Id.zero Typ.zero [] []) jK
 |bool (env i n) (h:n=0\/n=1):WT hs own env (.mk i 1 n Id.zero Typ.zero [] []) jR
 |var (env i n x t) (h:fI env x n=some t):WT hs own env (.mk i 2 n x Typ.zero [] []) t
 |call (env i) (k:Nat) (h:k<hs.length) (ks) (ho:(k:Int)<own) (hk:hs[k].kind=2) (hl:ks.length=hs[k].slots.length) (hw:∀(j:Nat) (hj:j<ks.length),WT hs own env ks[j] (hs[k].slots[j]'(hl▸hj)).typ) :
  WT hs own env (.mk i 3 0 hs[k].id Typ.zero ks []) hs[k].res
 |arith (env i n a b) (h1:0<=n) (h2:n<=4) (ha:WT hs own env a jK) (hb:WT hs own env b jK):WT hs own env (.mk i 4 n Id.zero Typ.zero [a,b] []) jK
 |less (env i a b) (ha:WT hs own env a jK) (hb:WT hs own env b jK):WT hs own env (.mk i 4 5 Id.zero Typ.zero [a,b] []) jR
 |same (env i a b u) (ha:WT hs own env a u) (hb:WT hs own env b u):WT hs own env (.mk i 4 6 Id.zero Typ.zero [a,b] []) jR
 |andor (env i n a b) (h:n=7\/n=8) (ha:WT hs own env a jR) (hb:WT hs own env b jR):WT hs own env (.mk i 4 n Id.zero Typ.zero [a,b] []) jR
 |not (env i a) (ha:WT hs own env a jR):WT hs own env (.mk i 4 9 Id.zero Typ.zero [a] []) jR
 |join (env i a b t) (ha:WT hs own env a (j8 t)) (hb:WT hs own env b (j8 t)):WT hs own env (.mk i 4 10 Id.zero Typ.zero [a,b] []) (j8 t)
 |len (env i a t) (ha:WT hs own env a (j8 t)):WT hs own env (.mk i 4 11 Id.zero Typ.zero [a] []) jK
 |ite (env i a b c t) (ha:WT hs own env a jR) (hb:WT hs own env b t) (hc:WT hs own env c t):WT hs own env (.mk i 5 0 Id.zero Typ.zero [a,b,c] []) t
 |lets (env i a b u t ns) (hn:ns.length<=10) (ha:WT hs own env a u) (hb:WT hs own (env++[⟨i,0,u⟩]) b t):WT hs own env (.mk i 6 0 Id.zero Typ.zero [a,b] ns) t
 |record (env i) (k:Nat) (h:k<hs.length) (ks) (hk:hs[k].kind=0) (hl:ks.length=hs[k].slots.length) (hw:∀(j:Nat) (hj:j<ks.length),WT hs own env ks[j] (hs[k].slots[j]'(hl▸hj)).typ) :
  WT hs own env (.mk i 7 0 hs[k].id Typ.zero ks []) (yO hs[k].id)
 |field (env i) (k:Nat) (h:k<hs.length) (j:Nat) (hj:j<hs[k].slots.length) (a) (hk:hs[k].kind=0) (ha:WT hs own env a (yO hs[k].id)):WT hs own env (.mk i 8 j hs[k].id Typ.zero [a] []) hs[k].slots[j].typ
 |case (env i) (k:Nat) (h:k<hs.length) (j:Nat) (hj:j<hs[k].slots.length) (a) (hk:hs[k].kind=1) (ha:WT hs own env a hs[k].slots[j].typ):WT hs own env (.mk i 9 j hs[k].id Typ.zero [a] []) (yO hs[k].id)
 |mtch (env i) (k:Nat) (h:k<hs.length) (a ks t ns) (hn:ns.length<=10) (hk:hs[k].kind=1) (hl:ks.length=hs[k].slots.length) (ha:WT hs own env a (yO hs[k].id))
  (hw:∀(j:Nat) (hj:j<ks.length),WT hs own (env++[⟨i,j,(hs[k].slots[j]'(hl▸hj)).typ⟩]) ks[j] t):WT hs own env (.mk i 10 0 hs[k].id Typ.zero (a::ks) ns) t
 |list (env i t ks) (hw:∀(j:Nat) (hj:j<ks.length),WT hs own env ks[j] t):WT hs own env (.mk i 11 0 Id.zero t ks []) (j8 t)
 |fold (env i l s b u t ns) (hn:ns.length<=10) (hl:WT hs own env l (j8 u)) (hs':WT hs own env s t) (hb:WT hs own (env++[⟨i,0,u⟩]++[⟨i,1,t⟩]) b t):WT hs own env (.mk i 12 0 Id.zero Typ.zero [l,s,b] ns) t
mutual
def tmps:Exp->wB
 | .mk i _ _ _ _ ks _=>yQ ks++[i.c]
def yQ:List Exp->wB
 |[]=>[]
 |e::l=>tmps e++yQ l
end
mutual
def Exp.num0:Exp->Prop
 | .mk i _ _ _ _ ks _=>(i.a=0/\i.b=0)/\zKf ks
def zKf:List Exp->Prop
 |[]=>True
 |e::l=>e.num0/\zKf l
end
theorem zC3:∀l:wG,zKf l↔∀e∈l,e.num0
 |[]=>by simp[zKf]
 |e::l=>by simp[zKf,zC3 l]
variable{ns:List ByteArray}
theorem iX{c k n:Int}{r:Id}{ks:wG}(h:∀e∈ks,e.num0):(Exp.mk ⟨0,0,c⟩ k n r t ks ns).num0:=by simp only[Exp.num0,zC3,true_and];exact h
theorem xJ{c k n:Int}{r:Id}:(Exp.mk ⟨0,0,c⟩ k n r t [] ns).num0:=iX (by simp)
theorem zB2{es:wG}{n:Nat}(hn:es.length=n)(h:∀(j:Nat)(_:j<es.length),es[j].num0):∀e∈es,e.num0:=fun e he=>by obtain⟨j,hj,rfl⟩:=jAn he;exact h j hj
structure Seg(lo hi:Int)(l:List Int):Prop where
 nd:l.Nodup
 rng:∀x∈l,lo<=x/\x<hi
variable{a b c:Int}
theorem Seg.append{l':wB}(h:Seg a b l)(h':Seg b c l')(hab:a<=b)(hbc:b<=c):Seg a c (l++l'):=by
 refine⟨jCs.2 ⟨h.nd,h'.nd,fun x hx y hy e=>?_⟩,fun x hx=>?_⟩
 .have h1:=h.rng x hx;have h2:=h'.rng y hy;omega
 .rcases jAc.1 hx with hx|hx
  .have:=h.rng x hx;omega
  .have:=h'.rng x hx;omega
theorem Seg.perm{l':wB}(h:Seg a b l)(hp:l.Perm l'):Seg a b l':=⟨hp.nodup_iff.1 h.nd,fun x hx=>h.rng x (hp.mem_iff.2 hx)⟩
theorem Seg.one(a:Int):Seg a (a+1) [a]:=⟨by simp,fun x hx=>by simp at hx;omega⟩
theorem Seg.nil:Seg a b []:=⟨by simp,fun x hx=>by simp at hx⟩
theorem Seg.mono{a' b':Int}(h:Seg a b l)(h1:a'<=a)(h2:b<=b'):Seg a' b' l:=⟨h.nd,fun x hx=>by have:=h.rng x hx;omega⟩
structure Adv(m m':Mk)(c:Int):Prop where
 mods:m'.mods=m.mods
 defs:m'.defs=m.defs
 l:m'.l=m.l
 own:m'.own=m.own
 home:m'.home=m.home
 at1:m.at_<=m'.at_
 at2:m'.at_<=m.at_+c
 temp1:m.temp<=m'.temp
 temp2:m'.temp<=m.temp+c
 left1:m.left-c<=m'.left
 left2:m'.left<=m.left
 name1:m.name<=m'.name
 name2:m'.name<=m.name+c
variable{m m1:Mk}{c':Int}
theorem Adv.trans{m2:Mk}(h:Adv m m1 c)(k:Adv m1 m2 c'):Adv m m2 (c+c'):=by obtain⟨h1,h2,h3,h4,h5,h6,h7,h8,h9,h10,h11,h12,h13⟩:=h;obtain⟨k1,k2,k3,k4,k5,k6,k7,k8,k9,k10,k11,k12,k13⟩:=k;exact⟨k1.trans h1,k2.trans h2,k3.trans h3,k4.trans h4,k5.trans h5,by omega,by omega,by omega,by omega,by omega,by omega,by omega,by omega⟩
theorem Adv.mono(h:Adv m m1 c)(hc:c<=c'):Adv m m1 c':=by obtain⟨h1,h2,h3,h4,h5,h6,h7,h8,h9,h10,h11,h12,h13⟩:=h;exact⟨h1,h2,h3,h4,h5,by omega,by omega,by omega,by omega,by omega,by omega,by omega,by omega⟩
structure Lim(m:Mk)(c:Int):Prop where
 at1:0<=m.at_
 at2:m.at_+c<=1000000000000000
 temp1:0<=m.temp
 temp2:m.temp+c<=1000000000000000
 left1 : -1000000000000000<=m.left-c
 left2:m.left<=1000000000000000
 name1:0<=m.name
 name2:m.name+c<=1000000000000000
theorem Lim.adv(h:Lim m (c+c'))(k:Adv m m1 c):Lim m1 c':=by obtain⟨h1,h2,h3,h4,h5,h6,h7,h8⟩:=h;obtain⟨k1,k2,k3,k4,k5,k6,k7,k8,k9,k10,k11,k12,k13⟩:=k;exact⟨by omega,by omega,by omega,by omega,by omega,by omega,by omega,by omega⟩
theorem Lim.mono(h:Lim m c)(hc:c'<=c):Lim m c':=by obtain⟨h1,h2,h3,h4,h5,h6,h7,h8⟩:=h;exact⟨by omega,by omega,by omega,by omega,by omega,by omega,by omega,by omega⟩
theorem aH(m:Mk):Adv m {m with temp:=m.temp+1,left:=m.left-1} 1:=⟨rfl,rfl,rfl,rfl,rfl,by simp,by simp;omega,by simp;omega,by simp,by simp,by simp;omega,by simp,by simp;omega⟩
theorem zNe(m:Mk):Adv m {m with at_:=m.at_+1} 1:=⟨rfl,rfl,rfl,rfl,rfl,by simp;omega,by simp,by simp,by simp;omega,by simp;omega,by simp,by simp,by simp;omega⟩
theorem zAQ(m:Mk):Adv m {m with name:=m.name+1} 1:=⟨rfl,rfl,rfl,rfl,rfl,by simp,by simp;omega,by simp,by simp;omega,by simp;omega,by simp,by simp;omega,by simp⟩
structure Cx(hs:List Hd)(R:Nat)(m:Mk):Prop where
 heads:m.defs.map Dfn.hd=hs
 len:hs.length<=100
 len0:0<hs.length
 mods:0<m.mods.length
 nums:∀x∈m.l,w64 x=x
 own:m.own<=1000
 typs:∀(k:Nat) (h:k<hs.length),hs[k].kind=0\/hs[k].kind=1->TyOk hs R (yO hs[k].id)
 slots:∀(k:Nat) (h:k<hs.length),hs[k].slots.length<=6/\∀s∈hs[k].slots,TyOk hs R s.typ
variable{R:Nat}
theorem Cx.adv{m':Mk}(h:Cx hs R m)(k:Adv m m' c):Cx hs R m':=by obtain⟨h1,h2,h3,h4,h5,h6,h7,h8⟩:=h;exact⟨by rw[k.defs];exact h1,h2,h3,by rw[k.mods];exact h4,by rw[k.l];exact h5,by rw[k.own];exact h6,h7,h8⟩
theorem Cx.dlen(h:Cx hs R m):m.defs.length=hs.length:=by rw[<-h.heads,jAb]
theorem Cx.get(h:Cx hs R m){k:Nat}(hk:k<m.defs.length):hs[k]'(h.dlen▸hk)=m.defs[k].hd:=by obtain⟨rfl,_⟩:=h;simp
structure EnvOk(hs:List Hd)(R:Nat)(temp:Int)(env:List Bnd):Prop where
 typs:∀b∈env,TyOk hs R b.typ
 nd:env.Pairwise fun b c=>¬(b.id=c.id/\b.n=c.n)
 new:∀b∈env,b.id.b=0->b.id.c<temp
variable{temp:Int}{env:wJ}
theorem EnvOk.mono{temp':Int}(h:EnvOk hs R temp env)(ht:temp<=temp'):EnvOk hs R temp' env:=⟨h.typs,h.nd,fun b hb h0=>by have:=h.new b hb h0;omega⟩
theorem EnvOk.snoc(h:EnvOk hs R temp env)(c n:Int)(t:Typ)(ht:TyOk hs R t)(hc:∀b∈env,b.id=⟨0,0,c⟩->b.n≠n)(hct:c<temp):EnvOk hs R temp (env++[⟨⟨0,0,c⟩,n,t⟩]):=by
 refine⟨fun b hb=>?_,?_,fun b hb h0=>?_⟩
 .rcases jAc.1 hb with hb|hb
  .exact h.typs b hb
  .rw[jAo.1 hb];exact ht
 .rw[jCr];refine⟨h.nd,by simp,fun b hb c' hc'=>?_⟩;rw[jAo.1 hc'];exact fun e=>hc b hb e.1 e.2
 .rcases jAc.1 hb with hb|hb
  .exact h.new b hb h0
  .rw[jAo.1 hb];exact hct
theorem zGK(h:env.Pairwise fun b c=>¬(b.id=c.id/\b.n=c.n)){b:Bnd}(hb:b∈env):fI env b.id b.n=some b.typ:=by
 induction env using m9 with
 |nil=>simp at hb
 |snoc l y ih =>
  rw[jCr]at h;unfold fI;rw[List.reverse_append];simp only[List.reverse_cons,List.reverse_nil,jBl,jCu,jD7];rcases jAc.1 hb with hb'|hb'
  .have hne:=h.2.2 b hb' y (by simp);have:(decide (y.id=b.id)&&decide (y.n=b.n))=false:=by
    rw[jCo];by_cases e:y.id=b.id
    .right;rw[decide_eq_false_iff_not];exact fun e'=>hne ⟨e.symm,e'.symm⟩
    .left;simpa using e
   rw[this];exact ih h.1 hb'
  .rw[jAo.1 hb'];simp
def zAN(m:Mk)(k:Nat):Bool:=match m.defs[k]? with
 |some d=>decide ((k:Int)<m.own)&&(decide (d.mod=m.home)||decide (d.mod=(m.mods.headD ⟨Id.zero,⟨#[]⟩,[],[]⟩).id))
 |none=>false
theorem zVt{k:Nat}(h:zAN m k=true):(k:Int)<m.own:=by
 unfold zAN at h;split at h
 .rw[jA6]at h;exact of_decide_eq_true h.1
 .cases h
theorem zF7(m:Mk)(k:Nat)(hk:k<m.defs.length)(hm:0<m.mods.length):my 168 [.ptr 0 0,int k] (mkS m) (bl (zAN m k)) (mkS m):=by
 refine mq [] [.slot 4] func168 (by kernel_rfl) ?_
 (conv in kq _ _=>cbv)
 have hd:=yD hk;have hb31:k*31+31<=m.defs.length*31:=by omega
 have hv:zAN m k=(decide ((k:Int)<m.own)&&(decide (m.defs[k].mod=m.home)||decide (m.defs[k].mod=(m.mods.headD ⟨Id.zero,⟨#[]⟩,[],[]⟩).id))):=by unfold zAN;rw[jA1 hk]
 cases hmm:m.mods with
 |nil=>rw[hmm]at hm;simp at hm
 |cons m0 M =>
  rw[hmm]at hv;simp only[jD2]at hv;simp[mkS,mkB,hk,hd,hb31,zK,hmm,fM,nQ];by_cases h1:(k:Int)<m.own
  .by_cases h2:m.defs[k].mod=m.home
   .simp[h1,h2];exact mv [0,1] 0 (by rfl) (by simp[hmm,fM,nQ,hv,h1,h2])
   .have e2:o8 m.defs[k].mod.a m.defs[k].mod.b m.defs[k].mod.c m.home.a m.home.b m.home.c=false:=by rw[eQ];exact decide_eq_false h2
    simp[h1,e2];exact ke [0,1] 0 (by rfl) (by simp[hmm,fM,nQ]) (by simp[hv,h1,h2]<;>congr)
  .simp[h1];exact mv [0,1] 0 (by rfl) (by simp[hmm,fM,nQ,hv,h1])
def zDg(m:Mk)(kind:Int)(k:Nat):Bool:=(match m.defs[k]? with
 |some d=>decide (d.kind=kind)
 |none=>false)&&zAN m k
def ofV(m:Mk)(kind:Int)(x:Nat):Int:=match (List.range m.defs.length).find? fun i=>zDg m kind ((x+i) % m.defs.length)with
 |some i=>(((x+i) % m.defs.length:Nat):Int)
 |none=>-1
variable{p:Nat->Bool}
theorem zP5{n i:Nat}(h:i<n)(hp:p i=true)(hn:∀j<i,p j=false):(List.range n).find? p=some i:=by rw[List.find?_range_eq_some];exact⟨hp,by simpa using h,fun j hj=>by simpa using hn j hj⟩
theorem zMw{n:Nat}(hn:∀j<n,p j=false):(List.range n).find? p=none:=by
 rw[jCv];intro x hx
 simpa using hn x (by simpa using hx)
theorem zUP(m:Mk)(kind:Int)(x:Nat):ofV m kind x = -1\/∃k:Nat,∃h:k<m.defs.length,ofV m kind x=k/\m.defs[k].kind=kind/\zAN m k=true:=by
 unfold ofV;split
 .rename_i i hi;right;have hp:=jD9 hi;have hlt:0<m.defs.length:=by have:=jC.1 (jDj hi);omega
  have hk:=Nat.mod_lt (x+i) hlt;refine⟨_,hk,rfl,?_⟩;unfold zDg at hp;rw[jA1 hk]at hp
  simpa using hp
 .left;rfl
theorem zS5(m:Mk)(kind:Int)(x:Nat)(hx:x<=1000000)(hd:0<m.defs.length)(hd':m.defs.length<=100)(hm:0<m.mods.length):my 167 [.ptr 0 0,int kind,int x] (mkS m) (int (ofV m kind x)) (mkS m):=by
 refine mq [] [.slot 6] func167 (by kernel_rfl) ?_
 (conv in kq _ _=>cbv)
 simp[mkS,mkB];refine qO (S:=Nat) (fun i=>[(0,.ptr 0 0),(1,int kind),(2,int x),(7,int m.defs.length),(8,int i)]) (fun _=>mkS m) (fun i=>i<=m.defs.length/\∀j<i,zDg m kind ((x+j) % m.defs.length)=false) (fun i=>m.defs.length-i) 0 (by simp)
  (mw [0,1] 0 (by rfl) (by simp[mkS,mkB])) ?_
 rintro i ⟨hi,hn⟩;by_cases h:i<m.defs.length
 .have hk:=Nat.mod_lt (x+i) hd;have w1:=z8 ((x:Int)+i) (by omega);have w2:=jY i (by omega);have e1:Int.tmod ((x:Int)+i) (m.defs.length:Int)=(((x+i) % m.defs.length:Nat):Int):=by rw[tmN (by omega)];simp
  have hnil:m.defs≠[]:=fun e=>by rw[e]at hd;simp at hd
  have hne:¬((m.defs.length:Int)=0):=by omega
  generalize hkk:(x+i) % m.defs.length=k at hk e1;have hdr:=yD hk;have hdr3:List.drop (k*31+3) (z6 m.defs)=(zK m.defs[k]++z6 (m.defs.drop (k+1))).drop 3:=by rw[<-jBc,hdr]
  have hb4:k*31+3+1<=m.defs.length*31:=by omega
  have hg:zDg m kind k=(decide (m.defs[k].kind=kind)&&zAN m k):=by unfold zDg;rw[jA1 hk]
  simp[mkS,mkB,h,w1,e1,hne,hk,hdr3,hb4,zK,hnil];have hround:zDg m kind k=false->∀j<i+1,zDg m kind ((x+j) % m.defs.length)=false:=fun hg' j hj=>by
   by_cases e:j=i
   .subst e;rw[hkk];exact hg'
   .exact hn j (by omega)
  have hhit:zDg m kind k=true->ofV m kind x=k:=fun hg'=>by unfold ofV;rw[zP5 h (by rw[hkk];exact hg') hn];simp only[hkk]
  by_cases h1:m.defs[k].kind=kind
  .simp[h1];refine mr (zF7 m k hk hm) [0,1] (by simp[mkS,mkB]) ?_;cases h2:zAN m k
   .simp[mkS,mkB];exact zS (i+1) ⟨h,hround (by rw[hg,h2];simp)⟩ (by omega) (mw [0,1] 0 (by rfl) (by simp[mkS,mkB,w2]))
   .simp[mkS,mkB];exact mv [0,1] 0 (by rfl) (by simp[hhit (by rw[hg,h1,h2];simp)])
  .simp[h1];exact zS (i+1) ⟨h,hround (by rw[hg];simp[h1])⟩ (by omega) (mw [0,1] 0 (by rfl) (by simp[mkS,mkB,w2]))
 .have:i=m.defs.length:=by omega
  subst this;have hr:ofV m kind x = -1:=by unfold ofV;rw[zMw hn]
  simp[mkS,mkB];exact mv [0,1] 0 (by rfl) (by simp[hr])
def jH(l:wQ)(id:Id):Option Dfn:=l.find? fun d=>decide (d.id=id)
theorem zAy(d:Dfn)(l:wQ)(id:Id):jH (d::l) id=if d.id=id then some d else jH l id:=by unfold jH;rw[jD7];by_cases h:d.id=id<;>simp[h]
theorem zL1(l:wQ)(id:Id):xT l id=((jH l id).getD .zero,(jH l id).isSome):=by unfold xT jH;cases l.find? fun d=>decide (d.id=id)<;>rfl
theorem zTS(d:Dfn)(id:Id):my 144 [.agg (zK d),.ptr 0 0] [.box (zL id)] (bl (decide (d.id=id))) [.box (zL id)]:=by
 refine mq [] [.slot 3] func144 (by kernel_rfl) ?_
 (conv in kq _ _=>cbv)
 simp[zK,zL,zUa];exact mv [0] 0 (by rfl) (by simp)
def zFV:List Dfn->Id->Nat->Int
 |[],_,_=>-1
 |d::l,id,n=>if d.id=id then n else zFV l id (n+1)
theorem zGF:∀(l:wQ) (id:Id) (n:Nat),(jH l id=none/\zFV l id n = -1)\/∃(i:Nat) (h:i<l.length),zFV l id n=(n+i:Nat)/\jH l id=some l[i]
 |[],id,n=>.inl ⟨rfl,rfl⟩
 |d::l,id,n=>by
  simp only[zAy,zFV];by_cases hd:d.id=id
  .exact .inr ⟨0,by simp,by simp[hd],by simp[hd]⟩
  .simp only[hd,if_false];rcases zGF l id (n+1)with h|⟨i,hi,h1,h2⟩
   .exact .inl h
   .exact .inr ⟨i+1,by simpa using hi,by rw[h1];congr 1;omega,by simpa using h2⟩
theorem zHT(l:wQ)(id:Id):my 143 [.sl l.length (z6 l),.clo 144 [] [.ptr 0 0]] [.box (zL id)] (int (zFV l id 0)) [.box (zL id)]:=by
 refine mq [] [.slot 4] func143 (by kernel_rfl) ?_
 (conv in kq _ _=>cbv)
 simp;intro hl;refine qO (S:=Nat) (fun i=>[(0,.sl l.length (z6 l)),(1,.clo 144 [] [.ptr 0 0]),(6,.sl l.length (z6 l)),(7,int l.length),(8,int i)]) (fun s=>[.box (zL id)]) (fun i=>i<=l.length/\zFV l id 0=zFV (l.drop i) id i) (fun i=>l.length-i) 0 (by simp)
  (mw [0] 0 (by rfl) (by simp[zL])) ?_
 rintro i ⟨hi,ho⟩;by_cases h:i<l.length
 .have hd:l.drop i=l[i]::l.drop (i+1):=jAp h;simp[h,yD h];refine mr (zTS l[i] id) [0] (by simp) ?_;simp;refine jM (fun h'=>?_) (fun h'=>?_)<;>simp at h'
  .simp;exact ke [0] 0 (by rfl) (by simp) (by rw[ho,hd];simp[zFV,h'])
  .simp;exact zS (i+1) ⟨h,by rw[ho,hd];simp[zFV,h']⟩ (by omega) (mw [0] 0 (by rfl) (by simp[qF h hl]))
 .have hi:i=l.length:=by omega
  subst hi;simp;exact ke [0] 0 (by rfl) (by simp) (by rw[ho];simp[zFV])
def bL(p:Prg)(id:Id):A:=.tup [.agg (zK ((jH p.defs id).getD .zero)),bl (jH p.defs id).isSome]
theorem nO(p:Prg)(id:Id):my 96 [.agg (zN p),.agg (zL id)] [] (bL p id) []:=by
 refine mq [] [.cell 4 31 true,.slot 5] func96 (by kernel_rfl) ?_
 (conv in kq _ _=>cbv)
 simp[zN];refine mr (zHT p.defs id) [1] (by simp) ?_;simp;rcases zGF p.defs id 0 with ⟨h1,h2⟩|⟨i,hi,h1,h2⟩
 .simp[h2];exact zA 0 (by simp[bL,h1,zK,Dfn.zero,Id.zero,Typ.zero,Exp.zero])
 .have hn:¬((i:Int)<0):=by omega
  simp[h1,hn,hi,yD hi];exact zA 0 (by simp[bL,h2])
theorem lP(p:Prg)(hL:p.defs.length<=1000000)(id:Id):my 36 [.agg (zN p),.agg (zL id)] [] (bL p id) []:=by have h:=zUZ p.mods p.defs id hL;rw[zL1]at h;exact h
def s4:Option Dfn->Bool
 |some d=>decide (d.kind=0\/d.kind=1)
 |none=>false
def j9(p:Prg):Nat->Typ->Bool
 | 0,_=>false
 |n+1,t=>if t.k=2 then (match t.kids with
  |[x]=>decide (t.id=Id.zero)&&j9 p n x
  |_=>false)else if t.kids≠[]then false else if t.k=3 then s4 (jH p.defs t.id)else decide (t.id=Id.zero)&&decide (t.k=0\/t.k=1)
def validT(p:Prg)(t:Typ):Bool:=j9 p 24 t
theorem zBB(p:Prg)(hL:p.defs.length<=1000000):∀(n:Nat) (d:Int) (t:Typ),d=25-(n:Int)->n<=24->my 169 [.agg (zN p),.agg (zB t),int d] [] (bl (j9 p n t)) []
 | 0,d,t,hd,_=>by
  refine mq [] [.slot 6] func169 (by kernel_rfl) ?_
  (conv in kq _ _=>cbv)
  subst hd;simp[zB,zN];exact zA 0 (by simp[j9])
 |n+1,d,t,hd,hn=>by
  refine mq [] [.slot 6] func169 (by kernel_rfl) ?_
  (conv in kq _ _=>cbv)
  have h24:¬(24<d):=by omega
  cases t with
  |mk k id kids =>
  by_cases hk:k=2
  .subst hk;by_cases hid:id=Id.zero
   .subst hid;rcases kids with _|⟨x,_|⟨y,l⟩⟩
    .simp[zB,zN,h24];exact zA 0 (by simp[j9])
    .have hw:=z8 (d+1) (by omega);simp[zB,zN,h24];refine qA (zBB p hL n (d+1) x (by omega) (by omega)) (by simp[zN,zB,hw,qN]) (by simp) ?_;simp;exact zA 0 (by simp[j9,Id.zero])
    .have h1:¬((l.length:Int)+1+1=1):=by omega
     simp[zB,zN,h24,h1];exact zA 0 (by simp[j9])
   .have hv:j9 p (n+1) (.mk 2 id kids)=false:=by simp only[j9,Typ.k_mk,Typ.id_mk,Typ.kids_mk,if_true];split<;>simp[hid]
    simp[zB,zN,h24,hid,hv];exact zA 0 (by simp)
  .rcases kids with _|⟨x,l⟩
   .by_cases h3:k=3
    .subst h3;simp[zB,zN,h24];refine mu (lP p hL id) (by simp[zN,zL,bL]) ?_;cases hf:jH p.defs id with
     |none =>
      simp[bL,hf,zK,Dfn.zero,Id.zero,Typ.zero,Exp.zero];exact zA 0 (by simp[j9,hf,s4])
     |some f =>
      by_cases h0:f.kind=0
      all_goals
       simp[bL,hf,zK,h0];exact zA 0 (by simp[j9,hf,s4,h0])
    .by_cases hid:id=Id.zero
     .subst hid;by_cases h0:k=0
      .subst h0;simp[zB,zN,h24];exact zA 0 (by simp[j9,Id.zero])
      .simp[zB,zN,h24,hk,h3,h0];exact zA 0 (by simp[j9,Id.zero,hk,h3,h0])
     .simp[zB,zN,h24,hk,h3,hid];have hv:j9 p (n+1) (.mk k id [])=false:=by simp only[j9,Typ.k_mk,Typ.id_mk,Typ.kids_mk,hk,h3,if_false];simp[hid]
      exact zA 0 (by rw[hv];simp)
   .have hl:(0:Int)<(l.length:Int)+1:=by omega
    simp[zB,zN,h24,hk,hl];have hv:j9 p (n+1) (.mk k id (x::l))=false:=by simp only[j9,Typ.k_mk,Typ.id_mk,Typ.kids_mk,hk,if_false];rfl
    exact fun _=>zA 0 (by rw[hv];simp)
theorem zDn(p:Prg)(hL:p.defs.length<=1000000)(t:Typ):my 139 [.agg (zN p),.agg (zB t)] [] (bl (validT p t)) []:=by
 refine mq [] [.slot 4] func139 (by kernel_rfl) ?_
 (conv in kq _ _=>cbv)
 simp[zN,zB];refine mu (zBB p hL 24 1 t (by omega) (by omega)) (by simp[zN,zB]) ?_;simp;exact zA 0 (by simp[validT])
theorem zF6(p:Prg)(t0:Typ):my 114 [.agg (zN p),.agg (zB t0)] [] (bl (validT p t0)) []:=by
 refine mq [] [.slot 4] func114 (by kernel_rfl) ?_
 (conv in kq _ _=>cbv)
 simp[zN];refine qO (S:=Nat×Typ) (fun s=>[(2,.ptr 0 0),(3,.ptr 1 0),(5,int s.1)]) (fun s=>[.box (zN p),.box (zB s.2)]) (fun s=>1<=s.1/\s.1<=25/\validT p t0=j9 p (25-s.1) s.2) (fun s=>25-s.1) (1,t0) (by simp[validT])
  (mw [0,1] 0 (by rfl) (by simp[zN])) ?_
 rintro⟨i,t⟩ ⟨hi0,hi,ho⟩;simp only at hi0 hi ho;by_cases h:i<=24
 .have hi24:(i:Int)<=24:=by omega
  obtain⟨n,hn⟩:∃n,25-i=n+1:=⟨24-i,by omega⟩;have hn':25-(i+1)=n:=by omega
  have hw:=jY i (by omega);rw[hn]at ho;cases t with
  |mk k id kids =>
  by_cases h2:k=2
  .subst h2;by_cases hid:id=Id.zero
   .subst hid;rcases kids with _|⟨x,_|⟨y,l⟩⟩
    .simp[zB,zN,hi24];exact zA 0 (by rw[ho];simp[j9])
    .simp[zB,zN,hi24];intro _;refine zS (i+1,x) ⟨by simp,by simp only;omega,?_⟩ (by simp only;omega) (mw [0,1] 0 (by rfl) (by simp[zN,zB,qN,hw]));simp only;rw[ho,hn'];simp[j9]
    .have h1:¬((l.length:Int)+1+1=1):=by omega
     simp[zB,zN,hi24,h1];exact fun _=>zA 0 (by rw[ho];simp[j9])
   .have hv:j9 p (n+1) (.mk 2 id kids)=false:=by simp only[j9,Typ.k_mk,Typ.id_mk,Typ.kids_mk,if_true];split<;>simp[hid]
    simp[zB,zN,hi24,hid];exact zA 0 (by rw[ho,hv];simp)
  by_cases h3:k=3
  .subst h3;simp[zB,zN,hi24];refine mu (nO p id) (by simp[zN,zL,bL]) ?_;cases hf:jH p.defs id with
   |none =>
    have hv:j9 p (n+1) (.mk 3 id kids)=false:=by cases kids<;>simp[j9,hf,s4]
    simp[bL,hf,zK,Dfn.zero,Id.zero,Typ.zero,Exp.zero];exact zA 0 (by rw[ho,hv];simp)
   |some f =>
    by_cases h0:f.kind=0\/f.kind=1
    .have hv:j9 p (n+1) (.mk 3 id kids)=decide (kids.length=0):=by cases kids<;>simp[j9,hf,s4,h0]
     rcases h0 with h0|h0
     all_goals
      simp[bL,hf,zK,h0];exact fun _=>zA 0 (by rw[ho,hv];simp)
    .have hv:j9 p (n+1) (.mk 3 id kids)=false:=by cases kids<;>simp[j9,hf,s4,h0]
     have g0:f.kind≠0:=fun e=>h0 (.inl e)
     have g1:f.kind≠1:=fun e=>h0 (.inr e)
     simp[bL,hf,zK,g0,g1];exact zA 0 (by rw[ho,hv];simp)
  .by_cases h0:k=0\/k=1
   .by_cases hid:id=Id.zero
    .subst hid;have hv:j9 p (n+1) (.mk k Id.zero kids)=decide (kids.length=0):=by cases kids<;>simp[j9,h2,h3,h0]
     rcases h0 with rfl|rfl
     all_goals
      simp[zB,zN,hi24];exact fun _=>zA 0 (by rw[ho,hv];simp)
    .have hv:j9 p (n+1) (.mk k id kids)=false:=by simp only[j9,Typ.k_mk,Typ.id_mk,Typ.kids_mk,h2,h3,if_false];simp[hid]
     rcases h0 with rfl|rfl
     all_goals
      simp[zB,zN,hi24,hid];exact zA 0 (by rw[ho,hv];simp)
   .have hv:j9 p (n+1) (.mk k id kids)=false:=by simp only[j9,Typ.k_mk,Typ.id_mk,Typ.kids_mk,h2,h3,if_false];simp[h0]
    have g0:k≠0:=fun e=>h0 (.inl e)
    have g1:k≠1:=fun e=>h0 (.inr e)
    simp[zB,zN,hi24,g0,g1,h2,h3];exact zA 0 (by rw[ho,hv];simp)
 .have:i=25:=by omega
  subst this;simp;exact zA 0 (by rw[ho];simp[j9])
@[simp]theorem qH1{f:Nat}{o:KOp}{env:Env}(h1:6<f)(h2:f<1000):cQ f o env=True:=by
 unfold cQ;split
 .omega
 .omega
 .rw[if_neg (by omega),if_neg (by omega),if_neg (by omega)]
variable{P:Program}
@[simp]theorem qCk{Qd:Value->St->Prop}{f d l:Nat}{zs:wL}{K':wK}{env:Env} {U:St}:jX P Qd f K' (.alr (some d) l zs) env U = wpO P cW K' (.alr (some d) l zs) env U:=by simp[jX,KOp.lite,KOp.keeps]
@[simp]theorem qKe{d l:Nat}{zs:wL}{Qp:Value->wK}{K':wK}{env:Env} {U:St}:wpO P Qp K' (.alr (some d) l zs) env U = (match U[l]? with
 |some .rsv=>K' (env.put (some d) (.ptr l 0)) (U.set l (.box (zs.map jJ)))
 |_=>False):=rfl
def k_(l:wA):Option wD:=some (l.zipIdx.map fun p=>(p.2,p.1))
def qFD:Nat->Option wD:=fun|17=>k_ [0,0,1,1,1,1,7,0,0,0,304,0,0]|_=>none
abbrev bR:FuncId:=85
def cN(hs:wP)(own:Int)(f:FuncId)(m:Mk)(args:wE)(env:wJ)(t:Typ)(c:Int):Prop :=
 ∃(e:Exp) (m':Mk),my f args (mkS m) (.agg (zJ e)) (mkS m')/\Adv m m' c/\WT hs own env e t/\Seg m.temp m'.temp (tmps e)/\e.num0
def dV(hs:wP)(R:Nat)(c depth:Int)(Q:Nat->Prop)(len:Nat):Prop :=
 ∀(m:Mk) (r:Nat) (t:Typ) (env:wJ),Cx hs R m->Lim m c->TyOk hs r t->Q r->EnvOk hs R m.temp env->0<env.length->env.length<=len ->
  cN hs m.own bR m [.ptr 0 0,.agg (zB t),.sl env.length (qC env),int depth] env t c
theorem Adv.zero(m:Mk):Adv m m 0:=⟨rfl,rfl,rfl,rfl,rfl,by omega,by omega,by omega,by omega,by omega,by omega,by omega,by omega⟩
theorem oG(e:Exp):∀es:wG,yQ (es++[e])=yQ es++tmps e
 |[]=>by simp[yQ]
 |x::es=>by simp[yQ,oG e es]
variable{depth:Int}{Q:Nat->Prop}
theorem zN9{len:Nat}(hk:dV hs R c depth Q len)(hc:0<=c)(env:wJ)(h1:0<env.length)(h2:env.length<=len) :
 ∀(ts:wS) (m:Mk),Cx hs R m->Lim m (ts.length*c)->(∀t∈ts,∃r,TyOk hs r t/\Q r)->EnvOk hs R m.temp env ->
  ∃(es:wG) (ms:Nat->Mk),es.length=ts.length/\ms 0=m/\(∀j≤ts.length,Adv m (ms j) (j*c))/\Seg m.temp (ms ts.length).temp (yQ es) /\
   ∀(j:Nat) (hj:j<es.length) (hj':j<ts.length),my bR [.ptr 0 0,.agg (zB ts[j]),.sl env.length (qC env),int depth] (mkS (ms j)) (.agg (zJ es[j])) (mkS (ms (j+1)))/\WT hs m.own env es[j] ts[j]/\es[j].num0:=by
 intro ts;induction ts using m9 with
 |nil =>
  intro m hx hl ht he;refine⟨[],fun _=>m,rfl,rfl,fun j hj=>?_,Seg.nil,fun j hj=>by simp at hj⟩;have:j=0:=by simpa using hj
  subst this;exact(Adv.zero m).mono (by simp)
 |snoc ts t ih =>
  intro m hx hl ht he;have e1:((ts++[t]).length:Int)*c=ts.length*c+c:=by rw[jA5,jAz,jDa,Int.add_mul];simp
  rw[e1]at hl;have hz:0<=(ts.length:Int)*c:=Int.mul_nonneg (by omega) hc;obtain⟨es,ms,q1,q2,q3,q4,q5⟩:=ih m hx (hl.mono (by omega)) (fun t' ht'=>ht t' (by simp[ht'])) he;have a1:=q3 ts.length (jA _);obtain⟨r,hr,hQ⟩:=ht t (by simp);obtain⟨e,m',g1,g2,g3,g4,g5⟩:=hk (ms ts.length) r t env (hx.adv a1) (Lim.adv (c:=ts.length*c) (c':=c) hl a1) hr hQ (he.mono a1.temp1) h1 h2;refine⟨es++[e],fun j=>if j<=ts.length then ms j else m',by simp[q1],by simp[q2],fun j hj=>?_,?_,fun j hj hj'=>?_⟩
  .by_cases hle:j<=ts.length
   .simp only[hle,if_true];exact q3 j hle
   .have:j=ts.length+1:=by simp at hj;omega
    subst this;simp only[show ¬(ts.length+1<=ts.length) by omega,if_false];have:=a1.trans g2;rw[show (((ts.length+1:Nat):Int))*c=ts.length*c+c by rw[jDa,Int.add_mul];simp];exact this
  .rw[oG];simp only[jA5,jAz,show ¬(ts.length+1<=ts.length) by omega,if_false];exact q4.append g4 a1.temp1 g2.temp1
  .simp only[jA5,jAz]at hj hj';by_cases hlt:j<ts.length
   .have hjes:j<es.length:=by omega
    rw[jBn hjes,jBn hlt];simp only[show j<=ts.length by omega,if_true,show j+1<=ts.length by omega];exact q5 j hjes hlt
   .have:j=ts.length:=by omega
    subst this;rw[jC1 (by omega),jC1 (by omega)];simp only[jA,if_true,show ¬(ts.length+1<=ts.length) by omega,if_false,jBx,q1,jCw];rw[a1.own]at g3;exact⟨g1,g3,g5⟩
theorem zSc{len:Nat}(hk:dV hs R c depth Q len)(hc:0<=c)(env:wJ)(h1:0<env.length)(h2:env.length<=len)(t:Typ){r:Nat}(hr:TyOk hs r t)(hQ:Q r)
 (m:Mk)(hx:Cx hs R m)(he:EnvOk hs R m.temp env):∀(k:Nat),Lim m (k*c) ->
  ∃(es:wG) (ms:Nat->Mk),es.length<=k/\ms 0=m/\(∀j≤es.length,Adv m (ms j) (j*c))/\Seg m.temp (ms es.length).temp (yQ es)/\(∀j<es.length,0<(ms j).left)/\(es.length=k\/(ms es.length).left<=0) /\
   ∀(j:Nat) (hj:j<es.length),my bR [.ptr 0 0,.agg (zB t),.sl env.length (qC env),int depth] (mkS (ms j)) (.agg (zJ es[j])) (mkS (ms (j+1)))/\WT hs m.own env es[j] t/\es[j].num0:=by
 intro k;induction k with
 |zero =>
  intro hl;refine⟨[],fun _=>m,jA _,rfl,fun j hj=>?_,Seg.nil,fun j hj=>by simp at hj,.inl rfl,fun j hj=>by simp at hj⟩;have:j=0:=by simpa using hj
  subst this;exact(Adv.zero m).mono (by simp)
 |succ k ih =>
  intro hl;have e1:(((k+1:Nat):Int))*c=k*c+c:=by rw[jDa,Int.add_mul];simp
  rw[e1]at hl;obtain⟨es,ms,q0,q2,q3,q4,q6,q7,q5⟩:=ih (hl.mono (by omega));by_cases hdone:es.length=k/\0<(ms es.length).left
  .obtain⟨hek,hleft⟩:=hdone;have a1:=q3 es.length (jA _);rw[hek]at a1;obtain⟨e,m',g1,g2,g3,g4,g5⟩:=hk (ms k) r t env (hx.adv a1) (Lim.adv (c:=k*c) (c':=c) hl a1) hr hQ (he.mono a1.temp1) h1 h2;refine⟨es++[e],fun j=>if j<=k then ms j else m',by simp[hek],by simp[q2],fun j hj=>?_,?_,fun j hj=>?_,.inl (by simp[hek]),fun j hj=>?_⟩
   .simp only[jA5,jAz,hek]at hj;by_cases hle:j<=k
    .simp only[hle,if_true];exact q3 j (by omega)
    .have:j=k+1:=by omega
     subst this;simp only[show ¬(k+1<=k) by omega,if_false];rw[e1];exact a1.trans g2
   .rw[oG];rw[hek]at q4;simp only[jA5,jAz,hek,show ¬(k+1<=k) by omega,if_false];exact q4.append g4 a1.temp1 g2.temp1
   .simp only[jA5,jAz,hek]at hj;simp only[show j<=k by omega,if_true];by_cases e:j=k
    .subst e;rw[hek]at hleft;exact hleft
    .exact q6 j (by omega)
   .simp only[jA5,jAz,hek]at hj;by_cases hlt:j<k
    .have hjes:j<es.length:=by omega
     rw[jBn hjes];simp only[show j<=k by omega,if_true,show j+1<=k by omega];exact q5 j hjes
    .have:j=k:=by omega
     subst this;rw[jC1 (by omega)];simp only[jA,if_true,show ¬(j+1<=j) by omega,if_false,jBx,hek,jCw];rw[a1.own]at g3;exact⟨g1,g3,g5⟩
  .refine⟨es,ms,by omega,q2,q3,q4,q6,.inr ?_,q5⟩;rcases q7 with q7|q7
   .by_cases h:0<(ms es.length).left
    .exact(hdone ⟨q7,h⟩).elim
    .omega
   .exact q7
def yG(p:Prg)(id:Id):Option (Typ×Typ):=match jH p.defs id with
 |none=>none
 |some d=>if d.kind=5 then (match d.slots with|[s]=>some (s.typ,d.res)|_=>none)else none
def oF(p:Prg)(l:wF)(i:Nat):Bool:=match yG p (l.getD i .zero)with
 |none=>false
 |some a=>decide (i=0)||(match yG p (l.getD (i-1) .zero)with|some b=>y7 a.1 b.2|none=>false)
def gK(p:Prg)(l:wF):Nat->Bool
 | 0=>true
 |n+1=>gK p l n&&oF p l n
def lG(p:Prg)(l:wF):Bool:=gK p l l.length
theorem zB7{p:Prg}{l:wF}{n m:Nat}(hnm:n<=m)(h:gK p l m=true):gK p l n=true:=by
 induction hnm with
 |refl=>exact h
 |step _ ih=>exact ih (by simp only[gK,jA6]at h;exact h.1)
theorem xL{p:Prg}{l:wF}(hi:i<l.length)(h:oF p l i=false):lG p l=false:=by
 cases hp:lG p l with
 |false=>rfl
 |true =>
  have:=zB7 (show i+1<=l.length by omega) hp;simp[gK,h]at this
end Go.Proofs.YtdnelmeboihpkaaGreatDoor
