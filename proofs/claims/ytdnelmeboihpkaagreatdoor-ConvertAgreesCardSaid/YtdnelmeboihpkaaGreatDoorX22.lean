/- The reference's product. -/
import Derived.Test.YtdnelmeboihpkaaGreatDoorX21
set_option linter.unusedVariables false
set_option maxHeartbeats 8000000
set_option maxRecDepth 100000
set_option linter.unusedSimpArgs false
open Go.Proofs.Tryz
namespace Go.Proofs.YtdnelmeboihpkaaGreatDoor
open Go.Abs
def qGd:Nat->Option wD:=fun|13=>some [(0,0),(1,0),(2,0),(3,0),(4,1),(5,1),(7,0),(8,0),(9,1),(10,1),(11,0),(12,1),(13,1),(14,0),(6,0),(15,0),(16,0),(17,0),(18,0)]|_=>none
theorem x6{S:List wI}{c:Nat}(h:c<S.length):qG (S.take (c+1))=qG (S.take c)++[.sl S[c].length (zR S[c])]:=by rw[jA6 h,fI];rfl
theorem zF1(L:List wI)(hL:L.length<=1000000)(hP:∀i,(j3 (L.take i)).length<=1000000):mv 148 [.sl L.length (qG L)] [] (.sl (j3 L).length (qG (j3 L))) []:=by
 refine mj qGd [] [.slot 2] func148 (by kernel_rfl) ?_
 (conv in zV _ _ _ _=>cbv)
 simp;refine qK (S:=Nat) (fun i=>[(0,.sl L.length (qG L)),(3,.sl (j3 (L.take i)).length (qG (j3 (L.take i)))),(4,int i)]) (fun i=>[]) (fun i=>i<=L.length) (fun i=>L.length-i) 0 (by simp)
  (mu [] 0 (by rfl) (by simp)) ?_
 intro i hi;by_cases h:i<L.length
 .have hw:=jZ i (by omega);have htk:j3 (L.take (i+1))=cH (j3 (L.take i)) L[i]:=by rw[jA6 h,tP]
  have hS:(cH (j3 (L.take i)) L[i]).length<=1000000:=by rw[<-htk];exact hP _
  have hPl:∀t∈j3 (L.take i),t.length<=1000000:=fun t ht=>by rw[zHy ht];simp;omega
  have hPn:=hP i;generalize j3 (L.take i)=P at htk hS hPl hPn ⊢;simp[h];intro _;refine qK (S:=Nat) (fun k=>[(0,.sl L.length (qG L)),(3,.sl P.length (qG P)),(4,int i),(5,.row 0 (k*L[i].length)),(6,int k)])
   (fun k=>[.row false 44 1 (k*L[i].length) (qG ((cH P L[i]).take (k*L[i].length)))]) (fun k=>k<=P.length) (fun k=>P.length-k) 0 (by simp)
   ((qS (t:=5) (by simp) 44 1).trans (mu [0] 0 (by rfl) (by simp))) ?_
  intro k hk;by_cases hkP:k<P.length
  .have hwk:=jZ k (by omega);simp[hkP];intro hPm;refine qK (S:=Nat) (fun j=>[(0,.sl L.length (qG L)),(3,.sl P.length (qG P)),(4,int i),(5,.row 0 (k*L[i].length+j)),(6,int k),(7,int j)])
    (fun j=>[.row false 44 1 (k*L[i].length+j) (qG ((cH P L[i]).take (k*L[i].length+j)))]) (fun j=>j<=L[i].length) (fun j=>L[i].length-j) 0 (by simp)
    (mu [0] 0 (by rfl) (by simp)) ?_
   intro j hj;by_cases hjl:j<L[i].length
   .have hgl:k*L[i].length+j<(cH P L[i]).length:=by rw[dJ];have:=jBn L[i].length (Nat.succ_le_of_lt hkP);rw[jBi]at this;omega
    have hge:(cH P L[i])[k*L[i].length+j]=P[k]++[L[i][j]]:=by
     have:=zHG hkP hjl;rw[jA1 hgl]at this
     simpa using this
    have hst:=x6 hgl;rw[hge]at hst;have hPk:=hPl P[k] (jA0 hkP);by_cases hh:P[k]=[]
    .simp[h,hkP,hjl,aO h,aO hkP,qL hjl,hh];intro hm;refine⟨by simp[maxLen],⟨by simp[maxLen];omega,by omega⟩,?_⟩;exact zO (j+1) hjl (by omega) (m_ [0] 1 (by rfl) (by simp[<-jAq,hst,hh]) (by simp[<-jAq,z8 hjl hm]))
    .simp[h,hkP,hjl,aO h,aO hkP,qL hjl,hh];intro hm;refine⟨⟨by simp[maxLen];omega,by omega⟩,⟨by simp[maxLen];omega,by omega⟩,⟨by simp[maxLen];omega,by omega⟩,?_⟩;exact zO (j+1) hjl (by omega) (m_ [0] 1 (by rfl) (by simp[<-jAq,hst]) (by simp[<-jAq,z8 hjl hm]))
   .have hjj:j=L[i].length:=by omega
    subst hjj;simp[aO h,h];intro hm;exact zO (k+1) hkP (by omega) (mu [0] 0 (by rfl) (by simp[jBi,hwk]))
  .have hkk:k=P.length:=by omega
   subst hkk;have hfull:(cH P L[i]).take (P.length*L[i].length)=cH P L[i]:=jA9 (by rw[dJ];exact jA _);simp;intro hm;exact zO (i+1) h (by omega) (mu [] 1 (by rfl) (by simp[htk,dJ,hw,hfull]))
 .have hi:i=L.length:=by omega
  subst hi;have hfull:L.take L.length=L:=jA9 (jA _);simp;exact fun _=>zA 0 (by simp)
def yF(p:Prg)(t:Typ)(m:Int):wI×Int:=if m<0\/64<m then ([],1)else if (size p m t).e≠0 then ([],(size p m t).e)else (cM zA0 (aC p m 24 t),0)
theorem zQr(p:Prg)(hs:Sml p)(t:Typ)(m:Int):mv 34 [.agg (zP p),.agg (zB t),int m] [] (.tup [.sl (yF p t m).1.length (zR (yF p t m).1),int (yF p t m).2]) []:=by
 refine ml [] [.slot 6,.slot 7] func34 (by kernel_rfl) ?_
 (conv in kq _ _=>cbv)
 by_cases h1:m<0
 .have e:yF p t m=([],1):=by simp[yF,h1]
  simp[h1,e];exact zA 1 (by simp)
 by_cases h2:64<m
 .have e:yF p t m=([],1):=by simp[yF,h2]
  simp[h1,h2,e];exact zA 1 (by simp)
 simp[h1,h2,zP,zB];refine mq (zM8 p hs m (by omega) t) (by simp[zP,zB,szR]) ?_;by_cases h3:(size p m t).e=0
 .have e:yF p t m=(cM zA0 (aC p m 24 t),0):=by simp[yF,h1,h2,h3]
  simp[szR,h3,e];refine mn (zYd p hs m (by omega) 24 t h3) [] (by simp[zP,zB]) ?_;simp;have hl:=fG p m (by omega) 24 t h3;have hle:=bS p m (by omega) 24 t h3;refine mn (zLd (aC p m 24 t) (by omega)) [3] (by simp) ?_;simp;exact zA 1 (by simp[cM])
 .have e:yF p t m=([],(size p m t).e):=by simp[yF,h1,h2,h3]
  simp[szR,h3,e];exact zA 1 (by simp)
theorem zJw(a b:Val):gG a b=0↔a=b:=⟨mE a b,fun h=>by subst h;exact mD a⟩
def iA(p:Prg)(a b:wF)(v:Val)(fuel:Int):Bool:=decide ((qQ p a v fuel).2.2=(qQ p b v fuel).2.2)&&decide (gG (qQ p b v fuel).1 (qQ p a v fuel).1=0)
def zDr(p:Prg)(all:List wF)(v:Val)(fuel:Int):Option wF:=all.tail.find? fun q=>!iA p (all.headD []) q v fuel
def lE(p:Prg)(all:List wF)(fuel:Int):List Val->Option (Val×wF)
 |[]=>none
 |v::l=>match zDr p all v fuel with
  |some q=>some (v,q)
  |none=>lE p all fuel l
def cQ(p:Prg)(a b:Id)(most fuel:Int):Val×List wF×Int :=
 if bQ p a=true/\bQ p b=true then
  if (yF p (yI a) most).2≠0 then (vz,[],(yF p (yI a) most).2)
  else match lE p (yM p a b) fuel (yF p (yI a) most).1 with
   |some x=>(x.1,[(yM p a b).headD [],x.2],19)
   |none=>(vz,[],0)
 else (vz,[],6)
def iM(r:Val×List wF×Int):A:=.tup [.agg (zF r.1),.sl r.2.1.length (jR r.2.1),int r.2.2]
theorem zDi(p:Prg)(all:List wF)(fuel:Int){l:wI}{i:Nat}(h:i<l.length):lE p all fuel (l.drop i)=match zDr p all l[i] fuel with
 |some q=>some (l[i],q)
 |none=>lE p all fuel (l.drop (i+1)):=by
 rw[jAo h];rfl
def zXd:Nat->Option wD:=fun|19=>k_ [0,0,2,2,0,0,0,0,0]|_=>none
variable{p:Prg}{hs:wP}
theorem zJc(hf:Fit p hs)(hsm:Sml p)(a b:Id)(h64:(yM p a b).length<=64)(hql:∀q∈yM p a b,q.length<=1000000)(most fuel:Int)(h0 : -90000<=fuel)(h1:fuel<=90000)
 (hv:∀v∈(yF p (yI a) most).1,qN v<=256/\aD v<=24) :
 mv 26 [.agg (zP p),.agg (zK a),.agg (zK b),int most,int fuel] [] (iM (cQ p a b most fuel)) []:=by
 have hP:=eP p;have hpa:=zEm hf a b h64;refine mj zXd [] [.cell 10 3 true,.slot 11,.slot 12] func26 (by kernel_rfl) ?_
 (conv in zV _ _ _ _=>cbv)
 simp[hP,zK];refine zU hpa (by simp[hP,zK]) (by unfold eE;split<;>simp) ?_;by_cases hst:bQ p a=true/\bQ p b=true
 .have hpr:eE p a b=.tup [.sl (yM p a b).length (jR (yM p a b)),int 0]:=by unfold eE;rw[if_pos hst]
  rw[hpr];have hval:=zQr p hsm (yI a) most;simp;refine mq hval (by simp[hP,zK,zB,yI,Typ.k,Typ.id,Typ.kids]) ?_;by_cases he:(yF p (yI a) most).2=0
  .have hres:cQ p a b most fuel=match lE p (yM p a b) fuel (yF p (yI a) most).1 with
    |some x=>(x.1,[(yM p a b).headD [],x.2],19)
    |none=>(vz,[],0):=by
    unfold cQ;rw[if_pos hst,if_neg (by simp[he])]
   rw[hres,he];generalize (yF p (yI a) most).1=L at *
   generalize yM p a b=all at *
   obtain⟨q0,hq0⟩:∃q0,q0=all.headD []:=⟨_,rfl⟩;have hdf:∀v,zDr p all v fuel=all.tail.find? fun q=>!iA p q0 q v fuel:=fun v=>by rw[hq0];rfl
   rw[<-hq0];rw[<-hq0]at hres;have hvz:zF vz=[int 0,int 0,.sl 0 []]:=by simp[zF,vz,Val.k,Val.n,Val.kids]
   simp;intro hmx;refine qK (S:=Nat) (fun i=>[(4,int fuel),(5,.ptr 0 0),(10,.ptr 1 0),(13,.sl all.length (jR all)),(48,.sl L.length (zR L)),(49,int L.length),(50,int i)]) (fun i=>[.box (zP p),.box (zF vz)])
    (fun i=>i<=L.length/\lE p all fuel L=lE p all fuel (L.drop i)) (fun i=>L.length-i) 0 ⟨by omega,by simp⟩
    (mu [0,3] 0 (by rfl) (by simp[hP,hvz])) ?_
   rintro i ⟨hi,hag⟩;by_cases h:i<L.length
   .have hw:=z8 h hmx;have hdr:=zDi p all fuel h;have hvi:=hv L[i] (jA0 h);have hcd:=qL h;have hLne:¬L=[]:=fun e=>by rw[e]at h;simp at h
    generalize L[i]=v at hdr hvi hcd;simp[h,hP,hvz,hcd,hLne];intro hma;refine qK (S:=Nat) (fun k=>[(4,int fuel),(5,.ptr 0 0),(10,.ptr 1 0),(13,.sl all.length (jR all)),(48,.sl L.length (zR L)),(49,int L.length),(50,int i),(17,.ptr 2 0),(18,.ptr 3 0),(19,int (if k=0 then 0 else (qQ p q0 v fuel).2.2)),(54,.sl all.length (jR all)),(55,int all.length),(56,int k)])
     (fun k=>[.box (zP p),.box (zF vz),.box (zF v),.box (zF (if k=0 then vz else (qQ p q0 v fuel).1))])
     (fun k=>k<=all.length/\∀j,0<j->j<k->iA p q0 (all.getD j []) v fuel=true) (fun k=>all.length-k) 0 ⟨by omega,fun j _ hj=>by omega⟩
     (mu [0,1,2,3] 0 (by rfl) (by simp[hP,zF,vz,Val.k,Val.n,Val.kids])) ?_
    rintro k ⟨hk,hsame⟩;by_cases hk2:k<all.length
    .have hfo:=zGR hf all[k] (hql _ (jA0 hk2)) v hvi fuel h0 h1;have hwk:=z8 hk2 hma;have hpd:=eV hk2;have hane:¬all=[]:=fun e=>by rw[e]at hk2;simp at hk2
     have hgd:all.getD k []=all[k]:=by rw[jB7,jA1 hk2];rfl
     unfold fD at hfo;have hgd2:all[k]?.getD []=all[k]:=by rw[jA1 hk2];rfl
     by_cases hk0:k=0
     .subst hk0;have hhd:q0=all[0]:=by rw[hq0];exact by cases all with|nil=>simp at hk2|cons x l=>rfl
      rw[hhd];simp[hP,hvz,hk2,hpd,hane,zF];refine mq hfo (by simp[hP,zF]) ?_;simp[zF];exact zO 1 ⟨hk2,fun j hj0 hj1=>by omega⟩ (by omega) (mu [0,1,2,3] 0 (by rfl) (by simp[hP,zF,vz,Val.k,Val.n,Val.kids,hhd,show IntKind.i64.wrap 1=1 from rfl]))
     .have hk0':¬(k:Int)=0:=by omega
      simp[hP,hvz,hk2,hpd,hane,zF,hk0,hk0'];refine mq hfo (by simp[hP,zF]) ?_;simp[zF,hk0,hk0'];have hse:iA p q0 all[k] v fuel=(decide ((qQ p q0 v fuel).2.2=(qQ p all[k] v fuel).2.2)&&decide (gG (qQ p all[k] v fuel).1 (qQ p q0 v fuel).1=0)):=rfl;have hcm:=zEb (qQ p all[k] v fuel).1 (qQ p q0 v fuel).1;have hdiff:iA p q0 all[k] v fuel=false->lE p all fuel L=some (v,all[k]):=fun hs=>by
       have hd:zDr p all v fuel=some all[k]:=by
        rw[hdf,List.find?_eq_some_iff_getElem];refine⟨by simp[hs],k-1,by simp;omega,?_,fun j hj=>?_⟩
        .simp only[List.getElem_tail]
         congr 1;omega
        .have:=hsame (j+1) (by omega) (by omega);rw[jB7,jA1 (by omega),jB9]at this;simp only[List.getElem_tail];simp[this]
       rw[hag,hdr,hd]
      have hh0:0<all.length:=by omega
      have hpd0:=eV hh0;have hhd:q0=all[0]:=by rw[hq0];cases all with|nil=>simp at hk2|cons x l=>rfl
      rw[List.drop_zero]at hpd0;generalize hx0:(qQ p q0 v fuel).1=x0 at *
      generalize he0:(qQ p q0 v fuel).2.2=e0 at *
      generalize hxk:(qQ p all[k] v fuel).1=xk at *
      generalize hek:(qQ p all[k] v fuel).2.2=ek at *
      by_cases hee:ek=e0
      .by_cases hcc:gG xk x0=0
       .have hs:iA p q0 all[k] v fuel=true:=by rw[hse];simp[hee,hcc]
        simp[hee];refine mq hcm (by simp[zF]) ?_;simp[hcc];exact zO (k+1) ⟨hk2,fun j hj0 hj1=>by
         by_cases e:j=k
         .subst e;first|(rw[hgd];exact hs)|(rw[hgd2];exact hs)
         .exact hsame j hj0 (by omega)⟩ (by omega) (mu [0,1,2,3] 0 (by rfl) (by simp[hP,zF,vz,Val.k,Val.n,Val.kids,hk0,hx0,hvz,hwk,he0]))
       .have hs:=hdiff (by rw[hse];simp[hcc]);rw[hs];simp[hee];refine mq hcm (by simp[zF]) ?_;simp[hcc,hane,hh0,hpd0];exact zA 0 (by simp[iM,zF,gW,hhd])
      .have hs:=hdiff (by rw[hse];simp[Ne.symm hee]);rw[hs];simp[hee,hane,hh0,hpd0];exact zA 0 (by simp[iM,zF,gW,hhd])
    .have hke:k=all.length:=by omega
     subst hke;have hd:zDr p all v fuel=none:=by
      rw[hdf,jCx];intro q hq;obtain⟨j,hj,rfl⟩:=jAn hq;have hj2:j+1<all.length:=by simp at hj;omega
      have:=hsame (j+1) (by omega) hj2;rw[jB7,jA1 hj2,jB9]at this;simp only[List.getElem_tail];simp[this]
     rw[hd]at hdr;simp[hP,hvz];exact zO (i+1) ⟨h,by rw[hag,hdr]⟩ (by omega) (mu [0,1] 0 (by rfl) (by simp[hP,hvz,hw]))
   .have hie:i=L.length:=by omega
    subst hie;rw[List.drop_length]at hag;simp only[lE]at hag;rw[hag];simp[hP,hvz];exact zA 0 (by simp[iM,hvz])
  .have hres:cQ p a b most fuel=(vz,[],(yF p (yI a) most).2):=by unfold cQ;rw[if_pos hst,if_pos he]
   rw[hres];simp[he];exact zA 0 (by simp[iM,zF,vz,Val.k,Val.n,Val.kids])
 .have hpr:eE p a b=.tup [.sl 0 [],int 6]:=by unfold eE;rw[if_neg hst]
  have hres:cQ p a b most fuel=(vz,[],6):=by unfold cQ;rw[if_neg hst]
  rw[hpr,hres];simp;exact zA 0 (by simp[iM,zF,vz,Val.k,Val.n,Val.kids])
inductive OneOf:List Val->List (List Val)->Prop
 |nil:OneOf [] []
 |cons {v:Val} {x:List Val} {t:List Val} {l:List (List Val)} (h:v∈x) (ht:OneOf t l):OneOf (v::t) (x::l)
theorem zJH:∀(l acc:List wI) (t:wI),t∈l.foldl cH acc->∃h∈acc,∃s,t=h++s/\OneOf s l
 |[],acc,t,ht=>⟨t,ht,[],by simp,.nil⟩
 |a::l,acc,t,ht=>by obtain⟨h,hh,s,rfl,hs⟩:=zJH l (cH acc a) t ht;simp only[cH,List.mem_flatMap,jAd]at hh;obtain⟨g,hg,x,hx,rfl⟩:=hh;exact⟨g,hg,x::s,by simp,.cons hx hs⟩
theorem zKH{l:List wI}{t:wI}(h:t∈j3 l):OneOf t l:=by obtain⟨g,hg,s,rfl,hs⟩:=zJH l [[]] t h;simp at hg;subst hg;simpa using hs
inductive BndB(N:Nat):List Sz->List (List Val)->Prop
 |nil:BndB N [] []
 |cons {k:Sz} {x:List Val} {z:List Sz} {l:List (List Val)} (h:∀v∈x,(qN v:Int)<=k.b/\aD v<=N) (h0:0<=k.b) (hz:BndB N z l):BndB N (k::z) (x::l)
def zG0:List Sz->Int
 |[]=>0
 |k::z=>k.b+zG0 z
theorem zI4{N:Nat}:∀{z:List Sz} {l:List wI} {t:wI},BndB N z l->OneOf t l->(j5 t:Int)<=zG0 z/\aQ t<=N
 |_,_,_,.nil,.nil=>by simp[j5,aQ,zG0]
 |_,_,_,.cons h _ hz,.cons hv ht=>by have h1:=zI4 hz ht;have h2:=h _ hv;simp only[j5,aQ,zG0];omega
theorem zSY:∀(z:List Sz) (a b:Int),(iJ a b z).e=0->(iJ a b z).b=b+zG0 z
 |[],a,b,_=>by simp[iJ,zG0]
 |k::z,a,b,h=>by
  simp only[iJ]at h⊢;split at h
  .simp at h
  .rename_i hn;rw[if_neg hn,zSY z _ _ h];simp only[zG0];omega
theorem zN9:∀(z:List Sz) (a b:Int),b<=(gD a b z).b/\∀k∈z,1+k.b<=(gD a b z).b
 |[],a,b=>by simp[gD]
 |k::z,a,b=>by
  have:=zN9 z (a+k.a) (max b (1+k.b));simp only[gD];refine⟨by omega,fun x hx=>?_⟩;rcases jA3.1 hx with rfl|hx
  .omega
  .exact this.2 x hx
theorem zGC{N:Nat}:∀{z:List Sz} {l:List wI} (i:Int),BndB N z l->∀v∈jM i l,∃k∈z,(qN v:Int)<=1+k.b/\aD v<=N+1
 |_,_,i,.nil,v,h=>by simp[jM]at h
 |_,_,i,.cons (k:=k) h h0 hz,v,hv=>by
  simp only[jM,jAc,jAd]at hv;rcases hv with ⟨x,hx,rfl⟩|hv
  .have:=h x hx;refine⟨k,by simp,?_⟩;have e1:qN (.mk 3 i [x])=1+j5 [x]:=lQ _;have e2:aD (.mk 3 i [x])=aQ [x]+1:=iX _;have e3:j5 [x]=qN x+0:=by simp only[j5]
   have e4:aQ [x]=max (aD x) 0:=by simp only[aQ]
   rw[e1,e2,e3,e4];omega
  .obtain⟨k',hk',h'⟩:=zGC (i+1) hz v hv;exact⟨k',by simp[hk'],h'⟩
theorem zN7{N:Nat}{k:Sz}{x:wI}(h:∀v∈x,(qN v:Int)<=k.b/\aD v<=N)(h0:0<=k.b):∀j,BndB N (List.replicate j k) (List.replicate j x)/\zG0 (List.replicate j k)=j*k.b
 | 0=>⟨.nil,by simp[zG0]⟩
 |j+1=>by
  have:=zN7 h h0 j;refine⟨.cons h h0 this.1,?_⟩;simp only[List.replicate_succ,zG0,this.2];have:((j+1:Nat):Int)*k.b=j*k.b+k.b:=by rw[jD9,Int.add_mul];simp
  omega
theorem zNL{k:Sz}(h:(cI k).e=0)(ha:(cI k).a≠0):(cI k).b=k.b:=by
 unfold cI at *
 split at h
 .rename_i h1;simp at h;exact(h1 h).elim
 .split at h
  .simp at h
  .rename_i h1 h2;rw[if_neg h1,if_neg h2]at ha ⊢;simp only at ha ⊢;rw[if_neg ha]
theorem zG5{p:Prg}{m:Int}{n:Nat}(hm:0<=m/\m<=64)(ih:∀t,(jI p m n t).e=0->∀v∈aC p m n t,(qN v:Int)<=(jI p m n t).b/\aD v<=n):∀l:List Slt,(∀s∈l,(jI p m n s.typ).e=0) ->
 BndB n (l.map fun s=>jI p m n s.typ) (l.map fun s=>aC p m n s.typ)
 |[],_=>.nil
 |s::l,h=>.cons (ih _ (h s (by simp))) ((bS p m hm n s.typ) (h s (by simp))).2.2.1 (zG5 hm ih l fun x hx=>h x (by simp[hx]))
theorem zEr(p:Prg)(m:Int)(hm:0<=m/\m<=64):∀(n:Nat) (t:Typ),(jI p m n t).e=0->∀v∈aC p m n t,(qN v:Int)<=(jI p m n t).b/\aD v<=n
 | 0,t,_,v,hv=>by simp[aC]at hv
 |n+1,t,h,v,hv=>by
  have ih:=zEr p m hm n;have hlen:=fG p m hm.1 (n+1) t h;have hpos:0<(aC p m (n+1) t).length:=List.length_pos_of_mem hv;have ha:(jI p m (n+1) t).a≠0:=by omega
  clear hlen hpos;unfold jI at h ha ⊢;unfold aC at hv;by_cases hvt:validT p t=false
  .rw[if_pos hvt]at h;simp at h
  .rw[if_neg hvt]at h ha ⊢;by_cases h0:t.k=0
   .rw[if_pos h0]at hv ⊢;simp only[fF,jAd]at hv;obtain⟨i,_,rfl⟩:=hv;simp[lQ,iX,Val.kids,j5,aQ]
   .rw[if_neg h0]at h ha hv ⊢;by_cases h1:t.k=1
    .rw[if_pos h1]at hv ⊢;simp only[jA3,jB,or_false]at hv;rcases hv with rfl|rfl<;>simp[lQ,iX,Val.kids,j5,aQ]
    .rw[if_neg h1]at h ha hv ⊢;by_cases h2:t.k=2
     .rw[if_pos h2]at h ha hv ⊢;rw[zNL h ha];have hfe:=pH h;have ih2:=ih (t.kids.headD Typ.zero);have hok:=bS p m hm n (t.kids.headD Typ.zero);generalize jI p m n (t.kids.headD Typ.zero)=kz at *
      generalize aC p m n (t.kids.headD Typ.zero)=X at *
      have hle:=hfe.1;have hke:kz.e=0:=by
       unfold bP at hle;split at hle
       .rename_i hh;simpa using hle
       .rename_i hh;simpa using hh
      obtain⟨_,_,b0,b1⟩:=hok hke;simp only[zFc,List.mem_flatMap,jAd,jBx]at hv;obtain⟨j,hj,tt,htt,rfl⟩:=hv;have hr:=zN7 (N:=n) (fun v hv=>ih2 hke v hv) b0 j;have ho:=zI4 hr.1 (zKH htt);rw[hr.2]at ho;have hj2:j=0\/(j=1/\1<=m)\/(j=2/\2<=m):=by split at hj<;>omega
      simp only[lQ,iX,Val.kids];unfold bP;rw[if_neg (by simp[hke])];refine⟨?_,by omega⟩;rcases hj2 with rfl|⟨rfl,hj2⟩|⟨rfl,hj2⟩
      .split
       .simp only;omega
       .split<;>simp only<;>omega
      .rw[if_neg (by omega)];split<;>simp only<;>omega
      .rw[if_neg (by omega),if_neg (by omega)];simp only;omega
     .rw[if_neg h2]at h ha hv ⊢;rw[zNL h ha];have e1:=(pH h).1;have e3:lW ((dfn p t.id).slots.map fun s=>jI p m n s.typ)=0:=by
       by_cases hz:lW ((dfn p t.id).slots.map fun s=>jI p m n s.typ)=0
       .exact hz
       .exact absurd e1 (by simp[yQ,hz])
      have hb:=zG5 hm ih (dfn p t.id).slots (fun s hs=>fJ e3 _ (jAd.2 ⟨s,hs,rfl⟩));have hvt2:validT p t=true:=by simpa using hvt
      have e5:=oU hvt2 h0 h1 h2;unfold iG at hv;rcases e5 with e5|e5
      .rw[if_pos e5]at hv;have ee:yQ (decide ((dfn p t.id).kind=0)) ((dfn p t.id).slots.map fun s=>jI p m n s.typ)=iJ 1 1 ((dfn p t.id).slots.map fun s=>jI p m n s.typ):=by simp[yQ,e3,e5]
       rw[ee]at e1 ⊢;rw[zSY _ _ _ e1];simp only[gP,jAd]at hv;obtain⟨tt,htt,rfl⟩:=hv;have ho:=zI4 hb (zKH htt);simp only[lQ,iX,Val.kids];omega
      .rw[if_neg (by omega),if_pos e5]at hv;have ee:yQ (decide ((dfn p t.id).kind=0)) ((dfn p t.id).slots.map fun s=>jI p m n s.typ)=gD 0 1 ((dfn p t.id).slots.map fun s=>jI p m n s.typ):=by simp[yQ,e3,e5]
       rw[ee];obtain⟨k,hk,h3,h4⟩:=zGC 0 hb v hv;have:=(zN9 ((dfn p t.id).slots.map fun s=>jI p m n s.typ) 0 1).2 k hk;omega
theorem zCf(p:Prg)(t:Typ)(m:Int):∀v∈(yF p t m).1,qN v<=256/\aD v<=24:=by
 intro v hv;unfold yF at hv;split at hv
 .simp at hv
 .rename_i hm;split at hv
  .simp at hv
  .rename_i he;have he':(size p m t).e=0:=by simpa using he
   simp only at hv;have hv2:v∈aC p m 24 t:=(List.mergeSort_perm _ _).mem_iff.1 hv;have:=zEr p m (by omega) 24 t he' v hv2;have hb:=(bS p m (by omega) 24 t he').2.2.2;omega
theorem zOX(l:wA)(x y:Nat):l.foldl (· * ·) (x*y)=x*l.foldl (· * ·) y:=by
 induction l generalizing x y with
 |nil=>rfl
 |cons a l ih=>simp only[jBh,Nat.mul_assoc,ih]
theorem zH1:∀(l:List wI) (z:List Sz) (a b:Int),z.map (·.a)=l.map (fun x=>(x.length:Int))->(iJ a b z).e=0->a<=4096->∀i,a*(((l.take i).map List.length).foldl (· * ·) 1:Nat)<=4096
 |[],_,a,b,_,_,ha,i=>by simpa using ha
 |x::l,z,a,b,_,_,ha,0=>by simpa using ha
 |x::l,k::z,a,b,h,he,ha,i+1=>by
  simp only[jAg,jBb]at h;simp only[iJ]at he;split at he
  .simp at he
  .rename_i hn;have:=zH1 l z _ _ h.2 he (by omega) i;have h2:=zOX ((l.take i).map List.length) x.length 1;rw[Nat.mul_one]at h2;simp only[jC8,jAg,jBh,Nat.one_mul,h2];rw[Int.natCast_mul,<-Int.mul_assoc,<-h.1];exact this
 |_::_,[],_,_,h,_,_,_=>by simp at h
theorem zF0(l:List wI)(i:Nat):(j3 (l.take i)).length=((l.take i).map List.length).foldl (· * ·) 1:=by rw[j3,tO];simp
theorem zPV(p:Prg)(hL:p.defs.length<=1000000)(hs:Sml p)(m:Int)(hm:0<=m/\m<=64):∀(n:Nat) (t:Typ),(jI p m n t).e=0->mv 105 [.agg (zP p),.agg (zB t),int m] [] (.sl (aC p m n t).length (zR (aC p m n t))) []:=by
 intro n;induction n with
 |zero =>
  intro t h;unfold jI at h;split at h<;>simp at h
 |succ n ih =>
  intro t h;have hlen:=fG p m hm.1 (n+1) t h;have hle:=bS p m hm (n+1) t h;refine ml [] [.slot 6] func105 (by kernel_rfl) ?_
  (conv in kq _ _=>cbv)
  unfold jI at h;split at h
  .simp at h
  rename_i hv;have hv:validT p t=true:=by simpa using hv
  by_cases h0:t.k=0
  .have ha:aC p m (n+1) t=fF m:=by rw[aC,if_pos h0]
   rw[ha];have hli:(fF m).length=(2*m+1).toNat:=by simp[fF]
   have hw0:=zY (0-m) (by omega);have hw0':IntKind.i64.wrap (-m) = -m:=IntWalk.i64_in _ (by omega);simp[zP,zB,h0,hw0,hw0'];refine qK (S:=Nat) (fun j=>[(2,int m),(7,.row 0 j),(8,int (j-m))])
    (fun j=>[.row false 46 3 j (zR ((fF m).take j))])
    (fun j=>(j:Int)<=2*m+1) (fun j=>(2*m+1).toNat-j) 0 (by simp;omega)
    ((qS (t:=7) (by simp) 46 3).trans (mu [2] 0 (by rfl) (by simp))) ?_
   intro j hj;by_cases hjl:(j:Int)-m<=m
   .have htk:=zHk (m:=m) (j:=j) (by omega);have hw1:=zY ((j:Int)-m+1) (by omega);have hjx:j<=(fF m).length:=by omega
    simp[hjl,hw1];refine⟨⟨by simp[maxLen];omega,by omega⟩,?_⟩;exact zO (j+1) (by omega) (by omega) (m_ [0] 0 (by rfl) (by simp[htk,Val.k,Val.n,Val.kids]) (by simp;omega))
   .have hjj:(j:Int)=2*m+1:=by omega
    have hjn:j=(fF m).length:=by omega
    have htk:(fF m).take j=fF m:=by rw[hjn];exact jA9 (jA _)
    simp[hjl,htk];exact zA 1 (by simp[hjn])
  by_cases h1:t.k=1
  .have ha:aC p m (n+1) t=[.mk 1 0 [],.mk 1 1 []]:=by rw[aC,if_neg h0,if_pos h1]
   rw[ha];simp[zP,zB,h1];exact zA 1 (by simp[Val.k,Val.n,Val.kids])
  by_cases h2:t.k=2
  .obtain⟨x,hx⟩:=pQ hv h2;rw[if_neg h0,if_neg h1,if_pos h2,hx]at h;obtain⟨e1,_,_⟩:=pH h;have e3:(jI p m n x).e=0:=by
    by_cases hz:(jI p m n x).e=0
    .exact hz
    .exact absurd e1 (by rw[jCy,bP,if_pos hz];exact hz)
   have ha:aC p m (n+1) t=j4 (aC p m n x) ((if 2<m then 2 else m)+1).toNat:=by rw[aC,if_neg h0,if_neg h1,if_pos h2,hx];rfl
   have hex:=bS p m hm n x e3;have hel:=fG p m hm.1 n x e3;have ih:=ih x e3;rw[ha]at hlen ⊢;generalize aC p m n x=X at ih hel hlen;simp[zP,zB,h2,hx];refine z7 ih (by simp[zP,zB,qI]) (by simp) ?_;obtain⟨K,hK,hK2⟩:∃K:Nat,(if 2<m then 2 else m)+1=(K:Int)/\K<=3:=⟨((if 2<m then 2 else m)+1).toNat,by split<;>omega,by split<;>omega⟩;rw[hK]at hlen ⊢;simp only[jCl]at hlen ⊢;have hW:(j4 X K).length<=4096:=by omega
   simp;refine qK (S:=Nat) (fun j=>[(2,int m),(7,.row 0 (j4 X j).length),(9,.sl X.length (zR X)),(10,.row 1 j),(11,int j)])
    (fun j=>[.row false 46 3 (j4 X j).length (zR ((j4 X K).take (j4 X j).length)),.row true 44 1 j (qG (List.replicate j X))])
    (fun j=>j<=K) (fun j=>K-j) 0 (by simp)
    ((((qS (t:=7) (by simp) 46 3).trans (qS (t:=10) (by simp) 44 1)).trans (zTF (l:=3) rfl)).trans (mu [2,3] 0 (by rfl) (by simp[j4]))) ?_
   intro j hj;by_cases hjl:j<K
   .have hw4:=jZ j (by omega);have hjm:(j:Int)<=(if 2<m then 2 else m):=by omega
    simp[hjm];refine zLD (l:=1) rfl ?_;have hPj:∀i,(j3 ((List.replicate j X).take i)).length<=1000000:=fun i=>by
     rw[List.take_replicate];have h1:min i j<K:=by omega
     have hc1:(j4 X (min i j+1)).length=(j4 X (min i j)).length+(j3 (List.replicate (min i j) X)).length:=by rw[mY];simp
     obtain⟨R,hR⟩:=zFb X (min i j+1) (K-(min i j+1));rw[show min i j+1+(K-(min i j+1))=K by omega]at hR;have:=congrArg List.length hR;simp only[jA5]at this;omega
    refine mq (zF1 (List.replicate j X) (by simp;omega) hPj) (by simp) ?_;simp;have hc1:(j4 X (j+1)).length=(j4 X j).length+(j3 (List.replicate j X)).length:=by rw[mY];simp
    have htake:∀i (hi:i<(j3 (List.replicate j X)).length),zR ((j4 X K).take ((j4 X j).length+(i+1)))=zR ((j4 X K).take ((j4 X j).length+i))++zF (.mk 4 0 (j3 (List.replicate j X))[i])/\(j4 X j).length+(i+1)<=(j4 X K).length:=fun i hi=>by obtain⟨q1,q2⟩:=zD5 hjl hi;exact⟨by rw[q1,aY];simp[zF],q2⟩
    have hrep:qG (List.replicate (j+1) X)=qG (List.replicate j X)++[.sl X.length (zR X)]:=by rw[List.replicate_succ',fI];rfl
    generalize j3 (List.replicate j X)=Y at hc1 htake ⊢;refine qK (S:=Nat) (fun i=>[(2,int m),(7,.row 0 ((j4 X j).length+i)),(9,.sl X.length (zR X)),(10,.row 1 j),(11,int j),(12,.sl Y.length (qG Y)),(13,int i)])
     (fun i=>[.row false 46 3 ((j4 X j).length+i) (zR ((j4 X K).take ((j4 X j).length+i))),.row true 44 1 j (qG (List.replicate j X))])
     (fun i=>i<=Y.length) (fun i=>Y.length-i) 0 (by simp)
     (mu [0,1] 0 (by rfl) (by simp)) ?_
    intro i hi;by_cases hiY:i<Y.length
    .obtain⟨htk,hle⟩:=htake i hiY;simp[hiY,aO hiY];intro hYm;refine⟨⟨by simp[maxLen];omega,by omega⟩,?_⟩;exact zO (i+1) hiY (by omega) (mu [0,1] 0 (by rfl) (by simp[htk,zF,Val.k,Val.n,Val.kids,jAq,z8 hiY hYm]))
    .have hii:i=Y.length:=by omega
     subst hii;simp;intro hYm;refine⟨⟨by simp[maxLen];omega,by omega⟩,?_⟩;exact zO (j+1) hjl (by omega) (mu [0,1] 1 (by rfl) (by simp[hc1,hrep,hw4]))
   .have hjj:j=K:=by omega
    subst hjj;have hjm:¬(j:Int)<=(if 2<m then 2 else m):=by omega
    simp[hjm];exact zA 1 (by simp)
  .rw[if_neg h0,if_neg h1,if_neg h2]at h;obtain⟨e1,_,_⟩:=pH h;have ha:aC p m (n+1) t=iG (dfn p t.id).kind ((dfn p t.id).slots.map fun s=>aC p m n s.typ):=by rw[aC,if_neg h0,if_neg h1,if_neg h2]
   have e5:=oU hv h0 h1 h2;have hsl:=hs.dfn t.id;have e3:lW ((dfn p t.id).slots.map fun s=>jI p m n s.typ)=0:=by
    by_cases hz:lW ((dfn p t.id).slots.map fun s=>jI p m n s.typ)=0
    .exact hz
    .exact absurd e1 (by simp[yQ,hz])
   have e4:∀s∈(dfn p t.id).slots,(jI p m n s.typ).e=0:=fun s hs=>fJ e3 _ (List.mem_map_of_mem hs)
   have e6:∀s∈(dfn p t.id).slots,(aC p m n s.typ).length<=4096:=fun s hs=>by have g1:=bS p m hm n s.typ (e4 s hs);have g2:=fG p m hm.1 n s.typ (e4 s hs);omega
   have hmap:=zKx (fun t=>fG p m hm.1 n t) _ e3;have e7:(dfn p t.id).kind=0->(iJ 1 1 ((dfn p t.id).slots.map fun s=>jI p m n s.typ)).e=0:=fun hk0=>by
    have ee:yQ (decide ((dfn p t.id).kind=0)) ((dfn p t.id).slots.map fun s=>jI p m n s.typ)=iJ 1 1 ((dfn p t.id).slots.map fun s=>jI p m n s.typ):=by simp[yQ,e3,hk0]
    rw[ee]at e1;exact e1
   clear e1;rw[ha]at hlen ⊢;obtain⟨k,id,kids⟩:=t;simp only[Typ.k_mk,Typ.id_mk]at h0 h1 h2 hlen hsl e7 e3 e4 e5 e6 hmap ⊢;generalize hD:dfn p id=D at hlen hsl e7 e3 e4 e5 e6 hmap ⊢;rw[dfn]at hD;have hW:(iG D.kind (D.slots.map fun s=>aC p m n s.typ)).length<=4096:=by omega
   have hpart:D.kind=0->∀i,(j3 ((D.slots.map fun s=>aC p m n s.typ).take i)).length<=1000000:=fun hk0 i=>by have:=zH1 _ _ _ _ hmap (e7 hk0) (by decide) i;rw[zF0];omega
   have hih:∀s∈D.slots,mv 105 [.agg (zP p),.agg (zB s.typ),int m] [] (.sl (aC p m n s.typ).length (zR (aC p m n s.typ))) []:=fun s hs=>ih s.typ (e4 s hs)
   have hLl:(D.slots.map fun s=>aC p m n s.typ).length=D.slots.length:=by simp
   have hLg:∀i (h:i<D.slots.length),(D.slots.map fun s=>aC p m n s.typ)[i]?=some (aC p m n D.slots[i].typ):=fun i h=>by simp[h]
   clear e7 h hle hv hmap e3;generalize (D.slots.map fun s=>aC p m n s.typ)=L at hLl hLg hW hlen hpart ⊢;clear hlen;simp[zP,zB,h0,h1,h2];refine mq (i4 p hL id) (by simp[zP,zK,bR]) ?_;simp[bR,hD,zJ];rcases e5 with e5|e5
   .have hsv:iG D.kind L=gP L:=by simp[iG,e5]
    rw[hsv]at hW ⊢;refine qK (S:=Nat) (fun i=>[(2,int m),(3,.ptr 0 0),(7,.nil),(14,.ptr 1 0),(16,.row 2 i),(17,int i)])
     (fun i=>[.box (zP p),.box (zJ D),.row false 44 1 i (qG (L.take i))])
     (fun i=>i<=D.slots.length) (fun i=>D.slots.length-i) 0 (by simp)
     ((qS (t:=16) (by simp) 44 1).trans (mu [0,2,3] 0 (by rfl) (by simp[zP,zJ]))) ?_
    intro i hi;by_cases h:i<D.slots.length
    .have hil:i<L.length:=by omega
     have hl6:=e6 D.slots[i] (jA0 h);have hc:=hih D.slots[i] (jA0 h);have hLi:=hLg i h;rw[jA1 hil]at hLi;rw[<-jB0 hLi]at hc hl6;simp[h,qZ h,j8,zP,zJ];intro hl;refine z7 hc (by simp[zP,zB,qI]) (by simp) ?_;simp;refine⟨⟨by simp[maxLen];omega,by omega⟩,?_⟩;have htL:qG (L.take (i+1))=qG (L.take i)++[.sl L[i].length (zR L[i])]:=by rw[jA6 hil,fI];rfl
     have hwi:=jZ i (by omega);refine qK (S:=Nat) (fun q=>[(2,int m),(3,.ptr 0 0),(7,.nil),(14,.ptr 1 0),(16,.row 2 (i+1)),(17,int i),(18,.sl L[i].length (zR L[i])),(19,int 0)])
      (fun q=>[.box (zP p),.box (zJ D),.row false 44 1 (i+1) (qG (L.take (i+1)))])
      (fun q=>True) (fun q=>0) 0 trivial
      (mu [0,1,2] 0 (by rfl) (by simp[zP,zJ,htL])) ?_
     intro q _;by_cases hql:0<L[i].length
     all_goals
      simp[hql,zJ,e5];exact fun _=>zO (i+1) h (by omega) (mu [0,1,2] 0 (by rfl) (by simp[zP,zJ,e5,hwi]))
    .have hi:i=D.slots.length:=by omega
     subst hi;have htk:L.take D.slots.length=L:=jA9 (by omega);simp[htk,e5,zJ];intro hl;refine zO9 (l:=2) rfl ?_;refine mq (zF1 L (by omega) (hpart e5)) (by simp[hLl]) ?_;simp;have hWl:(j3 L).length=(gP L).length:=by simp[gP]
     refine qK (S:=Nat) (fun i=>[(7,.row 0 i),(20,.sl (j3 L).length (qG (j3 L))),(21,int i)])
      (fun i=>[.row false 46 3 i (zR ((gP L).take i))]) (fun i=>i<=(j3 L).length) (fun i=>(j3 L).length-i) 0 (by simp)
      ((qS (t:=7) (by simp) 46 3).trans (mu [3] 0 (by rfl) (by simp))) ?_
     intro i hi;by_cases hiY:i<(j3 L).length
     .have htk:zR ((gP L).take (i+1))=zR ((gP L).take i)++zF (.mk 2 0 (j3 L)[i]):=by rw[jA6 (by omega),aY];simp[gP,zF]
      simp[hiY,aO hiY];intro hYm;refine⟨⟨by simp[maxLen];omega,by omega⟩,?_⟩;exact zO (i+1) hiY (by omega) (mu [0] 0 (by rfl) (by simp[htk,zF,Val.k,Val.n,Val.kids,z8 hiY hYm]))
     .have hii:i=(j3 L).length:=by omega
      subst hii;have htk:(gP L).take (j3 L).length=gP L:=jA9 (by omega);simp[htk];exact fun _=>zA 1 (by simp[hWl])
   .have hsv:iG D.kind L=jM 0 L:=by simp[iG,e5]
    rw[hsv]at hW ⊢;refine qK (S:=Nat) (fun i=>[(2,int m),(3,.ptr 0 0),(7,.row 2 (jM 0 (L.take i)).length),(14,.ptr 1 0),(16,.row 3 i),(17,int i)])
     (fun i=>[.box (zP p),.box (zJ D),.row false 46 3 (jM 0 (L.take i)).length (zR ((jM 0 L).take (jM 0 (L.take i)).length)),.row false 44 1 i (qG (L.take i))])
     (fun i=>i<=D.slots.length) (fun i=>D.slots.length-i) 0 (by simp)
     (((qS (t:=7) (by simp) 46 3).trans (qS (t:=16) (by simp) 44 1)).trans (mu [0,2,3,4] 0 (by rfl) (by simp[zP,zJ,jM]))) ?_
    intro i hi;by_cases h:i<D.slots.length
    .have hil:i<L.length:=by omega
     have hl6:=e6 D.slots[i] (jA0 h);have hc:=hih D.slots[i] (jA0 h);have hLi:=hLg i h;rw[jA1 hil]at hLi;rw[<-jB0 hLi]at hc hl6;simp[h,qZ h,j8,zP,zJ];intro hl;refine z7 hc (by simp[zP,zB,qI]) (by simp) ?_;simp;refine⟨⟨by simp[maxLen];omega,by omega⟩,?_⟩;have htL:qG (L.take (i+1))=qG (L.take i)++[.sl L[i].length (zR L[i])]:=by rw[jA6 hil,fI];rfl
     have hwi:=jZ i (by omega);have hcs:=zDl hil;have hc1:(jM 0 (L.take (i+1))).length=(jM 0 (L.take i)).length+L[i].length:=by rw[hcs];simp
     refine qK (S:=Nat) (fun q=>[(2,int m),(3,.ptr 0 0),(7,.row 2 ((jM 0 (L.take i)).length+q)),(14,.ptr 1 0),(16,.row 3 (i+1)),(17,int i),(18,.sl L[i].length (zR L[i])),(19,int q)])
      (fun q=>[.box (zP p),.box (zJ D),.row false 46 3 ((jM 0 (L.take i)).length+q) (zR ((jM 0 L).take ((jM 0 (L.take i)).length+q))),.row false 44 1 (i+1) (qG (L.take (i+1)))])
      (fun q=>q<=L[i].length) (fun q=>L[i].length-q) 0 (by simp)
      (mu [0,1,2,3] 0 (by rfl) (by simp[zP,zJ,htL])) ?_
     intro q hq;by_cases hql:q<L[i].length
     .obtain⟨htk,hle⟩:=zDm hil hql;rw[<-jAq]at htk;simp[hql,qL hql,zJ,e5];intro hqm;refine⟨⟨by simp[maxLen];omega,by omega⟩,?_⟩;exact zO (q+1) hql (by omega) (m_ [0,1,2,3] 0 (by rfl) (by simp[zP,zJ,e5,htk,zF,Val.k,Val.n,Val.kids,<-jAq]) (by simp[z8 hql hqm,<-jAq]))
     .have hqq:q=L[i].length:=by omega
      subst hqq;simp[zJ,e5];exact fun _=>zO (i+1) h (by omega) (mu [0,1,2,3] 0 (by rfl) (by simp[zP,zJ,e5,hc1,hwi]))
    .have hi:i=D.slots.length:=by omega
     subst hi;have htk:L.take D.slots.length=L:=jA9 (by omega);simp[htk,e5,zJ];exact fun _=>zA 1 (by simp)
def leR(x y:wI):Bool:=decide (dG x y<=0)
def cE(a b:List wI):List wI:=List.merge a b leR
variable{a b:List wI}
theorem zD6{x:wI}(h:∀y∈b.head?,dG x y<=0):cE (x::a) b=x::cE a b:=by
 cases b with
 |nil=>simp[cE]
 |cons y b=>simp[cE,List.cons_merge_cons,leR,h y (by simp)]
theorem zBJ{y:wI}(h:∀x∈a.head?,¬dG x y<=0):cE a (y::b)=y::cE a b:=by
 cases a with
 |nil=>simp[cE]
 |cons x a=>simp[cE,List.cons_merge_cons,leR,h x (by simp)]
theorem zM9(a b:List wI):(cE a b).length=a.length+b.length:=by simp[cE,List.length_merge]
theorem zPD(a b:List wI)(hn:a.length+b.length<=1000000):mv 149 [.sl a.length (qG a),.sl b.length (qG b)] [] (.sl (cE a b).length (qG (cE a b))) []:=by
 refine ml [] [.slot 4] func149 (by kernel_rfl) ?_
 (conv in kq _ _=>cbv)
 simp;have hML:=zM9 a b;refine qK (S:=Nat×Nat) (fun s=>[(0,.sl a.length (qG a)),(1,.sl b.length (qG b)),(5,.row 0 (s.1+s.2)),(6,int s.1),(7,int s.2)])
  (fun s=>[.row false 44 1 (s.1+s.2) (qG ((cE a b).take (s.1+s.2)))]) (fun s=>s.1<=a.length/\s.2<=b.length/\(cE a b).drop (s.1+s.2)=cE (a.drop s.1) (b.drop s.2)) (fun s=>a.length+b.length-(s.1+s.2)) (0,0) (by simp)
  ((qS (t:=5) (by simp) 44 1).trans (mu [0] 0 (by rfl) (by simp))) ?_
 rintro⟨i,k⟩ ⟨hi,hk,hM⟩;simp only at hi hk hM;generalize hMM:cE a b=M at hML hM ⊢;have hwi:=jZ i (by omega);have hwk:=jZ k (by omega);have left:∀(h:i<a.length),(∀y∈(b.drop k).head?,dG a[i] y<=0)->qG (M.take (i+k+1))=qG (M.take (i+k))++[.sl a[i].length (zR a[i])]/\M.drop (i+k+1)=cE (a.drop (i+1)) (b.drop k):=fun h hy=>by
  rw[jAo h,zD6 hy]at hM;have hlt:i+k<M.length:=by have:=congrArg List.length hM;simp at this;omega
  rw[jAo hlt]at hM;obtain⟨q1,q2⟩:=List.cons.inj hM;exact⟨by rw[x6 hlt,q1],q2⟩
 have right:∀(h:k<b.length),(∀x∈(a.drop i).head?,¬dG x b[k]<=0)->qG (M.take (i+k+1))=qG (M.take (i+k))++[.sl b[k].length (zR b[k])]/\M.drop (i+k+1)=cE (a.drop i) (b.drop (k+1)):=fun h hx=>by
  rw[jAo h,zBJ hx]at hM;have hlt:i+k<M.length:=by have:=congrArg List.length hM;simp at this;omega
  rw[jAo hlt]at hM;obtain⟨q1,q2⟩:=List.cons.inj hM;exact⟨by rw[x6 hlt,q1],q2⟩
 have hik:i+1+k=i+k+1:=by omega
 by_cases hia:i<a.length
 .by_cases hkb:k<b.length
  .have hke:¬(k:Int)=b.length:=by omega
   simp[hia,hkb,hke,aO hia,aO hkb];intro _ _ _;refine z7 (zKM a[i] b[k]) (by simp) (by simp) ?_;by_cases ho:dG a[i] b[k]<=0
   .obtain⟨q1,q2⟩:=left hia (by intro y hy;simp[hkb]at hy;subst hy;exact ho);simp[ho,hia,hkb,aO hia];refine⟨⟨by simp[maxLen];omega,by omega⟩,?_⟩;exact zO (i+1,k) ⟨hia,hk,by simp only;rw[hik];exact q2⟩ (by simp only;omega) (mu [0] 0 (by rfl) (by simp[hik,q1,hwi]))
   .obtain⟨q1,q2⟩:=right hkb (by intro y hy;simp[hia]at hy;subst hy;exact ho);simp[ho,hia,hkb,aO hkb];refine⟨⟨by simp[maxLen];omega,by omega⟩,?_⟩;exact zO (i,k+1) ⟨hi,hkb,by simp only;rw[<-jAq];exact q2⟩ (by simp only;omega) (m_ [0] 0 (by rfl) (by simp[<-jAq,q1]) (by simp[<-jAq,hwk]))
  .have hke:k=b.length:=by omega
   subst hke;simp[hia,aO hia];obtain⟨q1,q2⟩:=left hia (by simp);intro _ _;refine⟨⟨by simp[maxLen];omega,by omega⟩,?_⟩;exact zO (i+1,b.length) ⟨hia,hk,by simp only;rw[hik];exact q2⟩ (by simp only;omega) (mu [0] 0 (by rfl) (by simp[hik,q1,hwi]))
 .by_cases hkb:k<b.length
  .have hke:¬(k:Int)=b.length:=by omega
   simp[hia,hkb,hke,aO hkb];have hii:i=a.length:=by omega
   obtain⟨q1,q2⟩:=right hkb (by simp[hii]);intro _ _ _;refine⟨⟨by simp[maxLen];omega,by omega⟩,?_⟩;exact zO (i,k+1) ⟨hi,hkb,by simp only;rw[<-jAq];exact q2⟩ (by simp only;omega) (m_ [0] 0 (by rfl) (by simp[<-jAq,q1]) (by simp[<-jAq,hwk]))
  .have hii:i=a.length:=by omega
   have hkk:k=b.length:=by omega
   subst hii hkk;simp;intro _ _;exact zA 1 (by simp[hML,jA9 (show M.length<=a.length+b.length by omega)])
def OkW(l:List wI):Prop:=∀x∈l,∀v∈x,OkV v
theorem zZu{x y:wI}(hx:∀v∈x,OkV v)(hy:∀v∈y,OkV v):leR x y=true↔¬eD y x<0:=by rw[leR,zKC hx hy,decide_eq_true_eq,gM.swap];omega
theorem rD:∀{a b:List wI},OkW a->OkW b->a.Pairwise (fun x y=>¬eD y x<0)->b.Pairwise (fun x y=>¬eD y x<0)->(cE a b).Pairwise (fun x y=>¬eD y x<0)
 |[],b,_,_,_,hb=>by simpa[cE]using hb
 |x::a,[],_,_,ha,_=>by simpa[cE]using ha
 |x::a,y::b,ka,kb,ha,hb=>by
  obtain⟨h1,h2⟩:=jBq.1 ha;obtain⟨h3,h4⟩:=jBq.1 hb;have kx:=ka x (by simp);have ky:=kb y (by simp);have ka':OkW a:=fun z hz=>ka z (jAh _ hz)
  have kb':OkW b:=fun z hz=>kb z (jAh _ hz)
  by_cases hc:dG x y<=0
  .rw[zD6 (by simpa using hc)];have hxy:¬eD y x<0:=(zZu kx ky).1 (by simpa[leR]using hc);refine jBq.2 ⟨fun z hz=>?_,rD ka' kb h2 hb⟩;have hz:z∈a\/z∈y::b:=by simpa[cE,List.mem_merge]using hz
   rcases hz with hz|hz
   .exact h1 z hz
   .rcases jA3.1 hz with rfl|hz
    .exact hxy
    .exact gM.ord.ntrans _ _ _ (h3 z hz) hxy
  .rw[zBJ (by simpa using hc)];have hyx:¬eD x y<0:=by rw[zKC kx ky]at hc;omega
   refine jBq.2 ⟨fun z hz=>?_,rD ka kb' ha h4⟩;have hz:z∈x::a\/z∈b:=by simpa[cE,List.mem_merge]using hz
   rcases hz with hz|hz
   .rcases jA3.1 hz with rfl|hz
    .exact hyx
    .exact gM.ord.ntrans _ _ _ (h1 z hz) hyx
   .exact h3 z hz
termination_by a b=>a.length+b.length
theorem zKz:∀(a b:List wI),(cE a b).Perm (a++b):=fun a b=>List.merge_perm_append _
theorem dR{β:Type}(cf : β->β->Int)(l:List β):(cM cf l).Perm l:=List.mergeSort_perm _ _
theorem uA{β:Type}{cf : β->β->Int}(ho:Ord cf)(l:List β):(cM cf l).Pairwise (fun x y=>¬cf y x<0):=by rw[zDH ho];exact(xS ho l).2
theorem zQf:∀(N:Nat) (l:List wI),l.length=N->N<=1000000->OkW l->mv 106 [.sl l.length (qG l)] [] (.sl (cM eD l).length (qG (cM eD l))) []:=by
 intro N;induction N using Nat.strongRecOn with
 |_ N ih =>
 intro l hN hl6 hok;refine ml [] [.slot 2] func106 (by kernel_rfl) ?_
 (conv in kq _ _=>cbv)
 by_cases h2:l.length<2
 .have e:cM eD l=l:=(lT gM.ord (.refl _) (by
   match l,h2 with
   |[],_=>exact .nil
   |[x],_=>simp)).symm
  have h2':(l.length:Int)<2:=by omega
  rw[e];simp[h2'];exact fun _=>zA 0 (by simp)
 .have h2':¬(l.length:Int)<2:=by omega
  have hq:(l.length:Int).tdiv 2=((l.length / 2:Nat):Int):=by rw[Int.tdiv_eq_ediv_of_nonneg (by omega)];rfl
  have hwq:=zY ((l.length:Int) / 2) (by omega);have htn:((l.length:Int) / 2).toNat=l.length / 2:=by omega
  have hh:l.length / 2<=l.length:=by omega
  have hA:OkW (l.take (l.length / 2)):=fun x hx=>hok x (jC5 hx)
  have hB:OkW (l.drop (l.length / 2)):=fun x hx=>hok x (jC4 hx)
  have rA:=ih (l.take (l.length / 2)).length (by simp;omega) _ rfl (by simp;omega) hA;have rB:=ih (l.drop (l.length / 2)).length (by simp;omega) _ rfl (by simp;omega) hB;simp[h2',hq,hwq,hh,htn];intro hlm;refine⟨⟨by omega,by omega⟩,?_⟩;have tk:(qG l).take (l.length / 2)=qG (l.take (l.length / 2)):=by simp[qG,List.map_take]
  have dk:(qG l).drop (l.length / 2)=qG (l.drop (l.length / 2)):=by simp[qG,List.map_drop]
  have hsub:((l.length:Int)-(l.length:Int) / 2).toNat=l.length-l.length / 2:=by omega
  have tk2:(qG (l.drop (l.length / 2))).take (l.length-l.length / 2)=qG (l.drop (l.length / 2)):=jA9 (by simp);refine z7 rA (by simp[tk,jAv hh]) (by simp) ?_;simp[h2',hq,hwq,hh,htn,hlm];refine⟨⟨by omega,by omega⟩,?_⟩;refine z7 rB (by simp[hsub,dk,tk2]) (by simp) ?_;simp;refine z7 (zPD (cM eD (l.take (l.length / 2))) (cM eD (l.drop (l.length / 2))) (by rw[(dR _ _).length_eq,(dR _ _).length_eq];simp;omega)) (by simp) (by simp) ?_;have hfin:cE (cM eD (l.take (l.length / 2))) (cM eD (l.drop (l.length / 2)))=cM eD l:=by
   refine lT gM.ord ?_ ?_
   .refine(zKz _ _).trans (((dR _ _).append (dR _ _)).trans ?_);rw[jC1]
   .refine rD (fun x hx=>hA x ((dR _ _).mem_iff.1 hx)) (fun x hx=>hB x ((dR _ _).mem_iff.1 hx)) (uA gM.ord _) (uA gM.ord _)
  rw[hfin];simp;exact zA 0 (by simp)
def iD(n:Int):Id:=⟨0,1,n⟩
def exF(at_ place rec slot:Int):Exp:=.mk (iD at_) 8 place (iD rec) .zero [.mk (iD (at_+1)) 2 0 (iD slot) .zero [] []] []
def exS(i:Int)(nm:ByteArray)(pl:Int):Slt:=⟨iD i,nm,.zero,0,pl⟩
def zRK:Exp:=.mk (iD 20) 7 0 (iD 11) .zero [exF 21 0 10 4,.mk (iD 23) 0 0 .zero .zero [] []] []
def zRO:Exp:=.mk (iD 24) 4 0 .zero .zero [exF 25 0 11 5,exF 27 1 11 5] []
def zRN:Exp:=.mk (iD 29) 4 2 .zero .zero [exF 30 0 10 6,exF 16 0 10 6] []
def zGo(i:Int)(nm:ByteArray)(s:Int)(a b:Int)(e:Exp):Dfn:=⟨iD i,5,iD 0,nm,[⟨iD s,⟨#[97]⟩,yI (iD a),0,0⟩],yI (iD b),e,0,[]⟩
def oG(i:Int)(nm:ByteArray)(ss:List Slt):Dfn:=⟨iD i,0,iD 0,nm,ss,.zero,.zero,0,[]⟩
def bE:Prg:=⟨[⟨iD 0,⟨#[109]⟩,[],[iD 1,iD 2,iD 3,iD 10,iD 11,iD 12]⟩],
 [zGo 1 ⟨#[112]⟩ 4 10 11 zRK,zGo 2 ⟨#[113]⟩ 5 11 12 (.mk (iD 18) 7 0 (iD 12) .zero [zRO] []),zGo 3 ⟨#[114]⟩ 6 10 12 (.mk (iD 19) 7 0 (iD 12) .zero [zRN] []),
  oG 10 ⟨#[65]⟩ [exS 7 ⟨#[120]⟩ 0],oG 11 ⟨#[66]⟩ [exS 8 ⟨#[120]⟩ 0,exS 9 ⟨#[121]⟩ 1],oG 12 ⟨#[67]⟩ [exS 13 ⟨#[120]⟩ 0]]⟩
def uO(n:Int):Val:=.mk 2 0 [.mk 0 n []]
theorem zIf{rec slot:Int}{at_:Int}{j:Nat}(d:Dfn)(hd:jK bE.defs (iD rec)=some d)(hk:d.kind=0)(hj:j<d.slots.length)(ht:d.slots[j].typ=jO):WE bE [⟨iD slot,0,yI (iD rec)⟩] (exF at_ j rec slot) jO:=by have:=WE.field (p:=bE) [⟨iD slot,0,yI (iD rec)⟩] (iD at_) (iD rec) .zero (.mk (iD (at_+1)) 2 0 (iD slot) .zero [] []) [] d j hd hk hj (.var _ _ _ _ _ _ _ (by simp[fX]));rw[ht]at this;exact this
def zRL:Dfn:=oG 10 ⟨#[65]⟩ [exS 7 ⟨#[120]⟩ 0]
def zNJ:Dfn:=oG 11 ⟨#[66]⟩ [exS 8 ⟨#[120]⟩ 0,exS 9 ⟨#[121]⟩ 1]
def zRM:Dfn:=oG 12 ⟨#[67]⟩ [exS 13 ⟨#[120]⟩ 0]
theorem qFL:jK bE.defs (iD 10)=some zRL:=by rfl
theorem zZb:jK bE.defs (iD 11)=some zNJ:=by rfl
theorem qFM:jK bE.defs (iD 12)=some zRM:=by rfl
theorem zLX{k:Nat}{n:Int}(h:k<(bE.defs.map Dfn.hd).length)(hid:(bE.defs.map Dfn.hd)[k].id=iD n)(h1:∀(j:Nat)(hj:j<k),(bE.defs.map Dfn.hd)[j].id≠(bE.defs.map Dfn.hd)[k].id)
 (h2:(bE.defs.map Dfn.hd)[k].kind=0)(h3:(bE.defs.map Dfn.hd)[k].slots.length<=6)(h4:∀s∈(bE.defs.map Dfn.hd)[k].slots,s.typ=jO):TyOk (bE.defs.map Dfn.hd) 4 (yI (iD n)):=by
 rw[<-hid];exact .dfn 3 k h h1 (.inl h2) h3 fun s hs=>by rw[h4 s hs];exact .int _
theorem zBz:Fit bE (bE.defs.map Dfn.hd):=by
 have t10:TyOk (bE.defs.map Dfn.hd) 4 (yI (iD 10)):=zLX (k:=3) (by decide) rfl (by decide) rfl (by decide) (by intro s hs;simp[bE,oG,zGo,exS,Dfn.hd]at hs;subst hs;rfl);have t11:TyOk (bE.defs.map Dfn.hd) 4 (yI (iD 11)):=zLX (k:=4) (by decide) rfl (by decide) rfl (by decide) (by intro s hs;simp[bE,oG,zGo,exS,Dfn.hd]at hs;rcases hs with rfl|rfl<;>rfl);have t12:TyOk (bE.defs.map Dfn.hd) 4 (yI (iD 12)):=zLX (k:=5) (by decide) rfl (by decide) rfl (by decide) (by intro s hs;simp[bE,oG,zGo,exS,Dfn.hd]at hs;subst hs;rfl);refine⟨rfl,by decide,by decide,?_,by decide,?_⟩
 .intro d hd;simp only[bE,jA3,jB,or_false]at hd;rcases hd with rfl|rfl|rfl|rfl|rfl|rfl
  .exact⟨by decide,by decide,by decide,by decide,fun s hs=>by simp[zGo]at hs;subst hs;exact t10⟩
  .exact⟨by decide,by decide,by decide,by decide,fun s hs=>by simp[zGo]at hs;subst hs;exact t11⟩
  .exact⟨by decide,by decide,by decide,by decide,fun s hs=>by simp[zGo]at hs;subst hs;exact t10⟩
  .exact⟨by decide,by decide,by decide,by decide,fun s hs=>by simp[oG,exS]at hs;subst hs;exact .int _⟩
  .exact⟨by decide,by decide,by decide,by decide,fun s hs=>by simp[oG,exS]at hs;rcases hs with rfl|rfl<;>exact .int _⟩
  .exact⟨by decide,by decide,by decide,by decide,fun s hs=>by simp[oG,exS]at hs;subst hs;exact .int _⟩
 .intro r d hd hb;have hm:=(aV hd).1;simp only[bE,jA3,jB,or_false]at hm;rcases hm with rfl|rfl|rfl|rfl|rfl|rfl
  .show WE bE [⟨iD 4,0,yI (iD 10)⟩] zRK (yI (iD 11));refine .record _ _ _ _ _ _ _ (by decide) zNJ zZb rfl rfl fun j hj=>?_
   have:j=0\/j=1:=by simp at hj;omega
   rcases this with rfl|rfl
   .exact zIf (j:=0) zRL qFL rfl (by decide) rfl
   .exact .int _ _ _ _ _ _ (by decide) (by decide)
  .show WE bE [⟨iD 5,0,yI (iD 11)⟩] (.mk (iD 18) 7 0 (iD 12) .zero [zRO] []) (yI (iD 12));refine .record _ _ _ _ _ _ _ (by decide) zRM qFM rfl rfl fun j hj=>?_
   have:j=0:=by simp at hj;omega
   subst this;refine .op _ _ _ _ _ _ _ (by decide) [jO,jO] jO (.arith _ (by decide) (by decide)) rfl fun j hj=>?_
   have:j=0\/j=1:=by simp at hj;omega
   rcases this with rfl|rfl
   .exact zIf (j:=0) zNJ zZb rfl (by decide) rfl
   .exact zIf (j:=1) zNJ zZb rfl (by decide) rfl
  .show WE bE [⟨iD 6,0,yI (iD 10)⟩] (.mk (iD 19) 7 0 (iD 12) .zero [zRN] []) (yI (iD 12));refine .record _ _ _ _ _ _ _ (by decide) zRM qFM rfl rfl fun j hj=>?_
   have:j=0:=by simp at hj;omega
   subst this;refine .op _ _ _ _ _ _ _ (by decide) [jO,jO] jO (.arith _ (by decide) (by decide)) rfl fun j hj=>?_
   have:j=0\/j=1:=by simp at hj;omega
   rcases this with rfl|rfl
   all_goals
    exact zIf (j:=0) zRL qFL rfl (by decide) rfl
  all_goals exact absurd hb (by decide)
def qD3:K:=G [kO 3 0,kO 4 1,kMn 6,kMi 7 0] (Z (G [M 16 2,kBi 17 16 0 .lss,M 18 17,T 18 false (M 19 2),T 18 false (kBi 20 19 64 .gtr),kPt 21 18 20] (Y 21 (G [kMn 6,kMi 7 1] kr) ks)) (G [J 23 3 2,J 24 4 5,M 25 2,kC 26 104 [(kt 23),(kt 24),(kt 25),(kc 1)],M 22 26,kE 27 22 0,kE 28 22 1,kE 29 22 2,M 8 27,M 9 28,M 10 29] (Z (G [M 30 10,kQi 31 30 0 true] (Y 31 (G [M 32 10,kMn 6,M 7 32] kr) ks)) (G [J 33 3 2,J 34 4 5,M 35 2,kC 36 105 [(kt 33),(kt 34),(kt 35)],M 11 36] (G [kMn 12] (Z (G [kMi 13 0] (K.block 0 (K.loop (Z (G [M 37 13,M 38 11,kN 39 38,kB 40 37 39 .lss] (Y 40 ks (K.exit 0))) (Z (K.block 1 (K.ops [M 43 12,M 44 11,M 45 13,kX 46 44 45 3,J 47 46 3,kd 48 46 3 1 [ki,ki,kl] [(0,3,(kt 47))],kd 49 44 1 1 [kl] [(0,1,(kt 48))],kP 50 44 1 24 43 49,M 12 50])) (K.ops [M 41 13,kBi 42 41 1 .add,M 13 42])))))) (K.wk (G [M 51 12,kC 52 106 [(kt 51)],M 12 52] (G [kMn 14] (Z (G [kMi 15 0] (K.block 2 (K.loop (Z (G [M 53 15,M 54 12,kN 55 54,kB 56 53 55 .lss] (Y 56 ks (K.exit 2))) (Z (K.block 3 (K.ops [M 59 14,M 60 12,M 61 15,kX 62 60 61 1,L 63 62 1,kXi 64 63 3 0,J 65 64 3,kd 66 46 3 1 [ki,ki,kl] [(0,3,(kt 65))],kP 67 46 3 40 59 66,M 14 67])) (K.ops [M 57 15,kBi 58 57 1 .add,M 15 58])))))) (G [M 68 14,M 6 68,kMi 7 0] kr)))))))))))
theorem qL7:kw f61 qD3:=my (by kernel_rfl)
theorem vH:∀(L:List wI) (acc:List wI) (t:wI) (v:Val),t∈L.foldl cH acc->v∈t->(∃l∈L,v∈l)\/∃s∈acc,v∈s
 |[],acc,t,v,ht,hv=>.inr ⟨t,ht,hv⟩
 |a::L,acc,t,v,ht,hv=>by
  rcases vH L (cH acc a) t v ht hv with ⟨l,hl,h⟩|⟨s,hs,h⟩
  .exact .inl ⟨l,jAh _ hl,h⟩
  .simp only[cH,List.mem_flatMap,jAd]at hs;obtain⟨u,hu,x,hx,rfl⟩:=hs;rcases jAc.1 h with h|h
   .exact .inr ⟨u,hu,h⟩
   .simp at h;subst h;exact .inl ⟨a,jAr ..,hx⟩
variable{L:List wI}
theorem zFz{t:wI}{v:Val}(ht:t∈j3 L)(hv:v∈t):∃l∈L,v∈l:=by
 rcases vH L [[]] t v ht hv with h|⟨s,hs,h⟩
 .exact h
 .simp at hs;subst hs;simp at h
theorem zSU(h:OkW L):OkW (j3 L):=fun t ht v hv=>by obtain⟨l,hl,hv⟩:=zFz ht hv;exact h l hl v hv
theorem iB{n:Int}(h : -9223372036854775808<=n/\n<=9223372036854775807):w64 n=n:=IntWalk.i64_in _ (by omega)
theorem zGB:∀(L:List wI) (i:Int),OkW L->0<=i->i+L.length<=2000000->∀v∈jM i L,OkV v
 |[],i,_,_,_,v,hv=>by simp[jM]at hv
 |l::L,i,h,h0,h1,v,hv=>by
  simp only[jAb]at h1;simp only[jM,jAc,jAd]at hv;rcases hv with ⟨x,hx,rfl⟩|hv
  .refine .mk (iB (by omega)) (iB (by omega)) fun y hy=>?_
   simp at hy;subst hy;exact h l (jAr ..) y hx
  .exact zGB L (i+1) (fun x hx=>h x (jAh _ hx)) (by omega) (by omega) v hv
theorem zHV(p:Prg)(hs:Sml p)(m:Int)(hm:0<=m/\m<=64):∀(n:Nat) (t:Typ),∀v∈aC p m n t,OkV v
 | 0,t,v,hv=>by simp[aC]at hv
 |n+1,t,v,hv=>by
  unfold aC at hv;have no:∀x∈([]:wI),OkV x:=fun x hx=>by simp at hx
  split at hv
  .simp only[fF,jAd,jBx]at hv;obtain⟨i,hi,rfl⟩:=hv;exact .mk (iB (by omega)) (iB (by omega)) no
  split at hv
  .simp only[jA3,jB,or_false]at hv;rcases hv with rfl|rfl
   all_goals
    exact .mk (iB (by omega)) (iB (by omega)) no
  split at hv
  .simp only[zFc,List.mem_flatMap,jAd]at hv;obtain⟨k,_,t',ht,rfl⟩:=hv;refine .mk (iB (by omega)) (iB (by omega)) fun x hx=>?_
   obtain⟨l,hl,hx⟩:=zFz ht hx;rw[(jD5.1 hl).2]at hx;exact zHV p hs m hm n _ x hx
  .have hL:OkW ((dfn p t.id).slots.map fun s=>aC p m n s.typ):=fun l hl x hx=>by obtain⟨s,_,rfl⟩:=jAd.1 hl;exact zHV p hs m hm n _ x hx
   unfold iG at hv;split at hv
   .simp only[gP,jAd]at hv;obtain⟨t',ht,rfl⟩:=hv;exact .mk (iB (by omega)) (iB (by omega)) (zSU hL t' ht)
   split at hv
   .have:=hs.dfn t.id;exact zGB _ 0 hL (by omega) (by simp;omega) v hv
   .simp at hv
theorem zIR(a:Int):w64 (w64 a)=w64 a:=by simp only[w64,IntKind.wrap_i64];omega
theorem zT0{s:Int}(hs:w64 s=s):∀l:wI,w64 (m8 s l)=m8 s l
 |[]=>hs
 |x::l=>by rw[i6,oS,zIR]
theorem zNn{v:Val}(h:OkV v):w64 (cD v)=cD v:=by
 have hn:w64 v.n=v.n:=by cases h;assumption
 rw[iT];have own:v.k=4/\v.kids≠[]\/w64 (zCP v)=zCP v:=by
  unfold zCP;by_cases h0:v.k=0/\v.n<0
  .rw[if_pos h0];exact .inr (zIR _)
  .rw[if_neg h0];by_cases h1:v.k=0\/v.k=1\/v.k=3
   .rw[if_pos h1];exact .inr hn
   .rw[if_neg h1];by_cases h4:v.k=4
    .rw[if_pos h4];by_cases hl:v.kids=[]
     .rw[hl];exact .inr (iB (by simp))
     .exact .inl ⟨h4,hl⟩
    .rw[if_neg h4];exact .inr (iB (by omega))
 by_cases h2:v.k<0\/4<v.k
 .rw[if_pos h2];exact iB (by omega)
 rw[if_neg h2];by_cases h3:v.k=0\/v.k=1
 .rw[if_pos h3];rcases own with ⟨h4,_⟩|own
  .omega
  .exact own
 .rw[if_neg h3];rcases own with ⟨_,hne⟩|own
  .generalize v.kids=l at hne ⊢;cases l with
   |nil=>exact absurd rfl hne
   |cons x l=>rw[i6,oS,zIR]
  .exact zT0 own _
theorem zPJ{a b:Val}(ha:OkV a)(hb:OkV b):eD [a] [b]=zA0 a b:=by
 have e:∀{x:Val},OkV x->m8 0 [x]=cD x:=fun hx=>by rw[i6,Int.zero_add,zNn hx];rfl
 have e2:y6 [a] [b]=gG a b:=by simp only[y6];by_cases h:gG a b=0<;>simp[h]
 rw[eD,e ha,e hb,e2,zA0]
theorem zIL{l:wI}(h:∀v∈l,OkV v):cM eD (l.map fun v=>[v])=(cM zA0 l).map fun v=>[v]:=by
 symm;refine lT gM.ord ((dR _ _).map _) ?_;rw[jCq];refine(uA zBF.ord l).imp_of_mem fun {x y} hx hy hxy=>?_
 rw[zPJ (h _ ((dR _ _).mem_iff.1 hy)) (h _ ((dR _ _).mem_iff.1 hx))];exact hxy
theorem zMO(p:Prg)(hL:p.defs.length<=1000000)(hs:Sml p)(m:Int)(hm:0<=m/\m<=64)(t:Typ):mv 104 [.agg (zP p),.agg (zB t),int m,int 1] [] (szT (size p m t)) []:=zKL p hL hs m hm 24 t 1 (by decide) (by decide)
theorem zI9(p:Prg)(hL:p.defs.length<=1000000)(hs:Sml p)(t:Typ)(m:Int):mv 61 [.agg (zP p),.agg (zB t),int m] [] (.tup [.sl (yF p t m).1.length (zR (yF p t m).1),int (yF p t m).2]) []:=by
 refine zH func61 rfl qL7 (rs:=[.slot 6,.slot 7]) (by kernel_rfl) ?_;unfold qD3;by_cases h1:m<0
 .have e:yF p t m=([],1):=by simp[yF,h1]
  simp[h1,e];exact zA 1 (by simp)
 by_cases h2:64<m
 .have e:yF p t m=([],1):=by simp[yF,h2]
  simp[h1,h2,e];exact zA 1 (by simp)
 simp[h1,h2,zP,zB];refine mq (zMO p hL hs m (by omega) t) (by simp[zP,zB,qI,szT]) ?_;by_cases h3:(size p m t).e=0
 .have e:yF p t m=(cM zA0 (aC p m 24 t),0):=by simp[yF,h1,h2,h3]
  have hl:=fG p m (by omega) 24 t h3;have hle:=bS p m (by omega) 24 t h3;have hll:(aC p m 24 t).length<=4096:=by omega
  have hok:=zHV p hs m (by omega) 24 t;simp[szT,h3,e];refine mq (zPV p hL hs m (by omega) 24 t h3) (by simp[zP,zB,qI]) ?_;rw[show (cM zA0 (aC p m 24 t))=cM zA0 (aC p m 24 t) from rfl];have hsing:=zIL hok;have hSl:(cM zA0 (aC p m 24 t)).length=(aC p m 24 t).length:=(dR _ _).length_eq;clear e;generalize aC p m 24 t=X at hl hle hll hok hsing hSl ⊢;generalize cM zA0 X=S at hsing hSl ⊢;simp;refine qK (S:=Nat) (fun i=>[(11,.sl X.length (zR X)),(12,.row 0 i),(13,int i)]) (fun i=>[.row false 44 1 i (qG ((X.map fun v=>[v]).take i))]) (fun i=>i<=X.length) (fun i=>X.length-i) 0 (by simp)
   ((qS (t:=12) (by simp) 44 1).trans (mu [2] 0 (by rfl) (by simp))) ?_
  intro i hi;by_cases h:i<X.length
  .have htk:qG ((X.map fun v=>[v]).take (i+1))=qG ((X.map fun v=>[v]).take i)++[.sl 1 (zF X[i])]:=by rw[x6 (by simpa using h)];simp[zF]
   simp[h,qL h];intro hm;refine⟨⟨by simp[maxLen];omega,by omega⟩,?_⟩;exact zO (i+1) h (by omega) (mu [0] 1 (by rfl) (by simp[htk,zF,z8 h hm]))
  .have hi:i=X.length:=by omega
   subst hi;simp;intro hm;have hYl:(X.map fun v=>[v]).length=X.length:=by simp
   have hYk:(X.map fun v=>[v]).take X.length=X.map fun v=>[v]:=jA9 (by simp)
   have hYo:OkW (X.map fun v=>[v]):=fun x hx v hv=>by obtain⟨u,hu,rfl⟩:=jAd.1 hx;simp at hv;subst hv;exact hok _ hu
   generalize (X.map fun v=>[v])=Y at hsing hYl hYk hYo;rw[hYk];refine⟨qV [(12,.sl Y.length (qG Y))],[],mu [] 1 (by rfl) (by simp[hYl]),?_⟩;simp;refine mq (zQf Y.length Y rfl (by omega) hYo) (by simp) ?_;rw[hsing];simp;refine qK (S:=Nat) (fun i=>[(12,.sl S.length (qG (S.map fun v=>[v]))),(14,.row 0 i),(15,int i)]) (fun i=>[.row false 46 3 i (zR (S.take i))]) (fun i=>i<=S.length) (fun i=>S.length-i) 0 (by simp)
    ((qS (t:=14) (by simp) 46 3).trans (mu [0] 0 (by rfl) (by simp))) ?_
   intro i hi;by_cases hiS:i<S.length
   .have htk:zR (S.take (i+1))=zR (S.take i)++zF S[i]:=by rw[jA6 hiS,aY];simp[zF]
    have hdr:(qG (S.map fun v=>[v])).drop i=.sl 1 (zF S[i])::qG ((S.map fun v=>[v]).drop (i+1)):=by rw[aO (by simpa using hiS)];simp[zF]
    simp[hiS,hdr,zF];intro hm;refine⟨⟨by simp[maxLen];omega,by omega⟩,?_⟩;exact zO (i+1) hiS (by omega) (mu [0] 0 (by rfl) (by simp[htk,zF,z8 hiS hm]))
   .have hii:i=S.length:=by omega
    subst hii;simp;exact fun _=>zA 1 (by simp)
 .have e:yF p t m=([],(size p m t).e):=by simp[yF,h1,h2,h3]
  simp[szT,h3,e];exact zA 1 (by simp)
theorem oW(n:Int):mv 50 [int n] [] (.agg [int 0,int 1,int n]) []:=by
 refine ml [] [.cell 2 3 true] func50 (by kernel_rfl) ?_
 (conv in kq _ _=>cbv)
 simp;exact zA 0 (by simp)
theorem qAE(n:Int):mv 94 [int n] [] (.agg [int 3,int 0,int 1,int n,.sl 0 []]) []:=by
 refine ml [] [.cell 2 5 true] func94 (by kernel_rfl) ?_
 (conv in kq _ _=>cbv)
 simp;refine mq (oW n) (by simp) ?_;simp;exact zA 0 (by simp)
theorem qAC(a p r s:Int)(h:IntKind.i64.wrap (a+1)=a+1):mv 93 [int a,int p,int r,int s] [] (.agg (zI (exF a p r s))) []:=by
 refine ml [] [.cell 8 15 true] func93 (by kernel_rfl) ?_
 (conv in kq _ _=>cbv)
 simp;refine mq (oW a) (by simp) ?_;simp;refine mq (oW r) (by simp) ?_;simp[h];refine mq (oW (a+1)) (by simp) ?_;simp;refine mq (oW s) (by simp) ?_;simp;exact zA 0 (by simp[exF,zI,iD,Typ.zero,Id.zero,zQ])
def zIg(l:wB):List Slt:=l.mapIdx fun i s=>exS s (([⟨#[120]⟩,⟨#[121]⟩]:List ByteArray).getD i ⟨#[]⟩) i
theorem zOT(l:wB)(s:Int):zIg (l++[s])=zIg l++[exS s (([⟨#[120]⟩,⟨#[121]⟩]:List ByteArray).getD l.length ⟨#[]⟩) l.length]:=by simp[zIg,List.mapIdx_append]
theorem qAD(n:Int)(nm:ByteArray)(l:wB)(hl:l.length<=2):mv 95 [int n,.lit (.string nm),.sl l.length (yH l)] [] (.agg (zJ (oG n nm (zIg l)))) []:=by
 refine ml [] [.cell 6 31 true] func95 (by kernel_rfl) ?_
 (conv in kq _ _=>cbv)
 simp;refine mq (oW n) (by simp) ?_;simp;refine mq (oW 0) (by simp) ?_;simp;refine qK (S:=Nat) (fun i=>[(2,.sl l.length (yH l)),(6,.ptr 0 0),(7,.ptr 1 0),(8,int i)]) (fun i=>[.box (kz0.map jN),.box ((zJ (oG n nm [])).set 8 (.row 2 i)),.row false 85 11 i (jS (zIg (l.take i)))])
  (fun i=>i<=l.length) (fun i=>l.length-i) 0 (by omega)
  ((y7 (l:=1) (o:=8) rfl rfl 85 11).trans (mu [0,1,2] 0 (by rfl) (by simp[zJ,oG,iD,Typ.zero,Id.zero,Exp.zero,zIg]))) ?_
 intro i hi;by_cases h:i<l.length
 .have hne:¬l=[]:=fun e=>by rw[e]at h;simp at h
  have hcd:=cO h;have hsn:=zOT (l.take i) l[i];rw[<-jA6 h,jAs,jAv hi]at hsn;have r:=oW l[i];generalize l[i]=s at *
  have hI0:(0:Int)<l.length:=by omega
  rcases (by omega:i=0\/i=1)with rfl|rfl
  .simp[zJ,oG,iD,Typ.zero,Id.zero,Exp.zero,h,hne,hcd]
   intros
   refine z7 r (by simp) (by simp) ?_;simp;refine⟨by simp[maxLen],?_⟩;exact zO 1 h (by omega) (mu [0,1,2] 0 (by rfl) (by simp[hsn,pY,mT,j8,exS,zJ,oG,iD,Typ.zero,Id.zero,Exp.zero,show IntKind.i64.wrap 1=1 by decide]))
  .have hI:(1:Int)<l.length:=by omega
   simp[zJ,oG,iD,Typ.zero,Id.zero,Exp.zero,h,hne,hcd,hI]
   intros
   refine z7 r (by simp) (by simp) ?_;simp;refine⟨by simp[maxLen],?_⟩;exact zO 2 h (by omega) (mu [0,1,2] 0 (by rfl) (by simp[hsn,pY,mT,j8,exS,zJ,oG,iD,Typ.zero,Id.zero,Exp.zero,show IntKind.i64.wrap 2=2 by decide]))
 .have hie:i=l.length:=by omega
  subst hie;rw[jAt];simp[zJ,oG,iD,Typ.zero,Id.zero,Exp.zero]
  intros
  exact zA 1 (by simp[zJ,oG,iD,Typ.zero,Id.zero,Exp.zero,zIg])
section
variable{U:St}{d:wC}{env:Env}{K':wK}{Qp:Value->wK}{KD:Env->Prop}
theorem xI0{n:Int}(hq:K' (env.put d (.agg [int 0,int 1,int n])) U):aG prog 50 [int n] U (Go.Abs.outK d env K' Qp):=mq (oW n) (by simp) hq
theorem xI1{n:Int}(hq:KD (env.put d (.agg [int 0,int 1,int n]))):uD prog U d KD 50 [int n] env:=z7 (oW n) (by simp) (by simp) hq
theorem xT1{n:Int}(hq:KD (env.put d (.agg [int 3,int 0,int 1,int n,.sl 0 []]))):uD prog U d KD 94 [int n] env:=z7 (qAE n) (by simp) (by simp) hq
theorem xF0{a p r s:Int}(h:IntKind.i64.wrap (a+1)=a+1)(hq:K' (env.put d (.agg (zI (exF a p r s)))) U):aG prog 93 [int a,int p,int r,int s] U (Go.Abs.outK d env K' Qp):=mq (qAC a p r s h) (by simp) hq
theorem xR1{n:Int}{nm:ByteArray}{l:wB}(hl:l.length<=2){x:A}(hx:dS [] [int n,.lit (.string nm),x] [int n,.lit (.string nm),.sl l.length (yH l)])(hq:KD (env.put d (.agg (zJ (oG n nm (zIg l)))))):uD prog U d KD 95 [int n,.lit (.string nm),x] env:=z7 (qAD n nm l hl) hx (by simp) hq
end
theorem zU2:mv 49 [] [] (.agg (zP bE)) []:=by
 refine ml [] [.cell 0 2 true] func49 (by kernel_rfl) ?_
 (conv in kq _ _=>cbv)
 repeat (first|refine xI0 ?_|refine xI1 ?_|refine xT1 ?_|refine xF0 (by decide) ?_|simp[zI]|refine⟨by simp[maxLen],?_⟩)
 refine xR1 (l:=[7]) (by decide) (by simp) ?_
 repeat (first|refine xI0 ?_|refine xI1 ?_|refine xT1 ?_|refine xF0 (by decide) ?_|simp[zI]|refine⟨by simp[maxLen],?_⟩)
 refine xR1 (l:=[8,9]) (by decide) (by simp) ?_
 repeat (first|refine xI0 ?_|refine xI1 ?_|refine xT1 ?_|refine xF0 (by decide) ?_|simp[zI]|refine⟨by simp[maxLen],?_⟩)
 refine xR1 (l:=[13]) (by decide) (by simp) ?_
 repeat (first|refine xI0 ?_|refine xI1 ?_|refine xT1 ?_|refine xF0 (by decide) ?_|simp[zI]|refine⟨by simp[maxLen],?_⟩)
 exact zA 1 (by simp[zP,bE,zGo,oG,zIg,exS,exF,zRK,zRO,zRN,mT,zQ,j8,jQ,yR,zI,zJ,qH,oF,zK,zT,u4,z6,iD,yI,jO,Typ.zero,Id.zero,Exp.zero])
theorem zTe(hf:Fit p hs)(a b:wF)(ha:a.length<=1000000)(hb:b.length<=1000000)(v:Val)(hv:qN v<=256/\aD v<=24)(fuel:Int)(h0 : -30000<=fuel)(h1:fuel<=30000) :
 mv 63 [.agg (zP p),.sl a.length (zT a),.sl b.length (zT b),.agg (zF v),int fuel] [] (bl (iA p a b v fuel)) []:=by
 have hP:=eP p;have fa:=zAW hf a v fuel ha hv h0 h1;have fb:=zAW hf b v fuel hb hv h0 h1;have hcm:=dO (qQ p a v fuel).1 (qQ p b v fuel).1;have hse:iA p a b v fuel=(decide ((qQ p a v fuel).2.2=(qQ p b v fuel).2.2)&&decide (gG (qQ p a v fuel).1 (qQ p b v fuel).1=0)):=by unfold iA;congr 1;exact decide_eq_decide.2 (by rw[zJw,zJw];exact eq_comm)
 rw[hse];unfold fD at fa fb;refine ml [] [.slot 10] func63 (by kernel_rfl) ?_
 (conv in kq _ _=>cbv)
 simp[hP,zF];refine mq fa (by simp[hP,zF]) ?_;simp[zF];refine mq fb (by simp[hP,zF]) ?_;by_cases he:(qQ p a v fuel).2.2=(qQ p b v fuel).2.2
 .simp[zF,he];refine mq hcm (by simp[zF]) ?_;simp;exact zA 0 (by simp)
 .simp[zF,he];exact zA 0 (by simp)
def zXh:Nat->Option wD:=fun|14=>k_ [0,0,0,0,0,2,2,0,0,2,2,0,0,0,0]|_=>none
theorem zPT(hf:Fit p hs)(hsm:Sml p)(a b:Id)(h64:(yM p a b).length<=64)(hql:∀q∈yM p a b,q.length<=1000000)(most fuel:Int)(h0 : -30000<=fuel)(h1:fuel<=30000)
 (hv:∀v∈(yF p (yI a) most).1,qN v<=256/\aD v<=24) :
 mv 27 [.agg (zP p),.agg (zK a),.agg (zK b),int most,int fuel] [] (iM (cQ p a b most fuel)) []:=by
 have hP:=eP p;have hpa:=zPS hf a b h64;have hL:p.defs.length<=1000000:=by have:=hf.len8;omega
 refine mj zXh [] [.cell 10 3 true,.slot 11,.slot 12] func27 (by kernel_rfl) ?_
 (conv in zV _ _ _ _=>cbv)
 simp[hP,zK];refine zU hpa (by simp[hP,zK]) (by unfold eE;split<;>simp) ?_;by_cases hst:bQ p a=true/\bQ p b=true
 .have hpr:eE p a b=.tup [.sl (yM p a b).length (jR (yM p a b)),int 0]:=by unfold eE;rw[if_pos hst]
  rw[hpr];have hval:=zI9 p hL hsm (yI a) most;simp;refine z7 (zBN a) (by simp[zK]) (by simp[zB]) ?_;simp;refine z7 hval (by simp[hP,zB,yI]) (by simp) ?_;by_cases he:(yF p (yI a) most).2=0
  .have hres:cQ p a b most fuel=match lE p (yM p a b) fuel (yF p (yI a) most).1 with
    |some x=>(x.1,[(yM p a b).headD [],x.2],19)
    |none=>(vz,[],0):=by
    unfold cQ;rw[if_pos hst,if_neg (by simp[he])]
   rw[hres,he];generalize (yF p (yI a) most).1=L at *
   generalize yM p a b=all at *
   obtain⟨q0,hq0⟩:∃q0,q0=all.headD []:=⟨_,rfl⟩;have hdf:∀v,zDr p all v fuel=all.tail.find? fun q=>!iA p q0 q v fuel:=fun v=>by rw[hq0];rfl
   rw[<-hq0];rw[<-hq0]at hres;have hvz:zF vz=[int 0,int 0,.sl 0 []]:=by simp[zF,vz,Val.k,Val.n,Val.kids]
   simp;refine qK (S:=Nat) (fun i=>[(4,int fuel),(5,.ptr 0 0),(10,.ptr 1 0),(13,.sl all.length (jR all)),(15,.sl L.length (zR L)),(17,int i)]) (fun i=>[.box (zP p),.box (zF vz)])
    (fun i=>i<=L.length/\lE p all fuel L=lE p all fuel (L.drop i)) (fun i=>L.length-i) 0 ⟨by omega,by simp⟩
    (mu [0,3] 0 (by rfl) (by simp[hP,hvz])) ?_
   rintro i ⟨hi,hag⟩;by_cases h:i<L.length
   .have hdr:=zDi p all fuel h;have hvi:=hv L[i] (jA0 h);have hcd:=qL h;have hLne:¬L=[]:=fun e=>by rw[e]at h;simp at h
    generalize L[i]=v at hdr hvi hcd;simp[h];intro hmx;have hw:=z8 h hmx;refine qK (S:=Nat) (fun k=>[(4,int fuel),(5,.ptr 0 0),(10,.ptr 1 0),(13,.sl all.length (jR all)),(15,.sl L.length (zR L)),(17,int i),(18,int k)])
     (fun k=>[.box (zP p),.box (zF vz)])
     (fun k=>1<=k/\∀j,0<j->j<k->j<all.length->iA p q0 (all.getD j []) v fuel=true) (fun k=>all.length-k) 1 ⟨by omega,fun j _ hj=>by omega⟩
     (mu [0,1] 0 (by rfl) (by simp[hP,hvz])) ?_
    rintro k ⟨hk,hsame⟩;by_cases hk2:k<all.length
    .have hpd:=eV hk2;have hane:¬all=[]:=fun e=>by rw[e]at hk2;simp at hk2
     have hh0:0<all.length:=by omega
     have hpd0:=eV hh0;have hhd:q0=all[0]:=by rw[hq0];cases all with|nil=>simp at hk2|cons x l=>rfl
     rw[List.drop_zero]at hpd0;have hwk:=jZ k (by omega);have hgd:all.getD k []=all[k]:=by rw[jB7,jA1 hk2];rfl
     have hsa:=zTe hf q0 all[k] (by rw[hhd];exact hql _ (jA0 hh0)) (hql _ (jA0 hk2)) v hvi fuel h0 h1;rw[<-hhd]at hpd0;have hpt:List.take 1 (jR all)=[.sl q0.length (zT q0)]:=by rw[hpd0];rfl
     have h1l:1<=all.length:=hh0;have h1k:1<=all.length-k:=by omega
     generalize all[k]=q at hpd hgd hsa;simp[hP,hvz,h,hk2,hpd,hpt,hane,hh0,hcd,hLne,h1l,h1k]
     intros
     refine z7 hsa (by simp[hP,zF]) (by simp) ?_;cases hs:iA p q0 q v fuel with
     |true =>
      simp;exact zO (k+1) ⟨by omega,fun j hj0 hj1 hj2=>by
       by_cases e:j=k
       .subst e;show iA p q0 (all.getD j []) v fuel=true;rw[hgd];exact hs
       .exact hsame j hj0 (by omega) hj2⟩ (by omega) (mu [0,1] 0 (by rfl) (by simp[hP,hvz,hwk]))
     |false =>
      have hag2:lE p all fuel L=some (v,q):=by
       have hd:zDr p all v fuel=some q:=by
        rw[hdf,List.find?_eq_some_iff_getElem];refine⟨by simp[hs],k-1,by simp;omega,?_,fun j hj=>?_⟩
        .simp only[List.getElem_tail];rw[jB7,jA1 hk2,jB9]at hgd;rw[<-hgd];congr 1;omega
        .have:=hsame (j+1) (by omega) (by omega) (by omega);rw[jB7,jA1 (by omega),jB9]at this;simp only[List.getElem_tail];simp[this]
       rw[hag,hdr,hd]
      rw[hag2];simp[hP,hvz,h,hk2,hpd,hpt,hane,hh0,hcd,hLne,h1l,h1k];exact zA 0 (by simp[iM,zF,gW])
    .have hd:zDr p all v fuel=none:=by
      rw[hdf,jCx];intro q hq;obtain⟨j,hj,rfl⟩:=jAn hq;have hj2:j+1<all.length:=by simp at hj;omega
      have:=hsame (j+1) (by omega) (by omega) hj2;rw[jB7,jA1 hj2,jB9]at this;simp only[List.getElem_tail];simp[this]
     rw[hd]at hdr;simp[hP,hvz,hk2]
     intros
     exact zO (i+1) ⟨h,by rw[hag,hdr]⟩ (by omega) (mu [0,1] 0 (by rfl) (by simp[hP,hvz,hw]))
   .have hie:i=L.length:=by omega
    subst hie;rw[List.drop_length]at hag;simp only[lE]at hag;rw[hag];simp[hP,hvz]
    intros
    exact zA 0 (by simp[iM,hvz])
  .have hres:cQ p a b most fuel=(vz,[],(yF p (yI a) most).2):=by unfold cQ;rw[if_pos hst,if_pos he]
   rw[hres];simp[he];exact zA 0 (by simp[iM,zF,vz,Val.k,Val.n,Val.kids])
 .have hpr:eE p a b=.tup [.sl 0 [],int 6]:=by unfold eE;rw[if_neg hst]
  have hres:cQ p a b most fuel=(vz,[],6):=by unfold cQ;rw[if_neg hst]
  rw[hpr,hres];simp;exact zA 0 (by simp[iM,zF,vz,Val.k,Val.n,Val.kids])
theorem lK(n:Int):mv 50 [int n] [] (.agg (zK (iD n))) []:=oW n
theorem zFq(n:Int):mv 51 [int n] [] (.agg (zF (uO n))) []:=by
 refine ml [] [.cell 2 3 true] func51 (by kernel_rfl) ?_
 (conv in kq _ _=>cbv)
 simp;exact zA 0 (by simp[zF,uO,Val.k,Val.n,Val.kids])
theorem zOo(a b:List wF)(ha:a.length<=1000):mv 22 [.sl a.length (jR a),.sl b.length (jR b)] [] (bl (decide (a=b))) []:=by
 refine ml [] [.slot 4] func22 (by kernel_rfl) ?_
 (conv in kq _ _=>cbv)
 by_cases hab:a.length=b.length
 .have hab':(a.length:Int)=b.length:=by omega
  simp[hab];intro hlb;refine qK (S:=Nat) (fun i=>[(0,.sl a.length (jR a)),(1,.sl b.length (jR b)),(5,int i)]) (fun s=>[]) (fun i=>i<=a.length/\a.take i=b.take i) (fun i=>a.length-i) 0 (by simp)
   (mu [] 0 (by rfl) (by simp[hab])) ?_
  rintro i ⟨hi,hn⟩;by_cases h:i<a.length
  .have hb:i<b.length:=by omega
   have hs:=zQa a[i] b[i];have hpa:=eV h;have hpb:=eV hb;have hane:¬a=[]:=fun e=>by rw[e]at h;simp at h
   have hbne:¬b=[]:=fun e=>by rw[e]at hb;simp at hb
   have hw:=z8 h (show a.length<=maxLen by simp[maxLen];omega);simp[h,hb,hpa,hpb,hane,hbne];intro _;refine z7 hs (by simp) (by simp) ?_;by_cases hx:a[i]=b[i]
   .simp[hx];refine zO (i+1) ⟨h,?_⟩ (by omega) (mu [] 0 (by rfl) (by simp[hw]));rw[jA6 h,jA6 hb,hn,hx]
   .have hne:a≠b:=fun e=>hx (by subst e;rfl)
    simp[hx];exact zA 0 (by simp[hne])
  .have:i=a.length:=by omega
   subst this;simp;have:a=b:=by rw[jAt,hab,jAt]at hn;exact hn
   exact fun _=>zA 0 (by simp[this])
 .have hne:a≠b:=fun e=>hab (by rw[e])
  have hab':¬(a.length:Int)=b.length:=by omega
  simp[hab'];exact fun _ _=>zA 0 (by simp[hne])
theorem zU4:yO bE=[iD 1,iD 2,iD 3]:=by rw[yO,zV3];kernel_rfl
def zU3:wU:=[⟨iD 1,iD 10,iD 11⟩,⟨iD 2,iD 11,iD 12⟩,⟨iD 3,iD 10,iD 12⟩]
theorem zJ5:yA bE=zU3:=by unfold yA;rw[zU4];kernel_rfl
def lI:List wF:=[[iD 1,iD 2],[iD 3]]
theorem vG:yM bE (iD 10) (iD 12)=lI:=by unfold yM;rw[zJ5];kernel_rfl
theorem zNK:yM bE (iD 12) (iD 10)=[]:=by unfold yM;rw[zJ5];kernel_rfl
theorem zRQ:zAu bE [iD 1,iD 2] (uO 5) 100=(uO 5,10,0):=by kernel_rfl
theorem zU6:zAA bE (iD 2) 0=[0,1]:=by kernel_rfl
theorem zU5:zAA bE (iD 1) 1=[]:=by kernel_rfl
theorem zU8:yF bE (yI (iD 10)) 1=([uO 0,uO (-1),uO 1],0):=by unfold yF;rw[zDH zBF.ord];kernel_rfl
theorem zRP:cQ bE (iD 10) (iD 12) 1 100=(uO (-1),lI,19):=by unfold cQ;rw[zU8,vG];kernel_rfl
end Go.Proofs.YtdnelmeboihpkaaGreatDoor
