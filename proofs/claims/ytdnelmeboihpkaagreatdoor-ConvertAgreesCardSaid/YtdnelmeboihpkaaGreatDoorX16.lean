/- The reference's operations. -/
import Derived.Test.YtdnelmeboihpkaaGreatDoorX15
set_option linter.unusedVariables false
set_option maxHeartbeats 8000000
set_option maxRecDepth 100000
set_option linter.unusedSimpArgs false
open Go.Proofs.Tryz
namespace Go.Proofs.YtdnelmeboihpkaaGreatDoor
open Go.Abs
theorem zH5{a b:Int}(ha:Rng a)(hb:b≠0):mv 208 [int a,int b] [] (int (rK a b)) []:=by
 obtain⟨a1,a2⟩:=ha;refine ml [] [.slot 4] func208 (by kernel_rfl) ?_
 (conv in kq _ _=>cbv)
 have ht:=zIM (b:=b) a1 a2;have w1:=zY (a.tdiv b) (by omega);have w2:=zY (a.tdiv b-1) (by omega);have e:rK a b=if a.tmod b≠0/\¬(a<0↔b<0)then a.tdiv b-1 else a.tdiv b:=by unfold rK;rw[if_neg hb]
 have hq:=Int.tdiv_mul_add_tmod a b;have habs:(a.tmod b).natAbs<=a.natAbs:=by rw[Int.natAbs_tmod];exact Nat.mod_le _ _
 have w3:=zY (a.tdiv b*b) (by omega);have wa:=zY a (by omega);rw[e];by_cases hm:a.tmod b=0
 .have e1:a.tdiv b*b=a:=by omega
  simp[hb,w1,wa,e1];exact zA 0 (by simp[hm])
 .have e1:¬a.tdiv b*b=a:=by omega
  by_cases s1:a<0<;>by_cases s2:b<0<;>simp[hb,w1,w3,e1,s1,s2,w2]<;>exact zA 0 (by simp[hm,s1,s2])
theorem zKS{a b:Int}(ha:Rng a)(hb:Rng b):mv 207 [int a,int b] [] (int (bH (a*b))) []:=by
 obtain⟨a1,a2⟩:=ha;obtain⟨b1,b2⟩:=hb;refine ml [] [.slot 4] func207 (by kernel_rfl) ?_
 (conv in kq _ _=>cbv)
 obtain⟨m,hm⟩:∃m:Nat,m=a.natAbs:=⟨_,rfl⟩;obtain⟨n,hn⟩:∃n:Nat,n=b.natAbs:=⟨_,rfl⟩;obtain⟨D,hD⟩:∃D:Nat,D=m / 1048576:=⟨_,rfl⟩;obtain⟨M,hM⟩:∃M:Nat,M=m % 1048576:=⟨_,rfl⟩;obtain⟨H,hH⟩:∃H:Nat,H=D*n:=⟨_,rfl⟩;obtain⟨R,hR⟩:∃R:Nat,R=M*n:=⟨_,rfl⟩;have hs:m*n=1048576*H+R:=by
  have:m=1048576*D+M:=by omega
  rw[hH,hR,<-Nat.mul_assoc,<-jB2,<-this]
 have hHb:H<=1048576*1099511627776:=by rw[hH];exact Nat.mul_le_mul (by omega) (by omega)
 have hRb:R<=1048576*1099511627776:=by rw[hR];exact Nat.mul_le_mul (by omega) (by omega)
 have hd:(m:Int) / 1048576=(D:Int):=by omega
 have hd':Int.tdiv (m:Int) 1048576=(D:Int):=by rw[tdN (by omega)];omega
 have hr:(m:Int) % 1048576=(M:Int):=by omega
 have hr':Int.tmod (m:Int) 1048576=(M:Int):=by rw[tmN (by omega)];omega
 have wd:=zY (D:Int) (by omega);have eH:(D:Int)*(n:Int)=(H:Int):=by rw[hH,Int.natCast_mul]
 have eR:(M:Int)*(n:Int)=(R:Int):=by rw[hR,Int.natCast_mul]
 have es:(m:Int)*(n:Int)=((1048576*H+R:Nat):Int):=by rw[<-hs,Int.natCast_mul]
 have wH:=zY (H:Int) (by omega);have wR:=zY (R:Int) (by omega);have wm:=zY (m:Int) (by omega);have wn:=zY (n:Int) (by omega);have w1:IntKind.i64.wrap (-1) = -1:=by decide
 have w1':IntKind.i64.wrap 1=1:=by decide
 have wc:IntKind.i64.wrap 1099511627776=1099511627776:=by decide
 have wc':IntKind.i64.wrap (-1099511627776) = -1099511627776:=by decide
 have z1:¬((m:Int)<0):=by omega
 have z3:¬((n:Int)<0):=by omega
 have hpos:bH (a*b)=if (a<0↔b<0)then bH ((1048576*H+R:Nat):Int)else-bH ((1048576*H+R:Nat):Int):=by
  have hneg:∀x:Int,bH (-x) = - bH x:=fun x=>by unfold bH;split<;>split<;>first|omega|(split<;>omega)
  by_cases s1:a<0<;>by_cases s2:b<0
  .have:a*b=(m:Int)*n:=by rw[show a = -(m:Int) by omega,show b = -(n:Int) by omega,Int.neg_mul_neg]
   rw[this,es,if_pos (by simp[s1,s2])]
  .have:a*b = -((m:Int)*n):=by rw[show a = -(m:Int) by omega,show b=(n:Int) by omega,Int.neg_mul]
   rw[this,es,hneg,if_neg (by simp[s1,s2])]
  .have:a*b = -((m:Int)*n):=by rw[show a=(m:Int) by omega,show b = -(n:Int) by omega,Int.mul_neg]
   rw[this,es,hneg,if_neg (by simp[s1,s2])]
  .have:a*b=(m:Int)*n:=by rw[show a=(m:Int) by omega,show b=(n:Int) by omega]
   rw[this,es,if_pos (by simp[s1,s2])]
 rw[hpos];have hS:IntKind.i64.wrap ((H:Int)*1048576)=(H:Int)*1048576\/1099511627776<(H:Int):=by
  rcases jAx 1099511627776 H with h|h
  .exact .inr (by omega)
  .exact .inl (IntWalk.i64_in _ (by omega))
 by_cases hc:1099511627776<(H:Int)
 .have k1:bH ((1048576*H+R:Nat):Int)=1099511627776:=by unfold bH;rw[if_pos (by omega)]
  rw[k1];by_cases s1:a<0<;>by_cases s2:b<0
  .have ea:a = -(m:Int):=by omega
   have eb:b = -(n:Int):=by omega
   have sa : -(m:Int)<0:=by omega
   have sb : -(n:Int)<0:=by omega
   have sa':0<m:=by omega
   have sb':0<n:=by omega
   subst ea eb;simp[sa,sb,sa',sb',wm,wn,w1,w1',hd,hd',wd,eH,wH,hc,wc];exact zA 0 (by simp[sa',sb'])
  .have ea:a = -(m:Int):=by omega
   have eb:b=(n:Int):=by omega
   have sa : -(m:Int)<0:=by omega
   have sa':0<m:=by omega
   subst ea eb;simp[sa,sa',z3,wm,wn,w1,w1',hd,hd',wd,eH,wH,hc,wc'];exact zA 0 (by simp[sa',z3])
  .have ea:a=(m:Int):=by omega
   have eb:b = -(n:Int):=by omega
   have sb : -(n:Int)<0:=by omega
   have sb':0<n:=by omega
   subst ea eb;simp[sb,sb',z1,wm,wn,w1,w1',hd,hd',wd,eH,wH,hc,wc'];exact zA 0 (by simp[sb',z1])
  .have ea:a=(m:Int):=by omega
   have eb:b=(n:Int):=by omega
   subst ea eb;simp[z1,z3,wm,wn,w1,w1',hd,hd',wd,eH,wH,hc,wc];exact zA 0 (by simp[z1,z3])
 .have hS:=hS.resolve_right hc;have hT:IntKind.i64.wrap ((H:Int)*1048576+(R:Int))=((1048576*H+R:Nat):Int):=by rw[IntWalk.i64_in _ (by omega)];omega
  have hcl:=pA ((1048576*H+R:Nat):Int);have rc:=zF6 ((1048576*H+R:Nat):Int);generalize ((1048576*H+R:Nat):Int)=T at *
  have wT:=zY (bH T) (by omega);have wT':IntKind.i64.wrap (-bH T) = -bH T:=IntWalk.i64_in _ (by omega);by_cases s1:a<0<;>by_cases s2:b<0
  .have ea:a = -(m:Int):=by omega
   have eb:b = -(n:Int):=by omega
   have sa':0<m:=by omega
   have sb':0<n:=by omega
   subst ea eb;simp[sa',sb',wm,wn,w1,w1',hd,hd',wd,eH,wH,hc,hr,hr',eR,wR,hS,hT];refine mq rc (by simp) ?_;simp[wT];exact zA 0 (by simp[sa',sb'])
  .have ea:a = -(m:Int):=by omega
   have eb:b=(n:Int):=by omega
   have sa':0<m:=by omega
   subst ea eb;simp[sa',z3,wm,wn,w1,w1',hd,hd',wd,eH,wH,hc,hr,hr',eR,wR,hS,hT];refine mq rc (by simp) ?_;simp[wT'];exact zA 0 (by simp[sa',z3])
  .have ea:a=(m:Int):=by omega
   have eb:b = -(n:Int):=by omega
   have sb':0<n:=by omega
   subst ea eb;simp[sb',z1,wm,wn,w1,w1',hd,hd',wd,eH,wH,hc,hr,hr',eR,wR,hS,hT];refine mq rc (by simp) ?_;simp[wT'];exact zA 0 (by simp[sb',z1])
  .have ea:a=(m:Int):=by omega
   have eb:b=(n:Int):=by omega
   subst ea eb;simp[z1,z3,wm,wn,w1,w1',hd,hd',wd,eH,wH,hc,hr,hr',eR,wR,hS,hT];refine mq rc (by simp) ?_;simp[wT];exact zA 0 (by simp[z1,z3])
variable{p:Prg}{t:Typ}
theorem zZV{n:Int}{ts:wS}(h:OpT n ts t){vs:wI}(hv:TyL p ts vs)(hs:∀v∈vs,qN v<=256):mv 200 [int n,.sl vs.length (zR vs)] [] (.agg (zF (opV n vs))) []:=by
 refine ml [] [.cell 4 3 true] func200 (by kernel_rfl) ?_
 (conv in kq _ _=>cbv)
 cases h with
 |arith n h1 h2 =>
  obtain⟨a,b,rfl,ha,hb⟩:=hv.two;obtain⟨x,rfl,hx⟩:=ha.int_inv;obtain⟨y,rfl,hy⟩:=hb.int_inv;have e:opV n [.mk 0 x [],.mk 0 y []]=.mk 0 (uN n x y) []:=by simp only[opV,if_pos h2];rfl
  rw[e];have hn:n=0\/n=1\/n=2\/n=3\/n=4:=by omega
  rcases hn with rfl|rfl|rfl|rfl|rfl
  .have hw:=zY (x+y) (by omega);simp[qD,zX,zL,hw];refine mq (zF6 (x+y)) (by simp) ?_;simp;exact zA 0 (by simp[zF,qD,zX,zL,uN])
  .have hw:=zY (x-y) (by omega);simp[qD,zX,zL,hw];refine mq (zF6 (x-y)) (by simp) ?_;simp;exact zA 0 (by simp[zF,qD,zX,zL,uN])
  .simp[qD,zX,zL];refine mq (zKS hx hy) (by simp) ?_;simp;exact zA 0 (by simp[zF,qD,zX,zL,uN])
  .by_cases hy0:y=0
   .simp[qD,zX,zL,hy0];exact zA 0 (by simp[zF,qD,zX,zL,uN,rK])
   .simp[qD,zX,zL,hy0];refine mq (zH5 hx hy0) (by simp) ?_;simp;exact zA 0 (by simp[zF,qD,zX,zL,uN])
  .by_cases hy0:y=0
   .simp[qD,zX,zL,hy0];exact zA 0 (by simp[zF,qD,zX,zL,uN,zDR])
   .have hr:=zAS (a:=x) hy.1 hy.2;have e:zDR x y=x-y*rK x y:=by unfold zDR;rw[if_neg hy0]
    have w1:=zY (y*rK x y) (by omega);have w2:=zY (x-y*rK x y) (by omega);simp[qD,zX,zL,hy0];refine z7 (zH5 hx hy0) (by simp) (by simp) ?_;simp[w1,w2];exact zA 0 (by simp[zF,qD,zX,zL,uN,e])
 |less =>
  obtain⟨a,b,rfl,ha,hb⟩:=hv.two;obtain⟨x,rfl,hx⟩:=ha.int_inv;obtain⟨y,rfl,hy⟩:=hb.int_inv;simp[qD,zX,zL];refine mq (hU (decide (x<y))) (by simp[zF]) ?_;simp[zF];exact zA 0 (by by_cases hx0:x<y<;>simp[zF,opV,zX,hx0])
 |same u =>
  obtain⟨a,b,rfl,ha,hb⟩:=hv.two;simp;refine mq (dO a b) (by simp[zF]) ?_;simp;refine mq (hU (decide (gG a b=0))) (by simp[zF]) ?_;simp[zF];exact zA 0 (by simp[zF,opV])
 |andor n h =>
  obtain⟨a,b,rfl,ha,hb⟩:=hv.two;obtain⟨x,rfl,hx⟩:=ha.bool_inv;obtain⟨y,rfl,hy⟩:=hb.bool_inv;rcases h with rfl|rfl
  .rcases hx with rfl|rfl<;>rcases hy with rfl|rfl
   .simp[qD,zX,zL];refine mq (hU false) (by simp[zF]) ?_;simp[zF];exact zA 0 (by simp[zF,opV,zX])
   .simp[qD,zX,zL];refine mq (hU false) (by simp[zF]) ?_;simp[zF];exact zA 0 (by simp[zF,opV,zX])
   .simp[qD,zX,zL];refine mq (hU false) (by simp[zF]) ?_;simp[zF];exact zA 0 (by simp[zF,opV,zX])
   .simp[qD,zX,zL];refine mq (hU true) (by simp[zF]) ?_;simp[zF];exact zA 0 (by simp[zF,opV,zX])
  .rcases hx with rfl|rfl<;>rcases hy with rfl|rfl
   .simp[qD,zX,zL];refine mq (hU false) (by simp[zF]) ?_;simp[zF];exact zA 0 (by simp[zF,opV,zX])
   all_goals
    simp[qD,zX,zL];refine mq (hU true) (by simp[zF]) ?_;simp[zF];exact zA 0 (by simp[zF,opV,zX])
 |not =>
  obtain⟨a,rfl,ha⟩:=hv.one;obtain⟨x,rfl,hx⟩:=ha.bool_inv;simp[qD,zX,zL];refine mq (hU (decide (x=0))) (by simp[zF]) ?_;simp[zF];exact zA 0 (by by_cases hx0:x=0<;>simp[zF,opV,zX,hx0])
 |join u =>
  obtain⟨a,b,rfl,ha,hb⟩:=hv.two;have h1:=hs a (by simp);have h2:=hs b (by simp);cases a with|mk k1 n1 l1 =>
  cases b with|mk k2 n2 l2 =>
  simp only[qN]at h1 h2;have z1:=iS l1;have z2:=iS l2;simp[qD,zX,zL];exact⟨⟨by simp[maxLen];omega,by omega⟩,⟨by simp[maxLen];omega,by omega⟩,zA 1 (by simp[zF,opV,qD,zX,zL])⟩
 |len u =>
  obtain⟨a,rfl,ha⟩:=hv.one;simp;exact fun _=>zA 0 (by simp[zF,opV,qD,zX,zL])
def zAT(f:Int->Id)(x:Id):Id:=if x.b=0 then f x.c else x
def zCX(f:Int->Id)(b:Bnd):Bnd:={b with id:=zAT f b.id}
def qCL(f:Int->Id)(env:wJ):Prop:=∀b∈env,∀b'∈env,zAT f b.id=zAT f b'.id->b.id=b'.id
variable{f:Int->Id}{x:Id}
theorem zPA{env:wJ}(h:qCL f env){n:Int}:fX env x n=some t->fX (env.map (zCX f)) (zAT f x) n=some t:=by
 have hmem:fX env x n=some t->∃b∈env,b.id=x:=by intro he;unfold fX at he;rw[jAj]at he;obtain⟨b,hb,_⟩:=he;have h1:=jD8 hb;have h2:=jDi hb;rw[jA7]at h1;exact⟨b,List.mem_reverse.1 h2,of_decide_eq_true h1.1⟩
 intro he;obtain⟨b0,hb0,rfl⟩:=hmem he;clear hmem;have key:∀l:wJ,(∀b∈l,b∈env)->fX l b0.id n=some t->fX (l.map (zCX f)) (zAT f b0.id) n=some t:=by
  intro l;induction l using nQ with
  |nil=>intro _ h;simp[fX]at h
  |snoc l y ih =>
   intro hl hk;rw[tI]at hk;rw[jBs,jDd,tI];have hy:=hl y (by simp);by_cases c1:y.id=b0.id
   .by_cases c2:y.n=n
    .rw[if_pos ⟨c1,c2⟩]at hk;rw[if_pos ⟨by simp only[zCX];rw[c1],c2⟩];exact hk
    .rw[if_neg fun h=>c2 h.2]at hk;rw[if_neg fun h=>c2 h.2];exact ih (fun b hb=>hl b (jBk _ hb)) hk
   .rw[if_neg fun h=>c1 h.1]at hk;rw[if_neg fun e=>c1 (h y hy b0 hb0 e.1)];exact ih (fun b hb=>hl b (jBk _ hb)) hk
 exact key env (fun _ h=>h) he
theorem zHJ:∀l:wG,l.length<=(yN l).length
 |[]=>by simp
 |e::l=>by
  have:=zHJ l;have h1:1<=(tmps e).length:=by rw[gR];simp
  simp only[jAb,yN,jA5];omega
theorem zFT:∀{l:wG} {e:Exp},e∈l->(tmps e).Sublist (yN l)
 |x::l,e,h=>by
  simp only[yN];rcases jA3.1 h with rfl|h
  .exact List.sublist_append_left _ _
  .exact(zFT h).trans (List.sublist_append_right _ _)
structure Frs(f:Int->Id)(env:List Bnd)(e:Exp):Prop where
 nd:(tmps e).Nodup
 num:e.num0
 inj:∀c∈tmps e,∀c'∈tmps e,f c=f c'->c=c'
 new:∀b∈env,∀c∈tmps e,zAT f b.id≠f c
 len:(tmps e).length<=32768
 ib:qCL f env
section
variable{f:Int->Id}{env:wJ}{i:Id}{k n:Int}{r:Id}{u:Typ}{ks:wG}{ns:List ByteArray}
theorem Frs.id(h:Frs f env (.mk i k n r u ks ns)):i=⟨0,0,i.c⟩:=by obtain⟨a,b,c⟩:=i;have:=h.num;simp only[Exp.num0]at this;simp[this.1.1,this.1.2]
theorem Frs.kid(h:Frs f env (.mk i k n r u ks ns)){e:Exp}(he:e∈ks):Frs f env e:=by
 obtain⟨h1,h2,h3,h4,h5,h6⟩:=h;simp only[tmps]at h1 h3 h4 h5;simp only[Exp.num0,zCN]at h2;have hs:=zFT he;have hm:∀c∈tmps e,c∈yN ks++[i.c]:=fun c hc=>jBk _ (hs.subset hc)
 exact⟨(jCu.1 h1).1.sublist hs,h2.2 e he,fun c hc c' hc'=>h3 c (hm c hc) c' (hm c' hc'),fun b hb c hc=>h4 b hb c (hm c hc),by
  have:=hs.length_le;rw[jA5]at h5;omega,h6⟩
theorem Frs.push(h:Frs f env (.mk i k n r u ks ns)){e:Exp}(he:e∈ks)(m:Int)(t:Typ){env':wJ}(hb:env'=env\/∃m' t',env'=env++[⟨i,m',t'⟩]):Frs f (env'++[⟨i,m,t⟩]) e:=by
 have hk:=h.kid he;have hi:=h.id;obtain⟨h1,h2,h3,h4,h5,h6⟩:=h;simp only[tmps]at h1 h3 h4;have hic:i.c∈yN ks++[i.c]:=by simp
 have hri:zAT f i=f i.c:=by unfold zAT;rw[if_pos (by rw[hi])]
 have hmem:∀b∈env'++[(⟨i,m,t⟩:Bnd)],b∈env\/b.id=i:=by
  intro b hb';rcases jAc.1 hb' with hb'|hb'
  .rcases hb with rfl|⟨m',t',rfl⟩
   .exact .inl hb'
   .rcases jAc.1 hb' with hb'|hb'
    .exact .inl hb'
    .rw[jAp.1 hb'];exact .inr rfl
  .rw[jAp.1 hb'];exact .inr rfl
 refine⟨hk.nd,hk.num,hk.inj,fun b hb' c hc=>?_,hk.len,fun b hb1 b' hb2 e=>?_⟩
 .rcases hmem b hb' with h'|h'
  .exact hk.new b h' c hc
  .rw[h',hri];intro e;have hc':=(zFT he).subset hc;have:=h3 i.c hic c (jBk _ hc') e;exact(jCu.1 h1).2.2 c hc' i.c (by simp) this.symm
 .rcases hmem b hb1 with h'|h'<;>rcases hmem b' hb2 with h''|h''
  .exact h6 b h' b' h'' e
  .rw[h'',hri]at e;exact(h4 b h' i.c hic e).elim
  .rw[h',hri]at e;exact(h4 b' h'' i.c hic e.symm).elim
  .rw[h',h'']
theorem Frs.fresh(h:Frs f env (.mk i k n r u ks ns)):∀x∈env.map (zCX f),x.id≠f i.c:=by intro x hx;obtain⟨b,hb,rfl⟩:=jAd.1 hx;exact h.new b hb i.c (by simp[tmps])
theorem Frs.kids(h:Frs f env (.mk i k n r u ks ns)):(ks.map (lC f)).length<=32768:=by have h1:=h.len;have h2:=zHJ ks;simp only[tmps,jA5]at h1;rw[jAe];omega
end
theorem cY{i:Id}{k n:Int}{r:Id}{u:Typ}{ks:wG}{ns:List ByteArray}(h:k≠2):lC f (.mk i k n r u ks ns)=.mk (f i.c) k n r u (ks.map (lC f)) ns:=by simp only[lC,r7,h,false_and,if_false]
def zQx(P:Prg)(hs:wP):Prop:=∀(k:Nat) (h:k<hs.length),∃d,jK P.defs hs[k].id=some d/\d.hd=hs[k]
variable{P:Prg}{hs:wP}
theorem qIb(hh:zQx P hs){own:Int}{env:wJ}{e:Exp}(h:WT hs own env e t):Frs f env e->WE P (env.map (zCX f)) (lC f e) t:=by
 induction h with
 |int env i n h1 h2=>intro hF;rw[cY (by decide)];exact .int _ _ _ _ _ _ h1 h2
 |bool env i n h=>intro hF;rw[cY (by decide)];exact .bool _ _ _ _ _ _ h
 |var env i n x t h =>
  intro hF;have e:lC f (.mk i 2 n x Typ.zero [] [])=.mk (f i.c) 2 n (zAT f x) Typ.zero [] []:=by simp only[lC,zKQ,true_and,zAT]
  rw[e];exact .var _ _ _ _ _ _ _ (zPA hF.ib h)
 |call env i k h ks ho hk hl hw ih =>
  intro hF;obtain⟨d,hd,hhd⟩:=hh k h;have e1:d.kind=hs[k].kind:=congrArg Hd.kind hhd;have e2:d.slots=hs[k].slots:=congrArg Hd.slots hhd;have e3:d.res=hs[k].res:=congrArg Hd.res hhd;rw[cY (by decide),<-e3];refine .call _ _ _ _ _ _ _ hF.kids d hd (by rw[e1];exact hk) (by simp only[jAe,e2];exact hl) fun j hj=>?_
  simp only[jAw,e2];rw[jAe]at hj;exact ih j hj (hF.kid (jA0 hj))
 |arith env i n a b h1 h2 ha hb iha ihb =>
  intro hF;rw[cY (by decide)];refine .op _ _ _ _ _ _ _ hF.kids [jO,jO] jO (.arith n h1 h2) rfl fun j hj=>?_
  match j,hj with
  | 0,_=>exact iha (hF.kid (by simp))
  | 1,_=>exact ihb (hF.kid (by simp))
 |less env i a b ha hb iha ihb =>
  intro hF;rw[cY (by decide)];refine .op _ _ _ _ _ _ _ hF.kids [jO,jO] jX .less rfl fun j hj=>?_
  match j,hj with
  | 0,_=>exact iha (hF.kid (by simp))
  | 1,_=>exact ihb (hF.kid (by simp))
 |same env i a b u ha hb iha ihb =>
  intro hF;rw[cY (by decide)];refine .op _ _ _ _ _ _ _ hF.kids [u,u] jX (.same u) rfl fun j hj=>?_
  match j,hj with
  | 0,_=>exact iha (hF.kid (by simp))
  | 1,_=>exact ihb (hF.kid (by simp))
 |andor env i n a b h ha hb iha ihb =>
  intro hF;rw[cY (by decide)];refine .op _ _ _ _ _ _ _ hF.kids [jX,jX] jX (.andor n h) rfl fun j hj=>?_
  match j,hj with
  | 0,_=>exact iha (hF.kid (by simp))
  | 1,_=>exact ihb (hF.kid (by simp))
 |not env i a ha iha =>
  intro hF;rw[cY (by decide)];refine .op _ _ _ _ _ _ _ hF.kids [jX] jX .not rfl fun j hj=>?_
  match j,hj with
  | 0,_=>exact iha (hF.kid (by simp))
 |join env i a b t ha hb iha ihb =>
  intro hF;rw[cY (by decide)];refine .op _ _ _ _ _ _ _ hF.kids [yC t,yC t] (yC t) (.join t) rfl fun j hj=>?_
  match j,hj with
  | 0,_=>exact iha (hF.kid (by simp))
  | 1,_=>exact ihb (hF.kid (by simp))
 |len env i a t ha iha =>
  intro hF;rw[cY (by decide)];refine .op _ _ _ _ _ _ _ hF.kids [yC t] jO (.len t) rfl fun j hj=>?_
  match j,hj with
  | 0,_=>exact iha (hF.kid (by simp))
 |ite env i a b c t ha hb hc iha ihb ihc =>
  intro hF;rw[cY (by decide)];exact .ite _ _ _ _ _ _ _ _ _ _ (iha (hF.kid (by simp))) (ihb (hF.kid (by simp))) (ihc (hF.kid (by simp)))
 |lets env i a b u t ns hn ha hb iha ihb =>
  intro hF;rw[cY (by decide)];have hb':=ihb (hF.push (by simp) 0 u (.inl rfl));rw[jBs,jDd]at hb';have hi:=hF.id;have e:zCX f ⟨i,0,u⟩=⟨f i.c,0,u⟩:=by simp only[zCX,zAT];rw[if_pos (by rw[hi])]
  rw[e]at hb';exact .lets _ _ _ _ _ _ _ _ _ _ hF.fresh (iha (hF.kid (by simp))) hb'
 |record env i k h ks hk hl hw ih =>
  intro hF;obtain⟨d,hd,hhd⟩:=hh k h;have e1:d.kind=hs[k].kind:=congrArg Hd.kind hhd;have e2:d.slots=hs[k].slots:=congrArg Hd.slots hhd;rw[cY (by decide)];refine .record _ _ _ _ _ _ _ hF.kids d hd (by rw[e1];exact hk) (by simp only[jAe,e2];exact hl) fun j hj=>?_
  simp only[jAw,e2];rw[jAe]at hj;exact ih j hj (hF.kid (jA0 hj))
 |field env i k h j hj a hk ha iha =>
  intro hF;obtain⟨d,hd,hhd⟩:=hh k h;have e1:d.kind=hs[k].kind:=congrArg Hd.kind hhd;have e2:hs[k].slots=d.slots:=(congrArg Hd.slots hhd).symm;rw[cY (by decide)];have hjd:j<d.slots.length:=by rw[<-e2];exact hj
  have et:hs[k].slots[j]=d.slots[j]:=by simp only[e2]
  rw[et];exact .field _ _ _ _ _ _ d j hd (by rw[e1];exact hk) hjd (iha (hF.kid (by simp)))
 |case env i k h j hj a hk ha iha =>
  intro hF;obtain⟨d,hd,hhd⟩:=hh k h;have e1:d.kind=hs[k].kind:=congrArg Hd.kind hhd;have e2:hs[k].slots=d.slots:=(congrArg Hd.slots hhd).symm;rw[cY (by decide)];have hjd:j<d.slots.length:=by rw[<-e2];exact hj
  have et:hs[k].slots[j]=d.slots[j]:=by simp only[e2]
  have ih:=iha (hF.kid (by simp));rw[et]at ih;exact .case _ _ _ _ _ _ d j hd (by rw[e1];exact hk) hjd ih
 |mtch env i k h a ks t ns hn hk hl ha hw iha ih =>
  intro hF;obtain⟨d,hd,hhd⟩:=hh k h;have e1:d.kind=hs[k].kind:=congrArg Hd.kind hhd;have e2:d.slots=hs[k].slots:=congrArg Hd.slots hhd;rw[cY (by decide),jAg];have hi:=hF.id;refine .mtch _ _ _ _ _ _ _ _ d _ hF.fresh hd (by rw[e1];exact hk) (by simp only[jAe,e2];exact hl) (iha (hF.kid (by simp))) fun j hj=>?_
  have hj':j<ks.length:=by rw[jAe]at hj;exact hj
  have:=ih j hj' (hF.push (jAh _ (jA0 hj')) _ _ (.inl rfl));rw[jBs,jDd]at this;have e:∀t,zCX f ⟨i,j,t⟩=⟨f i.c,j,t⟩:=fun t=>by simp only[zCX,zAT];rw[if_pos (by rw[hi])]
  rw[e]at this;simp only[jAw,e2];exact this
 |list env i t ks hw ih =>
  intro hF;rw[cY (by decide)];refine .list _ _ _ _ _ _ _ _ hF.kids fun j hj=>?_
  rw[jAe]at hj;rw[jAw];exact ih j hj (hF.kid (jA0 hj))
 |fold env i l s b u t ns hn hl hs' hb ihl ihs ihb =>
  intro hF;rw[cY (by decide)];have hb':=ihb (hF.push (by simp) 1 t (.inr ⟨0,u,rfl⟩));rw[jBs,jDd,jBs,jDd]at hb';have hi:=hF.id;have e:∀m t,zCX f ⟨i,m,t⟩=⟨f i.c,m,t⟩:=fun m t=>by simp only[zCX,zAT];rw[if_pos (by rw[hi])]
  rw[e,e]at hb';exact .fold _ _ _ _ _ _ _ _ _ _ _ hF.fresh (ihl (hF.kid (by simp))) (ihs (hF.kid (by simp))) hb'
theorem sV:∀{ds:wQ} (_:ds.Pairwise fun a b=>a.id≠b.id) {k:Nat} (hk:k<ds.length),jK ds ds[k].id=some ds[k]
 |d::ds,h,0,_=>by rw[zAD];simp
 |d::ds,h,k+1,hk=>by
  rw[jBq]at h;have hk':k<ds.length:=by simpa using hk
  rw[zAD];have:=h.1 ds[k] (jA0 hk');simp only[jDc];rw[if_neg this];exact sV h.2 hk'
structure Fit(P:Prg)(hs:List Hd):Prop where
 heads:P.defs.map Dfn.hd=hs
 len8:P.defs.length<=100
 nd:P.defs.Pairwise fun a b=>a.id≠b.id
 slots:∀d∈P.defs,1<=d.slots.length/\d.slots.length<=6/\(d.kind=0\/d.kind=1->d.slots.length<=3)/\(d.slots.Pairwise fun a b=>a.id≠b.id)/\∀s∈d.slots,TyOk hs 4 s.typ
 kinds:∀d∈P.defs,0<=d.kind/\d.kind<=5
 bods:zLq P
theorem Fit.hd(h:Fit P hs):zQx P hs:=fun k hk=>by
 have hk':k<P.defs.length:=by rw[<-h.heads]at hk;simpa using hk
 have e:hs[k]=P.defs[k].hd:=by simp[<-h.heads]
 refine⟨P.defs[k],?_,e.symm⟩;rw[e];exact sV h.nd hk'
theorem aV{ds:wQ}{r:Id}{d:Dfn}(h:jK ds r=some d):d∈ds/\d.id=r:=⟨jDi h,by simpa using jD8 h⟩
section
variable{l:wB}{mods:Int}(hl:∀x∈l,w64 x=x)
include hl
theorem zPN:∀p∈qJ l mods,p.kind=0\/p.kind=1->p.types.length<=3:=by
 intro p hp;have a2:=yJ (i:=2) hl (most:=3) (by omega);have a6:=yJ (i:=6) hl (most:=2) (by omega);have a9:=yJ (i:=9) hl (most:=3) (by omega);have hp':p=dN l mods\/p=fB l mods\/p=mH l mods\/p=zDQ mods\/p.kind=2\/p.kind=3\/p.kind=4\/p.kind=5:=by
  simp only[qJ,plB,plC,plD,plE,jAc,jA3]at hp;rcases hp with ((h|h|h)|h)|h|h|h|h
  .simp[h]
  .simp[h]
  .simp at h
  .split at h
   .simp at h;rcases h with h|h<;>simp[h]
   .simp at h
  .simp[h,pF]
  .split at h<;>simp[h,zBP,pG]
  .simp[h,pT]
  .split at h
   .simp at h;simp[h,pC]
   .simp at h
 rcases hp' with rfl|rfl|rfl|rfl|h
 .intro _;simp only[dN,mL];omega
 .intro _;simp only[fB,jAb,mL];omega
 .intro _;simp only[mH,jAb,mL];omega
 .intro _;simp only[zDQ,jAb,jBe];omega
 .omega
end
theorem PrgOk.len5{l:wB}(h:PrgOk l P):5<=P.defs.length/\P.defs.length<=8:=by
 obtain⟨n5,n8⟩:=cF l (nmV l:Int);have hh:=h.heads;have hlen:P.defs.length=(qJ l (nmV l)).length:=by have:=congrArg List.length hh;simpa using this
 omega
theorem PrgOk.fit{l:wB}(hl:∀x∈l,w64 x=x)(h:PrgOk l P):Fit P (hsV l (nmV l)):=by
 obtain⟨hnm,hnm2⟩:=zSH l hl;generalize hN:nmV l=nm at *
 have m1:1<=(nm:Int):=by omega
 have m2:(nm:Int)<=2:=by omega
 obtain⟨n5,n8⟩:=cF l (nm:Int);have hh:=h.heads;rw[hN]at hh;have hlen:P.defs.length=(qJ l nm).length:=by have:=congrArg List.length hh;simpa using this
 have hget:∀(k:Nat) (hk:k<P.defs.length),P.defs[k].hd=⟨idR (nm+k),((qJ l nm)[k]'(by omega)).kind,eF (cL nm (qJ l nm) k) ((qJ l nm)[k]'(by omega)),((qJ l nm)[k]'(by omega)).out⟩:=fun k hk=>by
  rw[<-oJ nm (qJ l nm) (by omega)];have:(P.defs.map Dfn.hd)[k]'(by simpa using hk)=(zGr nm (qJ l nm))[k]'(by simpa using (by omega:k<(qJ l nm).length)):=by simp only[hh]
  rwa[jAw]at this
 have hnd:P.defs.Pairwise fun a b=>a.id≠b.id:=by rw[jCr];intro i j hi hj hij e;have e1:P.defs[i].id=idR (nm+i):=congrArg Hd.id (hget i hi);have e2:P.defs[j].id=idR (nm+j):=congrArg Hd.id (hget j hj);rw[e1,e2]at e;have:=tD (by omega) (by omega) (by omega) (by omega) e;omega
 have hpl:=fM l nm m1 m2 hl;have hrange:=fun i=>mZ (show 0<=(nm:Int) by omega) (fun p hp=>(hpl p hp).t6) i
 have henv:∀(k:Nat) (hk:k<P.defs.length),EnvOk (hsV l nm) 4 0 (fE P.defs[k])/\1<=(fE P.defs[k]).length/\(fE P.defs[k]).length<=6/\TyOk (hsV l nm) 4 P.defs[k].res:=fun k hk=>zC4 m1 m2 hl (i:=k) (by rw[<-hh,jC0,jA1 hk];rfl) 0
 have hslot:∀(k:Nat) (hk:k<P.defs.length),∀s∈P.defs[k].slots,∃j:Int,s.id=idR j/\0<=j/\j<cL nm (qJ l nm) (qJ l nm).length:=fun k hk s hs=>by have e:P.defs[k].slots=eF (cL nm (qJ l nm) k) ((qJ l nm)[k]'(by omega)):=congrArg Hd.slots (hget k hk);rw[e]at hs;simp only[eF,jAd,jBx]at hs;obtain⟨j,hj,rfl⟩:=hs;have h1:=hrange k;have h2:=zFm nm (qJ l nm) (i:=k) (by omega);have h3:=zMD (mods:=nm) (ps:=qJ l nm) (show k+1<=(qJ l nm).length by omega);exact⟨_,rfl,by omega,by omega⟩
 refine⟨hh,by omega,hnd,fun d hd=>?_,fun d hd=>?_,fun r d hd hb=>?_⟩
 .obtain⟨k,hk,rfl⟩:=jAn hd;obtain⟨a1,a2,a3,a4⟩:=henv k hk;rw[zBw]at a2 a3;refine⟨a2,a3,fun hkd=>?_,?_,fun s hs=>a1.typs ⟨s.id,0,s.typ⟩ (jAd.2 ⟨s,hs,rfl⟩)⟩
  .have e1:P.defs[k].kind=((qJ l nm)[k]'(by omega)).kind:=congrArg Hd.kind (hget k hk);have e2:P.defs[k].slots=eF (cL nm (qJ l nm) k) ((qJ l nm)[k]'(by omega)):=congrArg Hd.slots (hget k hk);rw[e2,mK];exact zPN hl _ (jA0 _) (by rw[<-e1];exact hkd)
  .have:=a1.nd;simp only[fE]at this;rw[jCq]at this;exact this.imp fun h e=>h ⟨e,rfl⟩
 .obtain⟨k,hk,rfl⟩:=jAn hd;have e1:P.defs[k].kind=((qJ l nm)[k]'(by omega)).kind:=congrArg Hd.kind (hget k hk);rw[e1];have:=hpl _ (jA0 (show k<(qJ l nm).length by omega));exact⟨this.kind0,this.kind5⟩
 .obtain⟨hd1,rfl⟩:=aV hd;obtain⟨k,hk,rfl⟩:=jAn hd1;obtain⟨base,hb0,hbs⟩:=h.bodies;rw[hN]at hb0 hbs;have hbase:∀k,k<=P.defs.length->cL nm (qJ l nm) (qJ l nm).length<=base k/\base k<=cL nm (qJ l nm) (qJ l nm).length+32768*k:=by
   intro k;induction k with
   |zero=>intro _;rw[hb0];omega
   |succ k ih =>
    intro hk;have ih:=ih (by omega);rcases hbs k P.defs[k] (jA1 (by omega))with ⟨_,_,e⟩|⟨_,e,f,hr,e'⟩
    .rw[e];omega
    .rw[e'];have:=hr.len;omega
  have hbk:=hbase k (by omega);have hr0:=hrange (qJ l nm).length;rcases hbs k P.defs[k] (jA1 hk)with ⟨h0,_,_⟩|⟨_,e,f,hr,_⟩
  .rw[h0]at hb;cases hb
  .have hlt:=hr.len;have hfc:∀c∈tmps e,∃j:Nat,∃hj:j<(tmps e).length,(tmps e)[j]=c/\f c=idR (base k+j):=fun c hc=>by obtain⟨j,hj,rfl⟩:=jAn hc;exact⟨j,hj,rfl,hr.ids j hj⟩
   have hsb:∀b∈fE P.defs[k],∃j:Int,b.id=idR j/\zAT f b.id=idR j/\0<=j/\j<cL nm (qJ l nm) (qJ l nm).length:=fun b hb=>by simp only[fE,jAd]at hb;obtain⟨s,hs,rfl⟩:=hb;obtain⟨j,h1,h2,h3⟩:=hslot k hk s hs;have:=zXk (k:=j) h2 (by omega);refine⟨j,h1,?_,h2,h3⟩;simp only[zAT,h1];rw[if_neg (by omega)]
   have hF:Frs f (fE P.defs[k]) e:=by
    refine⟨hr.nd,hr.num,fun c hc c' hc' he=>?_,fun b hb' c hc he=>?_,hr.len,fun b hb1 b' hb2 he=>?_⟩
    .obtain⟨j,hj,e1,e2⟩:=hfc c hc;obtain⟨j',hj',e1',e2'⟩:=hfc c' hc';rw[e2,e2']at he;have:=tD (by omega) (by omega) (by omega) (by omega) he;have:j=j':=by omega
     subst this;rw[<-e1,<-e1']
    .obtain⟨j,hj,e1,e2⟩:=hfc c hc;obtain⟨j',_,e3,h0,h1⟩:=hsb b hb';rw[e3,e2]at he;have:=tD (by omega) (by omega) (by omega) (by omega) he;omega
    .obtain⟨j,e1,e2,h0,h1⟩:=hsb b hb1;obtain⟨j',e1',e2',h0',h1'⟩:=hsb b' hb2;rw[e2,e2']at he;rw[e1,e1',he]
   have hho:zQx P (hsV l nm):=fun k hk=>by
    have hk':k<P.defs.length:=by rw[<-hh]at hk;simpa using hk
    have e:(hsV l nm)[k]=P.defs[k].hd:=by simp[<-hh]
    exact⟨P.defs[k],by rw[e];exact sV hnd hk',e.symm⟩
   have:=qIb hho hr.wt hF;rw[<-hr.body]at this;have e2:(fE P.defs[k]).map (zCX f)=fE P.defs[k]:=by
    rw[jC6 (g:=id)]
    .simp
    .intro b hb';obtain⟨j,e1,e2,_,_⟩:=hsb b hb';simp only[zCX,id,e2];rw[<-e1]
   rw[e2]at this;exact this
variable{r:Nat}
theorem TyOk.valid(hh:zQx P hs)(h:TyOk hs r t):∀n,r<n->yE P n t=true:=by
 induction h with
 |int r=>intro n hn;obtain⟨m,rfl⟩:∃m,n=m+1:=⟨n-1,by omega⟩;simp[yE]
 |bool r=>intro n hn;obtain⟨m,rfl⟩:∃m,n=m+1:=⟨n-1,by omega⟩;simp[yE]
 |list r t h ih =>
  intro n hn;obtain⟨m,rfl⟩:∃m,n=m+1:=⟨n-1,by omega⟩;simp[yE,ih m (by omega)]
 |dfn r k h h1 h2 h3 h4 ih =>
  intro n hn;obtain⟨m,rfl⟩:∃m,n=m+1:=⟨n-1,by omega⟩;obtain⟨d,hd,hhd⟩:=hh k h;have e1:d.kind=hs[k].kind:=congrArg Hd.kind hhd;simp[yE,tF,hd,e1];omega
theorem TyOk.validT(hh:zQx P hs)(h:TyOk hs r t)(hr:r<24):validT P t=true:=h.valid hh 24 hr
theorem Fit.at_(h:Fit P hs)(k:Nat)(hk:k<hs.length):(dfn P hs[k].id).hd=hs[k]/\dfn P hs[k].id∈P.defs:=by
 obtain⟨d,hd,hhd⟩:=h.hd k hk;have:dfn P hs[k].id=d:=by simp[dfn,hd]
 rw[this];exact⟨hhd,(aV hd).1⟩
theorem rM{P:Prg}:∀{ts:wS} {vs:wI},dU P ts vs=true->∀(j:Nat) (h1:j<ts.length) (h2:j<vs.length),bY P ts[j] vs[j]=true
 |t::ts,v::vs,h,j,h1,h2=>by
  rw[dU,jA7]at h;cases j with
  |zero=>exact h.1
  |succ j=>exact rM h.2 j (by simpa using h1) (by simpa using h2)
theorem zIi(hf:Fit P hs)(h:TyOk hs r t):∀v,bY P t v=true->TyV P t v:=by
 induction h with
 |int r =>
  intro v hv;rw[eA]at hv;simp at hv;obtain⟨_,⟨⟨h1,h2⟩,h3⟩,h4⟩:=hv;obtain⟨k,n,l⟩:=v;simp only[Val.k,Val.n,Val.kids]at h1 h2 h3 h4;subst h1 h2;exact .int n h3 h4
 |bool r =>
  intro v hv;rw[eA]at hv;simp at hv;obtain⟨_,⟨h1,h2⟩,h3⟩:=hv;obtain⟨k,n,l⟩:=v;simp only[Val.k,Val.n,Val.kids]at h1 h2 h3;subst h1 h2;exact .bool n h3
 |list r t h ih =>
  intro v hv;rw[eA]at hv;simp at hv;obtain⟨_,⟨h1,h2⟩,h3⟩:=hv;obtain⟨k,n,l⟩:=v;simp only[Val.k,Val.n,Val.kids]at h1 h2 h3;subst h1 h2;exact .list _ _ fun x hx=>ih x (h3 x hx)
 |dfn r k h h1 h2 h3 h4 ih =>
  intro v hv;obtain⟨d,hd,hhd⟩:=hf.hd k h;have e1:d.kind=hs[k].kind:=congrArg Hd.kind hhd;have e2:d.slots=hs[k].slots:=congrArg Hd.slots hhd;have ed:dfn P hs[k].id=d:=by simp[dfn,hd]
  rw[eA]at hv;simp only[Typ.k_mk,Typ.id_mk,ed]at hv;obtain⟨kk,n,l⟩:=v;by_cases hk:d.kind=1
  .simp[hk,Val.k,Val.n,Val.kids]at hv;obtain⟨_,⟨⟨⟨g1,g2⟩,g3⟩,g4⟩,g5⟩:=hv;replace g1:=of_decide_eq_true g1;replace g2:=of_decide_eq_true g2;replace g3:=of_decide_eq_true g3;replace g4:=of_decide_eq_true g4;obtain⟨x,rfl⟩:=List.length_eq_one_iff.1 g4;obtain⟨j,rfl⟩:∃j:Nat,n=j:=⟨n.toNat,by omega⟩;have hj:j<d.slots.length:=by omega
   rw[jCl,jA1 hj,jDl,zJA]at g5;subst g1;exact .case _ d j x hd hk hj (ih d.slots[j] (by rw[<-e2];exact jA0 hj) x g5)
  .simp[hk,Val.k,Val.n,Val.kids]at hv;obtain⟨_,⟨⟨g1,g2⟩,g3⟩,g4⟩:=hv;replace g1:=of_decide_eq_true g1;replace g2:=of_decide_eq_true g2;replace g3:=of_decide_eq_true g3;subst g1 g2;refine .record _ d l hd (by omega) g3 fun j hj=>?_
   have hjd:j<d.slots.length:=by omega
   have:=rM g4 j (by simpa using hjd) hj;rw[jAw]at this;exact ih d.slots[j] (by rw[<-e2];exact jA0 hjd) l[j] this
structure InvX(I:XS->Prop):Prop where
 tick:∀e s,I s->¬s.fuel<=0->I (nJ e s)
 dfn:∀(d:Id) s,I s->I {s with ds:=s.ds++[d]}
 fail:∀(x:Int) s,I s->I {s with fail:=x}
section
variable{p:Prg}{ev:Evl}{I:XS->Prop}
theorem uT(h:∀e V s,I s->I (ev e V s).2)(V:wO):∀(l:wG) (s:XS),I s->I (jJ ev V l s).2
 |[],s,hs=>hs
 |e::l,s,hs=>by simp only[jJ];exact uT h V l _ (h e V s hs)
theorem xP(h:∀e V s,I s->I (ev e V s).2)(V:wO)(i:Id)(b:Exp):∀(l:wI) (r:Val×XS),I r.2->I (yB ev V i b l r).2
 |[],r,hs=>hs
 |e::l,r,hs=>by simp only[yB];exact xP h V i b l _ (h _ _ _ hs)
theorem xL(hI:InvX I)(h:∀e V s,I s->I (ev e V s).2)(d:Dfn)(vs:wI)(s:XS)(hs:I s):I (b7 ev d vs s).2:=by
 unfold b7;split
 .exact hs
 .exact h _ _ _ (hI.dfn d.id s hs)
theorem zJl(h:∀e V s,I s->I (ev e V s).2)(e:Exp)(V:wO)(s:XS)(hs:I s):I (j6 ev e V s).2:=by
 unfold j6;have h0:=h (e.kids.headD .zero) V s hs;generalize ev (e.kids.headD .zero) V s=r at *
 repeat' split
 all_goals first
  |exact h0
  |exact h _ _ _ h0
  |exact xP h _ _ _ _ _ (h _ _ _ h0)
theorem zNl(hI:InvX I)(h:∀e V s,I s->I (ev e V s).2)(fl:Nat)(e:Exp)(V:wO)(s:XS)(hs:I s):I (qP p fl ev e V s).2:=by
 unfold qP;have h0:=uT h V e.kids s hs;generalize jJ ev V e.kids s=r at *
 repeat' split
 all_goals first
  |exact hs
  |exact h0
  |exact zJl h _ _ _ hs
  |exact xL hI h _ _ _ h0
theorem rW(hI:InvX I)(fl:Nat):∀(n:Nat) e V s,I s->I (aT p fl n e V s).2
 | 0,e,V,s,hs=>by
  rw[aT];split
  .exact hs
  .exact hI.fail _ _ hs
 |n+1,e,V,s,hs=>by
  rw[aT];split
  .exact hs
  .split
   .exact hI.fail _ _ hs
   .rename_i h;have:=zNl (p:=p) hI (rW hI fl n) fl e V _ (hI.tick e s hs h);show I (gY _);unfold gY;split
    .exact hI.fail _ _ this
    .exact this
def Fu(F:Int)(s:XS):Prop:=0<=s.fuel/\s.fuel<=F
theorem zEN(F:Int):InvX (Fu F) :=
 ⟨fun e s h hf=>⟨by unfold nJ;dsimp only;omega,by unfold nJ;have:=h.2;dsimp only;omega⟩,fun d s h=>h,fun x s h=>h⟩
theorem zEt(h:pR ev)(V:wO):∀(l:wG) (s:XS) (i k:Nat),i<=k->(jJ ev V (l.take k) s).2.fail=0->(jJ ev V (l.take i) s).2.fail=0
 |[],s,i,k,_,h0=>by simpa using h0
 |e::l,s,0,k,_,h0=>by
  by_cases hs:s.fail=0
  .simpa[jJ]using hs
  .rw[xK h V _ _ hs]at h0;exact(hs h0).elim
 |e::l,s,i+1,0,hik,h0=>by omega
 |e::l,s,i+1,k+1,hik,h0=>by simp only[jC8,jJ]at h0 ⊢;exact zEt h V l _ i k (by omega) h0
theorem zEs(h:pR ev)(V:wO):∀(l:wG) (s:XS),s.fail=0->(jJ ev V l s).2.fail≠0 ->
 ∃(k:Nat) (hk:k<l.length),(jJ ev V (l.take k) s).2.fail=0/\(ev l[k] V (jJ ev V (l.take k) s).2).2=(jJ ev V l s).2
 |[],s,hs,hf=>(hf hs).elim
 |e::l,s,hs,hf=>by
  by_cases h0:(ev e V s).2.fail=0
  .simp only[jJ]at hf;obtain⟨k,hk,h1,h2⟩:=zEs h V l _ h0 hf;exact⟨k+1,by simpa using hk,by simpa only[jC8,jJ]using h1,by simpa only[jC8,jJ,jDc]using h2⟩
  .refine⟨0,by simp,hs,?_⟩;simp only[List.take_zero,jJ,jCz];rw[xK h V l _ h0]
theorem zC9(h:pR ev)(V:wO)(x:Id)(b:Exp):∀(l:wI) (r:Val×XS) (i k:Nat),i<=k->(yB ev V x b (l.take k) r).2.fail=0->(yB ev V x b (l.take i) r).2.fail=0
 |[],r,i,k,_,h0=>by simpa using h0
 |v::l,r,0,k,_,h0=>by
  by_cases hs:r.2.fail=0
  .simpa[yB]using hs
  .rw[oI h V _ _ _ _ hs]at h0;exact(hs h0).elim
 |v::l,r,i+1,0,hik,h0=>by omega
 |v::l,r,i+1,k+1,hik,h0=>by simp only[jC8,yB]at h0 ⊢;exact zC9 h V x b l _ i k (by omega) h0
theorem zD0(h:pR ev)(V:wO)(x:Id)(b:Exp):∀(l:wI) (r:Val×XS),r.2.fail=0->(yB ev V x b l r).2.fail≠0 ->
 ∃(k:Nat) (_:k<l.length),(yB ev V x b (l.take k) r).2.fail=0/\(yB ev V x b (l.take (k+1)) r).2=(yB ev V x b l r).2
 |[],r,hs,hf=>(hf hs).elim
 |v::l,r,hs,hf=>by
  simp only[yB]at hf;by_cases h0:(ev b (V++[⟨x,0,v⟩]++[⟨x,1,r.1⟩]) r.2).2.fail=0
  .obtain⟨k,hk,h1,h2⟩:=zD0 h V x b l _ h0 hf;exact⟨k+1,by simpa using hk,by simpa only[jC8,yB]using h1,by simpa only[jC8,yB]using h2⟩
  .refine⟨0,by simp,hs,?_⟩;simp only[jB1,jC8,List.take_zero,yB];rw[oI h V _ _ _ _ h0]
end
def zYa:List ByteArray:=[⟨#[65]⟩,⟨#[66]⟩,⟨#[67]⟩,⟨#[68]⟩]
def xyT:List ByteArray:=[⟨#[120]⟩,⟨#[121]⟩]
def cT:List ByteArray:=[⟨#[99,48]⟩,⟨#[99,49]⟩,⟨#[99,50]⟩,⟨#[99,51]⟩,⟨#[99,52]⟩,⟨#[99,53]⟩,⟨#[99,54]⟩]
section
variable(l:wB)
def zNP(i k:Nat)(m:Gm):Slt:=⟨idR ((20+2*i+k:Nat):Int),xyT.getD k ⟨#[]⟩,tK (gN l m 3),0,k⟩
def bC(i:Nat):Nat->Gm->List Slt×Gm
 | 0,m=>([],m)
 |n+1,m=>((bC i n m).1++[zNP l i n (bC i n m).2],(bC i n m).2.tick)
def eX(m:Gm):Nat:=(1+gN l m 2).toNat
def vM(i:Nat)(m:Gm):Dfn×Gm:=(⟨idR ((1+i:Nat):Int),0,idR 0,zYa.getD i ⟨#[]⟩,(bC l i (eX l m) m.tick).1,.zero,.zero,0,[]⟩,(bC l i (eX l m) m.tick).2)
def yT:Nat->Gm->wQ×Gm
 | 0,m=>([],m)
 |n+1,m=>((yT n m).1++[(vM l n (yT n m).2).1],(vM l n (yT n m).2).2)
def iC(many:Nat)(m:Gm):Nat×Nat×Gm :=
 if gN l m many=gN l m.tick many then
  (if 0<gN l m.tick.tick 3 then ((gN l m many).toNat,((gN l m many).toNat+1) % many,m.tick.tick.tick)else ((gN l m many).toNat,(gN l m many).toNat,m.tick.tick.tick))
 else ((gN l m many).toNat,(gN l m.tick many).toNat,m.tick.tick)
def gI(a b:Dfn)(s:Id)(m:Gm):Exp×Gm :=
 if gN l (sZ l b a s m).2 5=1 then
  bJ (sZ l b a s (cV l a s 1 1 (sZ l b a s m).2.tick).2).2 5 0 Id.zero [(cV l a s 1 1 (sZ l b a s m).2.tick).1,(sZ l b a s m).1,(sZ l b a s (cV l a s 1 1 (sZ l b a s m).2.tick).2).1]
 else ((sZ l b a s m).1,(sZ l b a s m).2.tick)
def zJM(R:wQ)(x y:Nat)(s:Id)(m:Gm):Exp×Gm :=
 if x=y then
  (if gN l m 2=1 then bJ m.tick 2 0 s []else gI l (R.getD x .zero) (R.getD y .zero) s m.tick)
 else gI l (R.getD x .zero) (R.getD y .zero) s m
def zBA(R:wQ)(i:Nat)(m:Gm):Dfn×Gm :=
 (⟨idR ((6+i:Nat):Int),5,idR 0,cT.getD i ⟨#[]⟩,[⟨idR ((30+i:Nat):Int),⟨#[111,108,100]⟩,yI (R.getD (iC l R.length m).1 .zero).id,0,0⟩],yI (R.getD (iC l R.length m).2.1 .zero).id,
  (zJM l R (iC l R.length m).1 (iC l R.length m).2.1 (idR ((30+i:Nat):Int)) (iC l R.length m).2.2).1,0,[]⟩,
  (zJM l R (iC l R.length m).1 (iC l R.length m).2.1 (idR ((30+i:Nat):Int)) (iC l R.length m).2.2).2)
def a7(R:wQ):Nat->Gm->wQ×Gm
 | 0,m=>([],m)
 |n+1,m=>((a7 R n m).1++[(zBA l R n (a7 R n m).2).1],(zBA l R n (a7 R n m).2).2)
def yZ:Nat:=(2+atV l 0 3).toNat
def aM:wQ:=(yT l (yZ l) ⟨1,40⟩).1++(a7 l (yT l (yZ l) ⟨1,40⟩).1 (gN l (yT l (yZ l) ⟨1,40⟩).2 8).toNat (yT l (yZ l) ⟨1,40⟩).2.tick).1
def vK:Prg:=⟨[⟨idR 0,⟨#[99,111,114,101]⟩,[],(aM l).map (·.id)⟩],aM l⟩
theorem mG(i:Nat)(m:Gm):∀n,(bC l i n m).1.length=n
 | 0=>rfl
 |n+1=>by simp[bC,mG i m n]
theorem s5(i:Nat)(m:Gm):∀(n k:Nat) (h:k<(bC l i n m).1.length),∃m',(bC l i n m).1[k]=zNP l i k m'
 | 0,k,h=>by simp[bC]at h
 |n+1,k,h=>by
  have hl:=mG l i m n;by_cases hk:k<n
  .obtain⟨m',h'⟩:=s5 i m n k (by omega);exact⟨m',by simp only[bC];rw[jBl (by omega)];exact h'⟩
  .have hkn:k=n:=by rw[mG]at h;omega
   subst hkn;exact⟨(bC l i k m).2,by simp only[bC];rw[jC2 (by omega)];simp[hl]⟩
theorem iZ(m:Gm):∀n,(yT l n m).1.length=n
 | 0=>rfl
 |n+1=>by simp[yT,iZ m n]
theorem zGZ(m:Gm):∀(n k:Nat) (h:k<(yT l n m).1.length),∃m',(yT l n m).1[k]=(vM l k m').1
 | 0,k,h=>by simp[yT]at h
 |n+1,k,h=>by
  have hl:=iZ l m n;by_cases hk:k<n
  .obtain⟨m',h'⟩:=zGZ m n k (by omega);exact⟨m',by simp only[yT];rw[jBl (by omega)];exact h'⟩
  .have hkn:k=n:=by rw[iZ]at h;omega
   subst hkn;exact⟨(yT l k m).2,by simp only[yT];rw[jC2 (by omega)];simp[hl]⟩
theorem iP(R:wQ)(m:Gm):∀n,(a7 l R n m).1.length=n
 | 0=>rfl
 |n+1=>by simp[a7,iP R m n]
theorem zEO(R:wQ)(m:Gm):∀(n k:Nat) (h:k<(a7 l R n m).1.length),∃m',(a7 l R n m).1[k]=(zBA l R k m').1
 | 0,k,h=>by simp[a7]at h
 |n+1,k,h=>by
  have hl:=iP l R m n;by_cases hk:k<n
  .obtain⟨m',h'⟩:=zEO R m n k (by omega);exact⟨m',by simp only[a7];rw[jBl (by omega)];exact h'⟩
  .have hkn:k=n:=by rw[iP]at h;omega
   subst hkn;exact⟨(a7 l R k m).2,by simp only[a7];rw[jC2 (by omega)];simp[hl]⟩
end
theorem zV8(t:Int):tK t=jO\/tK t=jX:=by
 unfold tK;split
 .exact .inr rfl
 .exact .inl rfl
theorem zHW{α:Type}{A B C:List α}(e:C=A++B)(k:Nat)(h:k<C.length):(∃h':k<A.length,C[k]=A[k])\/(A.length<=k/\∃h':k-A.length<B.length,C[k]=B[k-A.length]):=by
 subst e;by_cases hk:k<A.length
 .exact .inl ⟨hk,jBl hk⟩
 .exact .inr ⟨by omega,by rw[jA5]at h;omega,jC2 (by omega)⟩
theorem xQ{α:Type}{L:List α}{i:Nat}(h:i<L.length)(z : α):L.getD i z=L[i]:=by rw[jB7,jA1 h,jB9]
section
variable{l:wB}(hl:∀x∈l,w64 x=x)
include hl
theorem sX(m:Gm):1<=eX l m/\eX l m<=2:=by have h:0<=gN l m 2/\gN l m 2<2:=yJ hl (by omega);unfold eX;omega
theorem vJ:2<=yZ l/\yZ l<=4:=by have h:0<=atV l 0 3/\atV l 0 3<3:=yJ hl (by omega);unfold yZ;omega
theorem zJP(many:Nat)(hm:0<many)(m:Gm):(iC l many m).1<many/\(iC l many m).2.1<many:=by
 have h1:0<=gN l m many/\gN l m many<many:=yJ hl (by omega);have h2:0<=gN l m.tick many/\gN l m.tick many<many:=yJ hl (by omega);have h3:=Nat.mod_lt ((gN l m many).toNat+1) hm;unfold iC;split
 .split
  .exact⟨by simp only;omega,h3⟩
  .exact⟨by simp only;omega,by simp only;omega⟩
 .exact⟨by simp only;omega,by simp only;omega⟩
theorem zGU{p:Prg}{a b:Dfn}(ha:Flat p a)(hb:Flat p b)(s:Id)(m:Gm):WF p [⟨s,0,yI a.id⟩] (gI l a b s m).1 (yI b.id):=by
 unfold gI;split
 .exact .ite _ _ _ _ _ _ _ _ _ (rR hl ha s 1 _ (.inr rfl)) (zIo hl ha s hb _) (zIo hl ha s hb _)
 .exact zIo hl ha s hb _
theorem zRY{p:Prg}{R:wQ}(hR:∀a∈R,Flat p a){x y:Nat}(hx:x<R.length)(hy:y<R.length)(s:Id)(m:Gm):WF p [⟨s,0,yI (R.getD x .zero).id⟩] (zJM l R x y s m).1 (yI (R.getD y .zero).id):=by
 have ha:Flat p (R.getD x .zero):=by rw[xQ hx];exact hR _ (jA0 hx)
 have hb:Flat p (R.getD y .zero):=by rw[xQ hy];exact hR _ (jA0 hy)
 unfold zJM;split
 .split
  .rename_i e _;subst e;exact .var _ _ _ _ _ _ (by simp[fX]) (.inr (.inr ⟨_,ha,rfl⟩))
  .exact zGU hl ha hb s _
 .exact zGU hl ha hb s _
theorem zCA:(aM l).length<=11/\2<=(aM l).length:=by have h1:=vJ hl;have h2:0<=gN l (yT l (yZ l) ⟨1,40⟩).2 8/\gN l (yT l (yZ l) ⟨1,40⟩).2 8<8:=yJ hl (by omega);unfold aM;rw[jA5,iZ,iP];omega
theorem rO(k:Nat)(h:k<(aM l).length) :
 (k<yZ l/\∃m,(aM l)[k]=(vM l k m).1)\/(yZ l<=k/\k-yZ l<7/\∃m,(aM l)[k]=(zBA l (yT l (yZ l) ⟨1,40⟩).1 (k-yZ l) m).1):=by
 have h2:0<=gN l (yT l (yZ l) ⟨1,40⟩).2 8/\gN l (yT l (yZ l) ⟨1,40⟩).2 8<8:=yJ hl (by omega);have hlen:=iZ l ⟨1,40⟩ (yZ l);rcases zHW (show aM l=_++_ from rfl) k h with ⟨h',e⟩|⟨h',h'',e⟩
 .obtain⟨m,hm⟩:=zGZ l ⟨1,40⟩ (yZ l) k h';exact .inl ⟨by omega,m,e.trans hm⟩
 .obtain⟨m,hm⟩:=zEO l (yT l (yZ l) ⟨1,40⟩).1 (yT l (yZ l) ⟨1,40⟩).2.tick (gN l (yT l (yZ l) ⟨1,40⟩).2 8).toNat _ h'';have e2:=e.trans hm;rw[iP]at h'';rw[hlen]at h' h'' e2;exact .inr ⟨h',by omega,m,e2⟩
theorem zJO(k:Nat)(h:k<(aM l).length):(aM l)[k].id=idR (if k<yZ l then ((1+k:Nat):Int)else ((6+(k-yZ l):Nat):Int)):=by
 rcases rO hl k h with ⟨hk,m,e⟩|⟨hk,_,m,e⟩
 .rw[e,if_pos hk];rfl
 .rw[e,if_neg (by omega)];rfl
theorem zEP:(aM l).Pairwise fun a b=>a.id≠b.id:=by have h1:=vJ hl;rw[jCr];intro i j hi hj hij e;have h11:=zCA hl;rw[zJO hl i hi,zJO hl j hj]at e;have:=tD (by split<;>omega) (by split<;>omega) (by split<;>omega) (by split<;>omega) e;split at this<;>split at this<;>omega
theorem zCB{k:Nat}(hk:k<yZ l)(h:k<(aM l).length):Flat (vK l) (aM l)[k]:=by
 rcases rO hl k h with ⟨_,m,e⟩|⟨hk',_⟩
 .have h2:=sX hl m;have hf:=sV (zEP hl) h;have h3:(aM l)[k].kind=0/\(aM l)[k].slots=(bC l k (eX l m) m.tick).1:=by rw[e];exact⟨rfl,rfl⟩
  refine⟨hf,h3.1,fun s hs=>?_,?_⟩
  .rw[h3.2]at hs;obtain⟨j,hj,rfl⟩:=jAn hs;obtain⟨m',e'⟩:=s5 l k m.tick (eX l m) j hj;rw[e'];exact zV8 _
  .rw[h3.2,mG];omega
 .omega
theorem s4:∀a∈(yT l (yZ l) ⟨1,40⟩).1,Flat (vK l) a:=by
 intro a ha;obtain⟨k,hk,rfl⟩:=jAn ha;have hkm:k<yZ l:=by rw[iZ]at hk;exact hk
 have hkd:k<(aM l).length:=by unfold aM;rw[jA5];omega
 have:=zCB hl hkm hkd;rcases zHW (show aM l=(yT l (yZ l) ⟨1,40⟩).1++_ from rfl) k hkd with ⟨h',e⟩|⟨h',h'',e⟩
 .rw[e]at this;exact this
 .omega
theorem zT5{j:Nat}(hj:j<yZ l)(h:j<(aM l).length):TyOk ((aM l).map Dfn.hd) 4 (yI (aM l)[j].id):=by
 have h4:=zCB hl hj h;have hnd:=zEP hl;rw[jCr]at hnd;have e:((aM l).map Dfn.hd)[j]'(by simpa using h)=(aM l)[j].hd:=by simp
 have hid:(aM l)[j].id=(((aM l).map Dfn.hd)[j]'(by simpa using h)).id:=by rw[e];rfl
 rw[hid];refine .dfn 3 j (by simpa using h) (fun i hi=>?_) (.inl (by rw[e];exact h4.kind)) (by rw[e];exact h4.few) fun s hs=>?_
 .have:=hnd i j (by omega) h hi
  simpa[Dfn.hd]using this
 .rw[e]at hs;rcases h4.flat s hs with e|e<;>rw[e]
  .exact .int _
  .exact .bool _
theorem zGY:Fit (vK l) ((aM l).map Dfn.hd):=by
 have h11:=zCA hl;have hm:=vJ hl;have hlen:=iZ l ⟨1,40⟩ (yZ l);have hend:=fun m=>zJP hl (yT l (yZ l) ⟨1,40⟩).1.length (by omega) m
 have hdef:∀j (hj:j<yZ l),∃hj':j<(aM l).length,(yT l (yZ l) ⟨1,40⟩).1.getD j .zero=(aM l)[j]:=by
  intro j hj;have hj':j<(aM l).length:=by unfold aM;rw[jA5];omega
  refine⟨hj',?_⟩;rw[xQ (by omega)];rcases zHW (show aM l=(yT l (yZ l) ⟨1,40⟩).1++_ from rfl) j hj' with ⟨h',e⟩|⟨h',h'',e⟩
  .exact e.symm
  .omega
 refine⟨rfl,by show (aM l).length<=100;omega,zEP hl,fun d hd=>?_,fun d hd=>?_,fun r d hd hb=>?_⟩
 .change d∈aM l at hd;obtain⟨k,hk,rfl⟩:=jAn hd;rcases rO hl k hk with ⟨_,m,e⟩|⟨hk',hk7,m,e⟩
  .have h2:=sX hl m;have h3:(aM l)[k].slots=(bC l k (eX l m) m.tick).1:=by rw[e];rfl
   have h4:=zCB hl (by omega) hk;have h5:=mG l k m.tick (eX l m);refine⟨by rw[h3];omega,by rw[h3];omega,fun _=>by rw[h3];omega,?_,fun s hs=>?_⟩
   .rw[h3,jCr];intro i j hi hj hij e;obtain⟨m1,e1⟩:=s5 l k m.tick (eX l m) i hi;obtain⟨m2,e2⟩:=s5 l k m.tick (eX l m) j hj;rw[e1,e2]at e;have:=tD (by omega) (by omega) (by omega) (by omega) (show idR _=idR _ from e);omega
   .rcases h4.flat s hs with e|e<;>rw[e]
    .exact .int _
    .exact .bool _
  .obtain⟨hj,ej⟩:=hdef (iC l (yT l (yZ l) ⟨1,40⟩).1.length m).1 (by have:=(hend m).1;omega);have h3:(aM l)[k].slots=[⟨idR ((30+(k-yZ l):Nat):Int),⟨#[111,108,100]⟩,yI (aM l)[(iC l (yT l (yZ l) ⟨1,40⟩).1.length m).1].id,0,0⟩]:=by rw[e,<-ej];rfl
   rw[h3];refine⟨by simp,by simp,fun _=>by simp,by simp,fun s hs=>?_⟩;rw[jAp]at hs;subst hs;exact zT5 hl (by have:=(hend m).1;omega) hj
 .change d∈aM l at hd;obtain⟨k,hk,rfl⟩:=jAn hd;rcases rO hl k hk with ⟨_,m,e⟩|⟨hk',hk7,m,e⟩<;>(rw[e];simp[vM,zBA])
 .obtain⟨hd1,rfl⟩:=aV hd;change d∈aM l at hd1;obtain⟨k,hk,rfl⟩:=jAn hd1;rcases rO hl k hk with ⟨_,m,e⟩|⟨hk',hk7,m,e⟩
  .rw[e]at hb;simp[fO,vM]at hb
  .rw[e];exact(zRY hl (s4 hl) (hend m).1 (hend m).2 _ _).we
end
inductive Nam:Typ->Id->Prop
 |here (t:Typ) (h:t.k=3):Nam t t.id
 |kid (t k:Typ) (x:Id) (h:k∈t.kids) (hx:Nam k x):Nam t x
inductive Rch(p:Prg)(T:Typ->Prop):Id->Prop
 |base (t:Typ) (x:Id) (ht:T t) (hx:Nam t x):Rch p T x
 |step (y:Id) (s:Slt) (x:Id) (hy:Rch p T y) (hs:s∈(dfn p y).slots) (hx:Nam s.typ x):Rch p T x
variable{T T':Typ->Prop}
theorem Rch.mono(h:Rch p T x)(hT:∀t,T t->T' t):Rch p T' x:=by
 induction h with
 |base t x ht hx=>exact .base t x (hT t ht) hx
 |step y s x _ hs hx ih=>exact .step y s x ih hs hx
theorem Rch.one(h:Rch p T x):∃t,T t/\Rch p (· = t) x:=by
 induction h with
 |base t x ht hx=>exact⟨t,ht,.base t x rfl hx⟩
 |step y s x _ hs hx ih =>
  obtain⟨t,ht,h⟩:=ih;exact⟨t,ht,.step y s x h hs hx⟩
def zF7(p:Prg):Nat->Typ->List Id->wF
 | 0,_,L=>L
 |f+1,t,L=>if t.k=3/\t.id∉t.kids.foldl (fun L k=>zF7 p f k L) L then (dfn p t.id).slots.foldl (fun L s=>zF7 p f s.typ L) (t.kids.foldl (fun L k=>zF7 p f k L) L++[t.id])
  else t.kids.foldl (fun L k=>zF7 p f k L) L
structure Meets(p:Prg)(T:Typ->Prop)(L L':List Id):Prop where
 sub:∀x∈L,x∈L'
 all:∀t x,T t->Nam t x->x∈L'
 clo:∀x∈L',x∉L->∀s∈(dfn p x).slots,∀y,Nam s.typ y->y∈L'
 snd:∀x∈L',x∈L\/Rch p T x
theorem Meets.trans{L L' L'':wF}(h:Meets p T L L')(k:Meets p T' L' L''):Meets p (fun t=>T t\/T' t) L L'':=by
 refine⟨fun x hx=>k.sub x (h.sub x hx),fun t x ht hx=>?_,fun x hx hn s hs y hy=>?_,fun x hx=>?_⟩
 .rcases ht with ht|ht
  .exact k.sub x (h.all t x ht hx)
  .exact k.all t x ht hx
 .by_cases hx':x∈L'
  .exact k.sub y (h.clo x hx' hn s hs y hy)
  .exact k.clo x hx hx' s hs y hy
 .rcases k.snd x hx with hx|hx
  .rcases h.snd x hx with hx|hx
   .exact .inl hx
   .exact .inr (hx.mono fun _ h=>.inl h)
  .exact .inr (hx.mono fun _ h=>.inr h)
theorem Meets.congr{L L':wF}(h:Meets p T L L')(hT:∀t,T t↔T' t):Meets p T' L L' :=
 ⟨h.sub,fun t x ht hx=>h.all t x ((hT t).2 ht) hx,h.clo,fun x hx=>(h.snd x hx).imp (fun h=>h) fun h=>h.mono fun t=>(hT t).1⟩
def zMM(p:Prg)(ss:List Slt)(L:wF):wF:=ss.foldl (fun L s=>zF7 p 10 s.typ L) L
mutual
def zK1:Typ->List Id->wF
 | .mk k x l,L=>zFl l (if k=3 then nC L x else L)
def zFl:List Typ->List Id->wF
 |[],L=>L
 |t::l,L=>zFl l (zK1 t L)
end
mutual
theorem zK2:∀(t:Typ) (L:wF) (x:Id),x∈zK1 t L↔x∈L\/Nam t x
 | .mk k y l,L,x=>by
  rw[zK1,zHs l];constructor
  .rintro(h|⟨t,ht,h⟩)
   .split at h
    .rename_i hk;rcases rS.1 h with h|h
     .exact .inl h
     .subst h;exact .inr (.here (.mk k x l) hk)
    .exact .inl h
   .exact .inr (.kid (.mk k y l) t x ht h)
  .rintro(h|h)
   .left;split
    .exact rS.2 (.inl h)
    .exact h
   .generalize hT:Typ.mk k y l=T at h;cases h with
    |here _ h =>
     subst hT;left;show y∈_;rw[if_pos (show k=3 from h)];exact rS.2 (.inr rfl)
    |kid _ t _ ht hx =>
     subst hT;exact .inr ⟨t,ht,hx⟩
theorem zHs:∀(l:wS) (L:wF) (x:Id),x∈zFl l L↔x∈L\/∃t∈l,Nam t x
 |[],L,x=>by simp[zFl]
 |t::l,L,x=>by rw[zFl,zHs l,zK2 t];simp only[jA3,exists_eq_or_imp,or_assoc]
end
mutual
theorem zOf:∀(t:Typ) (L:wF),SS L->SS (zK1 t L)
 | .mk k y l,L,h=>by
  rw[zK1];refine zK3 l _ ?_;split
  .exact zIv h
  .exact h
theorem zK3:∀(l:wS) (L:wF),SS L->SS (zFl l L)
 |[],L,h=>h
 |t::l,L,h=>by rw[zFl];exact zK3 l _ (zOf t L h)
end
def namS(ss:List Slt)(L:wF):wF:=ss.foldl (fun L s=>zK1 s.typ L) L
end Go.Proofs.YtdnelmeboihpkaaGreatDoor
namespace Go.Proofs.YtdnelmeboihpkaaGreatDoor
open Go.Abs
def zZ4(l:wF):List (wB×A):=l.map fun x=>(zAI x,.lit (.bool true))
@[simp]theorem qJH{rf:Bool->Nat->Nat->A}{g:Nat->wC}(l:wF):((zZ4 l).map fun p=>(p.1,vw rf g p.2))=zZ4 l:=by
 simp only[zZ4,jCg];refine jC6 fun x _=>?_
 simp
@[simp]theorem qJ5{a:A}:s7 (.bool false) false (some a)=a:=rfl
@[simp]theorem qJ4:s7 (.bool false) false none=.lit (.bool false):=rfl
structure RL(p:Prg)(L:List Id):Prop where
 nd:L.Nodup
 sub:∀x∈L,x∈p.defs.map Dfn.id
theorem RL.len{p:Prg}{hs:wP}(hf:Fit p hs){L:wF}(h:RL p L):L.length<=100:=by
 have:=h.nd.length_le_of_subset (l₂:=p.defs.map Dfn.id) h.sub;have:=hf.len8;simp at *
 omega
theorem RL.fold{p:Prg} {α:Type}(g : α->List Id->wF):∀(l:List α) (L:wF),(∀a∈l,∀L,RL p L->RL p (g a L))->RL p L->RL p (l.foldl (fun L a=>g a L) L)
 |[],L,_,h=>h
 |a::l,L,hg,h=>by rw[jBh];exact RL.fold g l _ (fun b hb=>hg b (by simp[hb])) (hg a (by simp) L h)
end Go.Proofs.YtdnelmeboihpkaaGreatDoor
namespace Go.Abs
theorem zB4{ks:wB}:∀(l m:List (wB×A)),fU ks (l++m)=(fU ks l).or (fU ks m)
 |[],m=>rfl
 |p::l,m=>by
  simp only[jBj,fU];split
  .rfl
  .exact zB4 l m
end Go.Abs
namespace Go.Proofs.YtdnelmeboihpkaaGreatDoor
open Go.Abs
def zFe(l:wO):List (wB×A):=l.map fun b=>([b.id.a,b.id.b,b.id.c,b.n],.agg [.lit (.int .i64 b.v.k),.lit (.int .i64 b.v.n),.sl b.v.kids.length (zR b.v.kids)])
@[simp]theorem qJI{rf:Bool->Nat->Nat->A}{g:Nat->wC}(l:wO):((zFe l).map fun p=>(p.1,vw rf g p.2))=zFe l:=by
 simp only[zFe,jCg];refine jC6 fun x _=>?_
 simp
def Fr(V:wO)(i:Id)(n:Int):Prop:=∀b∈V,¬(b.id=i/\b.n=n)
theorem qN1{a b:Id}{n m:Int}:[a.a,a.b,a.c,n]=[b.a,b.b,b.c,m]↔a=b/\n=m:=by obtain⟨x,y,z⟩:=a;obtain⟨x',y',z'⟩:=b;simp[and_assoc]
theorem zJ7{i:Id}{n:Int}:∀{V:wO},Fr V i n->fU [i.a,i.b,i.c,n] (zFe V)=none
 |[],_=>rfl
 |b::V,h=>by
  have h1:=h b (by simp);have ih:=zJ7 (V:=V) fun x hx=>h x (by simp[hx])
  simp only[zFe,jAg,fU]at ih ⊢;rw[if_neg fun e=>h1 (qN1.1 e)];exact ih
def NdV(V:wO):Prop:=V.Pairwise fun a b=>¬(a.id=b.id/\a.n=b.n)
variable{V:wO}{i:Id}
theorem NdV.push(h:NdV V){n:Int}{v:Val}(hf:Fr V i n):NdV (V++[⟨i,n,v⟩]):=by unfold NdV;rw[jCt];refine⟨h,by simp,fun a ha b hb=>?_⟩;rw[jAp.1 hb];exact hf a ha
theorem Fr.of(h:∀b∈V,b.id≠i)(n:Int):Fr V i n:=fun b hb e=>h b hb e.1
theorem Fr.push(h:∀b∈V,b.id≠i){n m:Int}(hne:m≠n)(v:Val):Fr (V++[⟨i,m,v⟩]) i n:=fun b hb e=>by
 rcases jAc.1 hb with hb|hb
 .exact h b hb e.1
 .rw[jAp.1 hb]at e;exact hne e.2
theorem EnvT.get{p:Prg}{B:wJ}(h:EnvT p B V)(hn:NdV V){x:Id}{n:Int}{t:Typ}:fX B x n=some t ->
 fU [x.a,x.b,x.c,n] (zFe V)=some (.agg [.lit (.int .i64 (lX V x n).k),.lit (.int .i64 (lX V x n).n),.sl (lX V x n).kids.length (zR (lX V x n).kids)]):=by
 induction h with
 |nil=>intro h;simp[fX]at h
 |snoc B V b v h hi hb ht hz ih =>
  intro hl;unfold NdV at hn;rw[jCt]at hn;have e:zFe (V++[v])=zFe V++zFe [v]:=by simp[zFe]
  rw[e,zB4,zAE];rw[tI]at hl;by_cases hc:b.id=x/\b.n=n
  .have hv:v.id=x/\v.n=n:=⟨hi.trans hc.1,hb.trans hc.2⟩;have hfr:Fr V x n:=fun y hy e=>hn.2.2 y hy v (by simp) ⟨e.1.trans hv.1.symm,e.2.trans hv.2.symm⟩
   rw[zJ7 hfr,if_pos hv];simp[zFe,fU,hv.1,hv.2]
  .rw[if_neg hc]at hl;rw[if_neg (fun e=>hc ⟨hi.symm.trans e.1,hb.symm.trans e.2⟩),ih hn.1 hl];rfl
@[simp]theorem qNy{z:Value}{a:A}:s7 z false (some a)=a:=rfl
@[simp]theorem qJ6:s7 (.agg #[(.int .i64 0),(.int .i64 0),(.slice none 0 0)]) true none=.tup [.agg [.lit (.int .i64 0),.lit (.int .i64 0),.nil],.lit (.bool false)]:=by kernel_rfl
def Adm(p:Prg)(e:Exp)(V:wO)(s:XS):Prop:=s.fail=0->∃B t,WE p B e t/\EnvT p B V/\NdV V
section
variable{p:Prg}{c:Nat}{m:Int}{ev:Evl}{B:wJ}{e:Exp}{V:wO}{s:XS}
theorem Adm.of{t:Typ}(h:WE p B e t)(hV:EnvT p B V)(hN:NdV V):Adm p e V s:=fun _=>⟨B,t,h,hV,hN⟩
theorem Adm.bad(h:s.fail≠0):Adm p e V s:=fun e=>(h e).elim
end
section
variable{p:Prg}{c:Nat}{m:Int}{ev:Evl}{e:Exp}{V:wO}{s:XS}
end
abbrev zJ4(x:Int):Value:=.iface 51 (.int .i64 x)
def eS(p:Prg)(F:Int)(s:XS):St:=[.box (zP p++[int F,int (F-s.fuel)])]
structure RP(f:FuncId)(args:List A)(p:Prg)(F:Int)(s:XS)(r:A)(s':XS):Prop where
 ret:s'.fail=0->mv f args (eS p F s) r (eS p F s')
 pan:s'.fail≠0->Pan prog f args (eS p F s) (zJ4 s'.fail)
abbrev zGg(p:Prg)(F:Int)(e:Exp)(V:wO)(s:XS)(r:Val×XS):Prop:=RP 110 [.ptr 0 0,.agg (zI e),scE V] p F s (.agg (zF r.1)) r.2
structure IhE(p:Prg)(F m:Int)(ev:Evl):Prop where
 stop:pR ev
 snd:Snd p ev
 fu:∀e V s,Fu m s->Fu m (ev e V s).2
 ok:∀e V s,s.fail=0->Adm p e V s->Fu m s->zGg p F e V s (ev e V s)
section
variable{p:Prg}{F m:Int}{ev:Evl}{e:Exp}{V:wO}{s:XS}
noncomputable def zXP:K:=zV prog f176 qB []
theorem qE4:kw f176 zXP:=my (by kernel_rfl)
theorem zBt(h:IhE p F m ev)(V:wO)(l:wG)(hl6:l.length<=32768)(hs:s.fail=0)(hA:∀k∈l,∀s,Adm p k V s)(hB:Fu m s) :
 RP 176 [.ptr 0 0,.sl l.length (qT l),scE V] p F s (.sl l.length (zR (jJ ev V l s).1)) (jJ ev V l s).2:=by
 have hP:=eP p;have hst:∀i,Fu m (jJ ev V (l.take i) s).2:=fun i=>uT h.fu V _ _ hB
 have hln:∀i,i<=l.length->(jJ ev V (l.take i) s).1.length=i:=fun i hi=>by rw[fZ,jAs];omega
 have h00:jJ ev V [] s=([],s):=rfl;have htk:l.take l.length=l:=jAt;constructor
 .intro hf;have hpre:∀i,i<=l.length->(jJ ev V (l.take i) s).2.fail=0:=fun i hi=>zEt h.stop V l s i l.length hi (by rw[htk];exact hf)
  refine zH func176 rfl qE4 (rs:=[.slot 6]) (by kernel_rfl) ?_
  (conv in zXP=>cbv)
  simp[eS,hP];intro hl;refine qK (S:=Nat) (fun i=>[(0,.ptr 0 0),(2,scE V),(7,.row 1 i),(10,.sl l.length (qT l)),(11,int l.length),(12,int i)])
   (fun i=>eS p F (jJ ev V (l.take i) s).2++[.row false 46 3 i (zR (jJ ev V (l.take i) s).1)]) (fun i=>i<=l.length) (fun i=>l.length-i) 0 (by simp)
   ((qS (t:=7) (by simp) 46 3).trans (mu [0,1] 0 (by rfl) (by simp[eS,hP,h00]))) ?_
  intro i hi;by_cases hil:i<l.length
  .have hsn:=xJ ev V l[i] (l.take i) s;rw[<-jA6 hil]at hsn;have hp1:=hpre (i+1) hil;rw[hsn]at hp1;have hr:=(h.ok l[i] V (jJ ev V (l.take i) s).2 (hpre i hi) (hA _ (jA0 hil) _) (hst i)).ret hp1;have hdr:=y5 hil;have hln:=hln i hi;generalize hFn:jJ ev V (l.take (i+1)) s=Fn at hsn;subst hsn;generalize hFi:jJ ev V (l.take i) s=Fi at *
   obtain⟨vs,si⟩:=Fi;simp only at *
   generalize ev l[i] V si=rk at *
   obtain⟨v,sk⟩:=rk;simp only at *
   simp[eS,hP,hil,hdr,hFi,zI];refine mn hr [0] (by simp[eS,hP,zI]) ?_;simp[eS,hP,zF];refine⟨⟨by simp[maxLen];omega,by omega⟩,?_⟩;exact zO (i+1) hil (by omega) (mu [0,1] 0 (by rfl) (by simp[eS,hP,hFn,aY,z8 hil hl]))
  .have hil:i=l.length:=by omega
   subst hil;rw[htk];generalize jJ ev V l s=Fi at *
   obtain⟨vs,si⟩:=Fi;simp;exact mr [0] 1 (by rfl) (by simp[eS,hP])
 .intro hf;obtain⟨k,hk,hk0,hk1⟩:=zEs h.stop V l s hs hf;have hpre:∀i,i<=k->(jJ ev V (l.take i) s).2.fail=0:=fun i hi=>zEt h.stop V l s i k hi hk0
  rw[<-hk1]at hf ⊢;refine rZ func176 rfl qE4 (rs:=[.slot 6]) (by kernel_rfl) ?_
  (conv in zXP=>cbv);unfold wpF
  simp[eS,hP];intro hl;refine qK (S:=Nat) (fun i=>[(0,.ptr 0 0),(2,scE V),(7,.row 1 i),(10,.sl l.length (qT l)),(11,int l.length),(12,int i)])
   (fun i=>eS p F (jJ ev V (l.take i) s).2++[.row false 46 3 i (zR (jJ ev V (l.take i) s).1)]) (fun i=>i<=k) (fun i=>l.length-i) 0 (by simp)
   ((qS (t:=7) (by simp) 46 3).trans (mu [0,1] 0 (by rfl) (by simp[eS,hP,h00]))) ?_
  intro i hi;have hil:i<l.length:=by omega
  have hdr:=y5 hil;have hok:=h.ok l[i] V (jJ ev V (l.take i) s).2 (hpre i hi) (hA _ (jA0 hil) _) (hst i);by_cases hik:i<k
  .have hsn:=xJ ev V l[i] (l.take i) s;rw[<-jA6 hil]at hsn;have hp1:=hpre (i+1) hik;rw[hsn]at hp1;have hr:=hok.ret hp1;have hln:=hln i (by omega);generalize hFn:jJ ev V (l.take (i+1)) s=Fn at hsn;subst hsn;generalize hFi:jJ ev V (l.take i) s=Fi at *
   obtain⟨vs,si⟩:=Fi;simp only at *
   generalize ev l[i] V si=rk at *
   obtain⟨v,sk⟩:=rk;simp only at *
   simp[eS,hP,hil,hdr,hFi,zI];refine mn hr [0] (by simp[eS,hP,zI]) ?_;simp[eS,hP,zF];refine⟨⟨by simp[maxLen];omega,by omega⟩,?_⟩;exact zO (i+1) hik (by omega) (mu [0,1] 0 (by rfl) (by simp[eS,hP,hFn,aY,z8 hil hl]))
  .have hik:i=k:=by omega
   subst hik;have hr:=hok.pan hf;generalize hFi:jJ ev V (l.take i) s=Fi at *
   obtain⟨vs,si⟩:=Fi;simp only at *
   simp[eS,hP,hil,hdr,hFi,zI];refine zBm hr [0] (by decide) (by simp[eS,hP]) (by simp[zI]) fun τ=>?_
   simp
noncomputable def zXQ:K:=zV prog f72 qB []
theorem qE5:kw f72 zXQ:=my (by kernel_rfl)
theorem zJ0(h:IhE p F m ev)(d:Dfn)(vs:wI)(hl:vs.length=d.slots.length)(hd6:d.slots.length<=6)(hs:s.fail=0)(hA:Adm p d.body (cN d.slots vs) {s with ds:=s.ds++[d.id]})(hB:Fu m s) :
 RP 72 [.ptr 0 0,.agg (zJ d),.sl vs.length (zR vs)] p F s (.agg (zF (b7 ev d vs s).1)) (b7 ev d vs s).2:=by
 have hP:=eP p;have hx:b7 ev d vs s=ev d.body (cN d.slots vs) {s with ds:=s.ds++[d.id]}:=by unfold b7;rw[if_neg (by simp[hs])]
 rw[hx];have he:=h.ok _ _ _ (by exact hs) hA ((zEN m).dfn d.id s hB);generalize ev d.body (cN d.slots vs) {s with ds:=s.ds++[d.id]}=r at *
 have hel:=zBv d.slots vs hl;have hall:(cN d.slots vs).take d.slots.length=cN d.slots vs:=by rw[<-hel];exact jAt
 constructor
 .intro hf;refine zH func72 rfl qE5 (rs:=[.cell 6 3 true]) (by kernel_rfl) ?_
  (conv in zXQ=>cbv)
  simp[eS,hP,zJ];intro hls;refine qK (S:=Nat) (fun i=>[(0,.ptr 0 0),(2,.sl vs.length (zR vs)),(4,.ptr 1 0),(6,.ptr 2 0),(7,scE ((cN d.slots vs).take i)),(11,.sl d.slots.length (jS d.slots)),(12,int d.slots.length),(13,int i)])
   (fun i=>eS p F s++[.box (zJ d),.box [int 0,int 0,.nil]]) (fun i=>i<=d.slots.length) (fun i=>d.slots.length-i) 0 (by simp)
   (mu [0,1,2] 0 (by rfl) (by simp[eS,hP,zJ])) ?_
  intro i hi;by_cases hil:i<d.slots.length
  .have hiv:i<vs.length:=by omega
   have hdr:=qZ hil;have hdv:=qL hiv;have htk:=zGL hl hil;have hw:=lH ((cN d.slots vs).take i).reverse ⟨d.slots[i].id,0,vs[i]⟩;simp[eS,hP,hil,hiv,hdr,hdv,j8];refine z7 hw (by simp[zK,zF]) (by simp) ?_;simp;exact zO (i+1) hil (by omega) (mu [0,1,2] 0 (by rfl) (by simp[eS,hP,zJ,z8 hil hls,htk]))
  .have hil:i=d.slots.length:=by omega
   subst hil;rw[hall];simp[eS,hP,zJ];refine mn (he.ret hf) [0] (by simp[eS,hP,zI]) ?_;simp[eS,hP,zF];exact mr [0] 0 (by rfl) (by simp[zF])
 .intro hf;refine rZ func72 rfl qE5 (rs:=[.cell 6 3 true]) (by kernel_rfl) ?_
  (conv in zXQ=>cbv);unfold wpF
  simp[eS,hP,zJ];intro hls;refine qK (S:=Nat) (fun i=>[(0,.ptr 0 0),(2,.sl vs.length (zR vs)),(4,.ptr 1 0),(6,.ptr 2 0),(7,scE ((cN d.slots vs).take i)),(11,.sl d.slots.length (jS d.slots)),(12,int d.slots.length),(13,int i)])
   (fun i=>eS p F s++[.box (zJ d),.box [int 0,int 0,.nil]]) (fun i=>i<=d.slots.length) (fun i=>d.slots.length-i) 0 (by simp)
   (mu [0,1,2] 0 (by rfl) (by simp[eS,hP,zJ])) ?_
  intro i hi;by_cases hil:i<d.slots.length
  .have hiv:i<vs.length:=by omega
   have hdr:=qZ hil;have hdv:=qL hiv;have htk:=zGL hl hil;have hw:=lH ((cN d.slots vs).take i).reverse ⟨d.slots[i].id,0,vs[i]⟩;simp[eS,hP,hil,hiv,hdr,hdv,j8];refine z7 hw (by simp[zK,zF]) (by simp) ?_;simp;exact zO (i+1) hil (by omega) (mu [0,1,2] 0 (by rfl) (by simp[eS,hP,zJ,z8 hil hls,htk]))
  .have hil:i=d.slots.length:=by omega
   subst hil;rw[hall];simp[eS,hP,zJ];refine zBm (he.pan hf) [0] (by decide) (by simp[eS,hP]) (by simp[zI]) fun τ=>?_
   simp
end
section
variable{p:Prg}{c:Nat}{m:Int}{ev:Evl}{e:Exp}{V:wO}{s:XS}
def zQR(p:Prg):Prop:=∀d∈p.defs,d.slots.length<=6/\d.slots.Pairwise fun a b=>a.id≠b.id
theorem zEc{ss:List Slt}(hnd:ss.Pairwise fun a b=>a.id≠b.id)(vs:wI)(hl:vs.length=ss.length):NdV (cN ss vs):=by
 unfold NdV;rw[jCr];intro i j hi hj hij e;have hi':i<ss.length:=by rw[zBv ss vs hl]at hi;exact hi
 have hj':j<ss.length:=by rw[zBv ss vs hl]at hj;exact hj
 have:=jCr.1 hnd i j hi' hj' hij;have e1:(cN ss vs)[i].id=ss[i].id:=by simp[cN]
 have e2:(cN ss vs)[j].id=ss[j].id:=by simp[cN]
 exact this (by rw[<-e1,<-e2];exact e.1)
end
section
variable{p:Prg}{c:Nat}{m:Int}{ev:Evl}{e:Exp}{V:wO}{s:XS}
end
def cX(ev:Evl)(e:Exp)(V:wO)(v:Val)(s:XS):Val×XS :=
 if e.k=5 then ev (e.kids.getD (if v.n=1 then 1 else 2) .zero) V s
 else if e.k=6 then ev (e.kids.getD 1 .zero) (V++[⟨e.id,0,v⟩]) s
 else if e.k=8 then (v.kids.getD e.n.toNat vz,s)
 else if e.k=10 then ev (e.kids.getD (1+v.n).toNat .zero) (V++[⟨e.id,v.n,v.kids.headD vz⟩]) s
 else yB ev V e.id (e.kids.getD 2 .zero) v.kids (ev (e.kids.getD 1 .zero) V s)
theorem zO7{ev:Evl}{e:Exp}{s:XS}(h:(ev (e.kids.headD .zero) V s).2.fail=0):j6 ev e V s=cX ev e V (ev (e.kids.headD .zero) V s).1 (ev (e.kids.headD .zero) V s).2:=by unfold j6 cX;rw[if_neg (fun hn=>hn h)]
section
variable{p:Prg}{F m:Int}{ev:Evl}{B:wJ}{e:Exp}{V:wO}{v:Val}{s:XS}
def qFU:Nat->Option wD:=fun|7=>k_ [0,0,0,0,0,0,0,0,0,0,10,0] | 11=>k_ [0,0,0,0,0,0,0,0,0,0,0,0,0,0,0,0,0,0,10,0] | 16=>k_ [0,0,0,0,0,0,0,0,0,0,0,0,0,0,10,0]|_=>none
noncomputable def zCk:{k:K//zV prog f178 qFU []=k}:=⟨_,by conv=>lhs;cbv⟩
theorem zDM:kv f178 qFU zCk.1:=mw (by kernel_rfl)
abbrev BrE(p:Prg)(F:Int)(e:Exp)(V:wO)(v:Val)(s:XS)(r:Val×XS):Prop:=RP 178 [.ptr 0 0,.agg (zI e),scE V,.agg (zF v)] p F s (.agg (zF r.1)) r.2
variable{a b:Exp}
theorem zUq{d:Exp}{x:Int}(hx:x=0\/x=1)(hk:e.k=5)(hks:e.kids=[a,b,d])(hb:zGg p F b V s (ev b V s))(hd:zGg p F d V s (ev d V s)):BrE p F e V (.mk 1 x []) s (cX ev e V (.mk 1 x []) s):=by
 have hP:=eP p;have hY:cX ev e V (.mk 1 x []) s=ev (if x=1 then b else d) V s:=by unfold cX;rw[hks];rcases hx with rfl|rfl<;>simp[hk,zX]
 rw[hY];rcases hx with rfl|rfl
 .rw[if_neg (by decide)];generalize ev d V s=r at *
  constructor
  .intro hf;refine zN func178 rfl zDM (rs:=[.cell 8 3 true]) (by kernel_rfl) ?_
   simp only[zCk]
   simp[eS,hP,zI,zF,hk,hks,zQ,qD,zX,zL];refine mn (hd.ret hf) [0] (by simp[eS,hP,zI]) ?_;simp[eS,hP,zF];exact mr [0] 0 (by rfl) (by simp[zF])
  .intro hf;refine bL func178 rfl zDM (rs:=[.cell 8 3 true]) (by kernel_rfl) ?_
   simp only[zCk];unfold wpF
   simp[eS,hP,zI,zF,hk,hks,zQ,qD,zX,zL];refine zBm (hd.pan hf) [0] (by decide) (by simp[eS,hP]) (by simp[zI]) fun τ=>?_
   simp
 .rw[if_pos rfl];generalize ev b V s=r at *
  constructor
  .intro hf;refine zN func178 rfl zDM (rs:=[.cell 8 3 true]) (by kernel_rfl) ?_
   simp only[zCk]
   simp[eS,hP,zI,zF,hk,hks,zQ,qD,zX,zL];refine mn (hb.ret hf) [0] (by simp[eS,hP,zI]) ?_;simp[eS,hP,zF];exact mr [0] 0 (by rfl) (by simp[zF])
  .intro hf;refine bL func178 rfl zDM (rs:=[.cell 8 3 true]) (by kernel_rfl) ?_
   simp only[zCk];unfold wpF
   simp[eS,hP,zI,zF,hk,hks,zQ,qD,zX,zL];refine zBm (hb.pan hf) [0] (by decide) (by simp[eS,hP]) (by simp[zI]) fun τ=>?_
   simp
theorem zUr(hk:e.k=6)(hks:e.kids=[a,b])(hb:zGg p F b (V++[⟨e.id,0,v⟩]) s (ev b (V++[⟨e.id,0,v⟩]) s)):BrE p F e V v s (cX ev e V v s):=by
 have hP:=eP p;have hY:cX ev e V v s=ev b (V++[⟨e.id,0,v⟩]) s:=by unfold cX;rw[hks];simp[hk]
 rw[hY];generalize ev b (V++[⟨e.id,0,v⟩]) s=r at *
 have hw:=lH V.reverse ⟨e.id,0,v⟩;constructor
 .intro hf;refine zN func178 rfl zDM (rs:=[.cell 8 3 true]) (by kernel_rfl) ?_
  simp only[zCk]
  simp[eS,hP,zI,zF,hk,hks,zQ,qD,zX,zL];refine z7 hw (by simp[zK,zF]) (by simp) ?_;simp[eS,hP];refine iL (hb.ret hf) [0] (by decide) (by simp[eS,hP]) (by simp[zI]) ?_;simp[eS,hP,zF];exact mr [0] 0 (by rfl) (by simp[zF])
 .intro hf;refine bL func178 rfl zDM (rs:=[.cell 8 3 true]) (by kernel_rfl) ?_
  simp only[zCk];unfold wpF
  simp[eS,hP,zI,zF,hk,hks,zQ,qD,zX,zL];refine z7 hw (by simp[zK,zF]) (by simp) ?_;simp[eS,hP];refine nM (hb.pan hf) [0] (by decide) (by simp[eS,hP]) (by simp[zI]) fun τ=>?_
  simp
theorem zOL{vs:wI}{j:Nat}(hk:e.k=8)(hn:e.n=j)(hs:s.fail=0)(hj:j<vs.length)(hks:e.kids=[a]):BrE p F e V (.mk 2 0 vs) s (cX ev e V (.mk 2 0 vs) s):=by
 have hP:=eP p;have hY:cX ev e V (.mk 2 0 vs) s=(vs[j],s):=by unfold cX;simp[hk,hn,zL,hj]
 rw[hY];refine⟨fun _=>?_,fun hf=>(hf hs).elim⟩;refine zN func178 rfl zDM (rs:=[.cell 8 3 true]) (by kernel_rfl) ?_
 simp only[zCk]
 simp[eS,hP,zI,zF,hk,hks,zQ,qD,zX,zL,hn,hj,qL hj];exact mr [0] 0 (by rfl) (by simp[zF])
theorem zOM{ks:wG}{q:Nat}{x:Val}(hk:e.k=10)(hks:e.kids=a::ks)(hq:q<ks.length)(hl6:ks.length<=32768)(hb:zGg p F ks[q] (V++[⟨e.id,q,x⟩]) s (ev ks[q] (V++[⟨e.id,q,x⟩]) s)):BrE p F e V (.mk 3 q [x]) s (cX ev e V (.mk 3 q [x]) s):=by
 have hP:=eP p;have e2:(1+(q:Int)).toNat=q+1:=by omega
 have hw1:IntKind.i64.wrap (1+(q:Int))=((q+1:Nat):Int):=by rw[IntWalk.i64_in _ (by omega)];omega
 have hY:cX ev e V (.mk 3 q [x]) s=ev ks[q] (V++[⟨e.id,q,x⟩]) s:=by unfold cX;rw[hks];simp[hk,zX,zL,e2,hq]
 rw[hY];generalize ev ks[q] (V++[⟨e.id,q,x⟩]) s=r at *
 have hw:=lH V.reverse ⟨e.id,q,x⟩;have hdr:(qT (a::ks)).drop ((q+1)*15)=zI ks[q]++qT (ks.drop (q+1)):=by
  have:=y5 (l:=a::ks) (i:=q+1) (by simpa using hq)
  simpa using this
 have hlt:q+1<(a::ks).length:=by simpa using hq
 generalize hQ:a::ks=Q at *
 obtain⟨M,hM⟩:∃M,M=q+1:=⟨_,rfl⟩;rw[<-hM]at hw1 hdr hlt;constructor
 .intro hf;refine zN func178 rfl zDM (rs:=[.cell 8 3 true]) (by kernel_rfl) ?_
  simp only[zCk]
  simp[eS,hP,zI,zF,hk,hks,qD,zX,zL,hw1,hlt,hdr];refine z7 hw (by simp[zK,zF]) (by simp) ?_;simp[eS,hP];refine iL (hb.ret hf) [0] (by decide) (by simp[eS,hP]) (by simp[zI]) ?_;simp[eS,hP,zF];exact mr [0] 0 (by rfl) (by simp[zF])
 .intro hf;refine bL func178 rfl zDM (rs:=[.cell 8 3 true]) (by kernel_rfl) ?_
  simp only[zCk];unfold wpF
  simp[eS,hP,zI,zF,hk,hks,qD,zX,zL,hw1,hlt,hdr];refine z7 hw (by simp[zK,zF]) (by simp) ?_;simp[eS,hP];refine nM (hb.pan hf) [0] (by decide) (by simp[eS,hP]) (by simp[zI]) fun τ=>?_
  simp
theorem zR0{l z:Exp}{vs:wI}(h:pR ev)(hk:e.k=12)(hks:e.kids=[l,z,b])(hz:zGg p F z V s (ev z V s))(hb:∀x a s',s'.fail=0->(∃i,(yB ev V e.id b (vs.take i) (ev z V s))=(a,s')/\vs[i]?=some x)->zGg p F b (V++[⟨e.id,0,x⟩]++[⟨e.id,1,a⟩]) s' (ev b (V++[⟨e.id,0,x⟩]++[⟨e.id,1,a⟩]) s')) :
 BrE p F e V (.mk 4 0 vs) s (cX ev e V (.mk 4 0 vs) s):=by
 have hP:=eP p;have hY:cX ev e V (.mk 4 0 vs) s=yB ev V e.id b vs (ev z V s):=by unfold cX;rw[hks];simp[hk,zL]
 rw[hY];have htk:vs.take vs.length=vs:=jAt;generalize ev z V s=r at *
 by_cases hr0:r.2.fail=0
 .have hz:=hz.ret hr0;constructor
  .intro hf;have hpre:∀i,i<=vs.length->(yB ev V e.id b (vs.take i) r).2.fail=0:=fun i hi=>zC9 h V e.id b vs r i vs.length hi (by rw[htk];exact hf)
   refine zN func178 rfl zDM (rs:=[.cell 8 3 true]) (by kernel_rfl) ?_
   simp only[zCk]
   simp[eS,hP,zI,zF,hk,hks,zQ,qD,zX,zL];refine mn hz [0] (by simp[eS,hP,zI]) ?_;simp[eS,hP,zF];intro hls;refine qK (S:=Nat) (fun i=>[(0,.ptr 0 0),(2,scE V),(5,.ptr 1 0),(8,.ptr 3 0),(9,.ptr 4 0),(83,.sl vs.length (zR vs)),(84,int vs.length),(85,int i)])
    (fun i=>eS p F (yB ev V e.id b (vs.take i) r).2++[.box (zI e),.box (zF (.mk 4 0 vs)),.box [int 0,int 0,.nil],.box (zF (yB ev V e.id b (vs.take i) r).1)]) (fun i=>i<=vs.length) (fun i=>vs.length-i) 0 (by simp)
    (mu [0,1,2,3,4] 0 (by rfl) (by simp[eS,hP,zI,zF,hks,zQ,hk,yB,qD,zX,zL])) ?_
   intro i hi;by_cases hil:i<vs.length
   .have hw0:=lH V.reverse ⟨e.id,0,vs[i]⟩;have hsn:=sW ev V e.id b vs[i] (vs.take i) r;rw[<-jA6 hil]at hsn;have hdr:=qL hil;have HP1:=hpre (i+1) hil;have hok:=hb vs[i] _ _ (hpre i hi) ⟨i,rfl,jA1 hil⟩;generalize hFn:yB ev V e.id b (vs.take (i+1)) r=Fn at hsn HP1;subst hsn;generalize hFi:yB ev V e.id b (vs.take i) r=Fi at *
    obtain⟨acc,si⟩:=Fi;simp only at *
    have hw1:=lH (⟨e.id,0,vs[i]⟩::V.reverse) ⟨e.id,1,acc⟩;generalize ev b (V++[⟨e.id,0,vs[i]⟩]++[⟨e.id,1,acc⟩]) si=rk at *
    obtain⟨v',sk⟩:=rk;simp only at *
    simp[eS,hP,zI,zF,hil,hdr,hks,zQ,hFi,qD,zX,zL];refine z7 hw0 (by simp[zK,zF]) (by simp) ?_;simp[eS,hP];refine z7 hw1 (by simp[zK,zF]) (by simp) ?_;simp[eS,hP];refine iL (hok.ret HP1) [0] (by decide) (by simp[eS,hP]) (by simp[zI]) ?_;simp[eS,hP,zF];exact zO (i+1) hil (by omega) (mu [0,1,2,3,4] 0 (by rfl) (by simp[eS,hP,zI,zF,hks,zQ,hFn,hk,qD,zX,zL,z8 hil hls]))
   .have hil:i=vs.length:=by omega
    subst hil;rw[htk];simp[eS,hP,zF];exact mr [0] 0 (by rfl) (by simp[zF])
  .intro hf;obtain⟨k,hk1,hk0,hk2⟩:=zD0 h V e.id b vs r hr0 hf;have hpre:∀i,i<=k->(yB ev V e.id b (vs.take i) r).2.fail=0:=fun i hi=>zC9 h V e.id b vs r i k hi hk0
   rw[<-hk2]at hf ⊢;refine bL func178 rfl zDM (rs:=[.cell 8 3 true]) (by kernel_rfl) ?_
   simp only[zCk];unfold wpF
   simp[eS,hP,zI,zF,hk,hks,zQ,qD,zX,zL];refine mn hz [0] (by simp[eS,hP,zI]) ?_;simp[eS,hP,zF];intro hls;refine qK (S:=Nat) (fun i=>[(0,.ptr 0 0),(2,scE V),(5,.ptr 1 0),(8,.ptr 3 0),(9,.ptr 4 0),(83,.sl vs.length (zR vs)),(84,int vs.length),(85,int i)])
    (fun i=>eS p F (yB ev V e.id b (vs.take i) r).2++[.box (zI e),.box (zF (.mk 4 0 vs)),.box [int 0,int 0,.nil],.box (zF (yB ev V e.id b (vs.take i) r).1)]) (fun i=>i<=k) (fun i=>vs.length-i) 0 (by simp)
    (mu [0,1,2,3,4] 0 (by rfl) (by simp[eS,hP,zI,zF,hks,zQ,hk,yB,qD,zX,zL])) ?_
   intro i hi;have hil:i<vs.length:=by omega
   have hw0:=lH V.reverse ⟨e.id,0,vs[i]⟩;have hsn:=sW ev V e.id b vs[i] (vs.take i) r;rw[<-jA6 hil]at hsn;have hdr:=qL hil;have hok:=hb vs[i] _ _ (hpre i hi) ⟨i,rfl,jA1 hil⟩;by_cases hik:i<k
   .have HP1:=hpre (i+1) hik;generalize hFn:yB ev V e.id b (vs.take (i+1)) r=Fn at hsn HP1;subst hsn;generalize hFi:yB ev V e.id b (vs.take i) r=Fi at *
    obtain⟨acc,si⟩:=Fi;simp only at *
    have hw1:=lH (⟨e.id,0,vs[i]⟩::V.reverse) ⟨e.id,1,acc⟩;generalize ev b (V++[⟨e.id,0,vs[i]⟩]++[⟨e.id,1,acc⟩]) si=rk at *
    obtain⟨v',sk⟩:=rk;simp only at *
    simp[eS,hP,zI,zF,hil,hdr,hks,zQ,hFi,qD,zX,zL];refine z7 hw0 (by simp[zK,zF]) (by simp) ?_;simp[eS,hP];refine z7 hw1 (by simp[zK,zF]) (by simp) ?_;simp[eS,hP];refine iL (hok.ret HP1) [0] (by decide) (by simp[eS,hP]) (by simp[zI]) ?_;simp[eS,hP,zF];exact zO (i+1) hik (by omega) (mu [0,1,2,3,4] 0 (by rfl) (by simp[eS,hP,zI,zF,hks,zQ,hFn,hk,qD,zX,zL,z8 hil hls]))
   .have hik:i=k:=by omega
    subst hik;have HP1:=hf;generalize hFn:yB ev V e.id b (vs.take (i+1)) r=Fn at hsn HP1;subst hsn;generalize hFi:yB ev V e.id b (vs.take i) r=Fi at *
    obtain⟨acc,si⟩:=Fi;simp only at *
    have hw1:=lH (⟨e.id,0,vs[i]⟩::V.reverse) ⟨e.id,1,acc⟩;generalize ev b (V++[⟨e.id,0,vs[i]⟩]++[⟨e.id,1,acc⟩]) si=rk at *
    obtain⟨v',sk⟩:=rk;simp only at *
    simp[eS,hP,zI,zF,hil,hdr,hks,zQ,hFi,qD,zX,zL];refine z7 hw0 (by simp[zK,zF]) (by simp) ?_;simp[eS,hP];refine z7 hw1 (by simp[zK,zF]) (by simp) ?_;simp[eS,hP];refine nM (hok.pan HP1) [0] (by decide) (by simp[eS,hP]) (by simp[zI]) fun τ=>?_
    simp
 .have hx:(yB ev V e.id b vs r).2=r.2:=oI h V e.id b vs r hr0;unfold BrE;rw[hx];refine⟨fun hf=>(hr0 hf).elim,fun hf=>?_⟩;refine bL func178 rfl zDM (rs:=[.cell 8 3 true]) (by kernel_rfl) ?_
  simp only[zCk];unfold wpF
  simp[eS,hP,zI,zF,hk,hks,zQ,qD,zX,zL];refine zBm (hz.pan hf) [0] (by decide) (by simp[eS,hP]) (by simp[zI]) fun τ=>?_
  simp
end
def r8(p:Prg)(d:Dfn)(vs:wI)(fuel:Int):Val×XS:=b7 (aT p 1 fuel.toNat) d vs ⟨fuel,0,zMM p d.slots [],[]⟩
theorem zC6{P:Prg}:∀{ts:wS} {vs:wI},vs.length=ts.length->(∀(j:Nat) (h1:j<ts.length) (h2:j<vs.length),bY P ts[j] vs[j]=true)->dU P ts vs=true
 |[],[],_,_=>rfl
 |t::ts,v::vs,hl,h=>by rw[dU,jA7];exact⟨h 0 (by simp) (by simp),zC6 (by simpa using hl) fun j h1 h2=>h (j+1) (by simpa using h1) (by simpa using h2)⟩
 |[],v::vs,hl,_=>by simp at hl
 |t::ts,[],hl,_=>by simp at hl
theorem zG6{d:Dfn}(h:zCo d.kind=true):fO d=true:=by simp[zCo]at h;simp[fO];omega
theorem zG7{p:Prg}{hs:wP}(hf:Fit p hs):zQR p:=fun d hd=>⟨(hf.slots d hd).2.1,(hf.slots d hd).2.2.2.1⟩
end Go.Proofs.YtdnelmeboihpkaaGreatDoor
