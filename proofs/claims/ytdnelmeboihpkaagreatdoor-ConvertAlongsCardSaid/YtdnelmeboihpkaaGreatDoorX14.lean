/- The maker's expressions have the types that they are to have. -/
import Derived.Test.YtdnelmeboihpkaaGreatDoorX13
set_option linter.unusedVariables false
set_option maxHeartbeats 8000000
set_option maxRecDepth 100000
set_option linter.unusedSimpArgs false
open Go.Proofs.Tryz
namespace Go.Proofs.YtdnelmeboihpkaaGreatDoor
open Go.Abs
variable{m:Mk}
theorem zTw(hl:∀x∈m.l,w64 x=x):0<=atV m.l m.at_ 65536/\atV m.l m.at_ 65536<65536:=jT hl (by omega)
variable{env:wJ}
theorem zN0{t:Typ}{b:Bnd}(h:b∈env.filter fun b=>y7 b.typ t):b∈env/\b.typ=t:=by rw[List.mem_filter]at h;exact⟨h.1,(rR _ _).1 h.2⟩
variable{hs:wP}{R:Nat}{c depth:Int}
theorem zHG{d:Int}{len r:Nat}(hc:0<=c)(hl:Lim m (6*c+2))(hd:d<=0)(hdd : -1000<=d)
 (hcase:m.left<=0/\0<depth/\d=0\/m.left<=0/\depth<=0/\d=depth\/0<m.left/\depth<=0/\d=depth)(t:Typ)(hr:TyOk hs r t)(hk:dV hs R c (d-1) (fun r'=>r'<r) len)
 (hx:Cx hs R m)(he:EnvOk hs R m.temp env)(h1:0<env.length)(h2:env.length<=len)(h3:env.length<=1000)(hd1 : -1000<=depth)(hd2:depth<=1000) :
 cN hs m.own bR m [.ptr 0 0,.agg (zB t),.sl env.length (qC env),int depth] env t (6*c+2):=by
 obtain⟨hX0,hX1⟩:=zTw hx.nums;have ha:=zNe m;obtain⟨l1,l2,l3,l4,l5,l6,l7,l8⟩:=hl;have hl0:Lim {m with at_:=m.at_+1} (6*c+1):=Lim.adv (c:=1) ⟨l1,by omega,l3,by omega,by omega,l6,l7,by omega⟩ ha;have hnum:=zS1 m 65536 (by omega) l1 (by omega);have hfit:=zEv env t (by omega);have hFl:(env.filter fun b=>y7 b.typ t).length<=1000:=jBv (jCq _ _) h3;by_cases hF0:(env.filter fun b=>y7 b.typ t)=[]
 .obtain⟨e,m',g1,g2,g3,g4,g5⟩:=zSk hc hl0 ((atV m.l m.at_ 65536).tdiv 3) (by rw[tdN hX0];omega) (by rw[tdN hX0];omega) t hr (fun r' h=>h) hk (hx.adv ha) (he.mono ha.temp1) h1 h2 hdd (by omega);exact⟨e,m',zYN hd1 hd2 hX0 hX1 hFl h1 h3 hnum hfit hd hcase hF0 g1,(ha.trans g2).mono (by omega),g3,g4,g5⟩
 .obtain⟨b,hb,hret⟩:=zOC hd1 hd2 hX0 hX1 hFl h1 h3 hnum hfit hd hcase hF0 l3 (by simp only;omega) (by simp only;omega) l6;obtain⟨hbe,hbt⟩:=zN0 hb;refine⟨_,_,hret,(ha.trans (aH _)).mono (by omega),.var _ _ _ _ _ (by rw[zGK he.nd hbe,hbt]),?_,xJ⟩;simp only[tmps,yQ,jBl];exact Seg.one _
theorem zUm{len:Nat}(hc:8<=c)(hl:Lim m (8*c))(hleft:0<m.left)(hd0:0<depth)(hR:1<=R)(t:Typ)(ht:TyOk hs R t)
 (hk:dV hs R c (depth-1) (fun r=>r<=R) len)(hk2:dV hs R c (depth-2) (fun r=>r<=R) len)
 (hx:Cx hs R m)(he:EnvOk hs R m.temp env)(h1:0<env.length)(h2:env.length+2<=len)(h3:env.length+2<=1000)(hd2:depth<=1000) :
 cN hs m.own bR m [.ptr 0 0,.agg (zB t),.sl env.length (qC env),int depth] env t (8*c):=by
 obtain⟨hX0,hX1⟩:=zTw hx.nums;have ha:=zNe m;obtain⟨m0,hm0⟩:∃m0:Mk,m0={m with at_:=m.at_+1}:=⟨_,rfl⟩;rw[<-hm0]at ha;have hl0:Lim m0 (7*c+7):=Lim.adv (c:=1) (hl.mono (by omega)) ha;have hlm:=hl0;obtain⟨l1,l2,l3,l4,l5,l6,l7,l8⟩:=hlm;have hnum:=zS1 m 65536 (by omega) hl.at1 (by have:=hl.at2;omega);rw[<-hm0]at hnum;have hfit:=zEv env t (by omega);have hFl:(env.filter fun b=>y7 b.typ t).length<=1000:=jBv (jCq _ _) (by omega);have hleft0:0<m0.left:=by rw[hm0];exact hleft
 have hx0:=hx.adv ha;have he0:=he.mono ha.temp1;have eown:m0.own=m.own:=ha.own;generalize hF:(env.filter fun b=>y7 b.typ t)=F at hfit hFl;generalize atV m.l m.at_ 65536=X at hX0 hX1 hnum;have fin:∀{e:Exp} {m':Mk} {c':Int},my bR [.ptr 0 0,.agg (zB t),.sl env.length (qC env),int depth] (mkS m) (.agg (zJ e)) (mkS m')->Adv m0 m' c'->c'<=7*c+7->WT hs m0.own env e t->Seg m0.temp m'.temp (tmps e)->e.num0 ->
  cN hs m.own bR m [.ptr 0 0,.agg (zB t),.sl env.length (qC env),int depth] env t (8*c):=fun {e m' c'} q1 q2 q3 q4 q5 q6 =>
  ⟨e,m',q1,(ha.trans q2).mono (by omega),eown▸q4,q5.mono ha.temp1 (by omega),q6⟩
 by_cases hv:F≠[]/\X.tmod 3=0
 .obtain⟨b,hb,hret⟩:=zOB (by omega) hd2 hX0 hX1 hFl h1 (by omega) hnum hfit hleft0 hd0 hv.1 hv.2 l3 (by omega) (by omega) l6;rw[<-hF]at hb;obtain⟨hbe,hbt⟩:=zN0 hb;refine fin hret (aH _) (by omega) (.var _ _ _ _ _ (by rw[zGK he.nd hbe,hbt])) ?_ xJ;simp only[tmps,yQ,jBl];exact Seg.one _
 have hcnd:F=[]\/X.tmod 3≠0:=by
  by_cases h:F=[]
  .exact .inl h
  .exact .inr fun h'=>hv ⟨h,h'⟩
 have d36:X.tdiv 36=X / 36:=tdN hX0;have d3:X.tdiv 3=X / 3:=tdN hX0;have d12:(X.tdiv 3).tmod 12=(X.tdiv 3) % 12:=tmN (by omega);obtain⟨y,hy⟩:∃y:Nat,(y:Int)=X.tdiv 36:=⟨(X / 36).toNat,by omega⟩;have hop:=qGL (by omega) hl0 (X.tdiv 36) (by omega) (by omega) hk hR hx0 he0 h1 (by omega) (by omega) (by omega) hd2 t ht;have viaOp:∀{f:FuncId},cN hs m0.own f m0 [.ptr 0 0,.agg (zB t),.sl env.length (qC env),int (X.tdiv 36),int depth] env t (7*c+7) ->
  (∀{e:Exp} {m':Mk},my f [.ptr 0 0,.agg (zB t),.sl env.length (qC env),int (X.tdiv 36),int depth] (mkS m0) (.agg (zJ e)) (mkS m')->my bR [.ptr 0 0,.agg (zB t),.sl env.length (qC env),int depth] (mkS m) (.agg (zJ e)) (mkS m')) ->
  cN hs m.own bR m [.ptr 0 0,.agg (zB t),.sl env.length (qC env),int depth] env t (8*c):=fun q w=>by
  obtain⟨e,m',g1,g2,g3,g4,g5⟩:=q;exact fin (w g1) g2 (by omega) g3 g4 g5
 have hif:(X.tdiv 3).tmod 12=0\/(X.tdiv 3).tmod 12=1->cN hs m.own bR m [.ptr 0 0,.agg (zB t),.sl env.length (qC env),int depth] env t (8*c):=fun hk01=>by
  obtain⟨a,m1,a1,a2,a3,a4,a5⟩:=hk m0 0 jR env hx0 (hl0.mono (by omega)) (.bool _) (by omega) he0 h1 (by omega);have hl1:Lim m1 (6*c):=Lim.adv (c:=c) (hl0.mono (by omega)) a2;obtain⟨b,m2,b1,b2,b3,b4,b5⟩:=hk m1 R t env (hx0.adv a2) (hl1.mono (by omega)) ht (jA _) (he0.mono a2.temp1) h1 (by omega);have hl2:Lim m2 (5*c):=Lim.adv (c:=c) (hl1.mono (by omega)) b2;obtain⟨e,m3,c1,c2,c3,c4,c5⟩:=hk m2 R t env ((hx0.adv a2).adv b2) (hl2.mono (by omega)) ht (jA _) ((he0.mono a2.temp1).mono b2.temp1) h1 (by omega);have hl3:Lim m3 1:=Lim.adv (c:=c) (hl2.mono (by omega)) c2;have hret:my bR [.ptr 0 0,.agg (zB t),.sl env.length (qC env),int depth] (mkS m) (.agg (zJ (.mk ⟨0,0,m3.temp⟩ 5 0 Id.zero Typ.zero [a,b,e] []))) (mkS {m3 with temp:=m3.temp+1,left:=m3.left-1}):=by exact qF1 hk01 (by omega) hd2 hX0 hX1 hFl h1 (by omega) hnum hfit hleft0 hd0 hcnd rfl a1 b1 c1 hl3
  rw[a2.own]at b3;rw[b2.own,a2.own]at c3;refine fin hret (((a2.trans b2).trans c2).trans (aH _)) (by omega) (.ite _ _ _ _ _ _ a3 b3 c3) ?_ (iX (by simp[a5,b5,c5]));have t1:=a2.temp1;have t2:=b2.temp1;have t3:=c2.temp1;simp only[tmps,yQ,jBa];exact(a4.append (b4.append c4 t2 t3) t1 (by omega)).append (Seg.one _) (by omega) (by omega)
 have hlet:(X.tdiv 3).tmod 12=2->cN hs m.own bR m [.ptr 0 0,.agg (zB t),.sl env.length (qC env),int depth] env t (8*c):=fun hk2'=>by
  obtain⟨j,hj,e1⟩:∃j:Nat,j<env.length/\(X.tdiv 36).tmod (env.length:Int)=j:=by
   have q0:0<=X.tdiv 36:=by omega
   have q1:=jD3 (X.tdiv 36) (b:=(env.length:Int)) (by omega);have q2:=jCx (X.tdiv 36) (b:=(env.length:Int)) (by omega);exact⟨((X.tdiv 36) % env.length).toNat,by omega,by rw[tmN q0];omega⟩
  have htu:=he.typs env[j] (jA0 hj);obtain⟨a,m1,a1,a2,a3,a4,a5⟩:=hk m0 R env[j].typ env hx0 (hl0.mono (by omega)) htu (jA _) he0 h1 (by omega);have hl1:Lim m1 (6*c):=Lim.adv (c:=c) (hl0.mono (by omega)) a2;have n2:=aH m1;obtain⟨m2,hm2⟩:∃m2:Mk,m2={m1 with temp:=m1.temp+1,left:=m1.left-1}:=⟨_,rfl⟩;have tm2:m2.temp=m1.temp+1:=by rw[hm2]
  rw[<-hm2]at n2;have hl2:Lim m2 (5*c+7):=Lim.adv (c:=1) (hl1.mono (by omega)) n2;obtain⟨s,hs'⟩:=zDG m2 hl2.name1 (by have:=hl2.name2;omega);have n3:=zAQ m2;obtain⟨m3,hm3⟩:∃m3:Mk,m3={m2 with name:=m2.name+1}:=⟨_,rfl⟩;rw[<-hm3]at n3 hs';have hl3:Lim m3 (5*c+6):=Lim.adv (c:=1) (hl2.mono (by omega)) n3;have t1:=a2.temp1;have t2:=n2.temp1;have t3:=n3.temp1;have t3':m3.temp=m2.temp:=by rw[hm3]
  have he3:EnvOk hs R m3.temp (env++[⟨⟨0,0,m1.temp⟩,0,env[j].typ⟩]):=(((he0.mono t1).mono t2).mono t3).snoc _ _ _ htu (fun b hb e=>by have hb':=he0.new b hb (by rw[e]);rw[e]at hb';simp only at hb';omega) (by omega)
  obtain⟨b,m4,b1,b2,b3,b4,b5⟩:=hk m3 R t _ (((hx0.adv a2).adv n2).adv n3) (hl3.mono (by omega)) ht (jA _) he3 (by simp) (by simp;omega);have hret:=zYM (by omega) hd2 hX0 hX1 hFl h1 (by omega) hnum hfit hleft0 hd0 hcnd hk2' hj e1 a1 (hl1.mono (by omega)) hm2 hs' (by simpa using b1);rw[n3.own,n2.own,a2.own]at b3;refine fin hret (((a2.trans n2).trans n3).trans b2) (by omega) (.lets _ _ _ _ _ _ _ (by simp) a3 b3) ?_ (iX (by simp[a5,b5]));have t4:=b2.temp1;simp only[tmps,yQ,jBa];have s1:Seg m1.temp (m1.temp+1) [m1.temp]:=Seg.one _;have s2:=s1.append (b:=m1.temp+1) (tm2▸t3'▸b4) (by omega) (by omega);have s3:=a4.append s2 t1 (by omega);refine s3.perm ?_;rw[jAq];exact jDk _ jDs
 have hfold:(X.tdiv 3).tmod 12=8->cN hs m.own bR m [.ptr 0 0,.agg (zB t),.sl env.length (qC env),int depth] env t (8*c):=fun hk8=>by
  obtain⟨a,m1,a1,a2,a3,a4,a5⟩:=hk m0 1 (j8 jK) env hx0 (hl0.mono (by omega)) (.list _ _ (.int _)) hR he0 h1 (by omega);have hl1:Lim m1 (6*c):=Lim.adv (c:=c) (hl0.mono (by omega)) a2;obtain⟨b,m2,b1,b2,b3,b4,b5⟩:=hk m1 R t env (hx0.adv a2) (hl1.mono (by omega)) ht (jA _) (he0.mono a2.temp1) h1 (by omega);have hl2:Lim m2 (5*c):=Lim.adv (c:=c) (hl1.mono (by omega)) b2;have n3:=aH m2;obtain⟨m3,hm3⟩:∃m3:Mk,m3={m2 with temp:=m2.temp+1,left:=m2.left-1}:=⟨_,rfl⟩;have tm3:m3.temp=m2.temp+1:=by rw[hm3]
  rw[<-hm3]at n3;have hl3:Lim m3 (4*c+7):=Lim.adv (c:=1) (hl2.mono (by omega)) n3;obtain⟨s,hs'⟩:=zDG m3 hl3.name1 (by have:=hl3.name2;omega);have n4:=zAQ m3;obtain⟨m4,hm4⟩:∃m4:Mk,m4={m3 with name:=m3.name+1}:=⟨_,rfl⟩;have tm4:m4.temp=m3.temp:=by rw[hm4]
  rw[<-hm4]at n4 hs';have hl4:Lim m4 (4*c+6):=Lim.adv (c:=1) (hl3.mono (by omega)) n4;obtain⟨s',hs''⟩:=zDG m4 hl4.name1 (by have:=hl4.name2;omega);have n5:=zAQ m4;obtain⟨m5,hm5⟩:∃m5:Mk,m5={m4 with name:=m4.name+1}:=⟨_,rfl⟩;have tm5:m5.temp=m4.temp:=by rw[hm5]
  rw[<-hm5]at n5 hs'';have hl5:Lim m5 (4*c+5):=Lim.adv (c:=1) (hl4.mono (by omega)) n5;have t1:=a2.temp1;have t2:=b2.temp1;have hnew:∀b∈env,b.id=⟨0,0,m2.temp⟩->∀n,b.n≠n:=fun b hb e=>by have hb':=he0.new b hb (by rw[e]);rw[e]at hb';simp only at hb';omega
  have he5:EnvOk hs R m5.temp (env++[⟨⟨0,0,m2.temp⟩,0,jK⟩]++[⟨⟨0,0,m2.temp⟩,1,t⟩]):=((he0.mono (show m0.temp<=m5.temp by omega)).snoc _ _ _ (.int _) (fun b hb e=>hnew b hb e _) (by omega)).snoc _ _ _ ht (fun b hb e=>by
   rcases jAc.1 hb with hb|hb
   .exact hnew b hb e _
   .rw[jAo.1 hb];simp) (by omega)
  obtain⟨k,m6,c1,c2,c3,c4,c5⟩:=hk m5 R t _ (((((hx0.adv a2).adv b2).adv n3).adv n4).adv n5) (hl5.mono (by omega)) ht (jA _) he5 (by simp) (by simp;omega);have hret:=zUk (by omega) hd2 hX0 hX1 hFl h1 (by omega) hnum hfit hleft0 hd0 hcnd hk8 a1 b1 (hl2.mono (by omega)) hm3 hs' hs'' (by simpa using c1);rw[a2.own]at b3;rw[n5.own,n4.own,n3.own,b2.own,a2.own]at c3;refine fin hret (((((a2.trans b2).trans n3).trans n4).trans n5).trans c2) (by omega) (.fold _ _ _ _ _ _ _ _ (by simp) a3 b3 c3) ?_ (iX (by simp[a5,b5,c5]));have t6:=c2.temp1;simp only[tmps,yQ,jBa];have s1:Seg m2.temp (m2.temp+1) [m2.temp]:=Seg.one _;have c4':Seg (m2.temp+1) m6.temp (tmps k):=c4.mono (by omega) (by omega);have s2:=s1.append c4' (by omega) (by omega);have s3:=(a4.append b4 t1 t2).append s2 (by omega) (by omega);refine s3.perm ?_;simp only[jAq];exact jDk _ (jDk _ jDs)
 have hk12:(X.tdiv 3).tmod 12=0\/(X.tdiv 3).tmod 12=1\/(X.tdiv 3).tmod 12=2\/(X.tdiv 3).tmod 12=3\/(X.tdiv 3).tmod 12=4\/(X.tdiv 3).tmod 12=5\/(X.tdiv 3).tmod 12=6\/(X.tdiv 3).tmod 12=7\/(X.tdiv 3).tmod 12=8\/9<=(X.tdiv 3).tmod 12:=by omega
 have hop':=hop;rw[<-hy]at hop';rcases hk12 with h|h|h|h|h|h|h|h|h|h
 .exact hif (.inl h)
 .exact hif (.inr h)
 .exact hlet h
 .have:=zJX (by omega) hl0 y (by omega) hk hk2 hx0 he0 h1 (by omega) (by omega) (by omega) hd2 t ht hop';rw[hy]at this;exact viaOp this fun g=>zBj (.inl ⟨rfl,rfl⟩) (by omega) hd2 hX0 hX1 hFl h1 (by omega) hnum hfit hleft0 hd0 hcnd h g
 .have:=zJX (by omega) hl0 y (by omega) hk hk2 hx0 he0 h1 (by omega) (by omega) (by omega) hd2 t ht hop';rw[hy]at this;exact viaOp this fun g=>zBj (.inr (.inl ⟨rfl,rfl⟩)) (by omega) hd2 hX0 hX1 hFl h1 (by omega) hnum hfit hleft0 hd0 hcnd h g
 .have:=zR7 (by omega) hl0 y (by omega) hk hx0 he0 h1 (by omega) (by omega) (by omega) hd2 t ht hop';rw[hy]at this;exact viaOp this fun g=>zBj (.inr (.inr (.inl ⟨rfl,rfl⟩))) (by omega) hd2 hX0 hX1 hFl h1 (by omega) hnum hfit hleft0 hd0 hcnd h g
 .have:=zNl (by omega) hl0 y hk hx0 he0 h1 (by omega) (by omega) hd2 t hop';rw[hy]at this;exact viaOp this fun g=>zBj (.inr (.inr (.inr (.inl ⟨rfl,rfl⟩)))) (by omega) hd2 hX0 hX1 hFl h1 (by omega) hnum hfit hleft0 hd0 hcnd h g
 .have:=zNl (by omega) hl0 y hk hx0 he0 h1 (by omega) (by omega) hd2 t hop';rw[hy]at this;exact viaOp this fun g=>zBj (.inr (.inr (.inr (.inr ⟨rfl,rfl⟩)))) (by omega) hd2 hX0 hX1 hFl h1 (by omega) hnum hfit hleft0 hd0 hcnd h g
 .exact hfold h
 .exact viaOp hop fun g=>qF2 (by omega) hd2 hX0 hX1 hFl h1 (by omega) hnum hfit hleft0 hd0 hcnd h g
theorem dV.mono{c':Int}{Q Q':Nat->Prop}{len len':Nat}(h:dV hs R c depth Q len)(hc:c<=c')(hQ:∀r,Q' r->Q r)(hl:len'<=len):dV hs R c' depth Q' len' :=
 fun m r t env hx hm hr hq he h1 h2=>(h m r t env hx (hm.mono hc) hr (hQ r hq) he h1 (by omega)).mono hc
theorem p8(k:Nat):(8:Int) ^ (k+1)=8*8 ^ k:=by rw[Int.pow_succ];omega
theorem zC5:∀k:Nat,1<=(8:Int) ^ k
 | 0=>by simp
 |k+1=>by rw[p8];have:=zC5 k;omega
theorem zBk(hs:wP)(R:Nat):∀(r:Nat) (depth:Int),depth<=0->-900<=depth-r->dV hs R (8 ^ (r+1)) depth (fun r'=>r'<=r) 1000
 | 0,depth,h0,h1=>fun m r t env hx hl hr hq he h2 h3=>by
  rw[p8]at hl ⊢;have:=zC5 0;refine(zHG (R:=R) (r:=r) (c:=0) (d:=depth) (len:=1000) (by omega) (hl.mono (by omega)) h0 (by omega) ?_ t hr (fun m' r' t' env' _ _ _ hq'=>?_) hx he h2 h3 h3 (by omega) (by omega)).mono (by omega)
  .rcases Int.lt_or_le 0 m.left with h|h
   .exact .inr (.inr ⟨h,h0,rfl⟩)
   .exact .inr (.inl ⟨h,h0,rfl⟩)
  .have:r'<r:=hq';omega
 |s+1,depth,h0,h1=>fun m r t env hx hl hr hq he h2 h3=>by
  have hp:=p8 (s+1);rw[hp]at hl ⊢;have:=zC5 (s+1);have hk:=zBk hs R s (depth-1) (by omega) (by omega);refine(zHG (R:=R) (r:=r) (c:=8 ^ (s+1)) (d:=depth) (len:=1000) (by omega) (hl.mono (by omega)) h0 (by omega) ?_ t hr (hk.mono (by omega) (fun r' (hr':r'<r)=>by omega) (jA _)) hx he h2 h3 h3 (by omega) (by omega)).mono (by omega);rcases Int.lt_or_le 0 m.left with h|h
  .exact .inr (.inr ⟨h,h0,rfl⟩)
  .exact .inr (.inl ⟨h,h0,rfl⟩)
theorem zIi{a b:Nat}(h:a<=b):(8:Int) ^ a<=8 ^ b:=by
 induction h with
 |refl=>exact jAd _
 |step h ih=>rw[p8];have:=zC5 a;omega
theorem zEu(hs:wP)(R:Nat)(hR:1<=R)(hR2:R<=100):∀n:Nat,n<=100 ->
 dV hs R (8 ^ (n+R+1)) n (fun r=>r<=R) (1000-2*n)/\dV hs R (8 ^ (n+R+1)) ((n:Int)-1) (fun r=>r<=R) (1000-2*n)
 | 0,_=>by
  constructor
  .exact(zBk hs R R 0 (by omega) (by omega)).mono (zIi (by omega)) (fun _ h=>h) (by omega)
  .exact(zBk hs R R _ (by omega) (by omega)).mono (zIi (by omega)) (fun _ h=>h) (by omega)
 |n+1,hn=>by
  obtain⟨i1,i2⟩:=zEu hs R hR hR2 n (by omega);have hp:(8:Int) ^ (n+1+R+1)=8*8 ^ (n+R+1):=by rw[p8,show n+1+R=n+R+1 by omega]
  have hge:=zC5 (n+R);have hp':=p8 (n+R);have e1:(((n+1:Nat)):Int)-1=n:=by omega
  rw[hp];constructor
  .intro m r t env hx hl hr hq he h1 h2;have ht:=hr.mono hq;rcases Int.lt_or_le 0 m.left with h|h
   .refine zUm (R:=R) (len:=1000-2*n) (by omega) hl h (by omega) hR t ht (e1▸i1) ?_ hx he h1 (by omega) (by omega) (by omega);rw[show (((n+1:Nat)):Int)-2=(n:Int)-1 by omega];exact i2
   .obtain⟨s,hs'⟩:∃s,R=s+1:=⟨R-1,by omega⟩;have hk:=zBk hs R s (0-1) (by omega) (by omega);have q1:(8:Int) ^ (s+1)<=8 ^ (n+R):=zIi (by omega);have q2:=zC5 (s+1);exact(zHG (R:=R) (r:=R) (c:=8 ^ (s+1)) (d:=0) (len:=1000) (by omega) (hl.mono (by omega)) (by omega) (by omega) (.inl ⟨h,by omega,rfl⟩) t ht (hk.mono (by omega) (fun r' (hr':r'<R)=>by omega) (jA _)) hx he h1 (by omega) (by omega) (by omega) (by omega)).mono (by omega)
  .rw[e1];exact i1.mono (by omega) (fun _ h=>h) (by omega)
def zWR:Nat->Option wD:=fun|9=>k_ [2,2001,0,0,0,0,0,0,1001,0,0,2,0]|_=>none
variable{x:Operand}
@[simp]theorem qHx{d:wC}{n:Nat}{g:Bool}{env:Env}:cQ 2001 (.ld d x n g) env=fH 1 (ev env x):=propext (xQ (by omega) (by omega))
@[simp]theorem zZY{d:wC}{l:List Operand}{env:Env}:cQ 1001 (.call d x l) env=True:=rfl
@[simp]theorem qBH{U:St}:oD 2001 U = U:=rfl
theorem fV(e:Exp):tmps e=yQ e.kids++[e.id.c]:=by cases e;simp only[tmps,Exp.kids,Exp.id]
variable{i:Nat}
theorem bK{l:wG}(h:i<l.length):yQ (l.take (i+1))=yQ (l.take i)++tmps l[i]:=by rw[jA8 h,oG]
theorem zF2:∀{l:wG} {e:Exp},e∈l->(tmps e).length<=(yQ l).length
 |x::l,e,h=>by
  simp only[yQ,jA5];rcases jA3.1 h with rfl|h
  .omega
  .have:=zF2 h;omega
theorem pR{l:wG}(i:Nat):(yQ (l.take i)).length<=(yQ l).length:=by
 have h:∀a b:wG,yQ (a++b)=yQ a++yQ b:=fun a b=>by
  induction a with
  |nil=>simp[yQ]
  |cons x a ih=>simp[yQ,ih]
 have:=h (l.take i) (l.drop i);rw[jCb]at this;rw[this,jA5];omega
mutual
theorem zKe:∀(e:Exp),(tmps e).length<=1000000000->my 86 [.agg (zJ e)] [] (int (tmps e).length) []
 | .mk a b c d t l ns,hle=>by
  have ih:=zGP l;generalize ha:Exp.mk a b c d t l ns=e at hle;have hal:e.kids=l:=by rw[<-ha];rfl
  rw[<-hal]at ih;rw[fV,jA5,jAz]at hle;refine mq [] [.slot 2] func86 (by kernel_rfl) ?_
  (conv in kq _ _=>cbv)
  simp[zJ];refine qO (S:=Nat) (fun i=>[(1,.ptr 0 0),(3,int ((yQ (e.kids.take i)).length+1:Nat)),(4,int i)]) (fun _=>[.box (zJ e)]) (fun i=>i<=e.kids.length) (fun i=>e.kids.length-i) 0 (by simp)
   (mw [0] 0 (by rfl) (by simp[zJ,yQ])) ?_
  intro i hi;by_cases h:i<e.kids.length
  .have hle2:(tmps e.kids[i]).length<=1000000000:=by have:=zF2 (jA0 h);omega
   have h3:=pR (l:=e.kids) (i+1);rw[bK h,jA5]at h3;simp[zJ,h,y5 h];intro hl;refine mu (ih e.kids[i] (jA0 h) hle2) (by simp[zJ]) ?_;have hw:IntKind.i64.wrap ((((yQ (e.kids.take i)).length:Int)+1)+((tmps e.kids[i]).length:Int))=((yQ (e.kids.take i)).length:Int)+1+(tmps e.kids[i]).length:=IntWalk.i64_in _ (by omega);simp[hw];exact zS (i+1) h (by omega) (kf [0] 0 (by rfl) (by simp[zJ]) (by simp[qF h hl,bK h];omega))
  .have hie:i=e.kids.length:=by omega
   subst hie;simp[zJ]
   first|exact fun _=>zA 0 (by simp[fV])|exact zA 0 (by simp[fV])
theorem zGP:∀(l:wG),∀x∈l,(tmps x).length<=1000000000->my 86 [.agg (zJ x)] [] (int (tmps x).length) []
 |[],x,hx=>by simp at hx
 |z::l,x,hx=>by
  rcases jA3.1 hx with e|hx
  .rw[e];exact zKe z
  .exact zGP l x hx
end
def lQ(l:wB):AObj:=.row false 3 1 l.length (yC l)
mutual
theorem zGQ:∀(e:Exp) (l:wB),l.length+(tmps e).length<=1000000000->my 87 [.agg (zJ e),.row 0 l.length] [lQ l] (.row 0 (l++tmps e).length) [lQ (l++tmps e)]
 | .mk a b c d t ks ns,l,hle=>by
  have ih:=zET ks;generalize ha:Exp.mk a b c d t ks ns=e at hle;have hal:e.kids=ks:=by rw[<-ha];rfl
  rw[<-hal]at ih;rw[fV,jA5,jAz]at hle;refine mq [] [.slot 4] func87 (by kernel_rfl) ?_
  (conv in kq _ _=>cbv)
  simp[zJ,lQ];refine qO (S:=Nat) (fun i=>[(1,.row 0 (l++yQ (e.kids.take i)).length),(2,.ptr 1 0),(5,int i)]) (fun i=>[lQ (l++yQ (e.kids.take i)),.box (zJ e)]) (fun i=>i<=e.kids.length) (fun i=>e.kids.length-i) 0 (by simp)
   (mw [0,1] 0 (by rfl) (by simp[zJ,lQ,yQ])) ?_
  intro i hi;by_cases h:i<e.kids.length
  .have h3:=pR (l:=e.kids) (i+1);rw[bK h,jA5]at h3;have hg:=ih e.kids[i] (jA0 h) (l++yQ (e.kids.take i)) (by rw[jA5];omega);simp[zJ,lQ,h,y5 h];intro hl;refine mr hg [0] (by simp[lQ,dW,zJ]) ?_;simp[lQ];exact zS (i+1) h (by omega) (mw [0,1] 0 (by rfl) (by simp[zJ,lQ,bK h,dW,qF h hl]))
  .have hie:i=e.kids.length:=by omega
   subst hie;simp[zJ,lQ];intro _;refine⟨⟨by simp[maxLen];omega,by omega⟩,?_⟩;exact ke [0] 0 (by rfl) (by simp[fV,dW];omega) (by simp[fV];omega)
theorem zET:∀(ks:wG),∀x∈ks,∀(l:wB),l.length+(tmps x).length<=1000000000->my 87 [.agg (zJ x),.row 0 l.length] [lQ l] (.row 0 (l++tmps x).length) [lQ (l++tmps x)]
 |[],x,hx=>by simp at hx
 |z::l,x,hx=>by
  rcases jA3.1 hx with e|hx
  .rw[e];exact zGQ z
  .exact zET l x hx
end
theorem zMn(e:Exp)(hle:(tmps e).length<=1000000000):my 87 [.agg (zJ e),.nil] [] (.row 0 (tmps e).length) [lQ (tmps e)]:=by
 rw[fV,jA5,jAz]at hle;refine mq [] [.slot 4] func87 (by kernel_rfl) ?_
 (conv in kq _ _=>cbv)
 simp[zJ,lQ];refine qO (S:=Nat) (fun i=>[(1,.row 0 (yQ (e.kids.take i)).length),(2,.ptr 1 0),(5,int i)]) (fun i=>[lQ (yQ (e.kids.take i)),.box (zJ e)]) (fun i=>i<=e.kids.length) (fun i=>e.kids.length-i) 0 (by simp)
  ((yK (t:=1) (by simp) 3 1).trans (mw [1,0] 0 (by rfl) (by simp[zJ,lQ,yQ]))) ?_
 intro i hi;by_cases h:i<e.kids.length
 .have h3:=pR (l:=e.kids) (i+1);rw[bK h,jA5]at h3;have hg:=zGQ e.kids[i] (yQ (e.kids.take i)) (by omega);simp[zJ,lQ,h,y5 h];intro hl;refine mr hg [0] (by simp[lQ,zJ]) ?_;simp[lQ];exact zS (i+1) h (by omega) (mw [0,1] 0 (by rfl) (by simp[zJ,lQ,bK h,dW,qF h hl]))
 .have hie:i=e.kids.length:=by omega
  subst hie;simp[zJ,lQ];intro _;refine⟨⟨by simp[maxLen];omega,by omega⟩,?_⟩;exact mv [0] 0 (by rfl) (by simp[fV,dW])
mutual
def iN(f:Int->Id):Exp->Exp
 | .mk i k n r t ks ns=>.mk (f i.c) k n (if k=2/\r.b=0 then f r.c else r) t (zKv f ks) ns
def zKv(f:Int->Id):List Exp->wG
 |[]=>[]
 |e::l=>iN f e::zKv f l
end
theorem rM(f:Int->Id):∀l:wG,zKv f l=l.map (iN f)
 |[]=>rfl
 |e::l=>by simp only[zKv,jAi,rM f l]
mutual
def Exp.under(N:Nat):Exp->Prop
 | .mk i k _ r _ ks _=>(0<=i.c/\i.c<N)/\(k=2->r.b=0->0<=r.c/\r.c<N)/\ks.length<=1000000000/\zCK N ks
def zCK(N:Nat):List Exp->Prop
 |[]=>True
 |e::l=>e.under N/\zCK N l
end
theorem zAK{N:Nat}:∀l:wG,zCK N l↔∀e∈l,e.under N
 |[]=>by simp[zCK]
 |e::l=>by simp[zCK,zAK l]
def pP(ids:wF)(c:Int):Id:=ids.getD c.toNat Id.zero
theorem zJE{ids:wF}{j:Nat}(h:c=j)(hj:j<ids.length):pP ids c=ids[j]:=by subst h;unfold pP;rw[jCk,jB7,jA1 hj];rfl
def bG(ids:wF):AObj:=.row false 31 3 ids.length (zV ids)
mutual
theorem zFi(ids:wF):∀(e:Exp),e.under ids.length->my 88 [.agg (zJ e),.row 0 ids.length] [bG ids] (.agg (zJ (iN (pP ids) e))) [bG ids]
 | .mk a b c d t ks ns,hb=>by
  have ih:=zDp ids ks;simp only[Exp.under,zAK]at hb;obtain⟨⟨hb1,hb2⟩,hb3,hkl,hb4⟩:=hb;obtain⟨j,hj⟩:∃j:Nat,a.c=j:=⟨a.c.toNat,by omega⟩;have hjl:j<ids.length:=by omega
  have hdj:=yA hjl;have hej:=zJE hj hjl;have hbj:j*3+3<=ids.length*3:=by omega
  refine mn zWR [] [.cell 4 15 true] func88 (by kernel_rfl) ?_
  (conv in zY _ _ _ _=>cbv)
  obtain⟨x,hx⟩:∃x,x=ids[j]:=⟨_,rfl⟩;rw[<-hx]at hej hdj;by_cases hv1:b=2
  .by_cases hv2:d.b=0
   .obtain⟨hb5,hb6⟩:=hb3 hv1 hv2;obtain⟨m,hm⟩:∃m:Nat,d.c=m:=⟨d.c.toNat,by omega⟩;have hml:m<ids.length:=by omega
    have hdm:=yA hml;have hem:=zJE hm hml;have hbm:m*3+3<=ids.length*3:=by omega
    obtain⟨y,hy⟩:∃y,y=ids[m]:=⟨_,rfl⟩;rw[<-hy]at hem hdm;simp[zJ,bG,hj,hjl,hdj,hbj,hv1,hv2,hm,hml,hdm,hbm,zL];refine qO (S:=Nat) (fun i=>[(1,.row 0 ids.length),(2,.ptr 1 0),(4,.ptr 2 0),(5,.ptr 3 0),(6,int i)])
     (fun i=>[bG ids,.box (zJ (.mk a b c d t ks ns)),.box (zJ Exp.zero),.box [int x.a,int x.b,int x.c,int b,int c,int y.a,int y.b,int y.c,int t.k,int t.id.a,int t.id.b,int t.id.c,.sl t.kids.length (jL t.kids),.row 4 i,.sl ns.length (yT ns)],.row false 39 15 i (qQ ((ks.map (iN (pP ids))).take i))]) (fun i=>i<=ks.length) (fun i=>ks.length-i) 0 (by simp)
     ((yJ (l:=3) (o:=13) rfl rfl 39 15).trans (mw [0,1,2,3,4] 0 (by rfl) (by simp[bG,zJ,Exp.zero,Id.zero,Typ.zero,hj,hv1,hv2,hm,hem]))) ?_
    intro i hi;by_cases h:i<ks.length
    .have hg:=ih ks[i] (jA0 h) (hb4 _ (jA0 h));have hst:=bO (l:=ks.map (iN (pP ids))) (i:=i) (by rw[jAb];exact h);rw[jAt]at hst;simp[bG,zJ,h,y5 h];intro hl;refine aK hg [0] (by decide) (by simp[bG]) (by simp[zJ]) (by decide) (by simp) (by simp) ?_;simp[bG];refine⟨⟨by omega,by omega⟩,?_⟩;exact zS (i+1) h (by omega) (kf [0,1,2,3,4] 0 (by rfl) (by rw[hst];simp[bG,zJ]) (by simp[qF h hl]))
    .have hie:i=ks.length:=by omega
     subst hie;have hall:List.take ks.length (ks.map (iN (pP ids)))=ks.map (iN (pP ids)):=jAe (by simp);simp[bG,zJ];intro _;exact mv [0] 1 (by rfl) (by simp[zJ,iN,rM,hej,hall,hv1,hv2,hem])
   .simp[zJ,bG,hj,hjl,hdj,hbj,hv1,hv2,zL];refine qO (S:=Nat) (fun i=>[(1,.row 0 ids.length),(2,.ptr 1 0),(4,.ptr 2 0),(5,.ptr 3 0),(6,int i)])
     (fun i=>[bG ids,.box (zJ (.mk a b c d t ks ns)),.box (zJ Exp.zero),.box [int x.a,int x.b,int x.c,int b,int c,int d.a,int d.b,int d.c,int t.k,int t.id.a,int t.id.b,int t.id.c,.sl t.kids.length (jL t.kids),.row 4 i,.sl ns.length (yT ns)],.row false 39 15 i (qQ ((ks.map (iN (pP ids))).take i))]) (fun i=>i<=ks.length) (fun i=>ks.length-i) 0 (by simp)
     ((yJ (l:=3) (o:=13) rfl rfl 39 15).trans (mw [0,1,2,3,4] 0 (by rfl) (by simp[bG,zJ,Exp.zero,Id.zero,Typ.zero,hj,hv1,hv2]))) ?_
    intro i hi;by_cases h:i<ks.length
    .have hg:=ih ks[i] (jA0 h) (hb4 _ (jA0 h));have hst:=bO (l:=ks.map (iN (pP ids))) (i:=i) (by rw[jAb];exact h);rw[jAt]at hst;simp[bG,zJ,h,y5 h];intro hl;refine aK hg [0] (by decide) (by simp[bG]) (by simp[zJ]) (by decide) (by simp) (by simp) ?_;simp[bG];refine⟨⟨by omega,by omega⟩,?_⟩;exact zS (i+1) h (by omega) (kf [0,1,2,3,4] 0 (by rfl) (by rw[hst];simp[bG,zJ]) (by simp[qF h hl]))
    .have hie:i=ks.length:=by omega
     subst hie;have hall:List.take ks.length (ks.map (iN (pP ids)))=ks.map (iN (pP ids)):=jAe (by simp);simp[bG,zJ];intro _;exact mv [0] 1 (by rfl) (by simp[zJ,iN,rM,hej,hall,hv1,hv2])
  .simp[zJ,bG,hj,hjl,hdj,hbj,hv1,zL];refine qO (S:=Nat) (fun i=>[(1,.row 0 ids.length),(2,.ptr 1 0),(4,.ptr 2 0),(5,.ptr 3 0),(6,int i)])
    (fun i=>[bG ids,.box (zJ (.mk a b c d t ks ns)),.box (zJ Exp.zero),.box [int x.a,int x.b,int x.c,int b,int c,int d.a,int d.b,int d.c,int t.k,int t.id.a,int t.id.b,int t.id.c,.sl t.kids.length (jL t.kids),.row 4 i,.sl ns.length (yT ns)],.row false 39 15 i (qQ ((ks.map (iN (pP ids))).take i))]) (fun i=>i<=ks.length) (fun i=>ks.length-i) 0 (by simp)
    ((yJ (l:=3) (o:=13) rfl rfl 39 15).trans (mw [0,1,2,3,4] 0 (by rfl) (by simp[bG,zJ,Exp.zero,Id.zero,Typ.zero,hj,hv1]))) ?_
   intro i hi;by_cases h:i<ks.length
   .have hg:=ih ks[i] (jA0 h) (hb4 _ (jA0 h));have hst:=bO (l:=ks.map (iN (pP ids))) (i:=i) (by rw[jAb];exact h);rw[jAt]at hst;simp[bG,zJ,h,y5 h];intro hl;refine aK hg [0] (by decide) (by simp[bG]) (by simp[zJ]) (by decide) (by simp) (by simp) ?_;simp[bG];refine⟨⟨by omega,by omega⟩,?_⟩;exact zS (i+1) h (by omega) (kf [0,1,2,3,4] 0 (by rfl) (by rw[hst];simp[bG,zJ]) (by simp[qF h hl]))
   .have hie:i=ks.length:=by omega
    subst hie;have hall:List.take ks.length (ks.map (iN (pP ids)))=ks.map (iN (pP ids)):=jAe (by simp);simp[bG,zJ];intro _;exact mv [0] 1 (by rfl) (by simp[zJ,iN,rM,hej,hall,hv1])
theorem zDp(ids:wF):∀(ks:wG),∀x∈ks,x.under ids.length->my 88 [.agg (zJ x),.row 0 ids.length] [bG ids] (.agg (zJ (iN (pP ids) x))) [bG ids]
 |[],x,hx=>by simp at hx
 |z::l,x,hx=>by
  rcases jA3.1 hx with e|hx
  .rw[e];exact zFi ids z
  .exact zDp ids l x hx
end
def zQh:K:=(G [M 72 9,M 73 10,M 6 72,M 7 73] kr)
def zQg:K:=(G [M 50 0,M 51 1,kBi 52 51 2 .add,kC 53 38 [(kt 50),(kt 52),(kc 3)],M 11 53] (Z (G [M 54 11,kQi 55 54 1 false] (Y 55 (G [M 56 9,kb 57 kz2 [],kd 58 35 5 1 kz2 [(0,5,(kt 57))],kP 59 35 5 56 56 58,M 9 59] (K.ops [M 60 10,kd 61 3 1 1 [ki] [(0,1,(kc 1))],kP 62 3 1 8 60 61,M 10 62])) ks)) (Z (G [M 63 11,kQi 64 63 2 false] (Y 64 (G [M 65 9,kb 66 kz2 [(0,1,(kc 1))],kd 67 35 5 1 kz2 [(0,5,(kt 66))],kP 68 35 5 56 65 67,M 9 68] (K.ops [M 69 10,kd 70 3 1 1 [ki] [(0,1,(kc 0))],kP 71 3 1 8 69 70,M 10 71])) ks)) (K.wk zQh))))
def qCS:K:=G [kO 5 2,kMn 6,kMn 7] (G [M 12 0,M 13 1,kC 14 38 [(kt 12),(kt 13),(kc 5)],M 8 14] (G [kb 15 kz2 [],⟨none,.brow (some 16) 35 5 1 kz2 [(0,5,(kt 15))]⟩,M 9 16] (G [M 17 0,M 18 1,kBi 19 18 1 .add,kC 20 38 [(kt 17),(kt 19),(kc 3)],⟨none,.bin (some 21) .add (kc 1) (kt 20)⟩,⟨none,.brow (some 22) 3 1 1 [ki] [(0,1,(kt 21))]⟩,M 10 22] (Z (G [M 23 8,kQi 24 23 1 false] (Y 24 (G [M 25 9,kb 26 kz2 [(0,1,(kc 1))],kXi 27 25 5 0,S 27 26 5] (K.ops [M 28 10,kXi 29 28 1 0,⟨none,.st none (kt 29) (kc 0) 1⟩])) ks)) (Z (G [M 30 8,kQi 31 30 2 false] (Y 31 (G [M 32 9,kb 33 kz2 [],kC 34 126 [(kt 33)],kXi 35 32 5 0,S 35 34 5] (K.ops [M 36 10,M 37 0,M 38 1,kBi 39 38 1 .add,kC 40 38 [(kt 37),(kt 39),(kc 2)],⟨none,.bin (some 41) .add (kc 1) (kt 40)⟩,kXi 42 36 1 0,S 42 41 1])) ks)) (Z (G [M 43 8,kQi 44 43 3 false] (Y 44 (G [M 45 9,J 46 5 5,kXi 47 45 5 0,S 47 46 5] (K.ops [M 48 10,kXi 49 48 1 0,⟨none,.st none (kt 49) (kc 1) 1⟩])) ks)) (K.wk zQg)))))))
theorem qKL:ky f127 qCS:=m_ (by kernel_rfl)
def i4(x:Int)(one two:Typ):Typ:=[jK,jR,j8 jK,one,two,jK].getD (yM x 6).toNat jK
theorem zHg(x:Int)(one two:Typ)(hx:w64 x=x):my 125 [int x,.agg (zB one),.agg (zB two)] [] (.agg (zB (i4 x one two))) []:=by
 obtain⟨k0,k6⟩:=cC (k:=6) hx (by omega);have ha:=eU x 6 (by omega);have hk:yM x 6=0\/yM x 6=1\/yM x 6=2\/yM x 6=3\/yM x 6=4\/yM x 6=5:=by omega
 unfold i4;generalize yM x 6=k at ha k0 k6 hk;refine mq [] [.cell 6 5 true] func125 (by kernel_rfl) ?_
 (conv in kq _ _=>cbv)
 simp[zB];refine qA zEC (by simp[zB,jK]) (by simp) ?_;simp[zB];refine qA ha (by simp) (by simp) ?_;rcases hk with rfl|rfl|rfl|rfl|rfl|rfl
 all_goals
  simp[zB,jK,jR,j8];exact zA 0 (by simp[zB,jK,jR,j8,Id.zero,qN])
def zZa(l:wB)(at_:Int)(point:Typ):Typ×Int:=if atV l at_ 5=1 then (jR,0)else if atV l at_ 5=2 then (j8 jK,1+atV l (at_+1) 2)else if atV l at_ 5=3 then (point,1)else (jK,1+atV l (at_+1) 3)
def zRU(l:wB)(at_:Int):List (Typ×Int):=if atV l (at_+2) 3=1 then [(jK,1)]else if atV l (at_+2) 3=2 then [(jR,0)]else []
def inV(l:wB)(at_:Int)(point:Typ):List (Typ×Int):=zZa l at_ point::zRU l at_
def zMJ(L:List (Typ×Int)):wE:=jL (L.map (·.1))
def zEI(L:List (Typ×Int)):wE:=yC (L.map (·.2))
def inR(L:List (Typ×Int)):A:=.tup [.sl L.length (zMJ L),.sl L.length (zEI L)]
theorem zRV(l:wB)(at_:Int)(ha:0<=at_)(ha':at_<=1000)(hl:∀x∈l,w64 x=x)(p:Typ×Int) :
 wpK prog 0 zQg (fin [RS.slot 6,RS.slot 7] (rY 0 (inR (p::zRU l at_)) [])) (qS [(0,.sl l.length (yC l)),(1,int at_),(9,.row 0 1),(10,.row 1 1)])
  [.row false 35 5 1 (zB p.1),.row false 3 1 1 [int p.2]]:=by
 have w2:=z8 (at_+2) (by omega);have h3:=dK l (at_+2) 3 (by omega);unfold zRU;generalize atV l (at_+2) 3=z at *
 have tailU:∀L:List (Typ×Int),wpK prog 0 zQh (fin [RS.slot 6,RS.slot 7] (rY 0 (inR L) [])) (qS [(9,.sl L.length (zMJ L)),(10,.sl L.length (zEI L))]) []:=fun L=>by unfold zQh;simp;exact zA 0 (by simp[inR,zMJ,zEI])
 unfold zQg;simp[w2];refine mu h3 (by simp) ?_;by_cases hz1:z=1
 .simp[hz1,maxLen];exact⟨_,_,mw [] 1 (by rfl) (by simp[zMJ,zEI,qN,zB,jK,Id.zero]),tailU _⟩
 .by_cases hz2:z=2
  all_goals
   simp[hz1,hz2,maxLen];exact⟨_,_,mw [] 1 (by rfl) (by simp[zMJ,zEI,qN,zB,jR,Id.zero]),tailU _⟩
theorem zZb(l:wB)(at_:Int)(point:Typ)(ha:0<=at_)(ha':at_<=1000)(hl:∀x∈l,w64 x=x) :
 my 127 [.sl l.length (yC l),int at_,.agg (zB point)] [] (inR (inV l at_ point)) []:=by
 have w1:=z8 (at_+1) (by omega);have h0:=dK l at_ 5 (by omega)
 have h1:=dK l (at_+1) 3 (by omega);have h2:=dK l (at_+1) 2 (by omega);have ht:=zRV l at_ ha ha' hl
 obtain⟨r1,r1'⟩:=jT (i:=at_+1) hl (most:=3) (by omega);obtain⟨r2,r2'⟩:=jT (i:=at_+1) hl (most:=2) (by omega);unfold inV zZa;generalize atV l at_ 5=x at *
 generalize atV l (at_+1) 3=y1 at *
 generalize atV l (at_+1) 2=y2 at *
 have v1:=z8 (1+y1) (by omega);have v2:=z8 (1+y2) (by omega);refine zI func127 rfl qKL (rs:=[.slot 6,.slot 7]) (by kernel_rfl) ?_;unfold qCS;simp[zB];refine mu h0 (by simp) ?_;simp[w1];refine mu h1 (by simp) ?_;by_cases hx1:x=1
 .simp[v1,hx1];exact⟨_,_,mw [1,2] 0 (by rfl) (by simp[zB,jR,Id.zero]),ht (jR,0)⟩
 .by_cases hx2:x=2
  .simp[v1,hx1,hx2];refine mu zEC (by simp[zB,jK,Id.zero]) ?_;simp[zB,w1];refine mu h2 (by simp) ?_;simp[v2];exact⟨_,_,mw [1,2] 0 (by rfl) (by simp[zB,j8,Id.zero]),ht (j8 jK,1+y2)⟩
  .by_cases hx3:x=3
   .simp[v1,hx1,hx2,hx3];exact⟨_,_,mw [1,2] 0 (by rfl) (by simp[zB]),ht (point,1)⟩
   .simp[v1,hx1,hx2,hx3];exact⟨_,_,mw [1,2] 0 (by rfl) (by simp[zB,jK,Id.zero]),ht (jK,1+y1)⟩
theorem zUt(d:Dfn):my 141 [.agg (zK d)] [] (bl (zBU d.kind)) []:=by
 refine mq [] [.slot 2] func141 (by kernel_rfl) ?_
 (conv in kq _ _=>cbv)
 by_cases h2:d.kind=2
 .simp[zK,h2];exact zA 0 (by simp[zBU,h2])
 .by_cases h3:d.kind=3
  .simp[zK,h3];exact zA 0 (by simp[zBU,h3])
  .by_cases h4:d.kind=4
   .simp[zK,h4];exact zA 0 (by simp[zBU,h4])
   .simp[zK,h2,h3,h4];exact zA 0 (by simp[zBU,h2,h3,h4])
def zQr:K:=(G [M 212 10,M 4 212] kr)
def zQq:K:=(Z (G [M 196 0,kC 197 38 [(kt 196),(kc 22),(kc 4)],kBi 198 197 0 .gtr] (Y 198 (K.dops [(0,0,M 199 10),(1,0,J 200 13 5),(2,0,kd 201 35 5 1 kz2 [(0,5,(kt 200))]),(3,0,⟨none,.bslice (some 202) 9 1 1 [(.string ⟨#[]⟩)] [(0,1,(.const (.string ⟨#[111,108,100]⟩)))]⟩),(4,0,M 203 0),(5,0,kC 204 38 [(kt 203),(kc 23),(kc 6)]),(6,0,J 205 6 5),(7,0,J 206 13 5),(8,0,kC 207 125 [(kt 204),(kt 205),(kt 206)]),(9,0,M 208 12),(10,0,⟨none,.build (some 209) kz3 [(0,1,(kc 5)),(1,1,(.const (.string ⟨#[99]⟩))),(2,1,(kt 201)),(3,1,(kt 202)),(5,5,(kt 207)),(10,1,(kt 208))]⟩),(11,0,kd 210 133 11 1 kz3 [(0,11,(kt 209))]),(12,0,kP 211 133 11 160 199 210),(13,0,M 10 211)]) ks)) (K.wk zQr))
def zQp:K:=(G [M 178 0,J 179 6 5,kC 180 127 [(kt 178),(kc 18),(kt 179)],M 177 180,kE 181 177 0,kE 182 177 1,M 17 181,M 18 182] (Z (K.dops [(0,0,M 183 10),(1,0,M 184 17),(2,0,⟨none,.bslice (some 185) 9 1 2 [(.string ⟨#[]⟩),(.string ⟨#[]⟩)] [(0,1,(.const (.string ⟨#[97]⟩))),(1,1,(.const (.string ⟨#[98]⟩)))]⟩),(3,0,M 186 18),(4,0,M 187 0),(5,0,kC 188 38 [(kt 187),(kc 21),(kc 6)]),(6,0,J 189 6 5),(7,0,J 190 16 5),(8,0,kC 191 125 [(kt 188),(kt 189),(kt 190)]),(9,0,M 192 12),(10,0,⟨none,.build (some 193) kz3 [(0,1,(kc 4)),(1,1,(.const (.string ⟨#[116]⟩))),(2,1,(kt 184)),(3,1,(kt 185)),(4,1,(kt 186)),(5,5,(kt 191)),(10,1,(kt 192))]⟩),(11,0,kd 194 133 11 1 kz3 [(0,11,(kt 193))]),(12,0,kP 195 133 11 160 183 194),(13,0,M 10 195)]) (K.wk zQq)))
def zQo:K:=(G [M 134 0,M 135 1,kC 136 38 [(kt 134),(kc 15),(kt 135)],M 15 136] (Z (K.dops [(0,0,M 137 0),(1,1,kC 138 38 [(kt 137),(kc 16),(kc 6)]),(2,1,J 139 6 5),(3,1,J 140 6 5),(4,1,kC 141 125 [(kt 138),(kt 139),(kt 140)]),(5,0,kZ 16 kz2),(6,0,S 16 141 5)]) (G [M 142 10,M 143 8,⟨none,.bslice (some 144) 9 1 2 [(.string ⟨#[]⟩),(.string ⟨#[]⟩)] [(0,1,(.const (.string ⟨#[97]⟩))),(1,1,(.const (.string ⟨#[98]⟩)))]⟩,J 145 16 5,M 146 15,⟨none,.build (some 147) kz3 [(0,1,(kc 2)),(1,1,(.const (.string ⟨#[102]⟩))),(2,1,(kt 143)),(3,1,(kt 144)),(5,5,(kt 145)),(10,1,(kt 146))]⟩,kd 148 133 11 1 kz3 [(0,11,(kt 147))],kP 149 133 11 160 142 148,M 10 149] (Z (G [M 150 5] (Y 150 (K.dops [(0,0,M 151 10),(1,0,J 152 13 5),(2,0,J 153 7 5),(3,0,kd 154 35 5 2 [ki,ki,ki,ki,kl,ki,ki,ki,ki,kl] [(0,5,(kt 152)),(5,5,(kt 153))]),(4,0,⟨none,.bslice (some 155) 9 1 2 [(.string ⟨#[]⟩),(.string ⟨#[]⟩)] [(0,1,(.const (.string ⟨#[115]⟩))),(1,1,(.const (.string ⟨#[101]⟩)))]⟩),(5,0,M 156 1),(6,0,kBi 157 156 3 .add),(7,0,kC 158 83 [(kt 157)]),(8,0,kC 159 62 [(kt 158)]),(9,0,M 160 12),(10,0,⟨none,.build (some 161) kz3 [(0,1,(kc 3)),(1,1,(.const (.string ⟨#[115,116,101,112]⟩))),(2,1,(kt 154)),(3,1,(kt 155)),(5,5,(kt 159)),(10,1,(kt 160))]⟩),(11,0,kd 162 133 11 1 kz3 [(0,11,(kt 161))]),(12,0,kP 163 133 11 160 151 162),(13,0,M 10 163)]) (K.dops [(0,0,M 164 10),(1,0,J 165 7 5),(2,0,kd 166 35 5 1 kz2 [(0,5,(kt 165))]),(3,0,⟨none,.bslice (some 167) 9 1 1 [(.string ⟨#[]⟩)] [(0,1,(.const (.string ⟨#[101]⟩)))]⟩),(4,0,
 M 168 0),(5,0,kC 169 38 [(kt 168),(kc 17),(kc 6)]),(6,0,J 170 6 5),(7,0,J 171 7 5),(8,0,kC 172 125 [(kt 169),(kt 170),(kt 171)]),(9,0,M 173 12),(10,0,⟨none,.build (some 174) kz3 [(0,1,(kc 2)),(1,1,(.const (.string ⟨#[103]⟩))),(2,1,(kt 166)),(3,1,(kt 167)),(5,5,(kt 172)),(10,1,(kt 173))]⟩),(11,0,kd 175 133 11 1 kz3 [(0,11,(kt 174))]),(12,0,kP 176 133 11 160 164 175),(13,0,M 10 176)]))) (K.wk zQp)))))
def zQn:K:=(Z (K.dops [(0,0,M 117 0),(1,0,kC 118 38 [(kt 117),(kc 12),(kc 6)]),(2,0,J 119 6 5),(3,0,J 120 7 5),(4,0,kC 121 125 [(kt 118),(kt 119),(kt 120)]),(5,9,⟨none,.brow (some 122) 35 5 1 kz2 [(0,5,(kt 121))]⟩),(6,0,M 8 122)]) (Z (G [M 123 0,kC 124 38 [(kt 123),(kc 13),(kc 2)],kQi 125 124 1 false] (Y 125 (K.dops [(0,0,M 126 8),(1,0,M 127 0),(2,0,kC 128 38 [(kt 127),(kc 14),(kc 6)]),(3,0,J 129 6 5),(4,0,J 130 7 5),(5,0,kC 131 125 [(kt 128),(kt 129),(kt 130)]),(6,0,kd 132 35 5 1 kz2 [(0,5,(kt 131))]),(7,0,kP 133 35 5 56 126 132),(8,0,M 8 133)]) ks)) (K.wk zQo)))
def zQt:K:=(G [M 69 10,M 70 8,⟨none,.bslice (some 71) 9 1 3 zU3 [(0,1,(.const (.string ⟨#[84,105,99,107]⟩))),(1,1,(.const (.string ⟨#[80,117,115,104]⟩))),(2,1,(.const (.string ⟨#[83,101,116]⟩)))]⟩,⟨none,.build (some 72) kz3 [(0,1,(kc 1)),(1,1,(.const (.string ⟨#[69,118,101,110,116]⟩))),(2,1,(kt 70)),(3,1,(kt 71))]⟩,kd 73 133 11 1 kz3 [(0,11,(kt 72))],kP 74 133 11 160 69 73,M 10 74] (G [M 75 1,kBi 76 75 1 .sub,M 12 76] (G [J 77 6 5,kZ 13 kz2,S 13 77 5] (Z (G [M 78 5] (Y 78 (G [kb 79 kz2 [],⟨none,.brow (some 80) 35 5 1 kz2 [(0,5,(kt 79))]⟩,M 8 80] (Z (G [kMi 14 0] (K.block 4 (K.loop (Z (G [M 81 14,M 82 0,kC 83 38 [(kt 82),(kc 9),(kc 3)],kB 84 81 83 .lss] (Y 84 ks (K.exit 4))) (Z (K.block 5 (K.dops [(0,0,M 87 8),(1,0,M 88 0),(2,0,M 89 14),(3,0,⟨none,.bin (some 90) .add (kc 10) (kt 89)⟩),(4,0,kC 91 38 [(kt 88),(kt 90),(kc 4)]),(5,0,J 92 6 5),(6,0,J 93 6 5),(7,0,kC 94 125 [(kt 91),(kt 92),(kt 93)]),(8,0,kd 95 35 5 1 kz2 [(0,5,(kt 94))]),(9,0,kP 96 35 5 56 87 95),(10,0,M 8 96)])) (K.ops [M 85 14,kBi 86 85 1 .add,M 14 86])))))) (Z (K.wk (K.ops [M 97 1,kBi 98 97 2 .add,kC 99 83 [(kt 98)],kC 100 62 [(kt 99)],S 13 100 5])) (G [M 101 10,
 M 102 8,⟨none,.bslice (some 103) 9 1 3 zU3 [(0,1,(.const (.string ⟨#[99,111,117,110,116]⟩))),(1,1,(.const (.string ⟨#[108,111,103]⟩))),(2,1,(.const (.string ⟨#[109,111,114,101]⟩)))]⟩,⟨none,.build (some 104) kz3 [(0,1,(kc 0)),(1,1,(.const (.string ⟨#[83,116,97,116,101]⟩))),(2,1,(kt 102)),(3,1,(kt 103))]⟩,kd 105 133 11 1 kz3 [(0,11,(kt 104))],kP 106 133 11 160 101 105,M 10 106] (K.dops [(0,0,M 107 10),(1,0,J 108 13 5),(2,0,kb 109 kz2 []),(3,0,kC 110 126 [(kt 109)]),(4,0,kb 111 kz2 []),(5,0,kd 112 35 5 3 qMO [(0,5,(kt 108)),(5,5,(kt 110)),(10,5,(kt 111))]),(6,0,⟨none,.bslice (some 113) 9 1 3 zU3 [(0,1,(.const (.string ⟨#[115,116,97,116,101]⟩))),(1,1,(.const (.string ⟨#[115,105,103,110,97,108,115]⟩))),(2,1,(.const (.string ⟨#[110,101,120,116]⟩)))]⟩),(7,0,⟨none,.build (some 114) kz3 [(0,1,(kc 0)),(1,1,(.const (.string ⟨#[79,117,116]⟩))),(2,1,(kt 112)),(3,1,(kt 113))]⟩),(8,0,kd 115 133 11 1 kz3 [(0,11,(kt 114))]),(9,0,kP 116 133 11 160 107 115),(10,0,M 10 116)]))))) ks)) (K.wk zQn)))))
def zQs:K:=(G [M 46 8,⟨none,.bslice (some 47) 9 1 3 zU3 [(0,1,(.const (.string ⟨#[120]⟩))),(1,1,(.const (.string ⟨#[121]⟩))),(2,1,(.const (.string ⟨#[122]⟩)))]⟩,⟨none,.build (some 48) kz3 [(0,1,(kc 0)),(1,1,(.const (.string ⟨#[80,111,105,110,116]⟩))),(2,1,(kt 46)),(3,1,(kt 47))]⟩,⟨none,.brow (some 49) 133 11 1 kz3 [(0,11,(kt 48))]⟩,M 10 49] (G [kb 50 kz2 [],⟨none,.brow (some 51) 35 5 1 kz2 [(0,5,(kt 50))]⟩,M 8 51] (Z (G [kMi 11 0] (K.block 2 (K.loop (Z (G [M 52 11,M 53 0,kC 54 38 [(kt 53),(kc 6),(kc 2)],⟨none,.bin (some 55) .add (kc 1) (kt 54)⟩,kB 56 52 55 .lss] (Y 56 ks (K.exit 2))) (Z (K.block 3 (K.dops [(0,0,M 59 8),(1,0,M 60 0),(2,0,M 61 11),(3,0,⟨none,.bin (some 62) .add (kc 7) (kt 61)⟩),(4,0,kC 63 38 [(kt 60),(kt 62),(kc 4)]),(5,0,J 64 6 5),(6,0,J 65 6 5),(7,0,kC 66 125 [(kt 63),(kt 64),(kt 65)]),(8,0,kd 67 35 5 1 kz2 [(0,5,(kt 66))]),(9,0,kP 68 35 5 56 59 67),(10,0,M 8 68)])) (K.ops [M 57 11,kBi 58 57 1 .add,M 11 58])))))) (K.wk zQt))))
def qCW:K:=G [kMn 4] (G [M 19 0,kC 20 38 [(kt 19),(kc 1),(kc 4)],kBi 21 20 0 .gtr,M 5 21] (G [M 22 1,kC 23 83 [(kt 22)],kC 24 62 [(kt 23)],kZ 6 kz2,S 6 24 5] (G [M 25 1,kBi 26 25 1 .add,kC 27 83 [(kt 26)],kC 28 62 [(kt 27)],kZ 7 kz2,S 7 28 5] (G [kMn 8] (Z (G [kMi 9 0] (K.block 0 (K.loop (Z (G [M 29 9,M 30 0,kC 31 38 [(kt 30),(kc 2),(kc 3)],⟨none,.bin (some 32) .add (kc 1) (kt 31)⟩,kB 33 29 32 .lss] (Y 33 ks (K.exit 0))) (Z (K.block 1 (K.dops [(0,0,M 36 8),(1,0,M 37 0),(2,0,M 38 9),(3,0,⟨none,.bin (some 39) .add (kc 3) (kt 38)⟩),(4,0,kC 40 38 [(kt 37),(kt 39),(kc 3)]),(5,0,J 41 6 5),(6,0,J 42 6 5),(7,0,kC 43 125 [(kt 40),(kt 41),(kt 42)]),(8,0,kd 44 35 5 1 kz2 [(0,5,(kt 43))]),(9,0,kP 45 35 5 56 36 44),(10,0,M 8 45)])) (K.ops [M 34 9,kBi 35 34 1 .add,M 9 35])))))) (K.wk zQs))))))
def qML:Nat->Option wD:=fun|27=>k_ [0,0,0,0,0,9,0]|_=>none
theorem qKP:kx f84 qML qCW:=mz (by kernel_rfl)
structure Pln where
 kind:Int
 name:ByteArray
 types:List Typ
 names:List ByteArray
 most:List Int
 out:Typ
 mod:Int
def dM(p:Pln):wE:=[int p.kind,.lit (.string p.name),.sl p.types.length (jL p.types),.sl p.names.length (yT p.names),.sl p.most.length (yC p.most),int p.out.k,int p.out.id.a,int p.out.id.b,int p.out.id.c,.sl p.out.kids.length (jL p.out.kids),int p.mod]
theorem zAt(p:Pln):qV (dM p):=by have h1:=y9 p.types;have h2:=eB p.names;have h3:=y9 p.out.kids;exact⟨by simp[dM,h1.1,h2.1,h3.1],fun rf g=>by simp[dM,h1.2,h2.2,h3.2]⟩
def aD(l:List Pln):wE:=l.flatMap dM
theorem zAY(l:List Pln):qV (aD l):=c7 zAt l
@[simp]theorem zXe(l:List Pln):jO (aD l)=aD l:=(zAY l).1
@[simp]theorem qBY{rf g}(l:List Pln):vwL rf g (aD l)=aD l:=(zAY l).2 _ _
@[simp]theorem zYr:aD []=[]:=rfl
theorem iB(x:Pln)(l:List Pln):aD (x::l)=dM x++aD l:=rfl
theorem lV(l l':List Pln):aD (l++l')=aD l++aD l':=by simp only[aD,jBz]
@[simp]theorem zYq(l:List Pln):(aD l).length=l.length*11:=by rw[aD,fN (k:=11) (fun _=>rfl)]
theorem zIV{l:List Pln}(h:i<l.length):(aD l).drop (i*11)=dM l[i]++aD (l.drop (i+1)):=by rw[aD,aD,eX (k:=11) (fun _=>rfl) h]
@[simp]theorem qFm(d:Pln):(dM d).length=11:=rfl
@[simp]theorem qFl(d:Pln):(dM d).take 11=dM d:=jAe (jA _)
@[simp]theorem qAO(d:Pln)(l:wE):(dM d++l).take 11=dM d:=by rw[jC6 (by simp)];exact jAe (by simp)
@[simp]theorem qBu(d:Pln):jO (dM d)=dM d:=(zAt d).1
@[simp]theorem qJP(d:Pln) {rf g}:vwL rf g (dM d)=dM d:=(zAt d).2 _ _
def tyL(l:wB)(at_ most n:Int)(one:Typ):wS:=(List.range n.toNat).map fun(i:Nat)=>i4 (atV l (at_+i) most) one one
section
variable(l:wB)(mods:Int)
def pO:Bool:=decide (0<atV l 1 4)
def jE:Typ:=yO (idR mods)
def dQ:Typ:=yO (idR (mods+1))
def mP:Typ:=if pO l then yO (idR (mods+2))else jE mods
def zMI:Typ:=i4 (atV l 16 6) (jE mods) (jE mods)
def dB:Pln:=⟨0,⟨#[80,111,105,110,116]⟩,tyL l 3 3 (1+atV l 2 3) (jE mods),[⟨#[120]⟩,⟨#[121]⟩,⟨#[122]⟩],[],jK,0⟩
def eK:Pln:=⟨1,⟨#[69,118,101,110,116]⟩,jK::tyL l 7 4 (1+atV l 6 2) (jE mods),[⟨#[84,105,99,107]⟩,⟨#[80,117,115,104]⟩,⟨#[83,101,116]⟩],[],jK,0⟩
def lN:Pln:=⟨0,⟨#[83,116,97,116,101]⟩,jK::tyL l 10 4 (atV l 9 3) (jE mods),[⟨#[99,111,117,110,116]⟩,⟨#[108,111,103]⟩,⟨#[109,111,114,101]⟩],[],jK,0⟩
def zD2:Pln:=⟨0,⟨#[79,117,116]⟩,[yO (idR (mods+2)),j8 jK,jK],[⟨#[115,116,97,116,101]⟩,⟨#[115,105,103,110,97,108,115]⟩,⟨#[110,101,120,116]⟩],[],jK,0⟩
def sM:wS:=i4 (atV l 12 6) (jE mods) (dQ mods)::(if atV l 13 2=1 then [i4 (atV l 14 6) (jE mods) (dQ mods)]else [])
def pF:Pln:=⟨2,⟨#[102]⟩,sM l mods,[⟨#[97]⟩,⟨#[98]⟩],[],zMI l mods,atV l 15 mods⟩
def zB5:Pln:=⟨3,⟨#[115,116,101,112]⟩,[yO (idR (mods+2)),dQ mods],[⟨#[115]⟩,⟨#[101]⟩],[],yO (idR (mods+3)),mods-1⟩
def pG:Pln:=⟨2,⟨#[103]⟩,[dQ mods],[⟨#[101]⟩],[],i4 (atV l 17 6) (jE mods) (dQ mods),mods-1⟩
def pT:Pln:=⟨4,⟨#[116]⟩,(inV l 18 (jE mods)).map (·.1),[⟨#[97]⟩,⟨#[98]⟩],(inV l 18 (jE mods)).map (·.2),i4 (atV l 21 6) (jE mods) (zMI l mods),mods-1⟩
def pC:Pln:=⟨5,⟨#[99]⟩,[mP l mods],[⟨#[111,108,100]⟩],[],i4 (atV l 23 6) (jE mods) (mP l mods),mods-1⟩
def plE:List Pln:=if 0<atV l 22 4 then [pC l mods]else []
def plD:List Pln:=pT l mods::plE l mods
def plC:List Pln:=(if pO l then zB5 mods else pG l mods)::plD l mods
def plB:List Pln:=pF l mods::plC l mods
def qI:List Pln:=[dB l mods,eK l mods]++(if pO l then [lN l mods,zD2 mods]else [])++plB l mods
end
abbrev zL8(L:List Pln):=fin [RS.slot 4] (rY 0 (.sl L.length (aD L)) [])
theorem zXu(L:List Pln):wpK prog 0 zQr (zL8 L) (qS [(10,.sl L.length (aD L))]) []:=by unfold zQr;simp;exact zA 0 (by simp)
theorem qGU(l:wB)(mods:Int)(hm:1<=mods)(hm2:mods<=2)(hl:∀x∈l,w64 x=x)(L:List Pln)(hL:L.length<=20) :
 wpK prog 0 zQq (zL8 (L++plE l mods)) (qS [(0,.sl l.length (yC l)),(6,.ptr 0 0),(10,.row 2 L.length),(12,int (mods-1)),(13,.ptr 1 0)])
  [.box (zB (jE mods)),.box (zB (mP l mods)),.row false 133 11 L.length (aD L)]:=by
 have h0:=dK l 22 4 (by omega);have h1:=dK l 23 6 (by omega);obtain⟨r0,r0'⟩:=jT (i:=23) hl (most:=6) (by omega);have h2:=zHg (atV l 23 6) (jE mods) (mP l mods) (IntWalk.i64_in _ (by omega));unfold zQq;simp;refine mu h0 (by simp) ?_;by_cases h:0<atV l 22 4
 .simp[h,zB];refine qA h1 (by simp) (by simp) ?_;simp[zB];refine qA h2 (by simp[zB]) (by simp) ?_;simp[zB];refine⟨⟨by simp[maxLen];omega,by omega⟩,?_⟩;exact⟨_,_,mw [] 1 (by rfl) (by simp[plE,h,pC,lV,iB,dM,qN,zB,eA]),zXu _⟩
 .simp[h];exact⟨_,_,mw [] 1 (by rfl) (by simp[plE,h]),zXu _⟩
theorem iJ(l:wB)(i m:Int)(hm:0<m)(hl:∀x∈l,w64 x=x)(hm2:m<=1000)(a b:Typ):my 125 [int (atV l i m),.agg (zB a),.agg (zB b)] [] (.agg (zB (i4 (atV l i m) a b))) []:=by obtain⟨r0,r0'⟩:=jT (i:=i) hl (most:=m) hm;exact zHg _ _ _ (IntWalk.i64_in _ (by omega))
theorem qGT(l:wB)(mods:Int)(hm:1<=mods)(hm2:mods<=2)(hl:∀x∈l,w64 x=x)(L:List Pln)(hL:L.length<=19) :
 wpK prog 0 zQp (zL8 (L++plD l mods)) (qS [(0,.sl l.length (yC l)),(6,.ptr 0 0),(10,.row 3 L.length),(12,int (mods-1)),(13,.ptr 1 0),(16,.ptr 2 0)])
  [.box (zB (jE mods)),.box (zB (mP l mods)),.box (zB (zMI l mods)),.row false 133 11 L.length (aD L)]:=by
 have h0:=zZb l 18 (jE mods) (by omega) (by omega) hl;have h1:=dK l 21 6 (by omega);have h2:=iJ l 21 6 (by omega) hl (by omega) (jE mods) (zMI l mods);have hD:=qGU l mods hm hm2 hl (L++[pT l mods]) (by simp;omega);rw[jAq]at hD;unfold zQp;simp[zB];refine mu h0 (by simp[zB,inR,zMJ,zEI]) ?_;simp[inR,zMJ,zEI];refine qA h1 (by simp) (by simp) ?_;simp[zB];refine qA h2 (by simp[zB]) (by simp) ?_;simp[zB];refine⟨⟨by simp[maxLen];omega,by omega⟩,?_⟩;refine⟨_,_,kf [0,1,3] 0 (by rfl) ?_ (by simp),hD⟩;simp[zB,lV,iB,dM,pT,eC]
theorem qGS(l:wB)(mods:Int)(hm:1<=mods)(hm2:mods<=2)(hl:∀x∈l,w64 x=x)(L:List Pln)(hL:L.length<=17) :
 wpK prog 0 zQo (zL8 (L++plB l mods)) (qS [(0,.sl l.length (yC l)),(1,int mods),(5,bl (pO l)),(6,.ptr 0 0),(7,.ptr 1 0),(8,.sl (sM l mods).length (jL (sM l mods))),(10,.row 3 L.length),(12,int (mods-1)),(13,.ptr 2 0)])
  [.box (zB (jE mods)),.box (zB (dQ mods)),.box (zB (mP l mods)),.row false 133 11 L.length (aD L)]:=by
 have w3:=z8 (mods+3) (by omega);have h0:=dK l 15 mods (by omega);have h1:=dK l 16 6 (by omega);have h2:=iJ l 16 6 (by omega) hl (by omega) (jE mods) (jE mods);have h3:=tU (mods+3);have h4:=zDl (idR (mods+3));have h5:=dK l 17 6 (by omega);have h6:=iJ l 17 6 (by omega) hl (by omega) (jE mods) (dQ mods);have hC:=qGT l mods hm hm2 hl (L++[pF l mods]++[if pO l then zB5 mods else pG l mods]) (by simp;omega);rw[jAq,jAq]at hC;unfold zQo;simp;refine mu h0 (by simp) ?_;simp;refine zHA h1 [] (by decide) (by simp) (by simp) (by simp) ?_;simp[zB];refine zHA h2 [] (by decide) (by simp) (by simp[zB]) (by simp) ?_;simp[zB];refine⟨⟨by simp[maxLen];omega,by omega⟩,?_⟩;cases hh:pO l
 .simp[zB];refine qA h5 (by simp) (by simp) ?_;simp[zB];refine qA h6 (by simp[zB]) (by simp) ?_;simp[zB];refine⟨⟨by simp[maxLen];omega,by omega⟩,?_⟩;refine⟨_,_,kf [0,2,4,3] 0 (by rfl) ?_ (by simp),hC⟩;simp[zB,lV,iB,dM,pF,pG,hh,zMI,eA,eC,qN]
 .simp[zB,w3];refine qA h3 (by simp) (by simp) ?_;simp[zB];refine qA h4 (by simp[zL]) (by simp) ?_;simp[zB];refine⟨⟨by simp[maxLen];omega,by omega⟩,?_⟩;refine⟨_,_,kf [0,2,4,3] 0 (by rfl) ?_ (by simp),hC⟩;simp[zB,lV,iB,dM,pF,zB5,hh,zMI,mP,eA,eC,qN]
theorem zXt(l:wB)(mods:Int)(hm:1<=mods)(hm2:mods<=2)(hl:∀x∈l,w64 x=x)(L:List Pln)(hL:L.length<=17) :
 wpK prog 0 zQn (zL8 (L++plB l mods)) (qS [(0,.sl l.length (yC l)),(1,int mods),(5,bl (pO l)),(6,.ptr 0 0),(7,.ptr 1 0),(10,.row 3 L.length),(12,int (mods-1)),(13,.ptr 2 0)])
  [.box (zB (jE mods)),.box (zB (dQ mods)),.box (zB (mP l mods)),.row false 133 11 L.length (aD L)]:=by
 have h0:=dK l 12 6 (by omega);have h1:=iJ l 12 6 (by omega) hl (by omega) (jE mods) (dQ mods);have h2:=dK l 13 2 (by omega);have h3:=dK l 14 6 (by omega);have h4:=iJ l 14 6 (by omega) hl (by omega) (jE mods) (dQ mods);have hB:=qGS l mods hm hm2 hl L hL;unfold zQn;simp;refine qA h0 (by simp) (by simp) ?_;simp[zB];refine qA h1 (by simp[zB]) (by simp) ?_;simp[zB];refine mu h2 (by simp) ?_;by_cases h:atV l 13 2=1
 .simp[h,zB];refine qA h3 (by simp) (by simp) ?_;simp[zB];refine qA h4 (by simp[zB]) (by simp) ?_;simp[zB,maxLen];refine⟨_,_,kf [0,1,2,3] 1 (by rfl) (by simp[zB]) ?_,hB⟩;simp[sM,h,qN,zB]
 .simp[h,zB];refine⟨_,_,kf [0,1,2,3] 1 (by rfl) (by simp[zB]) ?_,hB⟩;simp[sM,h,qN,zB]
theorem oQ{s:ByteArray}{l:List ByteArray}:yT (s::l)=.lit (.string s)::yT l:=rfl
theorem xR(l:wB)(at_ most:Int)(n:Nat)(one:Typ):(tyL l at_ most n one).length=n:=by simp[tyL]
theorem zF4(l:wB)(at_ most:Int){n i:Nat}(h:i<n)(one:Typ):(tyL l at_ most n one).take (i+1)=(tyL l at_ most n one).take i++[i4 (atV l (at_+i) most) one one]:=by
 have hi:i<(tyL l at_ most n one).length:=by rw[xR];exact h
 rw[jA8 hi]
 congr 2
 simp[tyL]
theorem vT(l:wB)(at_ most:Int){n i:Nat}(h:i<=n)(one:Typ):((tyL l at_ most n one).take i).length=i:=by rw[jAs,xR];omega
theorem zIy(l:wB)(at_ most:Int)(n:Nat)(one:Typ):(tyL l at_ most n one).take n=tyL l at_ most n one:=jAe (by rw[xR];exact jA _)
theorem qGW(l:wB)(mods:Int)(hm:1<=mods)(hm2:mods<=2)(hl:∀x∈l,w64 x=x) :
 wpK prog 0 zQt (zL8 (qI l mods)) (qS [(0,.sl l.length (yC l)),(1,int mods),(5,bl (pO l)),(6,.ptr 0 0),(7,.ptr 1 0),(8,.sl (eK l mods).types.length (jL (eK l mods).types)),(10,.row 2 1)])
  [.box (zB (jE mods)),.box (zB (dQ mods)),.row false 133 11 1 (dM (dB l mods))]:=by
 have w1:=z8 (mods-1) (by omega);have w2:=z8 (mods+2) (by omega);have h0:=dK l 9 3 (by omega);obtain⟨r0,r0'⟩:=jT (i:=9) hl (most:=3) (by omega);obtain⟨N,hN⟩:∃N:Nat,(N:Int)=atV l 9 3:=⟨(atV l 9 3).toNat,by omega⟩;unfold zQt;cases hh:pO l
 .have hA:=zXt l mods hm hm2 hl [dB l mods,eK l mods] (by simp);have hpl:[dB l mods,eK l mods]++plB l mods=qI l mods:=by simp[qI,hh]
  rw[hpl,hh]at hA;simp[w1];refine⟨by simp[maxLen],?_⟩;refine⟨_,_,kf [0,1,3,2] 0 (by rfl) ?_ (by simp),hA⟩;simp[zB,iB,dM,eK,jK,Id.zero,mP,hh,oQ]
 .have hA:=zXt l mods hm hm2 hl [dB l mods,eK l mods,lN l mods,zD2 mods] (by simp);have hpl:[dB l mods,eK l mods,lN l mods,zD2 mods]++plB l mods=qI l mods:=by simp[qI,hh]
  rw[hpl,hh]at hA;simp[w1];refine⟨by simp[maxLen],?_⟩;refine qO (S:=Nat) (fun i=>[(0,.sl l.length (yC l)),(1,int mods),(5,bl true),(6,.ptr 0 0),(7,.ptr 1 0),(8,.row 4 (1+i)),(10,.row 2 2),(12,int (mods-1)),(13,.ptr 3 0),(14,int i)])
   (fun i=>[.box (zB (jE mods)),.box (zB (dQ mods)),.row false 133 11 2 (dM (dB l mods)++dM (eK l mods)),.box (zB (jE mods)),.row false 35 5 (1+i) (zB jK++jL ((tyL l 10 4 N (jE mods)).take i))]) (fun i=>i<=N) (fun i=>N-i) 0 (by simp)
   (mw [0,1,2,3,4] 0 (by rfl) (by simp[zB,dM,eK,jK,Id.zero,oQ])) ?_
  intro i hi;by_cases h:i<N
  .have h1:=dK l (10+i) 4 (by omega);have h2:=iJ l (10+i) 4 (by omega) hl (by omega) (jE mods) (jE mods);have hlt:(i:Int)<atV l 9 3:=by omega
   have v1:=z8 (10+(i:Int)) (by omega);have v2:=jY i (by omega);have hst:=zF4 l 10 4 h (jE mods);have hsl:=vT l 10 4 hi (jE mods);simp;refine mu h0 (by simp) ?_;simp[hlt,v1];refine qA h1 (by simp) (by simp) ?_;simp[zB];refine qA h2 (by simp[zB]) (by simp) ?_;simp[zB];refine⟨⟨by simp[maxLen];omega,by omega⟩,?_⟩;exact zS (i+1) h (by omega) (kf [0,1,2,3,4] 0 (by rfl) (by rw[hst];simp[zB,pL,qN,hsl];omega) (by simp[v2];omega))
  .have hie:i=N:=by omega
   subst hie;have h3:=tU (mods+2);have h4:=zDl (idR (mods+2));have hall:=zIy l 10 4 i (jE mods);have hty:(lN l mods).types=jK::tyL l 10 4 i (jE mods):=by rw[hN];rfl
   have hlen:=xR l 10 4 i (jE mods);simp;refine mu h0 (by simp) ?_;simp[hN];refine⟨qS [(0,.sl l.length (yC l)),(1,int mods),(5,bl true),(6,.ptr 0 0),(7,.ptr 1 0),(8,.sl (lN l mods).types.length (jL (lN l mods).types)),(10,.row 2 2),(12,int (mods-1)),(13,.ptr 3 0)],[.box (zB (jE mods)),.box (zB (dQ mods)),.row false 133 11 2 (dM (dB l mods)++dM (eK l mods)),.box (zB (jE mods))],
    kf [0,1,2,3] 1 (by rfl) (by simp) (by rw[hty];simp[<-hN,hall,hlen,qN];omega),?_⟩
   simp[w2];refine mu h3 (by simp) ?_;simp;refine mu h4 (by simp[zL]) ?_;simp[zB];refine⟨by simp[maxLen],?_⟩;refine qA zEC (by simp[zB,jK,Id.zero]) (by simp) ?_;simp[zB];refine⟨by simp[maxLen],?_⟩;refine⟨_,_,kf [0,1,3,2] 0 (by rfl) ?_ (by simp),hA⟩;simp[zB,iB,dM,zD2,lN,qN,jK,Id.zero,mP,hh,oQ]
theorem qGV(l:wB)(mods:Int)(hm:1<=mods)(hm2:mods<=2)(hl:∀x∈l,w64 x=x) :
 wpK prog 0 zQs (zL8 (qI l mods)) (qS [(0,.sl l.length (yC l)),(1,int mods),(5,bl (pO l)),(6,.ptr 0 0),(7,.ptr 1 0),(8,.sl (dB l mods).types.length (jL (dB l mods).types))])
  [.box (zB (jE mods)),.box (zB (dQ mods))]:=by
 have h0:=dK l 6 2 (by omega);obtain⟨r0,r0'⟩:=jT (i:=6) hl (most:=2) (by omega);obtain⟨N,hN⟩:∃N:Nat,(N:Int)=1+atV l 6 2:=⟨(1+atV l 6 2).toNat,by omega⟩;have wN:IntKind.i64.wrap (1+atV l 6 2)=N:=by rw[hN];exact IntWalk.i64_in _ (by omega)
 have hQ:=qGW l mods hm hm2 hl;unfold zQs;simp;refine qO (S:=Nat) (fun i=>[(0,.sl l.length (yC l)),(1,int mods),(5,bl (pO l)),(6,.ptr 0 0),(7,.ptr 1 0),(8,.row 3 (1+i)),(10,.row 2 1),(11,int i)])
  (fun i=>[.box (zB (jE mods)),.box (zB (dQ mods)),.row false 133 11 1 (dM (dB l mods)),.row false 35 5 (1+i) (zB jK++jL ((tyL l 7 4 N (jE mods)).take i))]) (fun i=>i<=N) (fun i=>N-i) 0 (by simp)
  (mw [0,1,2,3] 0 (by rfl) (by simp[zB,dM,dB,jK,Id.zero,oQ])) ?_
 intro i hi;by_cases h:i<N
 .have h1:=dK l (7+i) 4 (by omega);have h2:=iJ l (7+i) 4 (by omega) hl (by omega) (jE mods) (jE mods);have v1:=z8 (7+(i:Int)) (by omega);have v2:=jY i (by omega);have hst:=zF4 l 7 4 h (jE mods);have hsl:=vT l 7 4 hi (jE mods);simp;refine mu h0 (by simp) ?_;simp[h,v1,wN];refine qA h1 (by simp) (by simp) ?_;simp[zB];refine qA h2 (by simp[zB]) (by simp) ?_;simp[zB];refine⟨⟨by simp[maxLen];omega,by omega⟩,?_⟩;exact zS (i+1) h (by omega) (kf [0,1,2,3] 0 (by rfl) (by rw[hst];simp[zB,pL,qN,hsl];omega) (by simp[v2];omega))
 .have hie:i=N:=by omega
  subst hie;have hall:=zIy l 7 4 i (jE mods);have hty:(eK l mods).types=jK::tyL l 7 4 i (jE mods):=by rw[hN];rfl
  have hlen:=xR l 7 4 i (jE mods);simp;refine mu h0 (by simp) ?_;simp[wN];exact⟨_,_,kf [0,1,2] 1 (by rfl) (by simp) (by rw[hty];simp[hall,hlen,qN];omega),hQ⟩
theorem zS8(l:wB)(mods:Int)(hm:1<=mods)(hm2:mods<=2)(hl:∀x∈l,w64 x=x) :
 my 84 [.sl l.length (yC l),int mods] [] (.sl (qI l mods).length (aD (qI l mods))) []:=by
 have w1:=z8 (mods+1) (by omega);have k0:=dK l 1 4 (by omega);have k1:=tU mods;have k2:=zDl (idR mods);have k3:=tU (mods+1);have k4:=zDl (idR (mods+1));have h0:=dK l 2 3 (by omega);obtain⟨r0,r0'⟩:=jT (i:=2) hl (most:=3) (by omega);obtain⟨N,hN⟩:∃N:Nat,(N:Int)=1+atV l 2 3:=⟨(1+atV l 2 3).toNat,by omega⟩;have wN:IntKind.i64.wrap (1+atV l 2 3)=N:=by rw[hN];exact IntWalk.i64_in _ (by omega)
 have hP:=qGV l mods hm hm2 hl;refine zM func84 rfl qKP (rs:=[.slot 4]) (by kernel_rfl) ?_;unfold qCW;simp;refine mu k0 (by simp) ?_;simp;refine mu k1 (by simp) ?_;simp;refine mu k2 (by simp[zL]) ?_;simp[zB,w1];refine mu k3 (by simp) ?_;simp;refine mu k4 (by simp[zL]) ?_;simp[zB];refine qO (S:=Nat) (fun i=>[(0,.sl l.length (yC l)),(1,int mods),(5,bl (pO l)),(6,.ptr 0 0),(7,.ptr 1 0),(8,.row 2 i),(9,int i)])
  (fun i=>[.box (zB (jE mods)),.box (zB (dQ mods)),.row false 35 5 i (jL ((tyL l 3 3 N (jE mods)).take i))]) (fun i=>i<=N) (fun i=>N-i) 0 (by simp)
  ((yK (t:=8) (by simp) 35 5).trans (mw [0,1,2] 0 (by rfl) (by simp[zB,jE,dQ,pO]))) ?_
 intro i hi;by_cases h:i<N
 .have h1:=dK l (3+i) 3 (by omega);have h2:=iJ l (3+i) 3 (by omega) hl (by omega) (jE mods) (jE mods);have v1:=z8 (3+(i:Int)) (by omega);have v2:=jY i (by omega);have hst:=zF4 l 3 3 h (jE mods);have hsl:=vT l 3 3 hi (jE mods);simp;refine mu h0 (by simp) ?_;simp[h,v1,wN];refine qA h1 (by simp) (by simp) ?_;simp[zB];refine qA h2 (by simp[zB]) (by simp) ?_;simp[zB];refine⟨⟨by simp[maxLen];omega,by omega⟩,?_⟩;exact zS (i+1) h (by omega) (kf [0,1,2] 0 (by rfl) (by rw[hst];simp[zB,pL,qN,hsl]) (by simp[v2]))
 .have hie:i=N:=by omega
  subst hie;have hall:=zIy l 3 3 i (jE mods);have hty:(dB l mods).types=tyL l 3 3 i (jE mods):=by rw[hN];rfl
  have hlen:=xR l 3 3 i (jE mods);simp;refine mu h0 (by simp) ?_;simp[wN];exact⟨_,_,kf [0,1] 1 (by rfl) (by simp) (by rw[hty];simp[hall,hlen]),hP⟩
theorem zHQ{k:Int}(h0:0<=k)(h1:k<=1000000000000000):idR k=⟨0,1+k / 32,k % 32⟩:=by unfold idR;have e1:k.tdiv 32=k / 32:=tdN h0;have e2:k.tmod 32=k % 32:=tmN h0;have w1:=z8 (k.tdiv 32) (by omega);rw[w1,e2];have w2:=z8 (1+k.tdiv 32) (by omega);rw[w2,e1]
theorem zWS{k:Int}(h0:0<=k)(h1:k<=1000000000000000):1<=(idR k).b:=by rw[zHQ h0 h1];show 1<=1+k / 32;omega
theorem sZ{k j:Int}(h0:0<=k)(h1:k<=1000000000000000)(g0:0<=j)(g1:j<=1000000000000000)(h:idR k=idR j):k=j:=by
 rw[zHQ h0 h1,zHQ g0 g1]at h;injection h with _ h2 h3
 omega
def zHh(next:Int)(p:Pln)(k:Nat):Slt:=⟨idR (next+k),p.names.getD k ⟨#[]⟩,p.types.getD k jK,if p.kind=4 then p.most.getD k 0 else 0,k⟩
def dP(next:Int)(p:Pln):List Slt:=(List.range p.types.length).map (zHh next p)
def zJb(mods next:Int)(i:Nat)(p:Pln):Dfn:=⟨idR (mods+i),p.kind,idR p.mod,p.name,dP next p,p.out,Exp.zero,0,[]⟩
def cF(mods:Int)(ps:List Pln):Nat->Int
 | 0=>mods+ps.length
 |i+1=>cF mods ps i+(match ps[i]? with|some p=>(p.types.length:Int)|none=>0)
def oS(mods:Int)(ps:List Pln):wQ:=ps.mapIdx fun i p=>zJb mods (cF mods ps i) i p
def tZ(mods:Int)(ps:List Pln)(c:Int)(i:Nat):wF:=((List.range i).filter fun j=>match ps[j]? with|some p=>decide (p.mod=c)|none=>false).map fun(j:Nat)=>idR (mods+j)
def zDj(mods:Int)(ps:List Pln):List Md :=
 (⟨idR 0,⟨#[99,111,114,101]⟩,[],tZ mods ps 0 ps.length⟩:Md)::(if mods=2 then [⟨idR 1,⟨#[109,105,108,108]⟩,[idR 0],tZ mods ps 1 ps.length⟩]else [])
@[simp]theorem zO1(mods:Int)(ps:List Pln):(oS mods ps).length=ps.length:=by simp[oS]
@[simp]theorem lR(next:Int)(p:Pln):(dP next p).length=p.types.length:=by simp[dP]
theorem zCg(mods:Int)(ps:List Pln)(h:i<ps.length):(oS mods ps)[i]'(by simpa using h)=zJb mods (cF mods ps i) i ps[i]:=by simp[oS]
theorem zEM(mods:Int)(ps:List Pln)(h:i<ps.length):cF mods ps (i+1)=cF mods ps i+ps[i].types.length:=by simp only[cF];rw[jA1 h]
structure PlnOk(mods:Int)(p:Pln):Prop where
 kind0:0<=p.kind
 kind5:p.kind<=5
 mod0:0<=p.mod
 mod1:p.mod<mods
 t1:1<=p.types.length
 t6:p.types.length<=6
 names:p.types.length<=p.names.length
 most:p.kind=4->p.types.length<=p.most.length
theorem zMC(x:Int)(a b:Typ)(hx:w64 x=x):i4 x a b=jK\/i4 x a b=jR\/i4 x a b=j8 jK\/i4 x a b=a\/i4 x a b=b:=by
 obtain⟨k0,k6⟩:=cC (k:=6) hx (by omega);unfold i4;generalize yM x 6=k at *
 have:k=0\/k=1\/k=2\/k=3\/k=4\/k=5:=by omega
 rcases this with rfl|rfl|rfl|rfl|rfl|rfl<;>simp
theorem zDT{l:wB}{i most:Int}(hl:∀x∈l,w64 x=x)(hm:0<most)(h2:most<=1000):w64 (atV l i most)=atV l i most:=by obtain⟨a,b⟩:=jT (i:=i) hl hm;exact IntWalk.i64_in _ (by omega)
theorem zAS{k:Int}(h0:0<=k)(h:k<6):yM k 6=k:=by
 have:k=0\/k=1\/k=2\/k=3\/k=4\/k=5:=by omega
 rcases this with rfl|rfl|rfl|rfl|rfl|rfl<;>decide
theorem zSP{x:Int}(h0:0<=x)(h:x<3)(a b:Typ):i4 x a b=jK\/i4 x a b=jR\/i4 x a b=j8 jK:=by
 unfold i4;rw[zAS h0 (by omega)];have:x=0\/x=1\/x=2:=by omega
 rcases this with rfl|rfl|rfl<;>simp
theorem zSQ{x:Int}(h0:0<=x)(h:x<4)(a b:Typ):i4 x a b=jK\/i4 x a b=jR\/i4 x a b=j8 jK\/i4 x a b=a:=by
 unfold i4;rw[zAS h0 (by omega)];have:x=0\/x=1\/x=2\/x=3:=by omega
 rcases this with rfl|rfl|rfl|rfl<;>simp
theorem zDF{l:wB}{at_ most n:Int}{one t:Typ}(h:t∈tyL l at_ most n one):∃i:Nat,t=i4 (atV l (at_+i) most) one one:=by simp only[tyL,jAg]at h;obtain⟨i,_,rfl⟩:=h;exact⟨i,rfl⟩
theorem lS(l:wB)(at_ most n:Int)(one:Typ):(tyL l at_ most n one).length=n.toNat:=by simp[tyL]
section
variable(l:wB)(mods:Int)(hm:1<=mods)(hm2:mods<=2)(hl:∀x∈l,w64 x=x)
include hm hm2 hl
theorem eY:∀p∈qI l mods,PlnOk mods p:=by
 intro p hp;have a2:=jT (i:=2) hl (most:=3) (by omega);have a6:=jT (i:=6) hl (most:=2) (by omega);have a9:=jT (i:=9) hl (most:=3) (by omega);have a15:=jT (i:=15) hl (most:=mods) (by omega);have hF:(sM l mods).length=1\/(sM l mods).length=2:=by unfold sM;split<;>simp
 have hT:(inV l 18 (jE mods)).length=1\/(inV l 18 (jE mods)).length=2:=by
  unfold inV zRU;split
  .simp
  .split<;>simp
 have hp':p=dB l mods\/p=eK l mods\/p=lN l mods\/p=zD2 mods\/p=pF l mods\/p=zB5 mods\/p=pG l mods\/p=pT l mods\/p=pC l mods:=by
  simp only[qI,plB,plC,plD,plE,jAc,jA3]at hp;rcases hp with ((h|h|h)|h)|h|h|h|h
  .simp[h]
  .simp[h]
  .simp at h
  .split at h
   .simp at h;rcases h with h|h<;>simp[h]
   .simp at h
  .simp[h]
  .split at h<;>simp[h]
  .simp[h]
  .split at h
   .simp at h;simp[h]
   .simp at h
 rcases hp' with rfl|rfl|rfl|rfl|rfl|rfl|rfl|rfl|rfl
 .refine⟨?_,?_,?_,?_,?_,?_,?_,?_⟩<;>simp only[dB,lS]<;>first|omega|simp<;>omega
 .refine⟨?_,?_,?_,?_,?_,?_,?_,?_⟩<;>simp only[eK,jA9,lS]<;>first|omega|simp<;>omega
 .refine⟨?_,?_,?_,?_,?_,?_,?_,?_⟩<;>simp only[lN,jA9,lS]<;>first|omega|simp<;>omega
 .refine⟨?_,?_,?_,?_,?_,?_,?_,?_⟩<;>simp only[zD2,jA9,jB9]<;>first|omega|simp<;>omega
 .refine⟨?_,?_,?_,?_,?_,?_,?_,?_⟩<;>simp only[pF,jA9,jB9]<;>first|omega|simp<;>omega
 .refine⟨?_,?_,?_,?_,?_,?_,?_,?_⟩<;>simp only[zB5,jA9,jB9]<;>first|omega|simp<;>omega
 .refine⟨?_,?_,?_,?_,?_,?_,?_,?_⟩<;>simp only[pG,jA9,jB9]<;>first|omega|simp<;>omega
 .refine⟨?_,?_,?_,?_,?_,?_,?_,?_⟩<;>simp only[pT,jA9,jB9,jAb]<;>first|omega|simp<;>omega
 .refine⟨?_,?_,?_,?_,?_,?_,?_,?_⟩<;>simp only[pC,jA9,jB9]<;>first|omega|simp<;>omega
omit hm hm2 hl in
theorem b6:5<=(qI l mods).length/\(qI l mods).length<=8:=by unfold qI plB plC plD plE;split<;>split<;>simp
end
theorem mF{mods:Int}{ps:List Pln}(hm:0<=mods)(h6:∀p∈ps,p.types.length<=6):∀i:Nat,mods+ps.length<=cF mods ps i/\cF mods ps i<=mods+ps.length+6*i
 | 0=>by simp[cF]
 |i+1=>by
  have ih:=mF hm h6 i;simp only[cF];split
  .rename_i p hp;have:=h6 p (jBt hp);omega
  .omega
variable{mods:Int}{ps:List Pln}
theorem zMl{j:Nat}(h:i<=j):cF mods ps i<=cF mods ps j:=by
 induction h with
 |refl=>exact jAd _
 |step h ih =>
  simp only[cF];split
  .rename_i p _;have:=Int.natCast_nonneg p.types.length;omega
  .omega
def zFT(mods:Int)(ps:List Pln):wP:=(oS mods ps).map Dfn.hd
@[simp]theorem qFJ(mods:Int)(ps:List Pln):(zFT mods ps).length=ps.length:=by simp[zFT]
theorem nT(mods:Int)(ps:List Pln){k:Nat}(h:k<ps.length):(zFT mods ps)[k]'(by simpa using h)=⟨idR (mods+k),ps[k].kind,dP (cF mods ps k) ps[k],ps[k].out⟩:=by simp only[zFT,jAt];rw[zCg mods ps h];rfl
theorem zAH{next:Int}{p:Pln}{s:Slt}(h:s∈dP next p):s.typ∈p.types:=by simp only[dP,jAg,jC]at h;obtain⟨k,hk,rfl⟩:=h;simp only[zHh,jB7,jA1 hk,jBe];exact jA0 hk
theorem zHB(hm:1<=mods)(hm2:mods<=2)(hps:ps.length<=8)(h6:∀p∈ps,PlnOk mods p){k:Nat}(hk:k<ps.length)(hkd:ps[k].kind=0\/ps[k].kind=1){r:Nat}(ht:∀t∈ps[k].types,TyOk (zFT mods ps) r t) :
 TyOk (zFT mods ps) (r+1) (yO (idR (mods+k))):=by
 have hk':k<(zFT mods ps).length:=by simpa using hk
 have hg:=nT mods ps hk;have hp:=h6 _ (jA0 hk);have:=TyOk.dfn (hs:=zFT mods ps) r k hk' (fun j hj=>by
  rw[hg,nT mods ps (show j<ps.length by omega)];intro e;have:=sZ (by omega) (by omega) (by omega) (by omega) e;omega) (by
  rw[hg];rcases hkd with h|h
  .exact .inl h
  .exact .inr ⟨h,by simp only[lR];exact hp.t1⟩) (by rw[hg];simp only[lR];exact hp.t6) (fun s hs=>by
  rw[hg]at hs;exact ht _ (zAH hs))
 rw[hg]at this;exact this
section
variable(l:wB)(mods:Int)(hm:1<=mods)(hm2:mods<=2)(hl:∀x∈l,w64 x=x)
abbrev hsV:wP:=zFT mods (qI l mods)
theorem pv0:∃h:0<(qI l mods).length,(qI l mods)[0]=dB l mods:=⟨by simp[qI],by simp[qI]⟩
theorem pv1:∃h:1<(qI l mods).length,(qI l mods)[1]=eK l mods:=⟨by simp[qI],by simp[qI]⟩
theorem pv2(hh:pO l=true):∃h:2<(qI l mods).length,(qI l mods)[2]=lN l mods:=⟨by simp[qI,hh],by simp[qI,hh]⟩
theorem pv3(hh:pO l=true):∃h:3<(qI l mods).length,(qI l mods)[3]=zD2 mods:=⟨by simp[qI,hh],by simp[qI,hh]⟩
include hm hm2 hl
theorem zBJ:TyOk (hsV l mods) 2 (jE mods):=by
 obtain⟨h,e⟩:=pv0 l mods;have h8:=(b6 l mods).2;have:=zHB hm hm2 h8 (eY l mods hm hm2 hl) h (by rw[e];exact .inl rfl) (r:=1) (fun t ht=>by
  rw[e]at ht;obtain⟨i,rfl⟩:=zDF ht;obtain⟨a,b⟩:=jT (i:=3+i) hl (most:=3) (by omega);rcases zSP a b (jE mods) (jE mods)with e|e|e<;>rw[e]
  .exact .int _
  .exact .bool _
  .exact .list _ _ (.int _))
 simpa[jE]using this
theorem zTh{r:Nat}(hr:2<=r){x:Int}(h0:0<=x)(h:x<4):TyOk (hsV l mods) r (i4 x (jE mods) (jE mods)):=by
 refine TyOk.mono ?_ hr;rcases zSQ h0 h (jE mods) (jE mods)with e|e|e|e<;>rw[e]
 .exact .int _
 .exact .bool _
 .exact .list _ _ (.int _)
 .exact zBJ l mods hm hm2 hl
theorem zKH:TyOk (hsV l mods) 3 (dQ mods):=by
 obtain⟨h,e⟩:=pv1 l mods;have h8:=(b6 l mods).2;have:=zHB hm hm2 h8 (eY l mods hm hm2 hl) h (by rw[e];exact .inr rfl) (r:=2) (fun t ht=>by
  rw[e]at ht;rcases jA3.1 ht with rfl|ht
  .exact .int _
  .obtain⟨i,rfl⟩:=zDF ht;obtain⟨a,b⟩:=jT (i:=7+i) hl (most:=4) (by omega);exact zTh l mods hm hm2 hl (jA _) a b)
 simpa[dQ]using this
theorem rW(hh:pO l=true):TyOk (hsV l mods) 3 (yO (idR (mods+2))):=by
 obtain⟨h,e⟩:=pv2 l mods hh;have h8:=(b6 l mods).2;have:=zHB hm hm2 h8 (eY l mods hm hm2 hl) h (by rw[e];exact .inl rfl) (r:=2) (fun t ht=>by
  rw[e]at ht;rcases jA3.1 ht with rfl|ht
  .exact .int _
  .obtain⟨i,rfl⟩:=zDF ht;obtain⟨a,b⟩:=jT (i:=10+i) hl (most:=4) (by omega);exact zTh l mods hm hm2 hl (jA _) a b)
 simpa using this
theorem zTj:TyOk (hsV l mods) 3 (mP l mods):=by
 unfold mP;split
 .rename_i hh;exact rW l mods hm hm2 hl hh
 .exact(zBJ l mods hm hm2 hl).mono (by omega)
theorem zTi(hh:pO l=true):TyOk (hsV l mods) 4 (yO (idR (mods+3))):=by
 obtain⟨h,e⟩:=pv3 l mods hh;have h8:=(b6 l mods).2;have:=zHB hm hm2 h8 (eY l mods hm hm2 hl) h (by rw[e];exact .inl rfl) (r:=3) (fun t ht=>by
  rw[e]at ht;simp only[zD2,jA3,jAw,or_false]at ht;rcases ht with rfl|rfl|rfl
  .exact rW l mods hm hm2 hl hh
  .exact .list _ _ (.int _)
  .exact .int _)
 simpa using this
omit hm hm2 hl in
theorem zAJ{a b:Typ}(ha:TyOk (hsV l mods) 4 a)(hb:TyOk (hsV l mods) 4 b){x:Int}(hx:w64 x=x):TyOk (hsV l mods) 4 (i4 x a b):=by
 rcases zMC x a b hx with e|e|e|e|e<;>rw[e]
 .exact .int _
 .exact .bool _
 .exact .list _ _ (.int _)
 .exact ha
 .exact hb
theorem zC6:∀p∈qI l mods,(∀t∈p.types,TyOk (hsV l mods) 4 t)/\TyOk (hsV l mods) 4 p.out:=by
 have t1:=(zBJ l mods hm hm2 hl).mono (show 2<=4 by omega);have t2:=(zKH l mods hm hm2 hl).mono (show 3<=4 by omega);have t3:=(zTj l mods hm hm2 hl).mono (show 3<=4 by omega);have tR:TyOk (hsV l mods) 4 (zMI l mods):=zAJ l mods t1 t1 (zDT hl (by omega) (by omega));have tL:∀(a m n:Int),0<m->m<=4->∀t∈tyL l a m n (jE mods),TyOk (hsV l mods) 4 t:=fun a m n h0 h1 t ht=>by obtain⟨i,rfl⟩:=zDF ht;exact zAJ l mods t1 t1 (zDT hl h0 (by omega))
 intro p hp;simp only[qI,plB,plC,plD,plE,jAc,jA3]at hp;rcases hp with ((rfl|rfl|h)|h)|rfl|h|rfl|h
 .exact⟨tL _ _ _ (by omega) (by omega),.int _⟩
 .refine⟨fun t ht=>?_,.int _⟩;rcases jA3.1 ht with rfl|ht
  .exact .int _
  .exact tL _ _ _ (by omega) (by omega) t ht
 .simp at h
 .split at h
  .rename_i hh;simp at h;rcases h with rfl|rfl
   .refine⟨fun t ht=>?_,.int _⟩;rcases jA3.1 ht with rfl|ht
    .exact .int _
    .exact tL _ _ _ (by omega) (by omega) t ht
   .refine⟨fun t ht=>?_,.int _⟩;simp only[zD2,jA3,jAw,or_false]at ht;rcases ht with rfl|rfl|rfl
    .exact(rW l mods hm hm2 hl hh).mono (by omega)
    .exact .list _ _ (.int _)
    .exact .int _
  .simp at h
 .refine⟨fun t ht=>?_,tR⟩;simp only[pF,sM,jA3]at ht;rcases ht with rfl|ht
  .exact zAJ l mods t1 t2 (zDT hl (by omega) (by omega))
  .split at ht
   .simp at ht;rw[ht];exact zAJ l mods t1 t2 (zDT hl (by omega) (by omega))
   .simp at ht
 .split at h
  .rename_i hh;subst h;refine⟨fun t ht=>?_,zTi l mods hm hm2 hl hh⟩;simp only[zB5,jA3,jAw,or_false]at ht;rcases ht with rfl|rfl
   .exact(rW l mods hm hm2 hl hh).mono (by omega)
   .exact t2
  .subst h;refine⟨fun t ht=>?_,zAJ l mods t1 t2 (zDT hl (by omega) (by omega))⟩;simp only[pG,jA3,jAw,or_false]at ht;rw[ht];exact t2
 .refine⟨fun t ht=>?_,zAJ l mods t1 tR (zDT hl (by omega) (by omega))⟩;simp only[pT,jAg]at ht;obtain⟨q,hq,rfl⟩:=ht;simp only[inV,jA3]at hq;rcases hq with rfl|hq
  .unfold zZa;split
   .exact .bool _
   .split
    .exact .list _ _ (.int _)
    .split
     .exact t1
     .exact .int _
  .unfold zRU at hq;split at hq
   .simp at hq;rw[hq];exact .int _
   .split at hq
    .simp at hq;rw[hq];exact .bool _
    .simp at hq
 .split at h
  .simp at h;subst h;refine⟨fun t ht=>?_,zAJ l mods t1 t3 (zDT hl (by omega) (by omega))⟩;simp only[pC,jA3,jAw,or_false]at ht;rw[ht];exact t3
  .simp at h
theorem cxV(m:Mk)(hd:m.defs.map Dfn.hd=hsV l mods)(hmods:0<m.mods.length)(hml:m.l=l)(ho:m.own<=1000):Cx (hsV l mods) 4 m:=by
 obtain⟨n5,n8⟩:=b6 l mods;refine⟨hd,by simp;omega,by simp;omega,hmods,hml▸hl,ho,fun k h hk=>?_,fun k h=>?_⟩
 .have h':k<(qI l mods).length:=by simpa using h
  have hg:=nT mods (qI l mods) h';rw[hg]at hk ⊢;have hpt:=zC6 l mods hm hm2 hl _ (jA0 h');have hk4:k<2\/pO l=true/\k<4:=by
   by_cases h2:k<2
   .exact .inl h2
   cases hh:pO l with
   |true =>
    refine .inr ⟨rfl,?_⟩;by_cases h4:k<4
    .exact h4
    .exfalso;have hmem:(qI l mods)[k]∈plB l mods:=by
      have e:qI l mods=[dB l mods,eK l mods,lN l mods,zD2 mods]++plB l mods:=by simp[qI,hh]
      simp only[e];rw[jC1 (by simp;omega)];exact jA0 _
     simp only[plB,plC,plD,plE,jA3]at hmem;rcases hmem with e|e|e|e
     .rw[e]at hk;simp[pF]at hk
     .rw[e]at hk;split at hk<;>simp[zB5,pG]at hk
     .rw[e]at hk;simp[pT]at hk
     .split at e
      .simp at e;rw[e]at hk;simp[pC]at hk
      .simp at e
   |false =>
    exfalso;have hmem:(qI l mods)[k]∈plB l mods:=by
     have e:qI l mods=[dB l mods,eK l mods]++plB l mods:=by simp[qI,hh]
     simp only[e];rw[jC1 (by simp;omega)];exact jA0 _
    simp only[plB,plC,plD,plE,jA3]at hmem;rcases hmem with e|e|e|e
    .rw[e]at hk;simp[pF]at hk
    .rw[e]at hk;split at hk<;>simp[zB5,pG]at hk
    .rw[e]at hk;simp[pT]at hk
    .split at e
     .simp at e;rw[e]at hk;simp[pC]at hk
     .simp at e
  have hc:k=0\/k=1\/(pO l=true/\k=2)\/(pO l=true/\k=3):=by
   rcases hk4 with h|⟨h,h'⟩
   .omega
   .have:k=0\/k=1\/k=2\/k=3:=by omega
    rcases this with e|e|e|e
    .exact .inl e
    .exact .inr (.inl e)
    .exact .inr (.inr (.inl ⟨h,e⟩))
    .exact .inr (.inr (.inr ⟨h,e⟩))
  rcases hc with rfl|rfl|⟨hh,rfl⟩|⟨hh,rfl⟩
  .have:=(zBJ l mods hm hm2 hl).mono (show 2<=4 by omega)
   simpa[jE]using this
  .have:=(zKH l mods hm hm2 hl).mono (show 3<=4 by omega)
   simpa[dQ]using this
  .exact(rW l mods hm hm2 hl hh).mono (by omega)
  .exact zTi l mods hm hm2 hl hh
 .have h':k<(qI l mods).length:=by simpa using h
  have hg:=nT mods (qI l mods) h';have hpt:=zC6 l mods hm hm2 hl _ (jA0 h');rw[hg];exact⟨by simp only[lR];exact(eY l mods hm hm2 hl _ (jA0 h')).t6,fun s hs=>hpt.1 _ (zAH hs)⟩
end
end Go.Proofs.YtdnelmeboihpkaaGreatDoor
