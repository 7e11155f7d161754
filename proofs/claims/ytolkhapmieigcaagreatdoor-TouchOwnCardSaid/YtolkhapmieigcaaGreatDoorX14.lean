/- The maker's expressions have the types that they are to have. -/
import Derived.Test.YtolkhapmieigcaaGreatDoorX13
set_option linter.unusedVariables false
set_option maxHeartbeats 8000000
set_option maxRecDepth 100000
set_option linter.unusedSimpArgs false
open Go.Proofs.Tryz
namespace Go.Proofs.YtolkhapmieigcaaGreatDoor
open Go.Abs
variable{m:Mk}
theorem zTR(hl:∀x∈m.l,w64 x=x):0<=atV m.l m.at_ 65536/\atV m.l m.at_ 65536<65536:=yZ hl (by omega)
variable{env:wJ}
theorem zOf{t:Typ}{b:Bnd}(h:b∈env.filter fun b=>yT b.typ t):b∈env/\b.typ=t:=by rw[List.mem_filter]at h;exact⟨h.1,(gJ _ _).1 h.2⟩
variable{hs:wQ}{c depth:Int}
theorem zIL{R:Nat}{d:Int}{len r:Nat}(hc:0<=c)(hl:Lim m (6*c+2))(hd:d<=0)(hdd : -1000<=d)
 (hcase:m.left<=0/\0<depth/\d=0\/m.left<=0/\depth<=0/\d=depth\/0<m.left/\depth<=0/\d=depth)(t:Typ)(hr:TyOk hs r t)(hk:eN hs R c (d-1) (fun r'=>r'<r) len)
 (hx:Cx hs R m)(he:EnvOk hs R m.temp env)(h1:0<env.length)(h2:env.length<=len)(h3:env.length<=1000)(hd1 : -1000<=depth)(hd2:depth<=1000) :
 cP hs m.own bG m [.ptr 0 0,.agg (zF t),.sl env.length (z6 env),int depth] env t (6*c+2):=by
 obtain⟨hX0,hX1⟩:=zTR hx.nums;have ha:=zNJ m;obtain⟨l1,l2,l3,l4,l5,l6,l7,l8⟩:=hl;have hl0:Lim {m with at_:=m.at_+1} (6*c+1):=Lim.adv (c:=1) ⟨l1,by omega,l3,by omega,by omega,l6,l7,by omega⟩ ha;have hnum:=zSX m 65536 (by omega) l1 (by omega);have hfit:=zF2 env t (by omega);have hFl:(env.filter fun b=>yT b.typ t).length<=1000:=jAz (jBp _ _) h3;by_cases hF0:(env.filter fun b=>yT b.typ t)=[]
 .obtain⟨e,m',g1,g2,g3,g4,g5⟩:=zSI hc hl0 ((atV m.l m.at_ 65536).tdiv 3) (by rw[tdN hX0];omega) (by rw[tdN hX0];omega) t hr (fun r' h=>h) hk (hx.adv ha) (he.mono ha.temp1) h1 h2 hdd (by omega);exact⟨e,m',zZh hd1 hd2 hX0 hX1 hFl h1 h3 hnum hfit hd hcase hF0 g1,(ha.trans g2).mono (by omega),g3,g4,g5⟩
 .obtain⟨b,hb,hret⟩:=zP3 hd1 hd2 hX0 hX1 hFl h1 h3 hnum hfit hd hcase hF0 l3 (by simp only;omega) (by simp only;omega) l6;obtain⟨hbe,hbt⟩:=zOf hb;refine⟨_,_,hret,(ha.trans (aD _)).mono (by omega),.var _ _ _ _ _ (by rw[zHN he.nd hbe,hbt]),?_,zAi⟩;simp only[tmps,jJ,jBk];exact Seg.one _
theorem zUN{R:Nat}{len:Nat}(hc:8<=c)(hl:Lim m (8*c))(hleft:0<m.left)(hd0:0<depth)(hR:1<=R)(t:Typ)(ht:TyOk hs R t)
 (hk:eN hs R c (depth-1) (fun r=>r<=R) len)(hk2:eN hs R c (depth-2) (fun r=>r<=R) len)
 (hx:Cx hs R m)(he:EnvOk hs R m.temp env)(h1:0<env.length)(h2:env.length+2<=len)(h3:env.length+2<=1000)(hd2:depth<=1000) :
 cP hs m.own bG m [.ptr 0 0,.agg (zF t),.sl env.length (z6 env),int depth] env t (8*c):=by
 obtain⟨hX0,hX1⟩:=zTR hx.nums;have ha:=zNJ m;obtain⟨m0,hm0⟩:∃m0:Mk,m0={m with at_:=m.at_+1}:=⟨_,rfl⟩;rw[<-hm0]at ha;have hl0:Lim m0 (7*c+7):=Lim.adv (c:=1) (hl.mono (by omega)) ha;have hlm:=hl0;obtain⟨l1,l2,l3,l4,l5,l6,l7,l8⟩:=hlm;have hnum:=zSX m 65536 (by omega) hl.at1 (by have:=hl.at2;omega);rw[<-hm0]at hnum;have hfit:=zF2 env t (by omega);have hFl:(env.filter fun b=>yT b.typ t).length<=1000:=jAz (jBp _ _) (by omega);have hleft0:0<m0.left:=by rw[hm0];exact hleft
 have hx0:=hx.adv ha;have he0:=he.mono ha.temp1;have eown:m0.own=m.own:=ha.own;generalize hF:(env.filter fun b=>yT b.typ t)=F at hfit hFl;generalize atV m.l m.at_ 65536=X at hX0 hX1 hnum;have fin:∀{e:Exp} {m':Mk} {c':Int},my bG [.ptr 0 0,.agg (zF t),.sl env.length (z6 env),int depth] (mkS m) (.agg (zG e)) (mkS m')->Adv m0 m' c'->c'<=7*c+7->WT hs m0.own env e t->Seg m0.temp m'.temp (tmps e)->e.num0 ->
  cP hs m.own bG m [.ptr 0 0,.agg (zF t),.sl env.length (z6 env),int depth] env t (8*c):=fun {e m' c'} q1 q2 q3 q4 q5 q6 =>
  ⟨e,m',q1,(ha.trans q2).mono (by omega),eown▸q4,q5.mono ha.temp1 (by omega),q6⟩
 by_cases hv:F≠[]/\X.tmod 3=0
 .obtain⟨b,hb,hret⟩:=zP2 (by omega) hd2 hX0 hX1 hFl h1 (by omega) hnum hfit hleft0 hd0 hv.1 hv.2 l3 (by omega) (by omega) l6;rw[<-hF]at hb;obtain⟨hbe,hbt⟩:=zOf hb;refine fin hret (aD _) (by omega) (.var _ _ _ _ _ (by rw[zHN he.nd hbe,hbt])) ?_ zAi;simp only[tmps,jJ,jBk];exact Seg.one _
 have hcnd:F=[]\/X.tmod 3≠0:=by
  by_cases h:F=[]
  .exact .inl h
  .exact .inr fun h'=>hv ⟨h,h'⟩
 have d36:X.tdiv 36=X / 36:=tdN hX0;have d3:X.tdiv 3=X / 3:=tdN hX0;have d12:(X.tdiv 3).tmod 12=(X.tdiv 3) % 12:=tmN (by omega);obtain⟨y,hy⟩:∃y:Nat,(y:Int)=X.tdiv 36:=⟨(X / 36).toNat,by omega⟩;have hop:=qGT (by omega) hl0 (X.tdiv 36) (by omega) (by omega) hk hR hx0 he0 h1 (by omega) (by omega) (by omega) hd2 t ht;have viaOp:∀{f:FuncId},cP hs m0.own f m0 [.ptr 0 0,.agg (zF t),.sl env.length (z6 env),int (X.tdiv 36),int depth] env t (7*c+7) ->
  (∀{e:Exp} {m':Mk},my f [.ptr 0 0,.agg (zF t),.sl env.length (z6 env),int (X.tdiv 36),int depth] (mkS m0) (.agg (zG e)) (mkS m')->my bG [.ptr 0 0,.agg (zF t),.sl env.length (z6 env),int depth] (mkS m) (.agg (zG e)) (mkS m')) ->
  cP hs m.own bG m [.ptr 0 0,.agg (zF t),.sl env.length (z6 env),int depth] env t (8*c):=fun q w=>by
  obtain⟨e,m',g1,g2,g3,g4,g5⟩:=q;exact fin (w g1) g2 (by omega) g3 g4 g5
 have hif:(X.tdiv 3).tmod 12=0\/(X.tdiv 3).tmod 12=1->cP hs m.own bG m [.ptr 0 0,.agg (zF t),.sl env.length (z6 env),int depth] env t (8*c):=fun hk01=>by
  obtain⟨a,m1,a1,a2,a3,a4,a5⟩:=hk m0 0 j9 env hx0 (hl0.mono (by omega)) (.bool _) (by omega) he0 h1 (by omega);have hl1:Lim m1 (6*c):=Lim.adv (c:=c) (hl0.mono (by omega)) a2;obtain⟨b,m2,b1,b2,b3,b4,b5⟩:=hk m1 R t env (hx0.adv a2) (hl1.mono (by omega)) ht (jA _) (he0.mono a2.temp1) h1 (by omega);have hl2:Lim m2 (5*c):=Lim.adv (c:=c) (hl1.mono (by omega)) b2;obtain⟨e,m3,c1,c2,c3,c4,c5⟩:=hk m2 R t env ((hx0.adv a2).adv b2) (hl2.mono (by omega)) ht (jA _) ((he0.mono a2.temp1).mono b2.temp1) h1 (by omega);have hl3:Lim m3 1:=Lim.adv (c:=c) (hl2.mono (by omega)) c2;have hret:my bG [.ptr 0 0,.agg (zF t),.sl env.length (z6 env),int depth] (mkS m) (.agg (zG (.mk ⟨0,0,m3.temp⟩ 5 0 Id.zero Typ.zero [a,b,e] []))) (mkS {m3 with temp:=m3.temp+1,left:=m3.left-1}):=by exact qF6 hk01 (by omega) hd2 hX0 hX1 hFl h1 (by omega) hnum hfit hleft0 hd0 hcnd rfl a1 b1 c1 hl3
  rw[a2.own]at b3;rw[b2.own,a2.own]at c3;refine fin hret (((a2.trans b2).trans c2).trans (aD _)) (by omega) (.ite _ _ _ _ _ _ a3 b3 c3) ?_ (i4 (by simp[a5,b5,c5]));have t1:=a2.temp1;have t2:=b2.temp1;have t3:=c2.temp1;simp only[tmps,jJ,jAt];exact(a4.append (b4.append c4 t2 t3) t1 (by omega)).append (Seg.one _) (by omega) (by omega)
 have hlet:(X.tdiv 3).tmod 12=2->cP hs m.own bG m [.ptr 0 0,.agg (zF t),.sl env.length (z6 env),int depth] env t (8*c):=fun hk2'=>by
  obtain⟨j,hj,e1⟩:∃j:Nat,j<env.length/\(X.tdiv 36).tmod (env.length:Int)=j:=by
   have q0:0<=X.tdiv 36:=by omega
   have q1:=jDf (X.tdiv 36) (b:=(env.length:Int)) (by omega);have q2:=jD8 (X.tdiv 36) (b:=(env.length:Int)) (by omega);exact⟨((X.tdiv 36) % env.length).toNat,by omega,by rw[tmN q0];omega⟩
  have htu:=he.typs env[j] (jA0 hj);obtain⟨a,m1,a1,a2,a3,a4,a5⟩:=hk m0 R env[j].typ env hx0 (hl0.mono (by omega)) htu (jA _) he0 h1 (by omega);have hl1:Lim m1 (6*c):=Lim.adv (c:=c) (hl0.mono (by omega)) a2;have n2:=aD m1;obtain⟨m2,hm2⟩:∃m2:Mk,m2={m1 with temp:=m1.temp+1,left:=m1.left-1}:=⟨_,rfl⟩;have tm2:m2.temp=m1.temp+1:=by rw[hm2]
  rw[<-hm2]at n2;have hl2:Lim m2 (5*c+7):=Lim.adv (c:=1) (hl1.mono (by omega)) n2;obtain⟨s,hs'⟩:=zEB m2 hl2.name1 (by have:=hl2.name2;omega);have n3:=zB4 m2;obtain⟨m3,hm3⟩:∃m3:Mk,m3={m2 with name:=m2.name+1}:=⟨_,rfl⟩;rw[<-hm3]at n3 hs';have hl3:Lim m3 (5*c+6):=Lim.adv (c:=1) (hl2.mono (by omega)) n3;have t1:=a2.temp1;have t2:=n2.temp1;have t3:=n3.temp1;have t3':m3.temp=m2.temp:=by rw[hm3]
  have he3:EnvOk hs R m3.temp (env++[⟨⟨0,0,m1.temp⟩,0,env[j].typ⟩]):=(((he0.mono t1).mono t2).mono t3).snoc _ _ _ htu (fun b hb e=>by have hb':=he0.new b hb (by rw[e]);rw[e]at hb';simp only at hb';omega) (by omega)
  obtain⟨b,m4,b1,b2,b3,b4,b5⟩:=hk m3 R t _ (((hx0.adv a2).adv n2).adv n3) (hl3.mono (by omega)) ht (jA _) he3 (by simp) (by simp;omega);have hret:=zZg (by omega) hd2 hX0 hX1 hFl h1 (by omega) hnum hfit hleft0 hd0 hcnd hk2' hj e1 a1 (hl1.mono (by omega)) hm2 hs' (by simpa using b1);rw[n3.own,n2.own,a2.own]at b3;refine fin hret (((a2.trans n2).trans n3).trans b2) (by omega) (.lets _ _ _ _ _ _ _ (by simp) a3 b3) ?_ (i4 (by simp[a5,b5]));have t4:=b2.temp1;simp only[tmps,jJ,jAt];have s1:Seg m1.temp (m1.temp+1) [m1.temp]:=Seg.one _;have s2:=s1.append (b:=m1.temp+1) (tm2▸t3'▸b4) (by omega) (by omega);have s3:=a4.append s2 t1 (by omega);refine s3.perm ?_;rw[jAq];exact jDl _ jDm
 have hfold:(X.tdiv 3).tmod 12=8->cP hs m.own bG m [.ptr 0 0,.agg (zF t),.sl env.length (z6 env),int depth] env t (8*c):=fun hk8=>by
  obtain⟨a,m1,a1,a2,a3,a4,a5⟩:=hk m0 1 (jX jT) env hx0 (hl0.mono (by omega)) (.list _ _ (.int _)) hR he0 h1 (by omega);have hl1:Lim m1 (6*c):=Lim.adv (c:=c) (hl0.mono (by omega)) a2;obtain⟨b,m2,b1,b2,b3,b4,b5⟩:=hk m1 R t env (hx0.adv a2) (hl1.mono (by omega)) ht (jA _) (he0.mono a2.temp1) h1 (by omega);have hl2:Lim m2 (5*c):=Lim.adv (c:=c) (hl1.mono (by omega)) b2;have n3:=aD m2;obtain⟨m3,hm3⟩:∃m3:Mk,m3={m2 with temp:=m2.temp+1,left:=m2.left-1}:=⟨_,rfl⟩;have tm3:m3.temp=m2.temp+1:=by rw[hm3]
  rw[<-hm3]at n3;have hl3:Lim m3 (4*c+7):=Lim.adv (c:=1) (hl2.mono (by omega)) n3;obtain⟨s,hs'⟩:=zEB m3 hl3.name1 (by have:=hl3.name2;omega);have n4:=zB4 m3;obtain⟨m4,hm4⟩:∃m4:Mk,m4={m3 with name:=m3.name+1}:=⟨_,rfl⟩;have tm4:m4.temp=m3.temp:=by rw[hm4]
  rw[<-hm4]at n4 hs';have hl4:Lim m4 (4*c+6):=Lim.adv (c:=1) (hl3.mono (by omega)) n4;obtain⟨s',hs''⟩:=zEB m4 hl4.name1 (by have:=hl4.name2;omega);have n5:=zB4 m4;obtain⟨m5,hm5⟩:∃m5:Mk,m5={m4 with name:=m4.name+1}:=⟨_,rfl⟩;have tm5:m5.temp=m4.temp:=by rw[hm5]
  rw[<-hm5]at n5 hs'';have hl5:Lim m5 (4*c+5):=Lim.adv (c:=1) (hl4.mono (by omega)) n5;have t1:=a2.temp1;have t2:=b2.temp1;have hnew:∀b∈env,b.id=⟨0,0,m2.temp⟩->∀n,b.n≠n:=fun b hb e=>by have hb':=he0.new b hb (by rw[e]);rw[e]at hb';simp only at hb';omega
  have he5:EnvOk hs R m5.temp (env++[⟨⟨0,0,m2.temp⟩,0,jT⟩]++[⟨⟨0,0,m2.temp⟩,1,t⟩]):=((he0.mono (show m0.temp<=m5.temp by omega)).snoc _ _ _ (.int _) (fun b hb e=>hnew b hb e _) (by omega)).snoc _ _ _ ht (fun b hb e=>by
   rcases jA6.1 hb with hb|hb
   .exact hnew b hb e _
   .rw[jAi.1 hb];simp) (by omega)
  obtain⟨k,m6,c1,c2,c3,c4,c5⟩:=hk m5 R t _ (((((hx0.adv a2).adv b2).adv n3).adv n4).adv n5) (hl5.mono (by omega)) ht (jA _) he5 (by simp) (by simp;omega);have hret:=zUM (by omega) hd2 hX0 hX1 hFl h1 (by omega) hnum hfit hleft0 hd0 hcnd hk8 a1 b1 (hl2.mono (by omega)) hm3 hs' hs'' (by simpa using c1);rw[a2.own]at b3;rw[n5.own,n4.own,n3.own,b2.own,a2.own]at c3;refine fin hret (((((a2.trans b2).trans n3).trans n4).trans n5).trans c2) (by omega) (.fold _ _ _ _ _ _ _ _ (by simp) a3 b3 c3) ?_ (i4 (by simp[a5,b5,c5]));have t6:=c2.temp1;simp only[tmps,jJ,jAt];have s1:Seg m2.temp (m2.temp+1) [m2.temp]:=Seg.one _;have c4':Seg (m2.temp+1) m6.temp (tmps k):=c4.mono (by omega) (by omega);have s2:=s1.append c4' (by omega) (by omega);have s3:=(a4.append b4 t1 t2).append s2 (by omega) (by omega);refine s3.perm ?_;simp only[jAq];exact jDl _ (jDl _ jDm)
 have hk12:(X.tdiv 3).tmod 12=0\/(X.tdiv 3).tmod 12=1\/(X.tdiv 3).tmod 12=2\/(X.tdiv 3).tmod 12=3\/(X.tdiv 3).tmod 12=4\/(X.tdiv 3).tmod 12=5\/(X.tdiv 3).tmod 12=6\/(X.tdiv 3).tmod 12=7\/(X.tdiv 3).tmod 12=8\/9<=(X.tdiv 3).tmod 12:=by omega
 have hop':=hop;rw[<-hy]at hop';rcases hk12 with h|h|h|h|h|h|h|h|h|h
 .exact hif (.inl h)
 .exact hif (.inr h)
 .exact hlet h
 .have:=zKK (by omega) hl0 y (by omega) hk hk2 hx0 he0 h1 (by omega) (by omega) (by omega) hd2 t ht hop';rw[hy]at this;exact viaOp this fun g=>zBL (.inl ⟨rfl,rfl⟩) (by omega) hd2 hX0 hX1 hFl h1 (by omega) hnum hfit hleft0 hd0 hcnd h g
 .have:=zKK (by omega) hl0 y (by omega) hk hk2 hx0 he0 h1 (by omega) (by omega) (by omega) hd2 t ht hop';rw[hy]at this;exact viaOp this fun g=>zBL (.inr (.inl ⟨rfl,rfl⟩)) (by omega) hd2 hX0 hX1 hFl h1 (by omega) hnum hfit hleft0 hd0 hcnd h g
 .have:=zSp (by omega) hl0 y (by omega) hk hx0 he0 h1 (by omega) (by omega) (by omega) hd2 t ht hop';rw[hy]at this;exact viaOp this fun g=>zBL (.inr (.inr (.inl ⟨rfl,rfl⟩))) (by omega) hd2 hX0 hX1 hFl h1 (by omega) hnum hfit hleft0 hd0 hcnd h g
 .have:=zNT (by omega) hl0 y hk hx0 he0 h1 (by omega) (by omega) hd2 t hop';rw[hy]at this;exact viaOp this fun g=>zBL (.inr (.inr (.inr (.inl ⟨rfl,rfl⟩)))) (by omega) hd2 hX0 hX1 hFl h1 (by omega) hnum hfit hleft0 hd0 hcnd h g
 .have:=zNT (by omega) hl0 y hk hx0 he0 h1 (by omega) (by omega) hd2 t hop';rw[hy]at this;exact viaOp this fun g=>zBL (.inr (.inr (.inr (.inr ⟨rfl,rfl⟩)))) (by omega) hd2 hX0 hX1 hFl h1 (by omega) hnum hfit hleft0 hd0 hcnd h g
 .exact hfold h
 .exact viaOp hop fun g=>qF7 (by omega) hd2 hX0 hX1 hFl h1 (by omega) hnum hfit hleft0 hd0 hcnd h g
theorem eN.mono{R:Nat}{c':Int}{Q Q':Nat->Prop}{len len':Nat}(h:eN hs R c depth Q len)(hc:c<=c')(hQ:∀r,Q' r->Q r)(hl:len'<=len):eN hs R c' depth Q' len' :=
 fun m r t env hx hm hr hq he h1 h2=>(h m r t env hx (hm.mono hc) hr (hQ r hq) he h1 (by omega)).mono hc
theorem p8(k:Nat):(8:Int) ^ (k+1)=8*8 ^ k:=by rw[Int.pow_succ];omega
theorem zDo:∀k:Nat,1<=(8:Int) ^ k
 | 0=>by simp
 |k+1=>by rw[p8];have:=zDo k;omega
theorem zBM(hs:wQ)(R:Nat):∀(r:Nat) (depth:Int),depth<=0->-900<=depth-r->eN hs R (8 ^ (r+1)) depth (fun r'=>r'<=r) 1000
 | 0,depth,h0,h1=>fun m r t env hx hl hr hq he h2 h3=>by
  rw[p8]at hl ⊢;have:=zDo 0;refine(zIL (R:=R) (r:=r) (c:=0) (d:=depth) (len:=1000) (by omega) (hl.mono (by omega)) h0 (by omega) ?_ t hr (fun m' r' t' env' _ _ _ hq'=>?_) hx he h2 h3 h3 (by omega) (by omega)).mono (by omega)
  .rcases Int.lt_or_le 0 m.left with h|h
   .exact .inr (.inr ⟨h,h0,rfl⟩)
   .exact .inr (.inl ⟨h,h0,rfl⟩)
  .have:r'<r:=hq';omega
 |s+1,depth,h0,h1=>fun m r t env hx hl hr hq he h2 h3=>by
  have hp:=p8 (s+1);rw[hp]at hl ⊢;have:=zDo (s+1);have hk:=zBM hs R s (depth-1) (by omega) (by omega);refine(zIL (R:=R) (r:=r) (c:=8 ^ (s+1)) (d:=depth) (len:=1000) (by omega) (hl.mono (by omega)) h0 (by omega) ?_ t hr (hk.mono (by omega) (fun r' (hr':r'<r)=>by omega) (jA _)) hx he h2 h3 h3 (by omega) (by omega)).mono (by omega);rcases Int.lt_or_le 0 m.left with h|h
  .exact .inr (.inr ⟨h,h0,rfl⟩)
  .exact .inr (.inl ⟨h,h0,rfl⟩)
theorem zJp{a b:Nat}(h:a<=b):(8:Int) ^ a<=8 ^ b:=by
 induction h with
 |refl=>exact jCg _
 |step h ih=>rw[p8];have:=zDo a;omega
theorem zFy(hs:wQ)(R:Nat)(hR:1<=R)(hR2:R<=100):∀n:Nat,n<=100 ->
 eN hs R (8 ^ (n+R+1)) n (fun r=>r<=R) (1000-2*n)/\eN hs R (8 ^ (n+R+1)) ((n:Int)-1) (fun r=>r<=R) (1000-2*n)
 | 0,_=>by
  constructor
  .exact(zBM hs R R 0 (by omega) (by omega)).mono (zJp (by omega)) (fun _ h=>h) (by omega)
  .exact(zBM hs R R _ (by omega) (by omega)).mono (zJp (by omega)) (fun _ h=>h) (by omega)
 |n+1,hn=>by
  obtain⟨i1,i2⟩:=zFy hs R hR hR2 n (by omega);have hp:(8:Int) ^ (n+1+R+1)=8*8 ^ (n+R+1):=by rw[p8,show n+1+R=n+R+1 by omega]
  have hge:=zDo (n+R);have hp':=p8 (n+R);have e1:(((n+1:Nat)):Int)-1=n:=by omega
  rw[hp];constructor
  .intro m r t env hx hl hr hq he h1 h2;have ht:=hr.mono hq;rcases Int.lt_or_le 0 m.left with h|h
   .refine zUN (R:=R) (len:=1000-2*n) (by omega) hl h (by omega) hR t ht (e1▸i1) ?_ hx he h1 (by omega) (by omega) (by omega);rw[show (((n+1:Nat)):Int)-2=(n:Int)-1 by omega];exact i2
   .obtain⟨s,hs'⟩:∃s,R=s+1:=⟨R-1,by omega⟩;have hk:=zBM hs R s (0-1) (by omega) (by omega);have q1:(8:Int) ^ (s+1)<=8 ^ (n+R):=zJp (by omega);have q2:=zDo (s+1);exact(zIL (R:=R) (r:=R) (c:=8 ^ (s+1)) (d:=0) (len:=1000) (by omega) (hl.mono (by omega)) (by omega) (by omega) (.inl ⟨h,by omega,rfl⟩) t ht (hk.mono (by omega) (fun r' (hr':r'<R)=>by omega) (jA _)) hx he h1 (by omega) (by omega) (by omega) (by omega)).mono (by omega)
  .rw[e1];exact i1.mono (by omega) (fun _ h=>h) (by omega)
def zXb:Nat->Option wE:=fun|9=>k_ [2,2001,0,0,0,0,0,0,1001,0,0,2,0]|_=>none
variable{x:Operand}
@[simp]theorem qH4{d:wD}{n:Nat}{g:Bool}{env:Env}:dD 2001 (.ld d x n g) env=eX 1 (ev env x):=propext (zAo (by omega) (by omega))
@[simp]theorem qAi{d:wD}{l:List Operand}{env:Env}:dD 1001 (.call d x l) env=True:=rfl
@[simp]theorem qBO{U:St}:oW 2001 U = U:=rfl
theorem bL(e:Exp):tmps e=jJ e.kids++[e.id.c]:=by cases e;simp only[tmps,Exp.kids,Exp.id]
variable{l:wH}{i:Nat}
theorem y6(h:i<l.length):jJ (l.take (i+1))=jJ (l.take i)++tmps l[i]:=by rw[jA7 h,oY]
theorem xI:∀{l:wH} {e:Exp},e∈l->(tmps e).length<=(jJ l).length
 |x::l,e,h=>by
  simp only[jJ,jA4];rcases jA1.1 h with rfl|h
  .omega
  .have:=xI h;omega
theorem mH(i:Nat):(jJ (l.take i)).length<=(jJ l).length:=by
 have h:∀a b:wH,jJ (a++b)=jJ a++jJ b:=fun a b=>by
  induction a with
  |nil=>simp[jJ]
  |cons x a ih=>simp[jJ,ih]
 have:=h (l.take i) (l.drop i);rw[jBw]at this;rw[this,jA4];omega
mutual
theorem zKV:∀(e:Exp),(tmps e).length<=1000000000->my 38 [.agg (zG e)] [] (int (tmps e).length) []
 | .mk a b c d t l ns,hle=>by
  have ih:=zHS l;generalize ha:Exp.mk a b c d t l ns=e at hle;have hal:e.kids=l:=by rw[<-ha];rfl
  rw[<-hal]at ih;rw[bL,jA4,jAn]at hle;refine mq [] [.slot 2] func38 (by kernel_rfl) ?_
  (conv in kq _ _=>cbv)
  simp[zG];refine qI (S:=Nat) (fun i=>[(1,.ptr 0 0),(3,int ((jJ (e.kids.take i)).length+1:Nat)),(4,int i)]) (fun _=>[.box (zG e)]) (fun i=>i<=e.kids.length) (fun i=>e.kids.length-i) 0 (by simp)
   (mw [0] 0 (by rfl) (by simp[zG,jJ])) ?_
  intro i hi;by_cases h:i<e.kids.length
  .have hle2:(tmps e.kids[i]).length<=1000000000:=by have:=xI (jA0 h);omega
   have h3:=mH (l:=e.kids) (i+1);rw[y6 h,jA4]at h3;simp[zG,h,yB h];intro hl;refine mu (ih e.kids[i] (jA0 h) hle2) (by simp[zG]) ?_;have hw:IntKind.i64.wrap ((((jJ (e.kids.take i)).length:Int)+1)+((tmps e.kids[i]).length:Int))=((jJ (e.kids.take i)).length:Int)+1+(tmps e.kids[i]).length:=IntWalk.i64_in _ (by omega);simp[hw];exact zO (i+1) h (by omega) (kf [0] 0 (by rfl) (by simp[zG]) (by simp[zZ h hl,y6 h];omega))
  .have hie:i=e.kids.length:=by omega
   subst hie;simp[zG]
   first|exact fun _=>zB 0 (by simp[bL])|exact zB 0 (by simp[bL])
theorem zHS:∀(l:wH),∀x∈l,(tmps x).length<=1000000000->my 38 [.agg (zG x)] [] (int (tmps x).length) []
 |[],x,hx=>by simp at hx
 |z::l,x,hx=>by
  rcases jA1.1 hx with e|hx
  .rw[e];exact zKV z
  .exact zHS l x hx
end
def lV(l:wC):AObj:=.row false 3 1 l.length (aQ l)
mutual
theorem zHV:∀(e:Exp) (l:wC),l.length+(tmps e).length<=1000000000->my 39 [.agg (zG e),.row 0 l.length] [lV l] (.row 0 (l++tmps e).length) [lV (l++tmps e)]
 | .mk a b c d t ks ns,l,hle=>by
  have ih:=zFW ks;generalize ha:Exp.mk a b c d t ks ns=e at hle;have hal:e.kids=ks:=by rw[<-ha];rfl
  rw[<-hal]at ih;rw[bL,jA4,jAn]at hle;refine mq [] [.slot 4] func39 (by kernel_rfl) ?_
  (conv in kq _ _=>cbv)
  simp[zG,lV];refine qI (S:=Nat) (fun i=>[(1,.row 0 (l++jJ (e.kids.take i)).length),(2,.ptr 1 0),(5,int i)]) (fun i=>[lV (l++jJ (e.kids.take i)),.box (zG e)]) (fun i=>i<=e.kids.length) (fun i=>e.kids.length-i) 0 (by simp)
   (mw [0,1] 0 (by rfl) (by simp[zG,lV,jJ])) ?_
  intro i hi;by_cases h:i<e.kids.length
  .have h3:=mH (l:=e.kids) (i+1);rw[y6 h,jA4]at h3;have hg:=ih e.kids[i] (jA0 h) (l++jJ (e.kids.take i)) (by rw[jA4];omega);simp[zG,lV,h,yB h];intro hl;refine mr hg [0] (by simp[lV,mT,zG]) ?_;simp[lV];exact zO (i+1) h (by omega) (mw [0,1] 0 (by rfl) (by simp[zG,lV,y6 h,mT,zZ h hl]))
  .have hie:i=e.kids.length:=by omega
   subst hie;simp[zG,lV];intro _;refine⟨⟨by simp[maxLen];omega,by omega⟩,?_⟩;exact ke [0] 0 (by rfl) (by simp[bL,mT];omega) (by simp[bL];omega)
theorem zFW:∀(ks:wH),∀x∈ks,∀(l:wC),l.length+(tmps x).length<=1000000000->my 39 [.agg (zG x),.row 0 l.length] [lV l] (.row 0 (l++tmps x).length) [lV (l++tmps x)]
 |[],x,hx=>by simp at hx
 |z::l,x,hx=>by
  rcases jA1.1 hx with e|hx
  .rw[e];exact zHV z
  .exact zFW l x hx
end
theorem zNe(e:Exp)(hle:(tmps e).length<=1000000000):my 39 [.agg (zG e),.nil] [] (.row 0 (tmps e).length) [lV (tmps e)]:=by
 rw[bL,jA4,jAn]at hle;refine mq [] [.slot 4] func39 (by kernel_rfl) ?_
 (conv in kq _ _=>cbv)
 simp[zG,lV];refine qI (S:=Nat) (fun i=>[(1,.row 0 (jJ (e.kids.take i)).length),(2,.ptr 1 0),(5,int i)]) (fun i=>[lV (jJ (e.kids.take i)),.box (zG e)]) (fun i=>i<=e.kids.length) (fun i=>e.kids.length-i) 0 (by simp)
  ((jS (t:=1) (by simp) 3 1).trans (mw [1,0] 0 (by rfl) (by simp[zG,lV,jJ]))) ?_
 intro i hi;by_cases h:i<e.kids.length
 .have h3:=mH (l:=e.kids) (i+1);rw[y6 h,jA4]at h3;have hg:=zHV e.kids[i] (jJ (e.kids.take i)) (by omega);simp[zG,lV,h,yB h];intro hl;refine mr hg [0] (by simp[lV,zG]) ?_;simp[lV];exact zO (i+1) h (by omega) (mw [0,1] 0 (by rfl) (by simp[zG,lV,y6 h,mT,zZ h hl]))
 .have hie:i=e.kids.length:=by omega
  subst hie;simp[zG,lV];intro _;refine⟨⟨by simp[maxLen];omega,by omega⟩,?_⟩;exact mv [0] 0 (by rfl) (by simp[bL,mT])
mutual
def eB(f:Int->Id):Exp->Exp
 | .mk i k n r t ks ns=>.mk (f i.c) k n (if k=2/\r.b=0 then f r.c else r) t (oV f ks) ns
def oV(f:Int->Id):List Exp->wH
 |[]=>[]
 |e::l=>eB f e::oV f l
end
theorem oF(f:Int->Id):∀l:wH,oV f l=l.map (eB f)
 |[]=>rfl
 |e::l=>by simp only[oV,jAd,oF f l]
mutual
def Exp.under(N:Nat):Exp->Prop
 | .mk i k _ r _ ks _=>(0<=i.c/\i.c<N)/\(k=2->r.b=0->0<=r.c/\r.c<N)/\ks.length<=1000000000/\zD3 N ks
def zD3(N:Nat):List Exp->Prop
 |[]=>True
 |e::l=>e.under N/\zD3 N l
end
theorem zBv{N:Nat}:∀l:wH,zD3 N l↔∀e∈l,e.under N
 |[]=>by simp[zD3]
 |e::l=>by simp[zD3,zBv l]
def rE(ids:wG)(c:Int):Id:=ids.getD c.toNat Id.zero
theorem zK4{ids:wG}{j:Nat}(h:c=j)(hj:j<ids.length):rE ids c=ids[j]:=by subst h;unfold rE;rw[jCq,jC5,jA2 hj];rfl
def a7(ids:wG):AObj:=.row false 32 3 ids.length (zY ids)
mutual
theorem zGm(ids:wG):∀(e:Exp),e.under ids.length->my 40 [.agg (zG e),.row 0 ids.length] [a7 ids] (.agg (zG (eB (rE ids) e))) [a7 ids]
 | .mk a b c d t ks ns,hb=>by
  have ih:=zEp ids ks;simp only[Exp.under,zBv]at hb;obtain⟨⟨hb1,hb2⟩,hb3,hkl,hb4⟩:=hb;obtain⟨j,hj⟩:∃j:Nat,a.c=j:=⟨a.c.toNat,by omega⟩;have hjl:j<ids.length:=by omega
  have hdj:=jN hjl;have hej:=zK4 hj hjl;have hbj:j*3+3<=ids.length*3:=by omega
  refine mn zXb [] [.cell 4 15 true] func40 (by kernel_rfl) ?_
  (conv in zV _ _ _ _=>cbv)
  obtain⟨x,hx⟩:∃x,x=ids[j]:=⟨_,rfl⟩;rw[<-hx]at hej hdj;by_cases hv1:b=2
  .by_cases hv2:d.b=0
   .obtain⟨hb5,hb6⟩:=hb3 hv1 hv2;obtain⟨m,hm⟩:∃m:Nat,d.c=m:=⟨d.c.toNat,by omega⟩;have hml:m<ids.length:=by omega
    have hdm:=jN hml;have hem:=zK4 hm hml;have hbm:m*3+3<=ids.length*3:=by omega
    obtain⟨y,hy⟩:∃y,y=ids[m]:=⟨_,rfl⟩;rw[<-hy]at hem hdm;simp[zG,a7,hj,hjl,hdj,hbj,hv1,hv2,hm,hml,hdm,hbm,zS];refine qI (S:=Nat) (fun i=>[(1,.row 0 ids.length),(2,.ptr 1 0),(4,.ptr 2 0),(5,.ptr 3 0),(6,int i)])
     (fun i=>[a7 ids,.box (zG (.mk a b c d t ks ns)),.box (zG Exp.zero),.box [int x.a,int x.b,int x.c,int b,int c,int y.a,int y.b,int y.c,int t.k,int t.id.a,int t.id.b,int t.id.c,.sl t.kids.length (jM t.kids),.row 4 i,.sl ns.length (yJ ns)],.row false 40 15 i (qM ((ks.map (eB (rE ids))).take i))]) (fun i=>i<=ks.length) (fun i=>ks.length-i) 0 (by simp)
     ((yN (l:=3) (o:=13) rfl rfl 40 15).trans (mw [0,1,2,3,4] 0 (by rfl) (by simp[a7,zG,Exp.zero,Id.zero,Typ.zero,hj,hv1,hv2,hm,hem]))) ?_
    intro i hi;by_cases h:i<ks.length
    .have hg:=ih ks[i] (jA0 h) (hb4 _ (jA0 h));have hst:=bD (l:=ks.map (eB (rE ids))) (i:=i) (by rw[jAb];exact h);rw[jB]at hst;simp[a7,zG,h,yB h];intro hl;refine bZ hg [0] (by decide) (by simp[a7]) (by simp[zG]) (by decide) (by simp) (by simp) ?_;simp[a7];refine⟨⟨by omega,by omega⟩,?_⟩;exact zO (i+1) h (by omega) (kf [0,1,2,3,4] 0 (by rfl) (by rw[hst];simp[a7,zG]) (by simp[zZ h hl]))
    .have hie:i=ks.length:=by omega
     subst hie;have hall:List.take ks.length (ks.map (eB (rE ids)))=ks.map (eB (rE ids)):=jAl (by simp);simp[a7,zG];intro _;exact mv [0] 1 (by rfl) (by simp[zG,eB,oF,hej,hall,hv1,hv2,hem])
   .simp[zG,a7,hj,hjl,hdj,hbj,hv1,hv2,zS];refine qI (S:=Nat) (fun i=>[(1,.row 0 ids.length),(2,.ptr 1 0),(4,.ptr 2 0),(5,.ptr 3 0),(6,int i)])
     (fun i=>[a7 ids,.box (zG (.mk a b c d t ks ns)),.box (zG Exp.zero),.box [int x.a,int x.b,int x.c,int b,int c,int d.a,int d.b,int d.c,int t.k,int t.id.a,int t.id.b,int t.id.c,.sl t.kids.length (jM t.kids),.row 4 i,.sl ns.length (yJ ns)],.row false 40 15 i (qM ((ks.map (eB (rE ids))).take i))]) (fun i=>i<=ks.length) (fun i=>ks.length-i) 0 (by simp)
     ((yN (l:=3) (o:=13) rfl rfl 40 15).trans (mw [0,1,2,3,4] 0 (by rfl) (by simp[a7,zG,Exp.zero,Id.zero,Typ.zero,hj,hv1,hv2]))) ?_
    intro i hi;by_cases h:i<ks.length
    .have hg:=ih ks[i] (jA0 h) (hb4 _ (jA0 h));have hst:=bD (l:=ks.map (eB (rE ids))) (i:=i) (by rw[jAb];exact h);rw[jB]at hst;simp[a7,zG,h,yB h];intro hl;refine bZ hg [0] (by decide) (by simp[a7]) (by simp[zG]) (by decide) (by simp) (by simp) ?_;simp[a7];refine⟨⟨by omega,by omega⟩,?_⟩;exact zO (i+1) h (by omega) (kf [0,1,2,3,4] 0 (by rfl) (by rw[hst];simp[a7,zG]) (by simp[zZ h hl]))
    .have hie:i=ks.length:=by omega
     subst hie;have hall:List.take ks.length (ks.map (eB (rE ids)))=ks.map (eB (rE ids)):=jAl (by simp);simp[a7,zG];intro _;exact mv [0] 1 (by rfl) (by simp[zG,eB,oF,hej,hall,hv1,hv2])
  .simp[zG,a7,hj,hjl,hdj,hbj,hv1,zS];refine qI (S:=Nat) (fun i=>[(1,.row 0 ids.length),(2,.ptr 1 0),(4,.ptr 2 0),(5,.ptr 3 0),(6,int i)])
    (fun i=>[a7 ids,.box (zG (.mk a b c d t ks ns)),.box (zG Exp.zero),.box [int x.a,int x.b,int x.c,int b,int c,int d.a,int d.b,int d.c,int t.k,int t.id.a,int t.id.b,int t.id.c,.sl t.kids.length (jM t.kids),.row 4 i,.sl ns.length (yJ ns)],.row false 40 15 i (qM ((ks.map (eB (rE ids))).take i))]) (fun i=>i<=ks.length) (fun i=>ks.length-i) 0 (by simp)
    ((yN (l:=3) (o:=13) rfl rfl 40 15).trans (mw [0,1,2,3,4] 0 (by rfl) (by simp[a7,zG,Exp.zero,Id.zero,Typ.zero,hj,hv1]))) ?_
   intro i hi;by_cases h:i<ks.length
   .have hg:=ih ks[i] (jA0 h) (hb4 _ (jA0 h));have hst:=bD (l:=ks.map (eB (rE ids))) (i:=i) (by rw[jAb];exact h);rw[jB]at hst;simp[a7,zG,h,yB h];intro hl;refine bZ hg [0] (by decide) (by simp[a7]) (by simp[zG]) (by decide) (by simp) (by simp) ?_;simp[a7];refine⟨⟨by omega,by omega⟩,?_⟩;exact zO (i+1) h (by omega) (kf [0,1,2,3,4] 0 (by rfl) (by rw[hst];simp[a7,zG]) (by simp[zZ h hl]))
   .have hie:i=ks.length:=by omega
    subst hie;have hall:List.take ks.length (ks.map (eB (rE ids)))=ks.map (eB (rE ids)):=jAl (by simp);simp[a7,zG];intro _;exact mv [0] 1 (by rfl) (by simp[zG,eB,oF,hej,hall,hv1])
theorem zEp(ids:wG):∀(ks:wH),∀x∈ks,x.under ids.length->my 40 [.agg (zG x),.row 0 ids.length] [a7 ids] (.agg (zG (eB (rE ids) x))) [a7 ids]
 |[],x,hx=>by simp at hx
 |z::l,x,hx=>by
  rcases jA1.1 hx with e|hx
  .rw[e];exact zGm ids z
  .exact zEp ids l x hx
end
def zQO:K:=(G [M 72 9,M 73 10,M 6 72,M 7 73] kr)
def zQN:K:=(G [M 50 0,M 51 1,kBi 52 51 2 .add,kC 53 34 [(kt 50),(kt 52),(kc 3)],M 11 53] (Z (G [M 54 11,kQi 55 54 1 false] (Y 55 (G [M 56 9,kb 57 kz2 [],kd 58 36 5 1 kz2 [(0,5,(kt 57))],kP 59 36 5 56 56 58,M 9 59] (K.ops [M 60 10,kd 61 3 1 1 [ki] [(0,1,(kc 1))],kP 62 3 1 8 60 61,M 10 62])) ks)) (Z (G [M 63 11,kQi 64 63 2 false] (Y 64 (G [M 65 9,kb 66 kz2 [(0,1,(kc 1))],kd 67 36 5 1 kz2 [(0,5,(kt 66))],kP 68 36 5 56 65 67,M 9 68] (K.ops [M 69 10,kd 70 3 1 1 [ki] [(0,1,(kc 0))],kP 71 3 1 8 69 70,M 10 71])) ks)) (K.wk zQO))))
def qDg:K:=G [kO 5 2,kMn 6,kMn 7] (G [M 12 0,M 13 1,kC 14 34 [(kt 12),(kt 13),(kc 5)],M 8 14] (G [kb 15 kz2 [],⟨none,.brow (some 16) 36 5 1 kz2 [(0,5,(kt 15))]⟩,M 9 16] (G [M 17 0,M 18 1,kBi 19 18 1 .add,kC 20 34 [(kt 17),(kt 19),(kc 3)],⟨none,.bin (some 21) .add (kc 1) (kt 20)⟩,⟨none,.brow (some 22) 3 1 1 [ki] [(0,1,(kt 21))]⟩,M 10 22] (Z (G [M 23 8,kQi 24 23 1 false] (Y 24 (G [M 25 9,kb 26 kz2 [(0,1,(kc 1))],kXi 27 25 5 0,S 27 26 5] (K.ops [M 28 10,kXi 29 28 1 0,⟨none,.st none (kt 29) (kc 0) 1⟩])) ks)) (Z (G [M 30 8,kQi 31 30 2 false] (Y 31 (G [M 32 9,kb 33 kz2 [],kC 34 83 [(kt 33)],kXi 35 32 5 0,S 35 34 5] (K.ops [M 36 10,M 37 0,M 38 1,kBi 39 38 1 .add,kC 40 34 [(kt 37),(kt 39),(kc 2)],⟨none,.bin (some 41) .add (kc 1) (kt 40)⟩,kXi 42 36 1 0,S 42 41 1])) ks)) (Z (G [M 43 8,kQi 44 43 3 false] (Y 44 (G [M 45 9,J 46 5 5,kXi 47 45 5 0,S 47 46 5] (K.ops [M 48 10,kXi 49 48 1 0,⟨none,.st none (kt 49) (kc 1) 1⟩])) ks)) (K.wk zQN)))))))
theorem qLr:ky f84 qDg:=m_ (by kernel_rfl)
def i8(x:Int)(one two:Typ):Typ:=[jT,j9,jX jT,one,two,jT].getD (jY x 6).toNat jT
theorem zIk(x:Int)(one two:Typ)(hx:w64 x=x):my 82 [int x,.agg (zF one),.agg (zF two)] [] (.agg (zF (i8 x one two))) []:=by
 obtain⟨k0,k6⟩:=cX (k:=6) hx (by omega);have ha:=nW x 6 (by omega);have hk:jY x 6=0\/jY x 6=1\/jY x 6=2\/jY x 6=3\/jY x 6=4\/jY x 6=5:=by omega
 unfold i8;generalize jY x 6=k at ha k0 k6 hk;refine mq [] [.cell 6 5 true] func82 (by kernel_rfl) ?_
 (conv in kq _ _=>cbv)
 simp[zF];refine qC zFF (by simp[zF,jT]) (by simp) ?_;simp[zF];refine qC ha (by simp) (by simp) ?_;rcases hk with rfl|rfl|rfl|rfl|rfl|rfl
 all_goals
  simp[zF,jT,j9,jX];exact zB 0 (by simp[zF,jT,j9,jX,Id.zero,qX])
def zZp(l:wC)(at_:Int)(point:Typ):Typ×Int:=if atV l at_ 5=1 then (j9,0)else if atV l at_ 5=2 then (jX jT,1+atV l (at_+1) 2)else if atV l at_ 5=3 then (point,1)else (jT,1+atV l (at_+1) 3)
def zS5(l:wC)(at_:Int):List (Typ×Int):=if atV l (at_+2) 3=1 then [(jT,1)]else if atV l (at_+2) 3=2 then [(j9,0)]else []
def inV(l:wC)(at_:Int)(point:Typ):List (Typ×Int):=zZp l at_ point::zS5 l at_
def zN5(L:List (Typ×Int)):wF:=jM (L.map (·.1))
def zFK(L:List (Typ×Int)):wF:=aQ (L.map (·.2))
def inR(L:List (Typ×Int)):A:=.tup [.sl L.length (zN5 L),.sl L.length (zFK L)]
theorem zS6(l:wC)(at_:Int)(ha:0<=at_)(ha':at_<=1000)(hl:∀x∈l,w64 x=x)(p:Typ×Int) :
 wpK prog 0 zQN (fin [RS.slot 6,RS.slot 7] (sP 0 (inR (p::zS5 l at_)) [])) (jO [(0,.sl l.length (aQ l)),(1,int at_),(9,.row 0 1),(10,.row 1 1)])
  [.row false 36 5 1 (zF p.1),.row false 3 1 1 [int p.2]]:=by
 have w2:=qF (at_+2) (by omega);have h3:=eZ l (at_+2) 3 (by omega);unfold zS5;generalize atV l (at_+2) 3=z at *
 have tailU:∀L:List (Typ×Int),wpK prog 0 zQO (fin [RS.slot 6,RS.slot 7] (sP 0 (inR L) [])) (jO [(9,.sl L.length (zN5 L)),(10,.sl L.length (zFK L))]) []:=fun L=>by unfold zQO;simp;exact zB 0 (by simp[inR,zN5,zFK])
 unfold zQN;simp[w2];refine mu h3 (by simp) ?_;by_cases hz1:z=1
 .simp[hz1,maxLen];exact⟨_,_,mw [] 1 (by rfl) (by simp[zN5,zFK,qX,zF,jT,Id.zero]),tailU _⟩
 .by_cases hz2:z=2
  all_goals
   simp[hz1,hz2,maxLen];exact⟨_,_,mw [] 1 (by rfl) (by simp[zN5,zFK,qX,zF,j9,Id.zero]),tailU _⟩
theorem zZq(l:wC)(at_:Int)(point:Typ)(ha:0<=at_)(ha':at_<=1000)(hl:∀x∈l,w64 x=x) :
 my 84 [.sl l.length (aQ l),int at_,.agg (zF point)] [] (inR (inV l at_ point)) []:=by
 have w1:=qF (at_+1) (by omega);have h0:=eZ l at_ 5 (by omega)
 have h1:=eZ l (at_+1) 3 (by omega);have h2:=eZ l (at_+1) 2 (by omega);have ht:=zS6 l at_ ha ha' hl
 obtain⟨r1,r1'⟩:=yZ (i:=at_+1) hl (most:=3) (by omega);obtain⟨r2,r2'⟩:=yZ (i:=at_+1) hl (most:=2) (by omega);unfold inV zZp;generalize atV l at_ 5=x at *
 generalize atV l (at_+1) 3=y1 at *
 generalize atV l (at_+1) 2=y2 at *
 have v1:=qF (1+y1) (by omega);have v2:=qF (1+y2) (by omega);refine zH func84 rfl qLr (rs:=[.slot 6,.slot 7]) (by kernel_rfl) ?_;unfold qDg;simp[zF];refine mu h0 (by simp) ?_;simp[w1];refine mu h1 (by simp) ?_;by_cases hx1:x=1
 .simp[v1,hx1];exact⟨_,_,mw [1,2] 0 (by rfl) (by simp[zF,j9,Id.zero]),ht (j9,0)⟩
 .by_cases hx2:x=2
  .simp[v1,hx1,hx2];refine mu zFF (by simp[zF,jT,Id.zero]) ?_;simp[zF,w1];refine mu h2 (by simp) ?_;simp[v2];exact⟨_,_,mw [1,2] 0 (by rfl) (by simp[zF,jX,Id.zero]),ht (jX jT,1+y2)⟩
  .by_cases hx3:x=3
   .simp[v1,hx1,hx2,hx3];exact⟨_,_,mw [1,2] 0 (by rfl) (by simp[zF]),ht (point,1)⟩
   .simp[v1,hx1,hx2,hx3];exact⟨_,_,mw [1,2] 0 (by rfl) (by simp[zF,jT,Id.zero]),ht (jT,1+y1)⟩
mutual
def y7:Exp->wH
 | .mk a b c d t ks ns=>.mk a b c d t ks ns::yU ks
def yU:List Exp->wH
 |[]=>[]
 |e::l=>y7 e++yU l
end
theorem gZ(e:Exp):y7 e=e::yU e.kids:=by cases e;simp only[y7,Exp.kids]
theorem zJI(e:Exp):∀l:wH,yU (l++[e])=yU l++y7 e
 |[]=>by simp[yU]
 |x::l=>by simp[yU,zJI e l]
mutual
theorem zEU:∀e:Exp,(y7 e).length=(tmps e).length
 | .mk a b c d t ks ns=>by have:=zEV ks;simp only[y7,tmps,jAc,jA4,jB4,this]
theorem zEV:∀l:wH,(yU l).length=(jJ l).length
 |[]=>rfl
 |e::l=>by have:=zEU e;have:=zEV l;simp only[yU,jJ,jA4, *]
end
theorem zUR(d:Dfn):my 113 [.agg (zJ d)] [] (bl (dU d.kind)) []:=by
 refine mq [] [.slot 2] func113 (by kernel_rfl) ?_
 (conv in kq _ _=>cbv)
 by_cases h2:d.kind=2
 .simp[zJ,h2];exact zB 0 (by simp[dU,h2])
 .by_cases h3:d.kind=3
  .simp[zJ,h3];exact zB 0 (by simp[dU,h3])
  .by_cases h4:d.kind=4
   .simp[zJ,h4];exact zB 0 (by simp[dU,h4])
   .simp[zJ,h2,h3,h4];exact zB 0 (by simp[dU,h2,h3,h4])
def yE(ds:wS):wH:=ds.flatMap fun d=>if dU d.kind then y7 d.body else []
theorem zQk(ds:wS)(B:Nat)(h:∀d∈ds,(tmps d.body).length<=B):(yE ds).length<=ds.length*B:=by
 induction ds with
 |nil=>simp[yE]
 |cons d ds ih =>
  have h1:=h d (by simp);have h2:=ih fun d hd=>h d (by simp[hd])
  have e:yE (d::ds)=(if dU d.kind then y7 d.body else [])++yE ds:=by simp[yE]
  rw[e,jA4,jAc,jBq];have h3:(if dU d.kind=true then y7 d.body else []).length<=B:=by
   split
   .rw[zEU];exact h1
   .simp
  omega
def zRb:K:=(G [M 212 10,M 4 212] kr)
def zRa:K:=(Z (G [M 196 0,kC 197 34 [(kt 196),(kc 22),(kc 4)],kBi 198 197 0 .gtr] (Y 198 (K.dops [(0,0,M 199 10),(1,0,J 200 13 5),(2,0,kd 201 36 5 1 kz2 [(0,5,(kt 200))]),(3,0,⟨none,.bslice (some 202) 9 1 1 [(.string ⟨#[]⟩)] [(0,1,(.const (.string ⟨#[111,108,100]⟩)))]⟩),(4,0,M 203 0),(5,0,kC 204 34 [(kt 203),(kc 23),(kc 6)]),(6,0,J 205 6 5),(7,0,J 206 13 5),(8,0,kC 207 82 [(kt 204),(kt 205),(kt 206)]),(9,0,M 208 12),(10,0,⟨none,.build (some 209) kz3 [(0,1,(kc 5)),(1,1,(.const (.string ⟨#[99]⟩))),(2,1,(kt 201)),(3,1,(kt 202)),(5,5,(kt 207)),(10,1,(kt 208))]⟩),(11,0,kd 210 95 11 1 kz3 [(0,11,(kt 209))]),(12,0,kP 211 95 11 160 199 210),(13,0,M 10 211)]) ks)) (K.wk zRb))
def zQZ:K:=(G [M 178 0,J 179 6 5,kC 180 84 [(kt 178),(kc 18),(kt 179)],M 177 180,kE 181 177 0,kE 182 177 1,M 17 181,M 18 182] (Z (K.dops [(0,0,M 183 10),(1,0,M 184 17),(2,0,⟨none,.bslice (some 185) 9 1 2 [(.string ⟨#[]⟩),(.string ⟨#[]⟩)] [(0,1,(.const (.string ⟨#[97]⟩))),(1,1,(.const (.string ⟨#[98]⟩)))]⟩),(3,0,M 186 18),(4,0,M 187 0),(5,0,kC 188 34 [(kt 187),(kc 21),(kc 6)]),(6,0,J 189 6 5),(7,0,J 190 16 5),(8,0,kC 191 82 [(kt 188),(kt 189),(kt 190)]),(9,0,M 192 12),(10,0,⟨none,.build (some 193) kz3 [(0,1,(kc 4)),(1,1,(.const (.string ⟨#[116]⟩))),(2,1,(kt 184)),(3,1,(kt 185)),(4,1,(kt 186)),(5,5,(kt 191)),(10,1,(kt 192))]⟩),(11,0,kd 194 95 11 1 kz3 [(0,11,(kt 193))]),(12,0,kP 195 95 11 160 183 194),(13,0,M 10 195)]) (K.wk zRa)))
def zQY:K:=(G [M 134 0,M 135 1,kC 136 34 [(kt 134),(kc 15),(kt 135)],M 15 136] (Z (K.dops [(0,0,M 137 0),(1,1,kC 138 34 [(kt 137),(kc 16),(kc 6)]),(2,1,J 139 6 5),(3,1,J 140 6 5),(4,1,kC 141 82 [(kt 138),(kt 139),(kt 140)]),(5,0,kZ 16 kz2),(6,0,S 16 141 5)]) (G [M 142 10,M 143 8,⟨none,.bslice (some 144) 9 1 2 [(.string ⟨#[]⟩),(.string ⟨#[]⟩)] [(0,1,(.const (.string ⟨#[97]⟩))),(1,1,(.const (.string ⟨#[98]⟩)))]⟩,J 145 16 5,M 146 15,⟨none,.build (some 147) kz3 [(0,1,(kc 2)),(1,1,(.const (.string ⟨#[102]⟩))),(2,1,(kt 143)),(3,1,(kt 144)),(5,5,(kt 145)),(10,1,(kt 146))]⟩,kd 148 95 11 1 kz3 [(0,11,(kt 147))],kP 149 95 11 160 142 148,M 10 149] (Z (G [M 150 5] (Y 150 (K.dops [(0,0,M 151 10),(1,0,J 152 13 5),(2,0,J 153 7 5),(3,0,kd 154 36 5 2 [ki,ki,ki,ki,kl,ki,ki,ki,ki,kl] [(0,5,(kt 152)),(5,5,(kt 153))]),(4,0,⟨none,.bslice (some 155) 9 1 2 [(.string ⟨#[]⟩),(.string ⟨#[]⟩)] [(0,1,(.const (.string ⟨#[115]⟩))),(1,1,(.const (.string ⟨#[101]⟩)))]⟩),(5,0,M 156 1),(6,0,kBi 157 156 3 .add),(7,0,kC 158 35 [(kt 157)]),(8,0,kC 159 81 [(kt 158)]),(9,0,M 160 12),(10,0,⟨none,.build (some 161) kz3 [(0,1,(kc 3)),(1,1,(.const (.string ⟨#[115,116,101,112]⟩))),(2,1,(kt 154)),(3,1,(kt 155)),(5,5,(kt 159)),(10,1,(kt 160))]⟩),(11,0,kd 162 95 11 1 kz3 [(0,11,(kt 161))]),(12,0,kP 163 95 11 160 151 162),(13,0,M 10 163)]) (K.dops [(0,0,M 164 10),(1,0,J 165 7 5),(2,0,kd 166 36 5 1 kz2 [(0,5,(kt 165))]),(3,0,⟨none,.bslice (some 167) 9 1 1 [(.string ⟨#[]⟩)] [(0,1,(.const (.string ⟨#[101]⟩)))]⟩),(4,0,
 M 168 0),(5,0,kC 169 34 [(kt 168),(kc 17),(kc 6)]),(6,0,J 170 6 5),(7,0,J 171 7 5),(8,0,kC 172 82 [(kt 169),(kt 170),(kt 171)]),(9,0,M 173 12),(10,0,⟨none,.build (some 174) kz3 [(0,1,(kc 2)),(1,1,(.const (.string ⟨#[103]⟩))),(2,1,(kt 166)),(3,1,(kt 167)),(5,5,(kt 172)),(10,1,(kt 173))]⟩),(11,0,kd 175 95 11 1 kz3 [(0,11,(kt 174))]),(12,0,kP 176 95 11 160 164 175),(13,0,M 10 176)]))) (K.wk zQZ)))))
def zQX:K:=(Z (K.dops [(0,0,M 117 0),(1,0,kC 118 34 [(kt 117),(kc 12),(kc 6)]),(2,0,J 119 6 5),(3,0,J 120 7 5),(4,0,kC 121 82 [(kt 118),(kt 119),(kt 120)]),(5,9,⟨none,.brow (some 122) 36 5 1 kz2 [(0,5,(kt 121))]⟩),(6,0,M 8 122)]) (Z (G [M 123 0,kC 124 34 [(kt 123),(kc 13),(kc 2)],kQi 125 124 1 false] (Y 125 (K.dops [(0,0,M 126 8),(1,0,M 127 0),(2,0,kC 128 34 [(kt 127),(kc 14),(kc 6)]),(3,0,J 129 6 5),(4,0,J 130 7 5),(5,0,kC 131 82 [(kt 128),(kt 129),(kt 130)]),(6,0,kd 132 36 5 1 kz2 [(0,5,(kt 131))]),(7,0,kP 133 36 5 56 126 132),(8,0,M 8 133)]) ks)) (K.wk zQY)))
def zRd:K:=(G [M 69 10,M 70 8,⟨none,.bslice (some 71) 9 1 3 zVd [(0,1,(.const (.string ⟨#[84,105,99,107]⟩))),(1,1,(.const (.string ⟨#[80,117,115,104]⟩))),(2,1,(.const (.string ⟨#[83,101,116]⟩)))]⟩,⟨none,.build (some 72) kz3 [(0,1,(kc 1)),(1,1,(.const (.string ⟨#[69,118,101,110,116]⟩))),(2,1,(kt 70)),(3,1,(kt 71))]⟩,kd 73 95 11 1 kz3 [(0,11,(kt 72))],kP 74 95 11 160 69 73,M 10 74] (G [M 75 1,kBi 76 75 1 .sub,M 12 76] (G [J 77 6 5,kZ 13 kz2,S 13 77 5] (Z (G [M 78 5] (Y 78 (G [kb 79 kz2 [],⟨none,.brow (some 80) 36 5 1 kz2 [(0,5,(kt 79))]⟩,M 8 80] (Z (G [kMi 14 0] (K.block 4 (K.loop (Z (G [M 81 14,M 82 0,kC 83 34 [(kt 82),(kc 9),(kc 3)],kB 84 81 83 .lss] (Y 84 ks (K.exit 4))) (Z (K.block 5 (K.dops [(0,0,M 87 8),(1,0,M 88 0),(2,0,M 89 14),(3,0,⟨none,.bin (some 90) .add (kc 10) (kt 89)⟩),(4,0,kC 91 34 [(kt 88),(kt 90),(kc 4)]),(5,0,J 92 6 5),(6,0,J 93 6 5),(7,0,kC 94 82 [(kt 91),(kt 92),(kt 93)]),(8,0,kd 95 36 5 1 kz2 [(0,5,(kt 94))]),(9,0,kP 96 36 5 56 87 95),(10,0,M 8 96)])) (K.ops [M 85 14,kBi 86 85 1 .add,M 14 86])))))) (Z (K.wk (K.ops [M 97 1,kBi 98 97 2 .add,kC 99 35 [(kt 98)],kC 100 81 [(kt 99)],S 13 100 5])) (G [M 101 10,M 102 8,⟨none,.bslice (some 103) 9 1 3 zVd [(0,1,(.const (.string ⟨#[99,111,117,110,116]⟩))),(1,1,(.const (.string ⟨#[108,111,103]⟩))),(2,1,(.const (.string ⟨#[109,111,114,101]⟩)))]⟩,⟨none,.build (some 104) kz3 [(0,1,(kc 0)),(1,1,(.const (.string ⟨#[83,116,97,116,101]⟩))),(2,1,(kt 102)),(3,1,(kt 103))]⟩,kd 105 95 11 1 kz3 [(0,11,(kt 104))],kP 106 95 11 160 101 105,
 M 10 106] (K.dops [(0,0,M 107 10),(1,0,J 108 13 5),(2,0,kb 109 kz2 []),(3,0,kC 110 83 [(kt 109)]),(4,0,kb 111 kz2 []),(5,0,kd 112 36 5 3 qNR [(0,5,(kt 108)),(5,5,(kt 110)),(10,5,(kt 111))]),(6,0,⟨none,.bslice (some 113) 9 1 3 zVd [(0,1,(.const (.string ⟨#[115,116,97,116,101]⟩))),(1,1,(.const (.string ⟨#[115,105,103,110,97,108,115]⟩))),(2,1,(.const (.string ⟨#[110,101,120,116]⟩)))]⟩),(7,0,⟨none,.build (some 114) kz3 [(0,1,(kc 0)),(1,1,(.const (.string ⟨#[79,117,116]⟩))),(2,1,(kt 112)),(3,1,(kt 113))]⟩),(8,0,kd 115 95 11 1 kz3 [(0,11,(kt 114))]),(9,0,kP 116 95 11 160 107 115),(10,0,M 10 116)]))))) ks)) (K.wk zQX)))))
def zRc:K:=(G [M 46 8,⟨none,.bslice (some 47) 9 1 3 zVd [(0,1,(.const (.string ⟨#[120]⟩))),(1,1,(.const (.string ⟨#[121]⟩))),(2,1,(.const (.string ⟨#[122]⟩)))]⟩,⟨none,.build (some 48) kz3 [(0,1,(kc 0)),(1,1,(.const (.string ⟨#[80,111,105,110,116]⟩))),(2,1,(kt 46)),(3,1,(kt 47))]⟩,⟨none,.brow (some 49) 95 11 1 kz3 [(0,11,(kt 48))]⟩,M 10 49] (G [kb 50 kz2 [],⟨none,.brow (some 51) 36 5 1 kz2 [(0,5,(kt 50))]⟩,M 8 51] (Z (G [kMi 11 0] (K.block 2 (K.loop (Z (G [M 52 11,M 53 0,kC 54 34 [(kt 53),(kc 6),(kc 2)],⟨none,.bin (some 55) .add (kc 1) (kt 54)⟩,kB 56 52 55 .lss] (Y 56 ks (K.exit 2))) (Z (K.block 3 (K.dops [(0,0,M 59 8),(1,0,M 60 0),(2,0,M 61 11),(3,0,⟨none,.bin (some 62) .add (kc 7) (kt 61)⟩),(4,0,kC 63 34 [(kt 60),(kt 62),(kc 4)]),(5,0,J 64 6 5),(6,0,J 65 6 5),(7,0,kC 66 82 [(kt 63),(kt 64),(kt 65)]),(8,0,kd 67 36 5 1 kz2 [(0,5,(kt 66))]),(9,0,kP 68 36 5 56 59 67),(10,0,M 8 68)])) (K.ops [M 57 11,kBi 58 57 1 .add,M 11 58])))))) (K.wk zRd))))
def qDn:K:=G [kMn 4] (G [M 19 0,kC 20 34 [(kt 19),(kc 1),(kc 4)],kBi 21 20 0 .gtr,M 5 21] (G [M 22 1,kC 23 35 [(kt 22)],kC 24 81 [(kt 23)],kZ 6 kz2,S 6 24 5] (G [M 25 1,kBi 26 25 1 .add,kC 27 35 [(kt 26)],kC 28 81 [(kt 27)],kZ 7 kz2,S 7 28 5] (G [kMn 8] (Z (G [kMi 9 0] (K.block 0 (K.loop (Z (G [M 29 9,M 30 0,kC 31 34 [(kt 30),(kc 2),(kc 3)],⟨none,.bin (some 32) .add (kc 1) (kt 31)⟩,kB 33 29 32 .lss] (Y 33 ks (K.exit 0))) (Z (K.block 1 (K.dops [(0,0,M 36 8),(1,0,M 37 0),(2,0,M 38 9),(3,0,⟨none,.bin (some 39) .add (kc 3) (kt 38)⟩),(4,0,kC 40 34 [(kt 37),(kt 39),(kc 3)]),(5,0,J 41 6 5),(6,0,J 42 6 5),(7,0,kC 43 82 [(kt 40),(kt 41),(kt 42)]),(8,0,kd 44 36 5 1 kz2 [(0,5,(kt 43))]),(9,0,kP 45 36 5 56 36 44),(10,0,M 8 45)])) (K.ops [M 34 9,kBi 35 34 1 .add,M 9 35])))))) (K.wk zRc))))))
def qNM:Nat->Option wE:=fun|27=>k_ [0,0,0,0,0,9,0]|_=>none
theorem qLy:kx f36 qNM qDn:=mz (by kernel_rfl)
structure Pln where
 kind:Int
 name:ByteArray
 types:List Typ
 names:List ByteArray
 most:List Int
 out:Typ
 mod:Int
def dX(p:Pln):wF:=[int p.kind,.lit (.string p.name),.sl p.types.length (jM p.types),.sl p.names.length (yJ p.names),.sl p.most.length (aQ p.most),int p.out.k,int p.out.id.a,int p.out.id.b,int p.out.id.c,.sl p.out.kids.length (jM p.out.kids),int p.mod]
theorem zAS(p:Pln):j4 (dX p):=by have h1:=yW p.types;have h2:=eT p.names;have h3:=yW p.out.kids;exact⟨by simp[dX,h1.1,h2.1,h3.1],fun rf g=>by simp[dX,h1.2,h2.2,h3.2]⟩
def y8(l:List Pln):wF:=l.flatMap dX
theorem zBB(l:List Pln):j4 (y8 l):=dJ zAS l
@[simp]theorem zXp(l:List Pln):jV (y8 l)=y8 l:=(zBB l).1
@[simp]theorem qCf{rf g}(l:List Pln):vwL rf g (y8 l)=y8 l:=(zBB l).2 _ _
@[simp]theorem zY9:y8 []=[]:=rfl
theorem iE(x:Pln)(l:List Pln):y8 (x::l)=dX x++y8 l:=rfl
theorem mD(l l':List Pln):y8 (l++l')=y8 l++y8 l':=by simp only[y8,jCd]
@[simp]theorem zY8(l:List Pln):(y8 l).length=l.length*11:=by rw[y8,fA (k:=11) (fun _=>rfl)]
theorem zJX{l:List Pln}(h:i<l.length):(y8 l).drop (i*11)=dX l[i]++y8 (l.drop (i+1)):=by rw[y8,y8,gH (k:=11) (fun _=>rfl) h]
@[simp]theorem qFt(d:Pln):(dX d).length=11:=rfl
@[simp]theorem qFs(d:Pln):(dX d).take 11=dX d:=jAl (jA _)
@[simp]theorem qAT(d:Pln)(l:wF):(dX d++l).take 11=dX d:=by rw[jCe (by simp)];exact jAl (by simp)
@[simp]theorem qB0(d:Pln):jV (dX d)=dX d:=(zAS d).1
@[simp]theorem qKs(d:Pln) {rf g}:vwL rf g (dX d)=dX d:=(zAS d).2 _ _
def tyL(l:wC)(at_ most n:Int)(one:Typ):wT:=(List.range n.toNat).map fun(i:Nat)=>i8 (atV l (at_+i) most) one one
section
variable(l:wC)(mods:Int)
def rD:Bool:=decide (0<atV l 1 4)
def qU:Typ:=cO (idR mods)
def eH:Typ:=cO (idR (mods+1))
def m8:Typ:=if rD l then cO (idR (mods+2))else qU mods
def zN2:Typ:=i8 (atV l 16 6) (qU mods) (qU mods)
def dM:Pln:=⟨0,⟨#[80,111,105,110,116]⟩,tyL l 3 3 (1+atV l 2 3) (qU mods),[⟨#[120]⟩,⟨#[121]⟩,⟨#[122]⟩],[],jT,0⟩
def dZ:Pln:=⟨1,⟨#[69,118,101,110,116]⟩,jT::tyL l 7 4 (1+atV l 6 2) (qU mods),[⟨#[84,105,99,107]⟩,⟨#[80,117,115,104]⟩,⟨#[83,101,116]⟩],[],jT,0⟩
def i6:Pln:=⟨0,⟨#[83,116,97,116,101]⟩,jT::tyL l 10 4 (atV l 9 3) (qU mods),[⟨#[99,111,117,110,116]⟩,⟨#[108,111,103]⟩,⟨#[109,111,114,101]⟩],[],jT,0⟩
def zDp:Pln:=⟨0,⟨#[79,117,116]⟩,[cO (idR (mods+2)),jX jT,jT],[⟨#[115,116,97,116,101]⟩,⟨#[115,105,103,110,97,108,115]⟩,⟨#[110,101,120,116]⟩],[],jT,0⟩
def tB:wT:=i8 (atV l 12 6) (qU mods) (eH mods)::(if atV l 13 2=1 then [i8 (atV l 14 6) (qU mods) (eH mods)]else [])
def pF:Pln:=⟨2,⟨#[102]⟩,tB l mods,[⟨#[97]⟩,⟨#[98]⟩],[],zN2 l mods,atV l 15 mods⟩
def zA8:Pln:=⟨3,⟨#[115,116,101,112]⟩,[cO (idR (mods+2)),eH mods],[⟨#[115]⟩,⟨#[101]⟩],[],cO (idR (mods+3)),mods-1⟩
def pG:Pln:=⟨2,⟨#[103]⟩,[eH mods],[⟨#[101]⟩],[],i8 (atV l 17 6) (qU mods) (eH mods),mods-1⟩
def pT:Pln:=⟨4,⟨#[116]⟩,(inV l 18 (qU mods)).map (·.1),[⟨#[97]⟩,⟨#[98]⟩],(inV l 18 (qU mods)).map (·.2),i8 (atV l 21 6) (qU mods) (zN2 l mods),mods-1⟩
def pC:Pln:=⟨5,⟨#[99]⟩,[m8 l mods],[⟨#[111,108,100]⟩],[],i8 (atV l 23 6) (qU mods) (m8 l mods),mods-1⟩
def plE:List Pln:=if 0<atV l 22 4 then [pC l mods]else []
def plD:List Pln:=pT l mods::plE l mods
def plC:List Pln:=(if rD l then zA8 mods else pG l mods)::plD l mods
def plB:List Pln:=pF l mods::plC l mods
def qD:List Pln:=[dM l mods,dZ l mods]++(if rD l then [i6 l mods,zDp mods]else [])++plB l mods
end
abbrev zM3(L:List Pln):=fin [RS.slot 4] (sP 0 (.sl L.length (y8 L)) [])
theorem zX7(L:List Pln):wpK prog 0 zRb (zM3 L) (jO [(10,.sl L.length (y8 L))]) []:=by unfold zRb;simp;exact zB 0 (by simp)
theorem qHe(l:wC)(mods:Int)(hm:1<=mods)(hm2:mods<=2)(hl:∀x∈l,w64 x=x)(L:List Pln)(hL:L.length<=20) :
 wpK prog 0 zRa (zM3 (L++plE l mods)) (jO [(0,.sl l.length (aQ l)),(6,.ptr 0 0),(10,.row 2 L.length),(12,int (mods-1)),(13,.ptr 1 0)])
  [.box (zF (qU mods)),.box (zF (m8 l mods)),.row false 95 11 L.length (y8 L)]:=by
 have h0:=eZ l 22 4 (by omega);have h1:=eZ l 23 6 (by omega);obtain⟨r0,r0'⟩:=yZ (i:=23) hl (most:=6) (by omega);have h2:=zIk (atV l 23 6) (qU mods) (m8 l mods) (IntWalk.i64_in _ (by omega));unfold zRa;simp;refine mu h0 (by simp) ?_;by_cases h:0<atV l 22 4
 .simp[h,zF];refine qC h1 (by simp) (by simp) ?_;simp[zF];refine qC h2 (by simp[zF]) (by simp) ?_;simp[zF];refine⟨⟨by simp[maxLen];omega,by omega⟩,?_⟩;exact⟨_,_,mw [] 1 (by rfl) (by simp[plE,h,pC,mD,iE,dX,qX,zF,eQ]),zX7 _⟩
 .simp[h];exact⟨_,_,mw [] 1 (by rfl) (by simp[plE,h]),zX7 _⟩
theorem iK(l:wC)(i m:Int)(hm:0<m)(hl:∀x∈l,w64 x=x)(hm2:m<=1000)(a b:Typ):my 82 [int (atV l i m),.agg (zF a),.agg (zF b)] [] (.agg (zF (i8 (atV l i m) a b))) []:=by obtain⟨r0,r0'⟩:=yZ (i:=i) hl (most:=m) hm;exact zIk _ _ _ (IntWalk.i64_in _ (by omega))
theorem qHd(l:wC)(mods:Int)(hm:1<=mods)(hm2:mods<=2)(hl:∀x∈l,w64 x=x)(L:List Pln)(hL:L.length<=19) :
 wpK prog 0 zQZ (zM3 (L++plD l mods)) (jO [(0,.sl l.length (aQ l)),(6,.ptr 0 0),(10,.row 3 L.length),(12,int (mods-1)),(13,.ptr 1 0),(16,.ptr 2 0)])
  [.box (zF (qU mods)),.box (zF (m8 l mods)),.box (zF (zN2 l mods)),.row false 95 11 L.length (y8 L)]:=by
 have h0:=zZq l 18 (qU mods) (by omega) (by omega) hl;have h1:=eZ l 21 6 (by omega);have h2:=iK l 21 6 (by omega) hl (by omega) (qU mods) (zN2 l mods);have hD:=qHe l mods hm hm2 hl (L++[pT l mods]) (by simp;omega);rw[jAq]at hD;unfold zQZ;simp[zF];refine mu h0 (by simp[zF,inR,zN5,zFK]) ?_;simp[inR,zN5,zFK];refine qC h1 (by simp) (by simp) ?_;simp[zF];refine qC h2 (by simp[zF]) (by simp) ?_;simp[zF];refine⟨⟨by simp[maxLen];omega,by omega⟩,?_⟩;refine⟨_,_,kf [0,1,3] 0 (by rfl) ?_ (by simp),hD⟩;simp[zF,mD,iE,dX,pT,eU]
theorem qHc(l:wC)(mods:Int)(hm:1<=mods)(hm2:mods<=2)(hl:∀x∈l,w64 x=x)(L:List Pln)(hL:L.length<=17) :
 wpK prog 0 zQY (zM3 (L++plB l mods)) (jO [(0,.sl l.length (aQ l)),(1,int mods),(5,bl (rD l)),(6,.ptr 0 0),(7,.ptr 1 0),(8,.sl (tB l mods).length (jM (tB l mods))),(10,.row 3 L.length),(12,int (mods-1)),(13,.ptr 2 0)])
  [.box (zF (qU mods)),.box (zF (eH mods)),.box (zF (m8 l mods)),.row false 95 11 L.length (y8 L)]:=by
 have w3:=qF (mods+3) (by omega);have h0:=eZ l 15 mods (by omega);have h1:=eZ l 16 6 (by omega);have h2:=iK l 16 6 (by omega) hl (by omega) (qU mods) (qU mods);have h3:=uL (mods+3);have h4:=zHW (idR (mods+3));have h5:=eZ l 17 6 (by omega);have h6:=iK l 17 6 (by omega) hl (by omega) (qU mods) (eH mods);have hC:=qHd l mods hm hm2 hl (L++[pF l mods]++[if rD l then zA8 mods else pG l mods]) (by simp;omega);rw[jAq,jAq]at hC;unfold zQY;simp;refine mu h0 (by simp) ?_;simp;refine zIH h1 [] (by decide) (by simp) (by simp) (by simp) ?_;simp[zF];refine zIH h2 [] (by decide) (by simp) (by simp[zF]) (by simp) ?_;simp[zF];refine⟨⟨by simp[maxLen];omega,by omega⟩,?_⟩;cases hh:rD l
 .simp[zF];refine qC h5 (by simp) (by simp) ?_;simp[zF];refine qC h6 (by simp[zF]) (by simp) ?_;simp[zF];refine⟨⟨by simp[maxLen];omega,by omega⟩,?_⟩;refine⟨_,_,kf [0,2,4,3] 0 (by rfl) ?_ (by simp),hC⟩;simp[zF,mD,iE,dX,pF,pG,hh,zN2,eQ,eU,qX]
 .simp[zF,w3];refine qC h3 (by simp) (by simp) ?_;simp[zF];refine qC h4 (by simp[zS]) (by simp) ?_;simp[zF];refine⟨⟨by simp[maxLen];omega,by omega⟩,?_⟩;refine⟨_,_,kf [0,2,4,3] 0 (by rfl) ?_ (by simp),hC⟩;simp[zF,mD,iE,dX,pF,zA8,hh,zN2,m8,eQ,eU,qX]
theorem zX6(l:wC)(mods:Int)(hm:1<=mods)(hm2:mods<=2)(hl:∀x∈l,w64 x=x)(L:List Pln)(hL:L.length<=17) :
 wpK prog 0 zQX (zM3 (L++plB l mods)) (jO [(0,.sl l.length (aQ l)),(1,int mods),(5,bl (rD l)),(6,.ptr 0 0),(7,.ptr 1 0),(10,.row 3 L.length),(12,int (mods-1)),(13,.ptr 2 0)])
  [.box (zF (qU mods)),.box (zF (eH mods)),.box (zF (m8 l mods)),.row false 95 11 L.length (y8 L)]:=by
 have h0:=eZ l 12 6 (by omega);have h1:=iK l 12 6 (by omega) hl (by omega) (qU mods) (eH mods);have h2:=eZ l 13 2 (by omega);have h3:=eZ l 14 6 (by omega);have h4:=iK l 14 6 (by omega) hl (by omega) (qU mods) (eH mods);have hB:=qHc l mods hm hm2 hl L hL;unfold zQX;simp;refine qC h0 (by simp) (by simp) ?_;simp[zF];refine qC h1 (by simp[zF]) (by simp) ?_;simp[zF];refine mu h2 (by simp) ?_;by_cases h:atV l 13 2=1
 .simp[h,zF];refine qC h3 (by simp) (by simp) ?_;simp[zF];refine qC h4 (by simp[zF]) (by simp) ?_;simp[zF,maxLen];refine⟨_,_,kf [0,1,2,3] 1 (by rfl) (by simp[zF]) ?_,hB⟩;simp[tB,h,qX,zF]
 .simp[h,zF];refine⟨_,_,kf [0,1,2,3] 1 (by rfl) (by simp[zF]) ?_,hB⟩;simp[tB,h,qX,zF]
def zTY:K:=(G [M 63 1,kBi 64 63 1 .sub,M 1 64] (G [kMn 8] (Z (G [kMi 9 0] (K.block 1 (K.loop (Z (G [M 65 9,D 66 3 13,L 67 66 1,kN 68 67,kB 69 65 68 .lss] (Y 69 ks (K.exit 1))) (Z (K.block 2 (G [D 72 3 13,L 73 72 1,M 74 9,kX 75 73 74 15,J 76 75 15,kZ 10 kz1,S 10 76 15] (Z (G [M 77 1,kBi 78 77 0 .geq] (Y 78 (K.ops [J 80 10 15,M 81 1,M 82 2,kC 83 115 [(kt 80),(kt 81),(kt 82)],M 79 83,kE 84 79 0,kE 85 79 1,S 10 84 15,M 1 85]) ks)) (K.ops [M 86 8,J 87 10 15,kd 88 40 15 1 kz1 [(0,15,(kt 87))],kP 89 40 15 168 86 88,M 8 89])))) (K.ops [M 70 9,kBi 71 70 1 .add,M 9 71])))))) (G [M 90 8,D 91 3 13,S 91 90 1] (G [J 92 3 15,M 93 1,S 6 92 15,M 7 93] kr)))))
def KTw:K:=G [kO 3 0,kZ 6 kz1,kMi 7 0] (Z (G [M 11 1,kQi 12 11 0 false] (Y 12 (G [D 13 3 3,L 14 13 1] (K.block 0 (G [kQi 16 14 0 false,M 15 16] (Y 15 (K.ops [M 17 2,kBi 18 17 9 .rem,kBi 19 18 4 .sub,D 20 3 4,S 20 19 1]) (G [kQi 22 14 1 false,M 21 22] (Y 21 (K.ops [D 23 3 4,L 24 23 1,⟨none,.bin (some 25) .sub (kc 1) (kt 24)⟩,D 26 3 4,S 26 25 1]) (G [kQi 28 14 4 false,M 27 28] (Y 27 (G [D 29 3 4,L 30 29 1,kBi 31 30 4 .leq] (Y 31 (K.ops [M 32 2,kBi 33 32 5 .rem,D 34 3 4,S 34 33 1]) (G [D 35 3 4,L 36 35 1,kQi 37 36 7 false,M 38 37,T 38 false (D 39 3 4),T 38 false (L 40 39 1),T 38 false (kQi 41 40 8 false),kPt 42 38 41] (Y 42 (K.ops [D 43 3 4,L 44 43 1,⟨none,.bin (some 45) .sub (kc 15) (kt 44)⟩,D 46 3 4,S 46 45 1]) ks)))) (G [kQi 48 14 5 false,M 47 48] (Y 47 (K.dops [(0,0,D 49 3 13),(1,0,L 50 49 1),(2,0,kXi 51 50 15 0),(3,0,J 52 51 15),(4,0,D 53 3 13),(5,0,L 54 53 1),(6,0,kXi 55 54 15 2),(7,0,J 56 55 15),(8,0,D 57 3 13),(9,0,L 58 57 1),(10,0,kXi 59 58 15 1),(11,0,J 60 59 15),(12,0,kd 61 40 15 3 kz4 [(0,15,(kt 52)),(15,15,(kt 56)),(30,15,(kt 60))]),(13,0,D 62 3 13),(14,0,S 62 61 1)]) ks)))))))))) ks)) (K.wk zTY))
theorem cTw:ky f115 KTw:=m_ (by kernel_rfl)
def twN(e:Exp)(n:Int):Exp:=.mk e.id e.k n e.ref e.typ e.kids e.names
def twK(e:Exp)(ks:wH):Exp:=.mk e.id e.k e.n e.ref e.typ ks e.names
def y4(e:Exp)(x:Int):Exp :=
 if e.k=0 then twN e (IntKind.i64.wrap (x.tmod 9-4))
 else if e.k=1 then twN e (IntKind.i64.wrap (1-e.n))
 else if e.k=4 then (if e.n<=4 then twN e (x.tmod 5)else if e.n=7\/e.n=8 then twN e (IntKind.i64.wrap (15-e.n))else e)
 else if e.k=5 then (match e.kids with
  |[a,b,c]=>twK e [a,c,b]
  |_=>e)
 else e
mutual
def aC:Exp->Int->Int->Exp×Int
 | .mk i k n r t ks ns,a,x=>if a=0 then (y4 (.mk i k n r t ks ns) x,-1)else (.mk i k n r t (qZ ks (a-1) x).1 ns,(qZ ks (a-1) x).2)
def qZ:List Exp->Int->Int->wH×Int
 |[],a,_=>([],a)
 |e::l,a,x=>if 0<=a then ((aC e a x).1::(qZ l (aC e a x).2 x).1,(qZ l (aC e a x).2 x).2)else (e::(qZ l a x).1,(qZ l a x).2)
end
theorem bA(e:Exp)(a x:Int):aC e a x=if a=0 then (y4 e x,-1)else (twK e (qZ e.kids (a-1) x).1,(qZ e.kids (a-1) x).2):=by cases e;simp only[aC,twK,Exp.kids_mk,Exp.id_mk,Exp.k_mk,Exp.n_mk,Exp.ref_mk,Exp.typ_mk,Exp.names_mk]
theorem zG6{a x:Int}(h:a<0):∀l:wH,qZ l a x=(l,a)
 |[]=>rfl
 |e::l=>by simp only[qZ,if_neg (show ¬0<=a by omega),zG6 h l]
theorem xJ(e:Exp)(x:Int):∀(l:wH) (a:Int),qZ (l++[e]) a x=if 0<=(qZ l a x).2 then ((qZ l a x).1++[(aC e (qZ l a x).2 x).1],(aC e (qZ l a x).2 x).2)else ((qZ l a x).1++[e],(qZ l a x).2)
 |[],a=>by by_cases h:0<=a<;>simp[qZ,h]
 |y::l,a=>by
  simp only[jBe,qZ];by_cases h:0<=a
  .simp only[if_pos h];rw[xJ e x l];split<;>simp
  .simp only[if_neg h];rw[xJ e x l];split<;>simp
mutual
theorem zQB:∀(e:Exp) (a x:Int),0<=a->-1<=(aC e a x).2/\(aC e a x).2<=a
 | .mk i k n r t ks ns,a,x,h=>by
  simp only[aC];split
  .simp only;omega
  .have:=zAr ks (a-1) x (by omega);simp only;omega
theorem zAr:∀(l:wH) (a x:Int),-1<=a->-1<=(qZ l a x).2/\(qZ l a x).2<=a
 |[],a,x,h=>by simp only[qZ];omega
 |e::l,a,x,h=>by
  simp only[qZ];split
  .have h1:=zQB e a x (by omega);have:=zAr l (aC e a x).2 x h1.1;simp only;omega
  .have:=zAr l a x h;simp only;omega
end
theorem uE(x:Int):∀(l:wH) (a:Int),(qZ l a x).1.length=l.length
 |[],_=>rfl
 |e::l,a=>by simp only[qZ];split<;>simp[uE x l]
theorem zD2(h:i<l.length)(a x:Int):qZ (l.take (i+1)) a x=if 0<=(qZ (l.take i) a x).2 then ((qZ (l.take i) a x).1++[(aC l[i] (qZ (l.take i) a x).2 x).1],(aC l[i] (qZ (l.take i) a x).2 x).2)else ((qZ (l.take i) a x).1++[l[i]],(qZ (l.take i) a x).2):=by rw[jA7 h,xJ]
def zIy(e:Exp):Prop:=∀z∈y7 e,z.k=5->z.kids.length=3
theorem zHm{z k:Exp}(hz:z∈y7 k):∀{l:wH},k∈l->z∈yU l
 |y::l,h=>by
  simp only[yU,jA6];rcases jA1.1 h with rfl|h
  .exact .inl hz
  .exact .inr (zHm hz h)
theorem zIy.kid{e k:Exp}(h:zIy e)(hk:k∈e.kids):zIy k:=fun z hz=>h z (by rw[gZ];exact jAk _ (zHm hz hk))
theorem zIy.here{e:Exp}(h:zIy e)(hk:e.k=5):∃a b c,e.kids=[a,b,c]:=by
 have:=h e (by rw[gZ];exact jAm ..) hk
 match hh:e.kids,this with
 |[a,b,c],_=>exact⟨a,b,c,rfl⟩
abbrev twF:FuncId:=115
def twR(q:Exp×Int):A:=.tup [.agg (zG q.1),int q.2]
theorem zOP(e1:Exp)(a x:Int)(hkl:e1.kids.length<=1000000)(ha:0<=a)(ha2:a<=1000000000)(ih:0<=a-1->∀k∈e1.kids,∀b,0<=b->b<=1000000000->my twF [.agg (zG k),int b,int x] [] (twR (aC k b x)) []) :
 wpK prog 0 zTY (fin [RS.cell 6 15 true,RS.slot 7] (sP 0 (twR (twK e1 (qZ e1.kids (a-1) x).1,(qZ e1.kids (a-1) x).2)) [])) (jO [(1,int a),(2,int x),(3,.ptr 0 0),(6,.ptr 1 0)]) [.box (zG e1),.box (zG Exp.zero)]:=by
 have wa:=qF (a-1) (by omega);unfold zTY;simp[wa];refine qI (S:=Nat) (fun i=>[(1,int (qZ (e1.kids.take i) (a-1) x).2),(2,int x),(3,.ptr 0 0),(6,.ptr 1 0),(8,.row 2 i),(9,int i)])
  (fun i=>[.box (zG e1),.box (zG Exp.zero),.row false 40 15 i (qM (qZ (e1.kids.take i) (a-1) x).1)]) (fun i=>i<=e1.kids.length) (fun i=>e1.kids.length-i) 0 (by simp)
  ((jS (t:=8) (by simp) 40 15).trans (mw [0,1,2] 0 (by rfl) (by simp[zG,qZ]))) ?_
 intro i hi;have hat:=zAr (e1.kids.take i) (a-1) x (by omega);by_cases h:i<e1.kids.length
 .have hst:=zD2 h (a-1) x;have hlen:=uE x (e1.kids.take i) (a-1);rw[jAv,jAx hi]at hlen;have hdr:=yB h;have hb15:i*15+15<=e1.kids.length*15:=by omega
  have ihk:=fun h0=>ih h0 e1.kids[i] (jA0 h)
  generalize e1.kids[i]=k at *
  by_cases h0:0<=(qZ (e1.kids.take i) (a-1) x).2
  .have hc:=ihk (by omega) _ h0 (by omega);rw[if_pos h0]at hst;generalize qZ (e1.kids.take i) (a-1) x=q at *
   simp[zG,h,hdr,hb15,h0];intro hl;refine mu hc (by simp[zG,twR]) ?_;simp[twR];refine⟨⟨by simp[maxLen];omega,by omega⟩,?_⟩;exact zO (i+1) h (by omega) (mw [0,1,2] 0 (by rfl) (by simp[zG,hst,zA1,zL,zZ h hl]))
  .rw[if_neg h0]at hst;generalize qZ (e1.kids.take i) (a-1) x=q at *
   simp[zG,h,hdr,hb15,h0];intro hl;refine⟨⟨by simp[maxLen];omega,by omega⟩,?_⟩;exact zO (i+1) h (by omega) (mw [0,1,2] 0 (by rfl) (by simp[zG,hst,zA1,zL,zZ h hl]))
 .have hie:i=e1.kids.length:=by omega
  subst hie;rw[jAs];have hlen:=uE x e1.kids (a-1);simp[zG]
  intros
  exact zB 1 (by simp[twR,twK,zG,hlen])
theorem zTC(e:Exp):twK e e.kids=e:=by cases e;rfl
theorem zLF(e:Exp)(x:Int):(y4 e x).kids.length=e.kids.length:=by
 unfold y4;split
 .rfl
 .split
  .rfl
  .split
   .split
    .rfl
    .split<;>rfl
   .split
    .split
     .rename_i h;rw[h];rfl
     .rfl
    .rfl
theorem zKD:∀(ks:wH),ks.length<=(jJ ks).length
 |[]=>jA _
 |e::ks=>by
  have:=zKD ks;have h1:1<=(tmps e).length:=by rw[bL,jA4,jAn];omega
  simp only[jJ,jA4,jAc];omega
theorem zG0{e:Exp}(h:(tmps e).length<=1000000):e.kids.length<=1000000/\∀k∈e.kids,(tmps k).length<=1000000:=by rw[bL,jA4,jAn]at h;have:=zKD e.kids;exact⟨by omega,fun k hk=>by have:=xI hk;omega⟩
theorem zN4(e:Exp)(hif:zIy e)(hle:(tmps e).length<=1000000)(ih:∀k∈e.kids,∀a x,0<=a->a<=1000000000->my twF [.agg (zG k),int a,int x] [] (twR (aC k a x)) [])(a x:Int)(ha:0<=a)(ha2:a<=1000000000) :
 my twF [.agg (zG e),int a,int x] [] (twR (aC e a x)) []:=by
 obtain⟨hk,_⟩:=zG0 hle;rw[bA];refine zH func115 rfl cTw (rs:=[.cell 6 15 true,.slot 7]) (by kernel_rfl) ?_;unfold KTw;have zero:a=0->∀e1:Exp,e1=y4 e x->wpK prog 0 zTY (fin [RS.cell 6 15 true,RS.slot 7] (sP 0 (twR (y4 e x,-1)) [])) (jO [(1,int a),(2,int x),(3,.ptr 0 0),(6,.ptr 1 0)]) [.box (zG e1),.box (zG Exp.zero)]:=fun h0 e1 he=>by have ht:=zOP e1 a x (by rw[he,zLF];exact hk) ha ha2 (fun h=>by omega);rw[zG6 (show a-1<0 by omega),zTC,he,h0]at ht;rw[he,h0];exact ht
 by_cases h0:a=0
 .rw[if_pos h0];have zero:=zero h0;subst h0;by_cases k0:e.k=0
  .have hh:twN e (IntKind.i64.wrap (x.tmod 9-4))=y4 e x:=by simp only[y4,if_pos k0]
   have ht:=zero _ hh;simp[zG,k0];exact⟨_,_,mw [0,1] 0 (by rfl) (by simp[zG,twN,Exp.zero,Id.zero,Typ.zero,k0]),ht⟩
  by_cases k1:e.k=1
  .have hh:twN e (IntKind.i64.wrap (1-e.n))=y4 e x:=by simp only[y4,if_neg k0,if_pos k1]
   have ht:=zero _ hh;simp[zG,k1];exact⟨_,_,mw [0,1] 0 (by rfl) (by simp[zG,twN,Exp.zero,Id.zero,Typ.zero,k1]),ht⟩
  by_cases k4:e.k=4
  .by_cases n4:e.n<=4
   .have hh:twN e (x.tmod 5)=y4 e x:=by simp only[y4,if_neg k0,if_neg k1,if_pos k4,if_pos n4]
    have ht:=zero _ hh;simp[zG,k4,n4];exact⟨_,_,mw [0,1] 0 (by rfl) (by simp[zG,twN,Exp.zero,Id.zero,Typ.zero,k4,n4]),ht⟩
   by_cases n7:e.n=7
   .have hh:twN e (IntKind.i64.wrap (15-e.n))=y4 e x:=by simp only[y4,if_neg k0,if_neg k1,if_pos k4,if_neg n4,if_pos (show e.n=7\/e.n=8 from .inl n7)]
    have ht:=zero _ hh;simp[zG,k4,n7];exact⟨_,_,mw [0,1] 0 (by rfl) (by simp[zG,twN,Exp.zero,Id.zero,Typ.zero,k4,n7]),ht⟩
   by_cases n8:e.n=8
   .have hh:twN e (IntKind.i64.wrap (15-e.n))=y4 e x:=by simp only[y4,if_neg k0,if_neg k1,if_pos k4,if_neg n4,if_pos (show e.n=7\/e.n=8 from .inr n8)]
    have ht:=zero _ hh;simp[zG,k4,n8];exact⟨_,_,mw [0,1] 0 (by rfl) (by simp[zG,twN,Exp.zero,Id.zero,Typ.zero,k4,n8]),ht⟩
   .have hh:e=y4 e x:=by simp only[y4,if_neg k0,if_neg k1,if_pos k4,if_neg n4,if_neg (show ¬(e.n=7\/e.n=8) from fun h=>h.elim n7 n8)]
    have ht:=zero _ hh;simp[zG,k4,n4,n7,n8];exact⟨_,_,mw [0,1] 0 (by rfl) (by simp[zG,twN,Exp.zero,Id.zero,Typ.zero,k4,n4,n7,n8]),ht⟩
  by_cases k5:e.k=5
  .obtain⟨y0,y1,y2,hy⟩:=hif.here k5;have hh:twK e [y0,y2,y1]=y4 e x:=by simp only[y4,if_neg k0,if_neg k1,if_neg k4,if_pos k5,hy]
   have ht:=zero _ hh;simp[zG,k5,hy,zL];exact⟨_,_,mw [0,1] 0 (by rfl) (by simp[zG,twK,Exp.zero,Id.zero,Typ.zero,k5,hy,zL]),ht⟩
  .have hh:e=y4 e x:=by simp only[y4,if_neg k0,if_neg k1,if_neg k4,if_neg k5]
   have ht:=zero _ hh;simp[zG,k0,k1,k4,k5];exact⟨_,_,mw [0,1] 0 (by rfl) (by simp[zG,twN,Exp.zero,Id.zero,Typ.zero,k0,k1,k4,k5]),ht⟩
 .rw[if_neg h0];have ht:=zOP e a x hk ha ha2 (fun _ k hk' b hb hb2=>ih k hk' b x hb hb2);simp[zG,h0];exact⟨_,_,mw [0,1] 0 (by rfl) (by simp[zG,Exp.zero,Id.zero,Typ.zero]),ht⟩
mutual
theorem zLI:∀(e:Exp),zIy e->(tmps e).length<=1000000->∀a x,0<=a->a<=1000000000->my twF [.agg (zG e),int a,int x] [] (twR (aC e a x)) []
 | .mk i k n r t ks ns,hif,hle=>zN4 _ hif hle fun y hy=>zIu ks y hy (hif.kid hy) ((zG0 hle).2 y hy)
theorem zIu:∀(l:wH),∀e∈l,zIy e->(tmps e).length<=1000000->∀a x,0<=a->a<=1000000000->my twF [.agg (zG e),int a,int x] [] (twR (aC e a x)) []
 |[],e,he=>by simp at he
 |y::l,e,he=>by
  rcases jA1.1 he with h|h
  .rw[h];exact zLI y
  .exact zIu l e h
end
mutual
theorem zFQ:∀(e:Exp),(tmps e).length<=1000000000->my 114 [.agg (zG e)] [] (int (tmps e).length) []
 | .mk a b c d t l ns,hle=>by
  have ih:=zEh l;generalize ha:Exp.mk a b c d t l ns=e at hle;have hal:e.kids=l:=by rw[<-ha];rfl
  rw[<-hal]at ih;rw[bL,jA4,jAn]at hle;refine mq [] [.slot 2] func114 (by kernel_rfl) ?_
  (conv in kq _ _=>cbv)
  simp[zG];refine qI (S:=Nat) (fun i=>[(1,.ptr 0 0),(3,int ((jJ (e.kids.take i)).length+1:Nat)),(4,int i)]) (fun _=>[.box (zG e)]) (fun i=>i<=e.kids.length) (fun i=>e.kids.length-i) 0 (by simp)
   (mw [0] 0 (by rfl) (by simp[zG,jJ])) ?_
  intro i hi;by_cases h:i<e.kids.length
  .have hle2:(tmps e.kids[i]).length<=1000000000:=by have:=xI (jA0 h);omega
   have h3:=mH (l:=e.kids) (i+1);rw[y6 h,jA4]at h3;simp[zG,h,yB h];intro hl;refine mu (ih e.kids[i] (jA0 h) hle2) (by simp[zG]) ?_;have hw:IntKind.i64.wrap ((((jJ (e.kids.take i)).length:Int)+1)+((tmps e.kids[i]).length:Int))=((jJ (e.kids.take i)).length:Int)+1+(tmps e.kids[i]).length:=IntWalk.i64_in _ (by omega);simp[hw];exact zO (i+1) h (by omega) (kf [0] 0 (by rfl) (by simp[zG]) (by simp[zZ h hl,y6 h];omega))
  .have hie:i=e.kids.length:=by omega
   subst hie;simp[zG]
   first|exact fun _=>zB 0 (by simp[bL])|exact zB 0 (by simp[bL])
theorem zEh:∀(l:wH),∀x∈l,(tmps x).length<=1000000000->my 114 [.agg (zG x)] [] (int (tmps x).length) []
 |[],x,hx=>by simp at hx
 |z::l,x,hx=>by
  rcases jA1.1 hx with e|hx
  .rw[e];exact zFQ z
  .exact zEh l x hx
end
mutual
def zVu(s:ByteArray):Exp->Exp
 | .mk i k n r t ks ns=>.mk i k n r t (qG9 s ks) (ns.map fun _=>s)
def qG9(s:ByteArray):List Exp->wH
 |[]=>[]
 |e::l=>zVu s e::qG9 s l
end
theorem pE{s:ByteArray}{l:List ByteArray}:yJ (s::l)=.lit (.string s)::yJ l:=rfl
theorem zAs(l:wC)(at_ most:Int)(n:Nat)(one:Typ):(tyL l at_ most n one).length=n:=by simp[tyL]
theorem zG9(l:wC)(at_ most:Int){n i:Nat}(h:i<n)(one:Typ):(tyL l at_ most n one).take (i+1)=(tyL l at_ most n one).take i++[i8 (atV l (at_+i) most) one one]:=by
 have hi:i<(tyL l at_ most n one).length:=by rw[zAs];exact h
 rw[jA7 hi]
 congr 2
 simp[tyL]
theorem xL(l:wC)(at_ most:Int){n i:Nat}(h:i<=n)(one:Typ):((tyL l at_ most n one).take i).length=i:=by rw[jAv,zAs];omega
theorem zJ6(l:wC)(at_ most:Int)(n:Nat)(one:Typ):(tyL l at_ most n one).take n=tyL l at_ most n one:=jAl (by rw[zAs];exact jA _)
theorem qHg(l:wC)(mods:Int)(hm:1<=mods)(hm2:mods<=2)(hl:∀x∈l,w64 x=x) :
 wpK prog 0 zRd (zM3 (qD l mods)) (jO [(0,.sl l.length (aQ l)),(1,int mods),(5,bl (rD l)),(6,.ptr 0 0),(7,.ptr 1 0),(8,.sl (dZ l mods).types.length (jM (dZ l mods).types)),(10,.row 2 1)])
  [.box (zF (qU mods)),.box (zF (eH mods)),.row false 95 11 1 (dX (dM l mods))]:=by
 have w1:=qF (mods-1) (by omega);have w2:=qF (mods+2) (by omega);have h0:=eZ l 9 3 (by omega);obtain⟨r0,r0'⟩:=yZ (i:=9) hl (most:=3) (by omega);obtain⟨N,hN⟩:∃N:Nat,(N:Int)=atV l 9 3:=⟨(atV l 9 3).toNat,by omega⟩;unfold zRd;cases hh:rD l
 .have hA:=zX6 l mods hm hm2 hl [dM l mods,dZ l mods] (by simp);have hpl:[dM l mods,dZ l mods]++plB l mods=qD l mods:=by simp[qD,hh]
  rw[hpl,hh]at hA;simp[w1];refine⟨by simp[maxLen],?_⟩;refine⟨_,_,kf [0,1,3,2] 0 (by rfl) ?_ (by simp),hA⟩;simp[zF,iE,dX,dZ,jT,Id.zero,m8,hh,pE]
 .have hA:=zX6 l mods hm hm2 hl [dM l mods,dZ l mods,i6 l mods,zDp mods] (by simp);have hpl:[dM l mods,dZ l mods,i6 l mods,zDp mods]++plB l mods=qD l mods:=by simp[qD,hh]
  rw[hpl,hh]at hA;simp[w1];refine⟨by simp[maxLen],?_⟩;refine qI (S:=Nat) (fun i=>[(0,.sl l.length (aQ l)),(1,int mods),(5,bl true),(6,.ptr 0 0),(7,.ptr 1 0),(8,.row 4 (1+i)),(10,.row 2 2),(12,int (mods-1)),(13,.ptr 3 0),(14,int i)])
   (fun i=>[.box (zF (qU mods)),.box (zF (eH mods)),.row false 95 11 2 (dX (dM l mods)++dX (dZ l mods)),.box (zF (qU mods)),.row false 36 5 (1+i) (zF jT++jM ((tyL l 10 4 N (qU mods)).take i))]) (fun i=>i<=N) (fun i=>N-i) 0 (by simp)
   (mw [0,1,2,3,4] 0 (by rfl) (by simp[zF,dX,dZ,jT,Id.zero,pE])) ?_
  intro i hi;by_cases h:i<N
  .have h1:=eZ l (10+i) 4 (by omega);have h2:=iK l (10+i) 4 (by omega) hl (by omega) (qU mods) (qU mods);have hlt:(i:Int)<atV l 9 3:=by omega
   have v1:=qF (10+(i:Int)) (by omega);have v2:=yK i (by omega);have hst:=zG9 l 10 4 h (qU mods);have hsl:=xL l 10 4 hi (qU mods);simp;refine mu h0 (by simp) ?_;simp[hlt,v1];refine qC h1 (by simp) (by simp) ?_;simp[zF];refine qC h2 (by simp[zF]) (by simp) ?_;simp[zF];refine⟨⟨by simp[maxLen];omega,by omega⟩,?_⟩;exact zO (i+1) h (by omega) (kf [0,1,2,3,4] 0 (by rfl) (by rw[hst];simp[zF,p9,qX,hsl];omega) (by simp[v2];omega))
  .have hie:i=N:=by omega
   subst hie;have h3:=uL (mods+2);have h4:=zHW (idR (mods+2));have hall:=zJ6 l 10 4 i (qU mods);have hty:(i6 l mods).types=jT::tyL l 10 4 i (qU mods):=by rw[hN];rfl
   have hlen:=zAs l 10 4 i (qU mods);simp;refine mu h0 (by simp) ?_;simp[hN];refine⟨jO [(0,.sl l.length (aQ l)),(1,int mods),(5,bl true),(6,.ptr 0 0),(7,.ptr 1 0),(8,.sl (i6 l mods).types.length (jM (i6 l mods).types)),(10,.row 2 2),(12,int (mods-1)),(13,.ptr 3 0)],[.box (zF (qU mods)),.box (zF (eH mods)),.row false 95 11 2 (dX (dM l mods)++dX (dZ l mods)),.box (zF (qU mods))],
    kf [0,1,2,3] 1 (by rfl) (by simp) (by rw[hty];simp[<-hN,hall,hlen,qX];omega),?_⟩
   simp[w2];refine mu h3 (by simp) ?_;simp;refine mu h4 (by simp[zS]) ?_;simp[zF];refine⟨by simp[maxLen],?_⟩;refine qC zFF (by simp[zF,jT,Id.zero]) (by simp) ?_;simp[zF];refine⟨by simp[maxLen],?_⟩;refine⟨_,_,kf [0,1,3,2] 0 (by rfl) ?_ (by simp),hA⟩;simp[zF,iE,dX,zDp,i6,qX,jT,Id.zero,m8,hh,pE]
theorem qHf(l:wC)(mods:Int)(hm:1<=mods)(hm2:mods<=2)(hl:∀x∈l,w64 x=x) :
 wpK prog 0 zRc (zM3 (qD l mods)) (jO [(0,.sl l.length (aQ l)),(1,int mods),(5,bl (rD l)),(6,.ptr 0 0),(7,.ptr 1 0),(8,.sl (dM l mods).types.length (jM (dM l mods).types))])
  [.box (zF (qU mods)),.box (zF (eH mods))]:=by
 have h0:=eZ l 6 2 (by omega);obtain⟨r0,r0'⟩:=yZ (i:=6) hl (most:=2) (by omega);obtain⟨N,hN⟩:∃N:Nat,(N:Int)=1+atV l 6 2:=⟨(1+atV l 6 2).toNat,by omega⟩;have wN:IntKind.i64.wrap (1+atV l 6 2)=N:=by rw[hN];exact IntWalk.i64_in _ (by omega)
 have hQ:=qHg l mods hm hm2 hl;unfold zRc;simp;refine qI (S:=Nat) (fun i=>[(0,.sl l.length (aQ l)),(1,int mods),(5,bl (rD l)),(6,.ptr 0 0),(7,.ptr 1 0),(8,.row 3 (1+i)),(10,.row 2 1),(11,int i)])
  (fun i=>[.box (zF (qU mods)),.box (zF (eH mods)),.row false 95 11 1 (dX (dM l mods)),.row false 36 5 (1+i) (zF jT++jM ((tyL l 7 4 N (qU mods)).take i))]) (fun i=>i<=N) (fun i=>N-i) 0 (by simp)
  (mw [0,1,2,3] 0 (by rfl) (by simp[zF,dX,dM,jT,Id.zero,pE])) ?_
 intro i hi;by_cases h:i<N
 .have h1:=eZ l (7+i) 4 (by omega);have h2:=iK l (7+i) 4 (by omega) hl (by omega) (qU mods) (qU mods);have v1:=qF (7+(i:Int)) (by omega);have v2:=yK i (by omega);have hst:=zG9 l 7 4 h (qU mods);have hsl:=xL l 7 4 hi (qU mods);simp;refine mu h0 (by simp) ?_;simp[h,v1,wN];refine qC h1 (by simp) (by simp) ?_;simp[zF];refine qC h2 (by simp[zF]) (by simp) ?_;simp[zF];refine⟨⟨by simp[maxLen];omega,by omega⟩,?_⟩;exact zO (i+1) h (by omega) (kf [0,1,2,3] 0 (by rfl) (by rw[hst];simp[zF,p9,qX,hsl];omega) (by simp[v2];omega))
 .have hie:i=N:=by omega
  subst hie;have hall:=zJ6 l 7 4 i (qU mods);have hty:(dZ l mods).types=jT::tyL l 7 4 i (qU mods):=by rw[hN];rfl
  have hlen:=zAs l 7 4 i (qU mods);simp;refine mu h0 (by simp) ?_;simp[wN];exact⟨_,_,kf [0,1,2] 1 (by rfl) (by simp) (by rw[hty];simp[hall,hlen,qX];omega),hQ⟩
theorem zTg(l:wC)(mods:Int)(hm:1<=mods)(hm2:mods<=2)(hl:∀x∈l,w64 x=x) :
 my 36 [.sl l.length (aQ l),int mods] [] (.sl (qD l mods).length (y8 (qD l mods))) []:=by
 have w1:=qF (mods+1) (by omega);have k0:=eZ l 1 4 (by omega);have k1:=uL mods;have k2:=zHW (idR mods);have k3:=uL (mods+1);have k4:=zHW (idR (mods+1));have h0:=eZ l 2 3 (by omega);obtain⟨r0,r0'⟩:=yZ (i:=2) hl (most:=3) (by omega);obtain⟨N,hN⟩:∃N:Nat,(N:Int)=1+atV l 2 3:=⟨(1+atV l 2 3).toNat,by omega⟩;have wN:IntKind.i64.wrap (1+atV l 2 3)=N:=by rw[hN];exact IntWalk.i64_in _ (by omega)
 have hP:=qHf l mods hm hm2 hl;refine zK func36 rfl qLy (rs:=[.slot 4]) (by kernel_rfl) ?_;unfold qDn;simp;refine mu k0 (by simp) ?_;simp;refine mu k1 (by simp) ?_;simp;refine mu k2 (by simp[zS]) ?_;simp[zF,w1];refine mu k3 (by simp) ?_;simp;refine mu k4 (by simp[zS]) ?_;simp[zF];refine qI (S:=Nat) (fun i=>[(0,.sl l.length (aQ l)),(1,int mods),(5,bl (rD l)),(6,.ptr 0 0),(7,.ptr 1 0),(8,.row 2 i),(9,int i)])
  (fun i=>[.box (zF (qU mods)),.box (zF (eH mods)),.row false 36 5 i (jM ((tyL l 3 3 N (qU mods)).take i))]) (fun i=>i<=N) (fun i=>N-i) 0 (by simp)
  ((jS (t:=8) (by simp) 36 5).trans (mw [0,1,2] 0 (by rfl) (by simp[zF,qU,eH,rD]))) ?_
 intro i hi;by_cases h:i<N
 .have h1:=eZ l (3+i) 3 (by omega);have h2:=iK l (3+i) 3 (by omega) hl (by omega) (qU mods) (qU mods);have v1:=qF (3+(i:Int)) (by omega);have v2:=yK i (by omega);have hst:=zG9 l 3 3 h (qU mods);have hsl:=xL l 3 3 hi (qU mods);simp;refine mu h0 (by simp) ?_;simp[h,v1,wN];refine qC h1 (by simp) (by simp) ?_;simp[zF];refine qC h2 (by simp[zF]) (by simp) ?_;simp[zF];refine⟨⟨by simp[maxLen];omega,by omega⟩,?_⟩;exact zO (i+1) h (by omega) (kf [0,1,2] 0 (by rfl) (by rw[hst];simp[zF,p9,qX,hsl]) (by simp[v2]))
 .have hie:i=N:=by omega
  subst hie;have hall:=zJ6 l 3 3 i (qU mods);have hty:(dM l mods).types=tyL l 3 3 i (qU mods):=by rw[hN];rfl
  have hlen:=zAs l 3 3 i (qU mods);simp;refine mu h0 (by simp) ?_;simp[wN];exact⟨_,_,kf [0,1] 1 (by rfl) (by simp) (by rw[hty];simp[hall,hlen]),hP⟩
end Go.Proofs.YtolkhapmieigcaaGreatDoor
