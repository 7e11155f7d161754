/- The maker's literals of variants and records; all literals. -/
import Derived.Test.YtolkhapmieigcaaGreatDoorX12
set_option linter.unusedVariables false
set_option maxHeartbeats 8000000
set_option maxRecDepth 100000
set_option linter.unusedSimpArgs false
open Go.Proofs.Tryz
namespace Go.Proofs.YtolkhapmieigcaaGreatDoor
open Go.Abs
theorem zEC{U τ:St}(hk:cL U τ){j:Nat}{o:AObj}(h : U[j]?=some o)(hn:o≠AObj.rsv):j9 τ [j] [o] = τ:=by
 have h1:=hk j o h hn;have hlt:j < τ.length:=by
  by_cases hl:j < τ.length
  .exact hl
  .rw[jBe (by omega)]at h1;cases h1
 rw[jA2 hlt]at h1;simp only[j9];injection h1 with h1
 rw[<-h1,jAs];exact List.set_getElem_self hlt
variable{hs:wQ}{m:Mk}{env:wJ}{c:Int}
theorem bW.mono{own:Int}{f:FuncId}{args:wF}{t:Typ}{c':Int}(h:bW hs own f m args env t c)(hc:c<=c'):bW hs own f m args env t c':=by obtain⟨e,m',h1,h2,h3,h4,h5⟩:=h;exact⟨e,m',h1,h2.mono hc,h3,h4,h5⟩
variable{depth:Int}{Q:Nat->Prop}{r:Nat}
theorem zQS{R:Nat}{len:Nat}(hk:dG hs R c depth Q len)(hc:0<=c)(envs:Nat->wJ)(t:Typ)(hr:TyOk hs r t)(hQ:Q r)
 (m:Mk)(hx:Cx hs R m)(he:∀j,EnvOk hs R m.temp (envs j))(h1:∀j,0<(envs j).length)(h2:∀j,(envs j).length<=len):∀(k:Nat),Lim m (k*(c+1)) ->
  ∃(es:wH) (ns:List ByteArray) (ms:Nat->Mk),es.length=k/\ns.length=k/\ms 0=m/\(∀j≤k,Adv m (ms j) (j*(c+1)))/\Seg m.temp (ms k).temp (jG es) /\
   ∀(j:Nat) (hj:j<es.length) (hj':j<ns.length),∃mm:Mk,my aX [.ptr 0 0,.agg (zB t),.sl (envs j).length (zU (envs j)),int depth] (mkS (ms j)) (.agg (zH es[j])) (mkS mm) /\
    my 90 [.ptr 0 0] (mkS mm) (.lit (.string ns[j])) (mkS (ms (j+1)))/\WT hs m.own (envs j) es[j] t/\es[j].num0:=by
 intro k;induction k with
 |zero =>
  intro hl;refine⟨[],[],fun _=>m,rfl,rfl,rfl,fun j hj=>?_,Seg.nil,fun j hj=>by simp at hj⟩;have:j=0:=by simpa using hj
  subst this;exact(Adv.zero m).mono (by simp)
 |succ k ih =>
  intro hl;have e1:(((k+1:Nat):Int))*(c+1)=k*(c+1)+(c+1):=by rw[jD8,Int.add_mul];simp
  rw[e1]at hl;obtain⟨es,ns,ms,q0,q1,q2,q3,q4,q5⟩:=ih (hl.mono (by omega));have a1:=q3 k (jA _);have hl1:=Lim.adv (c:=k*(c+1)) (c':=c+1) hl a1;obtain⟨e,mm,g1,g2,g3,g4,g5⟩:=hk (ms k) r t (envs k) (hx.adv a1) (hl1.mono (by omega)) hr hQ ((he k).mono a1.temp1) (h1 k) (h2 k);have hl2:=Lim.adv (c:=c) (c':=1) hl1 g2;obtain⟨s,hs⟩:=zDr mm hl2.name1 (by have:=hl2.name2;omega);have a2:=g2.trans (zAy mm);refine⟨es++[e],ns++[s],fun j=>if j<=k then ms j else {mm with name:=mm.name+1},by simp[q0],by simp[q1],by simp[q2],fun j hj=>?_,?_,fun j hj hj'=>?_⟩
  .by_cases hle:j<=k
   .simp only[hle,if_true];exact q3 j hle
   .have:j=k+1:=by omega
    subst this;simp only[show ¬(k+1<=k) by omega,if_false];rw[e1];exact a1.trans a2
  .rw[nC];simp only[show ¬(k+1<=k) by omega,if_false];exact q4.append g4 a1.temp1 g2.temp1
  .simp only[jA4,jAn,q0]at hj;by_cases hlt:j<k
   .have hjes:j<es.length:=by omega
    have hjns:j<ns.length:=by omega
    rw[jCu hjes,jCu hjns];simp only[show j<=k by omega,if_true,show j+1<=k by omega];exact q5 j hjes hjns
   .have:j=k:=by omega
    subst this;rw[jCk (by omega),jCk (by omega)];simp only[jA,if_true,show ¬(j+1<=j) by omega,if_false,jBw,q0,q1,jDj];rw[a1.own]at g3;exact⟨mm,g1,hs,g3,g5⟩
theorem zQY{R:Nat}{len:Nat}(hc:0<=c)(hl:Lim m (c+1))(x:Int)(hx0:0<=x)(hx1:x<=65536)(k:Nat)(h:k<hs.length)(h1:∀(j:Nat)(hj:j<k),hs[j].id≠hs[k].id)
 (h2:hs[k].kind=1)(h3:0<hs[k].slots.length)(h3':hs[k].slots.length<=6)(h4:∀s∈hs[k].slots,TyOk hs r s.typ)(hQ:Q r)
 (hk:dG hs R c (depth-1) Q len)(hx:Cx hs R m)(he:EnvOk hs R m.temp env)(h5:0<env.length)(h6:env.length<=len)(hd1 : -1000<=depth)(hd2:depth<=1000) :
 bW hs m.own zHz m [.ptr 0 0,.agg (zB (dP hs[k].id)),.sl env.length (zU env),int x,int depth] env (dP hs[k].id) (c+1):=by
 obtain⟨hm,hdv,hhd⟩:=zUS hx h h1;generalize hD:m.defs[k]=D at hdv hhd;have eid:D.id=hs[k].id:=by rw[<-hhd];rfl
 have eslots:D.slots=hs[k].slots:=by rw[<-hhd];rfl
 have ekind:D.kind=1:=by rw[<-h2,<-hhd];rfl
 have hdl:=hx.dlen;have hd100:=hx.len;have wd:=z8 (depth-1) (by omega);obtain⟨j,hj,hj1⟩:∃j:Nat,j<D.slots.length/\(j:Int)=if depth<0 then 0 else x.tmod D.slots.length:=by
  rw[eslots];by_cases hd:depth<0
  .exact⟨0,h3,by rw[if_pos hd];rfl⟩
  .refine⟨(x % hs[k].slots.length).toNat,?_,?_⟩
   .have:=jDa x (b:=(hs[k].slots.length:Int)) (by omega);have:=jD1 x (b:=(hs[k].slots.length:Int)) (by omega);omega
   .rw[if_neg hd,tmN hx0];have:=jD1 x (b:=(hs[k].slots.length:Int)) (by omega);omega
 have hjs:j<hs[k].slots.length:=by rw[<-eslots];exact hj
 have hty:D.slots[j].typ=hs[k].slots[j].typ:=by simp only[eslots]
 obtain⟨e,m',g1,g2,g3,g4,g5⟩:=hk m r D.slots[j].typ env hx (hl.mono (by omega)) (by rw[hty];exact h4 _ (jA0 hjs)) hQ he h5 h6;have hln:=Lim.adv (c:=c) (c':=1) hl g2;obtain⟨l1,l2,l3,l4,l5,l6,l7,l8⟩:=hln;refine⟨.mk ⟨0,0,m'.temp⟩ 9 j hs[k].id Typ.zero [e] [],{m' with temp:=m'.temp+1,left:=m'.left-1},?_,g2.trans (yV _),.case _ _ k h j hjs e h2 (hty▸g3),by simp only[tmps,jG,jAs];exact g4.append (Seg.one _) g2.temp1 (by omega),gS (by simpa using g5)⟩;refine zJ func88 rfl zN9 (rs:=[.cell 10 15 true]) (by kernel_rfl) ?_;unfold zK2;simp[mkS,mkB,zB];refine⟨_,_,bL 1,?_⟩;simp[mkS,mkB,zB,List.replicate];refine zM3 (zJG m.mods m.defs hs[k].id (by omega)) [1] (by decide) (by simp[zHI]) (by simp[zHI]) (by simp[zX]) (fun τ hτ=>by
  have:=zEC hτ (j:=1) (o:=.row false 42 31 m.defs.length (zV m.defs)) (by simp) (by simp)
  simpa[zHI]using this) ?_
 rw[hdv];have hnil:D.slots≠[]:=fun e=>by rw[e]at hj;simp at hj
 have hdS:List.drop (j*11+4) (qW D.slots)=(aD D.slots[j]++qW (D.slots.drop (j+1))).drop 4:=by rw[<-jAy,jN hj]
 have hbS:j*11+4+5<=D.slots.length*11:=by omega
 by_cases hd:depth<0
 .have hj0:j=0:=by rw[if_pos hd]at hj1;omega
  subst hj0;simp only[Nat.zero_mul,jAx]at hdS hbS;simp[mkS,mkB,zQ,ekind,hnil,hd,hj,hdS,hbS,aD,wd];intro _;refine mr g1 [0,1] (by simp[mkS,mkB,zB]) ?_;simp[mkS,mkB];refine mr (y5 m' 9 0 [e] l3 (by omega) (by omega) l6) [0,1] (by simp[mkS,mkB,zM]) ?_;simp[mkS,mkB,zH];exact mv [0,1] 0 (by rfl) (by simp[zH,zM,eid])
 .rw[if_neg hd]at hj1;simp[mkS,mkB,zQ,ekind,hnil,hd,<-hj1,hj,hdS,hbS,aD,wd];intro _;refine mr g1 [0,1] (by simp[mkS,mkB,zB]) ?_;simp[mkS,mkB];refine mr (y5 m' 9 j [e] l3 (by omega) (by omega) l6) [0,1] (by simp[mkS,mkB,zM]) ?_;simp[mkS,mkB,zH];exact mv [0,1] 0 (by rfl) (by simp[zH,zM,eid])
theorem zTj{R:Nat}{len:Nat}(hc:0<=c)(hl:Lim m (6*c+1))(x:Int)(k:Nat)(h:k<hs.length)(h1:∀(j:Nat)(hj:j<k),hs[j].id≠hs[k].id)
 (h2:hs[k].kind=0)(h3':hs[k].slots.length<=6)(h4:∀s∈hs[k].slots,TyOk hs r s.typ)(hQ:Q r)
 (hk:dG hs R c (depth-1) Q len)(hx:Cx hs R m)(he:EnvOk hs R m.temp env)(h5:0<env.length)(h6:env.length<=len)(hd1 : -1000<=depth)(hd2:depth<=1000) :
 bW hs m.own zHz m [.ptr 0 0,.agg (zB (dP hs[k].id)),.sl env.length (zU env),int x,int depth] env (dP hs[k].id) (6*c+1):=by
 obtain⟨hm,hdv,hhd⟩:=zUS hx h h1;generalize hD:m.defs[k]=D at hdv hhd;have eid:D.id=hs[k].id:=by rw[<-hhd];rfl
 have eslots:D.slots=hs[k].slots:=by rw[<-hhd];rfl
 have ekind:D.kind=0:=by rw[<-h2,<-hhd];rfl
 have hdl:=hx.dlen;have hd100:=hx.len;have wd:=z8 (depth-1) (by omega);have hS6:D.slots.length<=6:=by rw[eslots];exact h3'
 have hsc:((D.slots.length:Int))*c<=6*c:=jD9 (by omega) hc;obtain⟨es,ms,q1,q2,q3,q4,q5⟩:=zMF hk hc env h5 h6 (D.slots.map (·.typ)) m hx (hl.mono (by rw[jAa];omega)) (fun t ht=>by obtain⟨s,hs',rfl⟩:=jAf.1 ht;exact⟨r,h4 s (eslots▸hs'),hQ⟩) he
 rw[jAa]at q1 q3 q4;have ha:=(q3 D.slots.length (jA _)).mono hsc;obtain⟨l1,l2,l3,l4,l5,l6,l7,l8⟩:=Lim.adv (c:=6*c) (c':=1) hl ha;refine⟨.mk ⟨0,0,(ms es.length).temp⟩ 7 0 hs[k].id Typ.zero es [],{ms es.length with temp:=(ms es.length).temp+1,left:=(ms es.length).left-1},?_,q1▸ha.trans (yV _),.record _ _ k h es h2 (by rw[<-eslots,q1]) fun j hj=>?_,
  by simp only[tmps];rw[q1];exact q4.append (Seg.one _) ha.temp1 (by omega),gS (zBc rfl fun j hj=>(q5 j hj (by rw[jAa];omega)).2.2)⟩
 .rw[<-eid]at hdv ⊢;refine zJ func88 rfl zN9 (rs:=[.cell 10 15 true]) (by kernel_rfl) ?_;unfold zK2;simp[mkS,mkB,zB];refine⟨_,_,bL 1,?_⟩;simp[mkS,mkB,zB,List.replicate];refine zM3 (zJG m.mods m.defs D.id (by omega)) [1] (by decide) (by simp[zHI]) (by simp[zHI]) (by simp[zX]) (fun τ hτ=>by
   have:=zEC hτ (j:=1) (o:=.row false 42 31 m.defs.length (zV m.defs)) (by simp) (by simp)
   simpa[zHI]using this) ?_
  rw[hdv];simp[mkS,mkB,zQ,ekind];refine qH (S:=Nat) (fun i=>[(0,.ptr 0 0),(2,.sl env.length (zU env)),(4,int depth),(6,.ptr 2 0),(10,.ptr 3 0),(15,.ptr 4 0),(20,.row 5 i),(21,int i)])
   (fun i=>mkS (ms i)++[.box (zB (dP D.id)),.box (zH Exp.zero),.box (zQ D),.row false 40 15 i (qS (es.take i))]) (fun i=>i<=es.length) (fun i=>es.length-i) 0 (by simp)
   ((jS (t:=20) (by simp) 40 15).trans (mw [0,1,2,3,4,5] 0 (by rfl) (by simp[mkS,mkB,zB,dP,q2,zH,Exp.zero,Id.zero,Typ.zero,zQ,ekind]))) ?_
  intro i hi;have hms:=q3 i (by omega);by_cases hi2:i<es.length
  .have hid:i<D.slots.length:=by omega
   obtain⟨g1,_,_⟩:=q5 i hi2 (by rw[jAa];omega);rw[jB5]at g1;have hst:qS (es.take (i+1))=qS (es.take i)++zH es[i]:=aR hi2;have hw:=yU i (by omega);have hdS:List.drop (i*11+4) (qW D.slots)=(aD D.slots[i]++qW (D.slots.drop (i+1))).drop 4:=by rw[<-jAy,jN hid]
   have hbS:i*11+4+5<=D.slots.length*11:=by omega
   simp[mkS,mkB,zQ,hid,hdS,hbS,aD,wd];intro _;refine mr g1 [0,1] (by simp[mkS,mkB,zB]) ?_;simp[mkS,mkB];refine⟨⟨by simp[maxLen];omega,by omega⟩,?_⟩;exact zN (i+1) hi2 (by omega) (mw [0,1,2,3,4,5] 0 (by rfl) (by simp[mkS,mkB,zB,dP,zH,Exp.zero,Id.zero,Typ.zero,hst,zQ,hw]))
  .have hie:i=es.length:=by omega
   subst hie;have hid:¬es.length<D.slots.length:=by omega
   rw[<-q1]at l3 l4 l5 l6;simp[mkS,mkB,zQ,hid];intro _;refine⟨jR [(0,.ptr 0 0),(10,.ptr 3 0),(15,.ptr 4 0),(20,.sl es.length (qS es))],mkS (ms es.length)++[.box (zB (dP D.id)),.box (zH Exp.zero),.box (zQ D)],mw [0,1,2,3,4] 1 (by rfl) (by simp[mkS,mkB,zB,dP,zH,Exp.zero,Id.zero,Typ.zero,zQ]),?_⟩;simp[mkS,mkB];refine mr (y5 (ms es.length) 7 0 es l3 (by omega) (by omega) l6) [0,1] (by simp[mkS,mkB]) ?_;simp[mkS,mkB,zH,zQ];exact mv [0,1] 0 (by rfl) (by simp[zH])
 .have:=(q5 j hj (by rw[jAa];omega)).2.1;rw[jB5]at this
  simpa only[eslots]using this
theorem zRa{R:Nat}{len:Nat}(hc:0<=c)(hl:Lim m (6*c+1))(x:Int)(hx0:0<=x)(hx1:x<=65536)(t:Typ)(hr:TyOk hs r t)(hQ:∀r'<r,Q r')
 (hk:dG hs R c (depth-1) Q len)(hx:Cx hs R m)(he:EnvOk hs R m.temp env)(h5:0<env.length)(h6:env.length<=len)(hd1 : -1000<=depth)(hd2:depth<=1000) :
 bW hs m.own zHz m [.ptr 0 0,.agg (zB t),.sl env.length (zU env),int x,int depth] env t (6*c+1):=by
 cases hr with
 |int r=>exact(zTi (R:=R) (hl.mono (by omega)) x depth hx0 hx1).mono (by omega)
 |bool r=>exact(zQX (hl.mono (by omega)) x depth hx0).mono (by omega)
 |list r t h=>exact(zQZ hc (hl.mono (by omega)) x hx0 t h (hQ r (by omega)) hk hx he h5 h6 hd1 hd2).mono (by omega)
 |dfn r k h h1 h2 h3 h4 =>
  rcases h2 with h2|⟨h2,h2'⟩
  .exact zTj hc hl x k h h1 h2 h3 h4 (hQ r (by omega)) hk hx he h5 h6 hd1 hd2
  .exact(zQY hc (hl.mono (by omega)) x hx0 hx1 k h h1 h2 h2' h3 h4 (hQ r (by omega)) hk hx he h5 h6 hd1 hd2).mono (by omega)
def zDy:K:=G [kO 6 1,kZ 10 kz1] (Z (G [D 16 6 0,L 17 16 1,kQi 18 17 0 false] (Y 18 (Z (G [M 19 3,kBi 20 19 6 .rem,kQi 21 20 5 false] (Y 21 (G [M 22 0,M 23 0,kb 24 kz2 [],kC 25 83 [(kt 24)],M 26 2,M 27 4,kBi 28 27 1 .sub,kC 29 37 [(kt 23),(kt 25),(kt 26),(kt 28)],kd 30 40 15 1 kz1 [(0,15,(kt 29))],kC 31 89 [(kt 22),(kc 4),(kc 11),(kt 30)],S 10 31 15] kr) ks)) (G [M 32 0,J 33 6 5,M 34 2,M 35 4,kBi 36 35 1 .sub,kC 37 37 [(kt 32),(kt 33),(kt 34),(kt 36)],kZ 11 kz1,S 11 37 15] (Z (K.dops [(0,0,M 38 0),(1,0,kd 39 3 1 5 [ki,ki,ki,ki,ki] [(0,1,(kc 0)),(1,1,(kc 1)),(2,1,(kc 2)),(3,1,(kc 3)),(4,1,(kc 4))]),(2,0,M 40 3),(3,0,kBi 41 40 5 .rem),(4,2,kX 42 39 41 1),(5,2,L 43 42 1),(6,2002,J 44 11 15),(7,0,M 45 0),(8,0,J 46 6 5),(9,0,M 47 2),(10,0,M 48 4),(11,0,kBi 49 48 1 .sub),(12,1002,kC 50 37 [(kt 45),(kt 46),(kt 47),(kt 49)]),(13,0,kd 51 40 15 2 kz6 [(0,15,(kt 44)),(15,15,(kt 50))]),(14,4,kC 52 89 [(kt 38),(kc 4),(kt 43),(kt 51)]),(15,0,S 10 52 15)]) kr))) ks)) (Z (G [D 53 6 0,L 54 53 1,kQi 55 54 1 false] (Y 55 (Z (G [M 56 3,kBi 57 56 6 .rem,kQi 58 57 0 false] (Y 58 (G [M 59 0,M 60 0,J 61 6 5,M 62 2,M 63 4,kBi 64 63 1 .sub,kC 65 37 [(kt 60),(kt 61),(kt 62),(kt 64)],kd 66 40 15 1 kz1 [(0,15,(kt 65))],kC 67 89 [(kt 59),(kc 4),(kc 9),(kt 66)],S 10 67 15] kr) ks)) (G [kb 68 kz2 [],kZ 12 kz2,S 12 68 5] (G [kMi 13 5] (Z (G [M 69 3,kBi 70 69 6 .rem,kQi 71 70 2 false] (Y 71 (K.ops [kMi 13 6]) ks)) (Z (G [M 72 3,kBi 73 72 6 .rem,kQi 74 73 3 false] (Y 74 (G [kMi 13 6] (K.ops [M 75 2,
 M 76 3,kBi 77 76 6 .quo,M 78 2,kN 79 78,kB 80 77 79 .rem,kX 81 75 80 9,D 82 81 4,J 83 82 5,S 12 83 5])) ks)) (Z (G [M 84 3,kBi 85 84 6 .rem,kBi 86 85 4 .geq] (Y 86 (G [kd 87 3 1 2 [ki,ki] [(0,1,(kc 7)),(1,1,(kc 8))],M 88 3,kBi 89 88 6 .rem,kBi 90 89 4 .sub,kX 91 87 90 1,L 92 91 1,M 13 92] (K.ops [J 93 6 5,S 12 93 5])) ks)) (G [M 94 0,J 95 12 5,M 96 2,M 97 4,kBi 98 97 1 .sub,kC 99 37 [(kt 94),(kt 95),(kt 96),(kt 98)],kZ 14 kz1,S 14 99 15] (Z (K.dops [(0,0,M 100 0),(1,0,M 101 13),(2,2002,J 102 14 15),(3,0,M 103 0),(4,0,J 104 12 5),(5,0,M 105 2),(6,0,M 106 4),(7,0,kBi 107 106 1 .sub),(8,1002,kC 108 37 [(kt 103),(kt 104),(kt 105),(kt 107)]),(9,0,kd 109 40 15 2 kz6 [(0,15,(kt 102)),(15,15,(kt 108))]),(10,4,kC 110 89 [(kt 100),(kc 4),(kt 101),(kt 109)]),(11,0,S 10 110 15)]) kr)))))))) ks)) (Z (G [D 111 6 0,L 112 111 1,kQi 113 112 2 false,M 114 113,T 114 true (M 115 3),T 114 true (kBi 116 115 2 .rem),T 114 true (kQi 117 116 0 false),kPf 118 114 117] (Y 118 (G [M 119 0,J 120 6 5,M 121 2,M 122 4,kBi 123 122 1 .sub,kC 124 37 [(kt 119),(kt 120),(kt 121),(kt 123)],kZ 15 kz1,S 15 124 15] (Z (K.dops [(0,0,M 125 0),(1,2002,J 126 15 15),(2,0,M 127 0),(3,0,J 128 6 5),(4,0,M 129 2),(5,0,M 130 4),(6,0,kBi 131 130 1 .sub),(7,1002,kC 132 37 [(kt 127),(kt 128),(kt 129),(kt 131)]),(8,0,kd 133 40 15 2 kz6 [(0,15,(kt 126)),(15,15,(kt 132))]),(9,4,kC 134 89 [(kt 125),(kc 4),(kc 10),(kt 133)]),(10,0,S 10 134 15)]) kr)) ks)) (G [M 135 0,J 136 6 5,M 137 2,M 138 3,kBi 139 138 2 .quo,
 M 140 4,kC 141 88 [(kt 135),(kt 136),(kt 137),(kt 139),(kt 140)],S 10 141 15] kr))))
def qKO:Nat->Option wE:=fun|5=>k_ [0,0,0,0,2,2,2002,0,0,0,0,0,1002,0,4,0] | 20=>k_ [0,0,2002,0,0,0,0,0,1002,0,4,0] | 23=>k_ [0,2002,0,0,0,0,0,1002,0,4,0]|_=>none
theorem zFu:kx f95 qKO zDy:=mz (by kernel_rfl)
variable{x:Operand}
@[simp]theorem qEF{d:wD}{n:Nat}{g:Bool}{env:Env}:cJ 2002 (.ld d x n g) env=eG 2 (ev env x):=propext (zBr (by omega) (by omega))
@[simp]theorem zXP{d:wD}{l:List Operand}{env:Env}:cJ 1002 (.call d x l) env=True:=rfl
@[simp]theorem zUW{c l o:Nat}:eG c (.ptr l o)=(c<=l):=rfl
abbrev opF:FuncId:=95
theorem zAo{R:Nat}{len:Nat}(hk:dG hs R c depth Q len)(hx:Cx hs R m){c':Int}(hl:Lim m (2*c+c'))(hc:0<=c)(hc':0<=c')(he:EnvOk hs R m.temp env)(h1:0<env.length)(h2:env.length<=len)
 (t u:Typ){r':Nat}(ht:TyOk hs r t)(hu:TyOk hs r' u)(hQ:Q r)(hQ':Q r') :
 ∃(a b:Exp) (m1 m2:Mk),my aX [.ptr 0 0,.agg (zB t),.sl env.length (zU env),int depth] (mkS m) (.agg (zH a)) (mkS m1) /\
  my aX [.ptr 0 0,.agg (zB u),.sl env.length (zU env),int depth] (mkS m1) (.agg (zH b)) (mkS m2) /\
  Adv m m2 (2*c)/\WT hs m.own env a t/\WT hs m.own env b u/\Seg m.temp m2.temp (tmps a++tmps b)/\a.num0/\b.num0/\Lim m2 c':=by
 obtain⟨a,m1,g1,g2,g3,g4,g5⟩:=hk m r t env hx (hl.mono (by omega)) ht hQ he h1 h2;have hl1:Lim m1 (c+c'):=Lim.adv (c:=c) (hl.mono (by omega)) g2;obtain⟨b,m2,k1,k2,k3,k4,k5⟩:=hk m1 r' u env (hx.adv g2) (hl1.mono (by omega)) hu hQ' (he.mono g2.temp1) h1 h2;rw[g2.own]at k3;exact⟨a,b,m1,m2,g1,k1,(g2.trans k2).mono (by omega),g3,k3,g4.append k4 g2.temp1 k2.temp1,g5,k5,Lim.adv hl1 k2⟩
variable{a:Exp}
theorem rX{b:Exp}{t0 t1:Int}{k n:Int}(h:Seg t0 t1 (tmps a++tmps b))(h1:t0<=t1):Seg t0 (t1+1) (tmps (.mk ⟨0,0,t1⟩ k n Id.zero Typ.zero [a,b] [])):=by simp only[tmps,jG,jAs];exact h.append (Seg.one _) h1 (by omega)
theorem mX{b:Exp}{c k n:Int}(h1:a.num0)(h2:b.num0):(Exp.mk ⟨0,0,c⟩ k n Id.zero Typ.zero [a,b] []).num0:=gS (by simp[h1,h2])
theorem zE1{c k n:Int}{r:Id}(h1:a.num0):(Exp.mk ⟨0,0,c⟩ k n r Typ.zero [a] []).num0:=gS (by simp[h1])
theorem zHL{t0 t1:Int}{k n:Int}{r:Id}(h:Seg t0 t1 (tmps a))(h1:t0<=t1):Seg t0 (t1+1) (tmps (.mk ⟨0,0,t1⟩ k n r Typ.zero [a] [])):=by simp only[tmps,jG,jAs];exact h.append (Seg.one _) h1 (by omega)
theorem zEk:my 83 [.agg (zB jI)] [] (.agg (zB (jP jI))) []:=zTh jI
theorem zXv{R:Nat}{len:Nat}(hc:0<=c)(hl2:Lim m (2*c+1))(x:Int)(hx0:0<=x)(hx1:x<=65536)
 (hk:dG hs R c (depth-1) (fun r=>r<=R) len)(hR:1<=R)(hx:Cx hs R m)(he:EnvOk hs R m.temp env)(h1:0<env.length)(h2:env.length<=len)(h3:env.length<=1000)(hd1 : -1000<=depth)(hd2:depth<=1000) :
 bW hs m.own opF m [.ptr 0 0,.agg (zB jI),.sl env.length (zU env),int x,int depth] env jI (2*c+1):=by
 have e6:x.tmod 6=x % 6:=tmN hx0;have e5:x.tmod 5=x % 5:=tmN hx0;have wd:=z8 (depth-1) (by omega);by_cases h6:x.tmod 6=5
 .obtain⟨a,m1,g1,k2,k3,k4,k5⟩:=hk m 1 (jP jI) env hx (hl2.mono (by omega)) (.list _ _ (.int _)) hR he h1 h2;obtain⟨l1,l2,l3,l4,l5,l6,l7,l8⟩:=Lim.adv (c:=c) (c':=1) (hl2.mono (by omega)) k2;refine⟨.mk ⟨0,0,m1.temp⟩ 4 11 Id.zero Typ.zero [a] [],{m1 with temp:=m1.temp+1,left:=m1.left-1},?_,(k2.trans (yV _)).mono (by omega),.len _ _ _ _ k3,zHL k4 k2.temp1,zE1 k5⟩;refine zJ func95 rfl zFu (rs:=[.cell 10 15 true]) (by kernel_rfl) ?_;unfold zDy;simp[mkS,mkB,zB,jI,h6];refine mu zEk (by simp[zB,jI]) ?_;simp[mkS,mkB,zB,wd];refine mr g1 [0,1] (by simp[mkS,mkB,zB,jP]) ?_;simp[mkS,mkB];refine mr (y5 m1 4 11 [a] l3 (by omega) (by omega) l6) [0,1] (by simp[mkS,mkB,zM]) ?_;simp[mkS,mkB];exact mv [0,1] 0 (by rfl) (by simp[zH,zM])
 .obtain⟨a,b,m1,m2,g1,g2,k2,k3,k3',k4,k5,k6,hln⟩:=zAo (t:=jI) (u:=jI) (c':=1) hk hx hl2 hc (by omega) he h1 h2 (.int 0) (.int 0) (by omega) (by omega);obtain⟨l1,l2,l3,l4,l5,l6,l7,l8⟩:=hln;obtain⟨rest,hA⟩:∃rest,List.drop (x.tmod 5).toNat [A.lit (.int .i64 0),A.lit (.int .i64 1),A.lit (.int .i64 2),A.lit (.int .i64 3),A.lit (.int .i64 4)]=A.lit (.int .i64 (x.tmod 5))::rest:=by
   have:x.tmod 5=0\/x.tmod 5=1\/x.tmod 5=2\/x.tmod 5=3\/x.tmod 5=4:=by omega
   rcases this with e|e|e|e|e<;>rw[e]<;>exact⟨_,rfl⟩
  have a0:0<=x.tmod 5:=by omega
  have a1:(x.tmod 5).toNat<5:=by omega
  have a1':x.tmod 5<5:=by omega
  refine⟨.mk ⟨0,0,m2.temp⟩ 4 (x.tmod 5) Id.zero Typ.zero [a,b] [],{m2 with temp:=m2.temp+1,left:=m2.left-1},?_,k2.trans (yV _),.arith _ _ _ _ _ a0 (by omega) k3 k3',rX k4 k2.temp1,mX k5 k6⟩;refine zJ func95 rfl zFu (rs:=[.cell 10 15 true]) (by kernel_rfl) ?_;unfold zDy;simp[mkS,mkB,zB,jI,h6,wd];refine mr g1 [0,1] (by simp[mkS,mkB,zB]) ?_;simp[mkS,mkB,zB,hA,a0,a1,a1',wd];refine bG g2 [0,1] (by decide) (by simp[mkS,mkB]) (by simp[zB]) (by decide) (by simp) (by simp[mkS]) ?_;simp[mkS,mkB];refine cS (y5 m2 4 (x.tmod 5) [a,b] l3 (by omega) (by omega) l6) [0,1] (by decide) (by simp[mkS,mkB]) (by simp[zM]) ?_;simp[mkS,mkB,zH,zM];exact mv [0,1] 0 (by rfl) (by simp[zH,zM])
theorem zT7{R:Nat}{len:Nat}(hc:0<=c)(hl2:Lim m (2*c+1))(x:Int)(hx0:0<=x)(hx1:x<=65536)
 (hk:dG hs R c (depth-1) (fun r=>r<=R) len)(hR:1<=R)(hx:Cx hs R m)(he:EnvOk hs R m.temp env)(h1:0<env.length)(h2:env.length<=len)(h3:env.length<=1000)(hd1 : -1000<=depth)(hd2:depth<=1000) :
 bW hs m.own opF m [.ptr 0 0,.agg (zB jV),.sl env.length (zU env),int x,int depth] env jV (2*c+1):=by
 have e6:x.tmod 6=x % 6:=tmN hx0;have d6:x.tdiv 6=x / 6:=tdN hx0;have wd:=z8 (depth-1) (by omega);have w0:IntKind.i64.wrap 0=0:=IntWalk.i64_in _ (by omega);have w1:IntKind.i64.wrap 1=1:=IntWalk.i64_in _ (by omega);have:x.tmod 6=0\/x.tmod 6=1\/x.tmod 6=2\/x.tmod 6=3\/x.tmod 6=4\/x.tmod 6=5:=by omega
 rcases this with e|e|e|e|e|e
 .obtain⟨a,m1,g1,k2,k3,k4,k5⟩:=hk m 0 jV env hx (hl2.mono (by omega)) (.bool _) (by omega) he h1 h2;obtain⟨l1,l2,l3,l4,l5,l6,l7,l8⟩:=Lim.adv (c:=c) (c':=1) (hl2.mono (by omega)) k2;refine⟨.mk ⟨0,0,m1.temp⟩ 4 9 Id.zero Typ.zero [a] [],{m1 with temp:=m1.temp+1,left:=m1.left-1},?_,(k2.trans (yV _)).mono (by omega),.not _ _ _ k3,zHL k4 k2.temp1,zE1 k5⟩;refine zJ func95 rfl zFu (rs:=[.cell 10 15 true]) (by kernel_rfl) ?_;unfold zDy;simp[mkS,mkB,zB,jV,e,wd];refine mr g1 [0,1] (by simp[mkS,mkB,zB]) ?_;simp[mkS,mkB];refine mr (y5 m1 4 9 [a] l3 (by omega) (by omega) l6) [0,1] (by simp[mkS,mkB,zM]) ?_;simp[mkS,mkB];exact mv [0,1] 0 (by rfl) (by simp[zH,zM])
 .obtain⟨a,b,m1,m2,g1,g2,k2,k3,k3',k4,k5,k6,hln⟩:=zAo (t:=jI) (u:=jI) (c':=1) hk hx hl2 hc (by omega) he h1 h2 (.int 0) (.int 0) (by omega) (by omega);obtain⟨l1,l2,l3,l4,l5,l6,l7,l8⟩:=hln;refine⟨.mk ⟨0,0,m2.temp⟩ 4 5 Id.zero Typ.zero [a,b] [],{m2 with temp:=m2.temp+1,left:=m2.left-1},?_,k2.trans (yV _),.less _ _ _ _ k3 k3',rX k4 k2.temp1,mX k5 k6⟩;refine zJ func95 rfl zFu (rs:=[.cell 10 15 true]) (by kernel_rfl) ?_;unfold zDy;simp[mkS,mkB,zB,jV,e,wd];refine mr g1 [0,1] (by simp[mkS,mkB,zB]) ?_;simp[mkS,mkB,zB,wd];refine bG g2 [0,1] (by decide) (by simp[mkS,mkB]) (by simp[zB]) (by decide) (by simp) (by simp[mkS]) ?_;simp[mkS,mkB];refine cS (y5 m2 4 5 [a,b] l3 (by omega) (by omega) l6) [0,1] (by decide) (by simp[mkS,mkB]) (by simp[zM]) ?_;simp[mkS,mkB,zH,zM];exact mv [0,1] 0 (by rfl) (by simp[zH,zM])
 .obtain⟨a,b,m1,m2,g1,g2,k2,k3,k3',k4,k5,k6,hln⟩:=zAo (t:=jI) (u:=jI) (c':=1) hk hx hl2 hc (by omega) he h1 h2 (.int 0) (.int 0) (by omega) (by omega);obtain⟨l1,l2,l3,l4,l5,l6,l7,l8⟩:=hln;refine⟨.mk ⟨0,0,m2.temp⟩ 4 6 Id.zero Typ.zero [a,b] [],{m2 with temp:=m2.temp+1,left:=m2.left-1},?_,k2.trans (yV _),.same _ _ _ _ jI k3 k3',rX k4 k2.temp1,mX k5 k6⟩;refine zJ func95 rfl zFu (rs:=[.cell 10 15 true]) (by kernel_rfl) ?_;unfold zDy;simp[mkS,mkB,zB,jV,e,wd];refine mr g1 [0,1] (by simp[mkS,mkB,zB]) ?_;simp[mkS,mkB,zB,wd];refine bG g2 [0,1] (by decide) (by simp[mkS,mkB]) (by simp[zB]) (by decide) (by simp) (by simp[mkS]) ?_;simp[mkS,mkB];refine cS (y5 m2 4 6 [a,b] l3 (by omega) (by omega) l6) [0,1] (by decide) (by simp[mkS,mkB]) (by simp[zM]) ?_;simp[mkS,mkB,zH,zM];exact mv [0,1] 0 (by rfl) (by simp[zH,zM])
 .obtain⟨j,hj,e1⟩:∃j:Nat,j<env.length/\(x.tdiv 6).tmod (env.length:Int)=j:=by
   have q0:0<=x.tdiv 6:=by omega
   have q1:=jDa (x.tdiv 6) (b:=(env.length:Int)) (by omega);have q2:=jD1 (x.tdiv 6) (b:=(env.length:Int)) (by omega);exact⟨((x.tdiv 6) % env.length).toNat,by omega,by rw[tmN q0];omega⟩
  have hdr:=gA hj;have hdr4:List.drop (j*9+4) (zU env)=(bZ env[j]++zU (env.drop (j+1))).drop 4:=by rw[<-jAy,hdr]
  have hb4:j*9+4+5<=env.length*9:=by omega
  have hne:¬((env.length:Int)=0):=by omega
  have hnil:env≠[]:=fun e=>by rw[e]at h1;simp at h1
  have htu:=he.typs env[j] (jA0 hj);have w6:=z8 (x.tdiv 6) (by omega);obtain⟨a,b,m1,m2,g1,g2,k2,k3,k3',k4,k5,k6,hln⟩:=zAo (t:=env[j].typ) (u:=env[j].typ) (c':=1) hk hx hl2 hc (by omega) he h1 h2 htu htu (by omega) (by omega);obtain⟨l1,l2,l3,l4,l5,l6,l7,l8⟩:=hln;refine⟨.mk ⟨0,0,m2.temp⟩ 4 6 Id.zero Typ.zero [a,b] [],{m2 with temp:=m2.temp+1,left:=m2.left-1},?_,k2.trans (yV _),.same _ _ _ _ env[j].typ k3 k3',rX k4 k2.temp1,mX k5 k6⟩;refine zJ func95 rfl zFu (rs:=[.cell 10 15 true]) (by kernel_rfl) ?_;unfold zDy;simp[mkS,mkB,zB,jV,e,wd,e1,hne,hnil,hj,hdr4,hb4,bZ,w6];intro _;refine mr g1 [0,1] (by simp[mkS,mkB,zB]) ?_;simp[mkS,mkB,zB,wd];refine bG g2 [0,1] (by decide) (by simp[mkS,mkB]) (by simp[zB]) (by decide) (by simp) (by simp[mkS]) ?_;simp[mkS,mkB];refine cS (y5 m2 4 6 [a,b] l3 (by omega) (by omega) l6) [0,1] (by decide) (by simp[mkS,mkB]) (by simp[zM]) ?_;simp[mkS,mkB,zH,zM];exact mv [0,1] 0 (by rfl) (by simp[zH,zM])
 .obtain⟨a,b,m1,m2,g1,g2,k2,k3,k3',k4,k5,k6,hln⟩:=zAo (t:=jV) (u:=jV) (c':=1) hk hx hl2 hc (by omega) he h1 h2 (.bool 0) (.bool 0) (by omega) (by omega);obtain⟨l1,l2,l3,l4,l5,l6,l7,l8⟩:=hln;refine⟨.mk ⟨0,0,m2.temp⟩ 4 7 Id.zero Typ.zero [a,b] [],{m2 with temp:=m2.temp+1,left:=m2.left-1},?_,k2.trans (yV _),.andor _ _ _ _ _ (.inl rfl) k3 k3',rX k4 k2.temp1,mX k5 k6⟩;refine zJ func95 rfl zFu (rs:=[.cell 10 15 true]) (by kernel_rfl) ?_;unfold zDy;simp[mkS,mkB,zB,jV,e,wd,w0];refine mr g1 [0,1] (by simp[mkS,mkB,zB]) ?_;simp[mkS,mkB,zB,wd];refine bG g2 [0,1] (by decide) (by simp[mkS,mkB]) (by simp[zB]) (by decide) (by simp) (by simp[mkS]) ?_;simp[mkS,mkB];refine cS (y5 m2 4 7 [a,b] l3 (by omega) (by omega) l6) [0,1] (by decide) (by simp[mkS,mkB]) (by simp[zM]) ?_;simp[mkS,mkB,zH,zM];exact mv [0,1] 0 (by rfl) (by simp[zH,zM])
 .obtain⟨a,b,m1,m2,g1,g2,k2,k3,k3',k4,k5,k6,hln⟩:=zAo (t:=jV) (u:=jV) (c':=1) hk hx hl2 hc (by omega) he h1 h2 (.bool 0) (.bool 0) (by omega) (by omega);obtain⟨l1,l2,l3,l4,l5,l6,l7,l8⟩:=hln;refine⟨.mk ⟨0,0,m2.temp⟩ 4 8 Id.zero Typ.zero [a,b] [],{m2 with temp:=m2.temp+1,left:=m2.left-1},?_,k2.trans (yV _),.andor _ _ _ _ _ (.inr rfl) k3 k3',rX k4 k2.temp1,mX k5 k6⟩;refine zJ func95 rfl zFu (rs:=[.cell 10 15 true]) (by kernel_rfl) ?_;unfold zDy;simp[mkS,mkB,zB,jV,e,wd,w1];refine mr g1 [0,1] (by simp[mkS,mkB,zB]) ?_;simp[mkS,mkB,zB,wd];refine bG g2 [0,1] (by decide) (by simp[mkS,mkB]) (by simp[zB]) (by decide) (by simp) (by simp[mkS]) ?_;simp[mkS,mkB];refine cS (y5 m2 4 8 [a,b] l3 (by omega) (by omega) l6) [0,1] (by decide) (by simp[mkS,mkB]) (by simp[zM]) ?_;simp[mkS,mkB,zH,zM];exact mv [0,1] 0 (by rfl) (by simp[zH,zM])
theorem zT8{R:Nat}{len:Nat}(hc:0<=c)(hl2:Lim m (2*c+1))(x:Int)(hx0:0<=x)(hx1:x<=65536)
 (hk:dG hs R c (depth-1) (fun r=>r<=R) len)(hR:1<=R)(hx:Cx hs R m)(he:EnvOk hs R m.temp env)(h1:0<env.length)(h2:env.length<=len)(h3:env.length<=1000)(hd1 : -1000<=depth)(hd2:depth<=1000)(t:Typ)(ht:TyOk hs R (jP t))(h5:x.tmod 2=0) :
 bW hs m.own opF m [.ptr 0 0,.agg (zB (jP t)),.sl env.length (zU env),int x,int depth] env (jP t) (2*c+1):=by
 have wd:=z8 (depth-1) (by omega);obtain⟨a,b,m1,m2,g1,g2,k2,k3,k3',k4,k5,k6,hln⟩:=zAo (t:=(jP t)) (u:=(jP t)) (c':=1) hk hx hl2 hc (by omega) he h1 h2 ht ht (by omega) (by omega);obtain⟨l1,l2,l3,l4,l5,l6,l7,l8⟩:=hln;refine⟨.mk ⟨0,0,m2.temp⟩ 4 10 Id.zero Typ.zero [a,b] [],{m2 with temp:=m2.temp+1,left:=m2.left-1},?_,k2.trans (yV _),.join _ _ _ _ _ k3 k3',rX k4 k2.temp1,mX k5 k6⟩;refine zJ func95 rfl zFu (rs:=[.cell 10 15 true]) (by kernel_rfl) ?_;unfold zDy;simp[mkS,mkB,zB,jP,h5,wd];refine mr g1 [0,1] (by simp[mkS,mkB,zB,jP]) ?_;simp[mkS,mkB,zB,wd];refine bG g2 [0,1] (by decide) (by simp[mkS,mkB]) (by simp[zB,jP]) (by decide) (by simp) (by simp[mkS]) ?_;simp[mkS,mkB];refine cS (y5 m2 4 10 [a,b] l3 (by omega) (by omega) l6) [0,1] (by decide) (by simp[mkS,mkB]) (by simp[zM]) ?_;simp[mkS,mkB,zH,zM];exact mv [0,1] 0 (by rfl) (by simp[zH,zM])
theorem zXw{R:Nat}{len:Nat}(hc:0<=c)(hl2:Lim m (2*c+1))(x:Int)(hx0:0<=x)(hx1:x<=65536)
 (hk:dG hs R c (depth-1) (fun r=>r<=R) len)(hR:1<=R)(hx:Cx hs R m)(he:EnvOk hs R m.temp env)(h1:0<env.length)(h2:env.length<=len)(h3:env.length<=1000)(hd1 : -1000<=depth)(hd2:depth<=1000)(t:Typ)(ht:TyOk hs R t)(h4:t.k≠0)(h5:t.k≠1)(h6:t.k≠2\/x.tmod 2≠0)(hl:Lim m (6*c+1)) :
 bW hs m.own opF m [.ptr 0 0,.agg (zB t),.sl env.length (zU env),int x,int depth] env t (6*c+1):=by
 have d2:x.tdiv 2=x / 2:=tdN hx0;have w2:=z8 (x.tdiv 2) (by omega);obtain⟨e,m',g1,g2⟩:=zRa hc hl (x.tdiv 2) (by omega) (by omega) t ht (fun r' h=>by omega) hk hx he h1 h2 hd1 hd2;refine⟨e,m',?_,g2⟩;refine zJ func95 rfl zFu (rs:=[.cell 10 15 true]) (by kernel_rfl) ?_;unfold zDy;by_cases h2:t.k=2
 .have h7:x.tmod 2≠0:=h6.resolve_left (fun h=>h h2);simp[mkS,mkB,zB,h2,h7,w2];refine mr g1 [0,1] (by simp[mkS,mkB,zB,h2]) ?_;simp[mkS,mkB];exact mv [0,1] 0 (by rfl) (by simp[zH])
 .simp[mkS,mkB,zB,h2,h4,h5,w2];refine mr g1 [0,1] (by simp[mkS,mkB,zB]) ?_;simp[mkS,mkB];exact mv [0,1] 0 (by rfl) (by simp[zH])
theorem qEe{R:Nat}{len:Nat}(hc:0<=c)(hl:Lim m (7*c+7))(x:Int)(hx0:0<=x)(hx1:x<=65536)
 (hk:dG hs R c (depth-1) (fun r=>r<=R) len)(hR:1<=R)(hx:Cx hs R m)(he:EnvOk hs R m.temp env)(h1:0<env.length)(h2:env.length<=len)(h3:env.length<=1000)(hd1 : -1000<=depth)(hd2:depth<=1000)(t:Typ)(ht:TyOk hs R t) :
 bW hs m.own opF m [.ptr 0 0,.agg (zB t),.sl env.length (zU env),int x,int depth] env t (7*c+7):=by
 have hlit:=fun h4 h5 h6=>(zXw (hl:=hl.mono (by omega)) hc (hl.mono (by omega)) x hx0 hx1 hk hR hx he h1 h2 h3 hd1 hd2 t ht h4 h5 h6).mono (show 6*c+1<=7*c+7 by omega)
 cases ht with
 |int r=>exact(zXv hc (hl.mono (by omega)) x hx0 hx1 hk hR hx he h1 h2 h3 hd1 hd2).mono (by omega)
 |bool r=>exact(zT7 hc (hl.mono (by omega)) x hx0 hx1 hk hR hx he h1 h2 h3 hd1 hd2).mono (by omega)
 |list r t h =>
  by_cases h5:x.tmod 2=0
  .exact(zT8 hc (hl.mono (by omega)) x hx0 hx1 hk hR hx he h1 h2 h3 hd1 hd2 t (.list _ _ h) h5).mono (by omega)
  .exact hlit (by simp) (by simp) (.inr h5)
 |dfn r k h h1 h2 h3 h4=>exact hlit (by simp) (by simp) (.inl (by simp))
theorem zGD:∀(v:Val),qU v<=100000000->vY v=qU v:=by
 intro v h;rw[zKg,lL];have key:∀i,i<=v.kids.length->zHP (v.kids.take i)=((1+jK (v.kids.take i):Nat):Int):=by
  intro i;induction i with
  |zero=>intro _;simp[zHP,jK]
  |succ i ih =>
   intro hi;have e1:=zCZ (l:=v.kids) (i:=i) (by omega);have e2:=zBo v.kids (i+1);have e3:=lL v;have hk:qU (v.kids[i]'(by omega))<qU v:=dY (jA0 _);rw[zGF (by omega),ih (by omega),zGD (v.kids[i]'(by omega)) (by omega),e1];rw[IntWalk.i64_in _ (by omega)];omega
 have:=key v.kids.length (jA _)
 rwa[jB2]at this
termination_by v=>qU v
def zVC:K:=G [kO 6 1,kZ 10 kz1] (G [M 16 0,M 17 3,kC 18 153 [(kt 16),(kc 1),(kt 17)],M 11 18] (Z (G [M 19 11,kBi 20 19 0 .lss] (Y 20 (G [M 21 0,J 22 6 5,M 23 2,M 24 3,M 25 4,kC 26 95 [(kt 21),(kt 22),(kt 23),(kt 24),(kt 25)],S 10 26 15] kr) ks)) (G [M 27 0,kU 28 27,D 29 28 0,D 30 29 1,L 31 30 1,M 32 11,kX 33 31 32 31,J 34 33 31,kZ 12 kz0,S 12 34 31] (G [M 35 0,D 36 12 0,J 37 36 3,kC 38 81 [(kt 37)],M 39 2,M 40 4,kBi 41 40 2 .sub,kC 42 37 [(kt 35),(kt 38),(kt 39),(kt 41)],⟨none,.brow (some 43) 40 15 1 kz1 [(0,15,(kt 42))]⟩,M 13 43] (G [M 44 0,kC 45 89 [(kt 44),(kc 10),(kc 0),(.const kl)],kZ 14 kz1,S 14 45 15] (G [D 46 12 0,J 47 46 3,D 48 14 5,S 48 47 3] (Z (G [kMi 15 0] (K.block 0 (K.loop (Z (G [M 49 15,D 50 12 8,L 51 50 1,kN 52 51,kB 53 49 52 .lss] (Y 53 ks (K.exit 0))) (Z (K.block 1 (Z (K.dops [(0,0,M 56 13),(1,0,M 57 0),(2,0,J 58 6 5),(3,0,M 59 2),(4,0,D 60 14 0),(5,0,J 61 60 3),(6,0,M 62 15),(7,0,D 63 12 8),(8,0,L 64 63 1),(9,0,M 65 15),(10,0,kX 66 64 65 11),(11,0,D 67 66 4),(12,0,J 68 67 5),(13,0,kb 69 kz7 [(0,3,(kt 61)),(3,1,(kt 62)),(4,5,(kt 68))]),(14,0,kC 70 91 [(kt 59),(kt 69)]),(15,0,M 71 4),(16,0,kBi 72 71 1 .sub),(17,4,kC 73 37 [(kt 57),(kt 58),(kt 70),(kt 72)]),(18,0,kd 74 40 15 1 kz1 [(0,15,(kt 73))]),(19,0,kP 75 40 15 168 56 74),(20,0,M 13 75)]) (K.dops [(0,2,D 76 14 14),(1,2002,L 77 76 1),(2,0,M 78 0),(3,1002,kC 79 90 [(kt 78)]),(4,0,⟨none,.bslice (some 80) 9 1 1 [(.string ⟨#[]⟩)] [(0,1,(kt 79))]⟩),(5,0,kP 81 9 1 16 77 80),(6,2,D 82 14 14),(7,0,
 S 82 81 1)]))) (K.ops [M 54 15,kBi 55 54 1 .add,M 15 55])))))) (Z (K.wk (K.ops [M 83 13,D 84 14 13,S 84 83 1])) (G [J 85 14 15,S 10 85 15] kr)))))))))
def qKN:Nat->Option wE:=fun|11=>k_ [0,0,0,0,0,0,0,0,0,0,0,0,0,0,0,0,0,4,0,0,0] | 12=>k_ [2,2002,0,1002,0,0,2,0]|_=>none
theorem qBP:kx f92 qKN zVC:=mz (by kernel_rfl)
abbrev zLz:FuncId:=92
theorem zRm(m:Mk)(kind n:Int)(h0:0<=m.temp)(h1:m.temp<=1000000000000000)(h2 : -1000000000000000<=m.left)(h3:m.left<=1000000000000000) :
 my 89 [.ptr 0 0,int kind,int n,.sl 0 []] (mkS m) (.agg [int 0,int 0,int m.temp,int kind,int n,int 0,int 0,int 0,int 0,int 0,int 0,int 0,.nil,.sl 0 [],.nil]) (mkS {m with temp:=m.temp+1,left:=m.left-1}):=by
 refine zG func89 rfl zU4 (rs:=[.cell 8 15 true]) (by kernel_rfl) ?_;unfold zPy;have w1:=z8 (m.temp+1) (by omega);have w2:=z8 m.temp (by omega);have w3:=z8 (m.left-1) (by omega);simp[mkS,mkB,w1,w2,w3];exact mv [0,1] 0 (by rfl) (by simp)
def zLX(hd:Hd)(j:Nat):Typ:=match hd.slots[j]? with
 |some s=>s.typ
 |none=>jI
theorem zNm{hd:Hd}{j:Nat}(h:j<hd.slots.length):zLX hd j=hd.slots[j].typ:=by unfold zLX;rw[jA2 h]
theorem zTJ{R:Nat}{hd:Hd}(h:∀s∈hd.slots,TyOk hs R s.typ)(j:Nat):TyOk hs R (zLX hd j):=by
 unfold zLX;split
 .rename_i s hs;exact h s (jBu hs)
 .exact .int _
theorem zJr{R:Nat}{len:Nat}(hc:0<=c)(hl:Lim m (7*c+7))(x:Nat)(hx1:x<=65536)(hk:dG hs R c (depth-1) (fun r=>r<=R) len)(hk2:dG hs R c (depth-2) (fun r=>r<=R) len)
 (hx:Cx hs R m)(he:EnvOk hs R m.temp env)(h1:0<env.length)(h2:env.length+1<=len)(h3:env.length<=1000)(hd1 : -1000<=depth)(hd2:depth<=1000)(t:Typ)(ht:TyOk hs R t)
 (hop:bW hs m.own opF m [.ptr 0 0,.agg (zB t),.sl env.length (zU env),int x,int depth] env t (7*c+7)) :
 bW hs m.own zLz m [.ptr 0 0,.agg (zB t),.sl env.length (zU env),int x,int depth] env t (7*c+7):=by
 have hdl:=hx.dlen;have hd100:=hx.len;have hd0:=hx.len0;have wd:=z8 (depth-1) (by omega);have wd2:=z8 (depth-2) (by omega);rcases zT4 m 1 x with hof|⟨k,hkm,hof,hkind,hvis⟩
 .obtain⟨e,m',g1,g2⟩:=hop;refine⟨e,m',?_,g2⟩;refine zJ func92 rfl qBP (rs:=[.cell 10 15 true]) (by kernel_rfl) ?_;unfold zVC;simp[mkS,mkB,zB];refine mr (zRt m 1 x (by omega) (by omega) (by omega) hx.mods) [0,1] (by simp[mkS,mkB]) ?_;simp[mkS,mkB,hof];refine mr g1 [0,1] (by simp[mkS,mkB,zB]) ?_;simp[mkS,mkB];exact mv [0,1] 0 (by rfl) (by simp[zH])
 .have hks:k<hs.length:=by omega
  have hget:=hx.get hkm;generalize hD:m.defs[k]=D at hget hkind;have eid:hs[k].id=D.id:=by rw[hget];rfl
  have eslots:hs[k].slots=D.slots:=by rw[hget];rfl
  have ekind:hs[k].kind=1:=by rw[hget];exact hkind
  obtain⟨hs6,hsT⟩:=hx.slots k hks;have hDl:D.slots.length<=6:=by rw[<-eslots];exact hs6
  obtain⟨a,m1,g1,g2,g3,g4,g5⟩:=hk2 m R (dP hs[k].id) env hx (hl.mono (by omega)) (hx.typs k hks (.inr ekind)) (jA _) he h1 (by omega);have hl1:Lim m1 (6*c+7):=Lim.adv (c:=c) (hl.mono (by omega)) g2;obtain⟨l1,l2,l3,l4,l5,l6,l7,l8⟩:=hl1;obtain⟨mA,hmA⟩:∃mA:Mk,mA={m1 with temp:=m1.temp+1,left:=m1.left-1}:=⟨_,rfl⟩;have aA:Adv m1 mA 1:=hmA▸yV m1;have tA:mA.temp=m1.temp+1:=by rw[hmA]
  have hlA:Lim mA (6*c+6):=Lim.adv (c:=1) ⟨l1,by omega,l3,by omega,by omega,l6,l7,by omega⟩ aA;have hsc:((D.slots.length:Int))*(c+1)<=6*(c+1):=jD9 (by omega) (by omega);obtain⟨es,ns,ms,q0,q1,q2,q3,q4,q5⟩:=zQS hk hc (fun j=>env++[⟨⟨0,0,m1.temp⟩,j,zLX hs[k] j⟩]) t ht (jA R) mA ((hx.adv g2).adv aA)
   (fun j=>((he.mono g2.temp1).mono aA.temp1).snoc m1.temp j _ (zTJ hsT j) (fun b hb e=>by have hb':=he.new b hb (by rw[e]);rw[e]at hb';have:=g2.temp1;simp only at hb';omega) (by omega)) (fun j=>by simp) (fun j=>by simp;omega) D.slots.length (hlA.mono (by omega))
  have aE:=q3 D.slots.length (jA _);have eown:mA.own=m.own:=aA.own.trans g2.own;refine⟨.mk ⟨0,0,m1.temp⟩ 10 0 hs[k].id Typ.zero (a::es) ns,ms D.slots.length,?_,((g2.trans aA).trans aE).mono (by omega),?_,?_,gS ?_⟩
  rotate_left
  .refine .mtch _ _ k hks a es t ns (by omega) ekind (by rw[eslots,q0]) g3 fun j hj=>?_
   have:=(q5 j hj (by omega)).elim fun mm h=>h.2.2.1
   rw[eown,zNm (by rw[eslots];omega)]at this;exact this
  .simp only[tmps,jG];have s1:Seg m1.temp (m1.temp+1) [m1.temp]:=Seg.one _;have s2:=s1.append (b:=m1.temp+1) (tA▸q4) (by omega) (tA▸aE.temp1);have s3:=g4.append s2 g2.temp1 (by have:=aE.temp1;omega);refine s3.perm ?_;rw[jAq];exact jDk _ jDl
  .intro e' he';rcases jA3.1 he' with rfl|he'
   .exact g5
   .exact zBc rfl (fun j hj=>(q5 j hj (by omega)).elim fun mm h=>h.2.2.2) e' he'
  refine zJ func92 rfl qBP (rs:=[.cell 10 15 true]) (by kernel_rfl) ?_;unfold zVC;have hdr:=j5 hkm;rw[hD]at hdr;have hb31:k*31+31<=m.defs.length*31:=by omega
  have hnk:¬((k:Int)<0):=by omega
  simp[mkS,mkB,zB];refine mr (zRt m 1 x (by omega) (by omega) (by omega) hx.mods) [0,1] (by simp[mkS,mkB]) ?_;simp[mkS,mkB,hof,hnk,hkm,hdr,hb31,zQ];refine mu (zG0 D.id) (by simp[zX]) ?_;simp[mkS,mkB,wd2];rw[eid]at g1;refine mr g1 [0,1] (by simp[mkS,mkB,zB,dP]) ?_;simp[mkS,mkB];refine mr (zRm m1 10 0 l3 (by omega) (by omega) l6) [0,1] (by simp[mkS,mkB]) ?_;simp[mkS,mkB,zQ];refine qH (S:=Nat) (fun i=>[(0,.ptr 0 0),(2,.sl env.length (zU env)),(4,int depth),(6,.ptr 2 0),(10,.ptr 3 0),(12,.ptr 4 0),(13,.row 5 (i+1)),(14,.ptr 6 0),(15,int i)])
   (fun i=>mkS (ms i)++[.box (zB t),.box (zH Exp.zero),.box (zQ D),.row false 40 15 (i+1) (zH a++qS (es.take i)),.box [int 0,int 0,int m1.temp,int 10,int 0,int D.id.a,int D.id.b,int D.id.c,int 0,int 0,int 0,int 0,.sl 0 [],.sl 0 [],.row 7 i],.row false 9 1 i (aC (ns.take i))]) (fun i=>i<=es.length) (fun i=>es.length-i) 0 (by simp)
   ((yI (l:=6) (o:=14) rfl rfl 9 1).trans (mw [0,1,2,3,4,5,6,7] 0 (by rfl) (by simp[mkS,mkB,zB,q2,hmA,zH,Exp.zero,Id.zero,Typ.zero,zQ]))) ?_
  intro i hi;by_cases hi2:i<es.length
  .have hid:i<D.slots.length:=by omega
   have hin:i<ns.length:=by omega
   obtain⟨mm,g1',g2',_,_⟩:=q5 i hi2 hin;have hsty:zLX hs[k] i=D.slots[i].typ:=by rw[zNm (by rw[eslots];exact hid)];simp only[eslots]
   have hst:qS (es.take (i+1))=qS (es.take i)++zH es[i]:=aR hi2;have hsn:aC (ns.take (i+1))=aC (ns.take i)++zQv ns[i]:=by unfold aC;rw[jA8 hin,jC9];simp
   have hw:=yU i (by omega);have hdS:List.drop (i*11+4) (qW D.slots)=(aD D.slots[i]++qW (D.slots.drop (i+1))).drop 4:=by rw[<-jAy,jN hid]
   have hbS:i*11+4+5<=D.slots.length*11:=by omega
   simp[mkS,mkB,zQ,zB,hid,hdS,hbS,aD,wd];intro _;refine qB (i9 env ⟨⟨0,0,m1.temp⟩,i,zLX hs[k] i⟩ (by omega)) (by simp[bZ,hsty]) (by simp) ?_;simp[mkS,mkB,wd];refine cS g1' [0,1] (by decide) (by simp[mkS,mkB]) (by simp[zB]) ?_;simp[mkS,mkB];refine⟨⟨by simp[maxLen];omega,by omega⟩,?_⟩;refine bG g2' [0,1] (by decide) (by simp[mkS,mkB]) (by simp) (by decide) (by simp) (by simp[mkS]) ?_;simp[mkS,mkB];refine⟨⟨by simp[maxLen];omega,by omega⟩,?_⟩;exact zN (i+1) hi2 (by omega) (mw [0,1,2,3,4,5,6,7] 0 (by rfl) (by simp[mkS,mkB,zB,zH,Exp.zero,Id.zero,Typ.zero,zQ,hst,hsn,zQv,hw]))
  .have hie:i=es.length:=by omega
   subst hie;have hid:¬es.length<D.slots.length:=by omega
   have hnl:List.take es.length ns=ns:=jAh (by omega);simp[mkS,mkB,zQ,hid];intro _;refine⟨jR [(0,.ptr 0 0),(10,.ptr 3 0),(13,.sl (es.length+1) (qS (a::es))),(14,.ptr 4 0)],mkS (ms es.length)++[.box (zB t),.box (zH Exp.zero),.box [int 0,int 0,int m1.temp,int 10,int 0,int D.id.a,int D.id.b,int D.id.c,int 0,int 0,int 0,int 0,.sl 0 [],.sl 0 [],.sl es.length (aC ns)]],mw [0,1,2,3,6] 1 (by rfl) (by simp[mkS,mkB,zB,zH,Exp.zero,Id.zero,Typ.zero,hnl,zM]),?_⟩;simp[mkS,mkB];exact mv [0,1] 0 (by rfl) (by simp[q0,zH,Id.zero,Typ.zero,eid,q1])
@[simp]theorem dV:∀(a b:wI),zT (a++b)=zT a++zT b
 |[],b=>by simp
 |x::a,b=>by simp[dV a b]
variable{l:wI}
theorem bA{k n:Int}:(Val.mk k n l).k=k:=rfl
theorem yL{k n:Int}:(Val.mk k n l).n=n:=rfl
theorem jM{k n:Int}:(Val.mk k n l).kids=l:=rfl
theorem zOW{c:Nat}(h:∀v∈l,qU v<=c):jK l<=l.length*c:=by
 induction l with
 |nil=>simp[jK]
 |cons v l ih =>
  have h1:=h v (jAp ..);have h2:=ih fun x hx=>h x (jAi _ hx)
  simp only[jK,jAb,jB6,Nat.one_mul];omega
def qAG:K:=G [kO 6 1,kZ 10 kz1] (Z (G [kMi 11 0] (K.block 0 (K.loop (Z (G [M 16 11,M 17 0,kU 18 17,D 19 18 0,D 20 19 1,L 21 20 1,kN 22 21,kB 23 16 22 .lss] (Y 23 ks (K.exit 0))) (Z (K.block 1 (G [M 26 3,M 27 11,kB 28 26 27 .add,M 29 0,kU 30 29,D 31 30 0,D 32 31 1,L 33 32 1,kN 34 33,kB 35 28 34 .rem,M 12 35] (G [M 36 0,kU 37 36,D 38 37 0,D 39 38 1,L 40 39 1,M 41 12,kX 42 40 41 31,J 43 42 31,kZ 13 kz0,S 13 43 31] (G [kMi 14 0] (K.block 2 (K.loop (Z (G [M 44 14,D 45 13 8,L 46 45 1,kN 47 46,kB 48 44 47 .lss,M 49 48,T 49 true (D 50 13 3),T 49 true (L 51 50 1),T 49 true (kQi 52 51 0 false),kPf 53 49 52,M 54 53,T 54 true (M 55 0),T 54 true (M 56 12),T 54 true (kC 57 154 [(kt 55),(kt 56)]),kPf 58 54 57] (Y 58 ks (K.exit 2))) (Z (K.block 3 (Z (K.dops [(0,0,D 61 13 8),(1,0,L 62 61 1),(2,0,M 63 14),(3,0,kX 64 62 63 11),(4,0,D 65 64 4),(5,0,J 66 65 5),(6,0,J 67 6 5),(7,0,kC 68 152 [(kt 66),(kt 67)])]) (Y 68 (G [M 69 0,M 70 14,M 71 0,D 72 13 0,J 73 72 3,kC 74 81 [(kt 73)],M 75 2,M 76 4,kBi 77 76 1 .sub,kC 78 37 [(kt 71),(kt 74),(kt 75),(kt 77)],kd 79 40 15 1 kz1 [(0,15,(kt 78))],kC 80 89 [(kt 69),(kc 8),(kt 70),(kt 79)],kZ 15 kz1,S 15 80 15] (G [D 81 13 0,J 82 81 3,D 83 15 5,S 83 82 3] (G [J 84 15 15,S 10 84 15] kr))) ks))) (K.ops [M 59 14,kBi 60 59 1 .add,M 14 60]))))))))) (K.ops [M 24 11,kBi 25 24 1 .add,M 11 25])))))) (G [M 85 0,J 86 6 5,M 87 2,M 88 3,M 89 4,kC 90 95 [(kt 85),(kt 86),(kt 87),(kt 88),(kt 89)],S 10 90 15] kr))
theorem qIr:ky f93 qAG:=m_ (by kernel_rfl)
abbrev zQ3:FuncId:=93
theorem zMI{p:Nat->Bool}:∀{n:Nat},(∃i,i<n/\p i=true)->∃i,i<n/\p i=true/\∀j<i,p j=false
 | 0,⟨i,hi,_⟩=>by omega
 |n+1,⟨i,hi,hp⟩=>by
  by_cases h:∃i,i<n/\p i=true
  .obtain⟨j,h1,h2,h3⟩:=zMI h;exact⟨j,by omega,h2,h3⟩
  .have hin:i=n:=by
    by_cases e:i=n
    .exact e
    .exact(h ⟨i,by omega,hp⟩).elim
   subst hin;refine⟨i,by omega,hp,fun j hj=>?_⟩;cases hpj:p j
   .rfl
   .exact(h ⟨j,hj,hpj⟩).elim
def zQ8(m:Mk)(t:Typ)(k:Nat):Bool:=match m.defs[k]? with
 |some d=>decide (d.kind=0)&&(zAt m k&&d.slots.any fun s=>yH s.typ t)
 |none=>false
theorem zQ4{R:Nat}{len:Nat}(hc:0<=c)(hl:Lim m (7*c+7))(x:Nat)(hx1:x<=65536)(hk:dG hs R c (depth-1) (fun r=>r<=R) len)
 (hx:Cx hs R m)(he:EnvOk hs R m.temp env)(h1:0<env.length)(h2:env.length<=len)(h3:env.length<=1000)(hd1 : -1000<=depth)(hd2:depth<=1000)(t:Typ)(ht:TyOk hs R t)
 (hop:bW hs m.own opF m [.ptr 0 0,.agg (zB t),.sl env.length (zU env),int x,int depth] env t (7*c+7)) :
 bW hs m.own zQ3 m [.ptr 0 0,.agg (zB t),.sl env.length (zU env),int x,int depth] env t (7*c+7):=by
 have hdl:=hx.dlen;have hd100:=hx.len;have hd0:=hx.len0;have hN:0<m.defs.length:=by omega
 have wd:=z8 (depth-1) (by omega);obtain⟨i0,e,m',hi0,hlow,hfull,hhit,hA,hW,hS,hZ⟩:∃(i0:Nat) (e:Exp) (m':Mk),i0<=m.defs.length/\(∀i<i0,zQ8 m t ((x+i) % m.defs.length)=false) /\
  (i0=m.defs.length->my opF [.ptr 0 0,.agg (zB t),.sl env.length (zU env),int x,int depth] (mkS m) (.agg (zH e)) (mkS m')) /\
  (∀(hlt:i0<m.defs.length) (D:Dfn),m.defs[(x+i0) % m.defs.length]?=some D->D.kind=0/\zAt m ((x+i0) % m.defs.length)=true/\∃(j0:Nat) (hj0:j0<D.slots.length) (a:Exp) (m1:Mk),yH D.slots[j0].typ t=true/\(∀(j:Nat) (hj:j<j0),yH D.slots[j].typ t=false) /\
   my aX [.ptr 0 0,.agg (zB (dP D.id)),.sl env.length (zU env),int (depth-1)] (mkS m) (.agg (zH a)) (mkS m1)/\Lim m1 1 /\
   e=.mk ⟨0,0,m1.temp⟩ 8 j0 D.id Typ.zero [a] []/\m'={m1 with temp:=m1.temp+1,left:=m1.left-1}) /\
  Adv m m' (7*c+7)/\WT hs m.own env e t/\Seg m.temp m'.temp (tmps e)/\e.num0:=by
  by_cases hex:∃i,i<m.defs.length/\zQ8 m t ((x+i) % m.defs.length)=true
  .obtain⟨i0,hi0,hp,hlow⟩:=zMI hex;have hkm:=Nat.mod_lt (x+i0) hN;generalize hkk:(x+i0) % m.defs.length=k at hkm hp;have hks:k<hs.length:=by omega
   have hget:=hx.get hkm;unfold zQ8 at hp;rw[jA2 hkm]at hp;simp only[jA7,decide_eq_true_eq]at hp;generalize hD:m.defs[k]=D at hget hp;obtain⟨hkind,hvis,hany⟩:=hp;have eid:hs[k].id=D.id:=by rw[hget];rfl
   have eslots:hs[k].slots=D.slots:=by rw[hget];rfl
   have ekind:hs[k].kind=0:=by rw[hget];exact hkind
   obtain⟨j0,hj0,hpj,hlj⟩:=zMI (p:=fun j=>match D.slots[j]? with|some s=>yH s.typ t|none=>false) (n:=D.slots.length) (by
    rw[List.any_eq_true]at hany;obtain⟨s,hs1,hs2⟩:=hany;obtain⟨j,hj,rfl⟩:=jAl hs1;exact⟨j,hj,by simp only[jA2 hj];exact hs2⟩)
   simp only[jA2 hj0]at hpj;obtain⟨a,m1,g1,g2,g3,g4,g5⟩:=hk m R (dP hs[k].id) env hx (hl.mono (by omega)) (hx.typs k hks (.inl ekind)) (jA _) he h1 h2;refine⟨i0,.mk ⟨0,0,m1.temp⟩ 8 j0 D.id Typ.zero [a] [],{m1 with temp:=m1.temp+1,left:=m1.left-1},by omega,hlow,fun h=>by omega,fun hlt D' hD'=>?_,(g2.trans (yV _)).mono (by omega),?_,zHL g4 g2.temp1,zE1 g5⟩
   .rw[hkk,jA2 hkm,hD]at hD';injection hD' with hD'
    subst hD';rw[hkk];refine⟨hkind,hvis,j0,hj0,a,m1,hpj,fun j hj=>?_,by rw[<-eid];exact g1,Lim.adv (c:=c) (hl.mono (by omega)) g2,rfl,rfl⟩;have:=hlj j hj;simp only[jA2 (show j<D.slots.length by omega)]at this;exact this
   .have hjs:j0<hs[k].slots.length:=by rw[eslots];exact hj0
    have:=WT.field (own:=m.own) env ⟨0,0,m1.temp⟩ k hks j0 hjs a ekind g3;rw[eid]at this;have e2:hs[k].slots[j0].typ=t:=by rw[<-(gF _ _).1 hpj];simp only[eslots]
    rw[e2]at this;exact this
  .obtain⟨e,m',g1,g2,g3,g4,g5⟩:=hop;refine⟨m.defs.length,e,m',jA _,fun i hi=>?_,fun _=>g1,fun h=>by omega,g2,g3,g4,g5⟩;cases hp:zQ8 m t ((x+i) % m.defs.length)
   .rfl
   .exact(hex ⟨i,hi,hp⟩).elim
 refine⟨e,m',?_,hA,hW,hS,hZ⟩;refine zJ func93 rfl qIr (rs:=[.cell 10 15 true]) (by kernel_rfl) ?_;unfold qAG;simp[mkS,mkB,zB];refine qH (S:=Nat) (fun i=>[(0,.ptr 0 0),(2,.sl env.length (zU env)),(3,int x),(4,int depth),(6,.ptr 2 0),(10,.ptr 3 0),(11,int i)])
  (fun _=>mkS m++[.box (zB t),.box (zH Exp.zero)]) (fun i=>i<=i0) (fun i=>i0-i) 0 (by simp)
  (mw [0,1,2,3] 0 (by rfl) (by simp[mkS,mkB,zB,zH,Exp.zero,Id.zero,Typ.zero])) ?_
 intro i hi;by_cases h:i<m.defs.length
 .have hkm:=Nat.mod_lt (x+i) hN;have w1:=z8 ((x:Int)+i) (by omega);have w2:=yU i (by omega);have e1:Int.tmod ((x:Int)+i) (m.defs.length:Int)=(((x+i) % m.defs.length:Nat):Int):=by rw[tmN (by omega)];simp
  have hnil:m.defs≠[]:=fun e=>by rw[e]at hN;simp at hN
  have hne:¬((m.defs.length:Int)=0):=by omega
  have hlow':=fun hlt:i<i0=>hlow i hlt
  have hhit':i=i0->_:=fun e=>hhit (by omega) m.defs[(x+i) % m.defs.length] (by rw[<-e,jA2 hkm])
  unfold zQ8 at hlow';rw[jA2 hkm]at hlow';have hsl:m.defs[(x+i) % m.defs.length].slots.length<=6:=by have:=(hx.slots ((x+i) % m.defs.length) (by omega)).1;rw[hx.get hkm]at this;exact this
  generalize hkk:(x+i) % m.defs.length=k at hkm e1 hlow' hhit' hsl;generalize hD:m.defs[k]=D at hlow' hhit' hsl;have hdr:=j5 hkm;rw[hD]at hdr;have hb31:k*31+31<=m.defs.length*31:=by omega
  simp[mkS,mkB,h,w1,e1,hne,hkm,hdr,hb31,zQ,hnil];by_cases hlt:i<i0
  .have hno:=hlow' hlt;refine qH (S:=Nat) (fun j=>[(0,.ptr 0 0),(2,.sl env.length (zU env)),(3,int x),(4,int depth),(6,.ptr 2 0),(10,.ptr 3 0),(11,int i),(12,int k),(13,.ptr 4 0),(14,int j)])
    (fun _=>mkS m++[.box (zB t),.box (zH Exp.zero),.box (zQ D)]) (fun j=>j<=D.slots.length) (fun j=>D.slots.length-j) 0 (by simp)
    (mw [0,1,2,3,4] 0 (by rfl) (by simp[mkS,mkB,zB,zH,Exp.zero,Id.zero,Typ.zero,zQ])) ?_
   intro j hj;by_cases hjl:j<D.slots.length
   .have hdS:List.drop (j*11+4) (qW D.slots)=(aD D.slots[j]++qW (D.slots.drop (j+1))).drop 4:=by rw[<-jAy,jN hjl]
    have hbS:j*11+4+5<=D.slots.length*11:=by omega
    by_cases hkd:D.kind=0
    .simp[mkS,mkB,zQ,zB,hjl,hkd];intro _;refine mr (zFk m k hkm hx.mods) [0,1] (by simp[mkS,mkB]) ?_;cases hv:zAt m k
     .simp[mkS,mkB];exact zN (i+1) (by omega) (by omega) (mw [0,1,2,3] 0 (by rfl) (by simp[mkS,mkB,zB,zH,Exp.zero,Id.zero,Typ.zero,w2]))
     .have hsf:yH D.slots[j].typ t=false:=by
       simp only[hkd,hv,decide_true,jCv]at hno;rw[List.any_eq_false]at hno
       simpa using hno D.slots[j] (jA0 hjl)
      have hw:=yU j (by omega);simp[mkS,mkB,zQ,zB,hjl,hdS,hbS,aD];refine qB (mQ D.slots[j].typ t) (by simp[zB]) (by simp) ?_;rw[hsf];simp[mkS,mkB];exact zN (j+1) hjl (by omega) (mw [0,1,2,3,4] 0 (by rfl) (by simp[mkS,mkB,zB,zH,Exp.zero,Id.zero,Typ.zero,zQ,hkd,hw]))
    .simp[mkS,mkB,zQ,zB,hjl,hkd];intro _;exact zN (i+1) (by omega) (by omega) (mw [0,1,2,3] 0 (by rfl) (by simp[mkS,mkB,zB,zH,Exp.zero,Id.zero,Typ.zero,w2]))
   .simp[mkS,mkB,zQ,zB,hjl];intro _;exact zN (i+1) (by omega) (by omega) (mw [0,1,2,3] 0 (by rfl) (by simp[mkS,mkB,zB,zH,Exp.zero,Id.zero,Typ.zero,w2]))
  .have hie:i=i0:=by omega
   subst hie;obtain⟨hkd,hv,j0,hj0,a,m1,hj1,hj2,g1,hln,he1,he2⟩:=hhit' rfl;rw[hkk]at hv;obtain⟨l1,l2,l3,l4,l5,l6,l7,l8⟩:=hln;subst he1 he2;refine qH (S:=Nat) (fun j=>[(0,.ptr 0 0),(2,.sl env.length (zU env)),(3,int x),(4,int depth),(6,.ptr 2 0),(10,.ptr 3 0),(11,int i),(12,int k),(13,.ptr 4 0),(14,int j)])
    (fun _=>mkS m++[.box (zB t),.box (zH Exp.zero),.box (zQ D)]) (fun j=>j<=j0) (fun j=>j0-j) 0 (by simp)
    (mw [0,1,2,3,4] 0 (by rfl) (by simp[mkS,mkB,zB,zH,Exp.zero,Id.zero,Typ.zero,zQ])) ?_
   intro j hj;have hjl:j<D.slots.length:=by omega
   have hdS:List.drop (j*11+4) (qW D.slots)=(aD D.slots[j]++qW (D.slots.drop (j+1))).drop 4:=by rw[<-jAy,jN hjl]
   have hbS:j*11+4+5<=D.slots.length*11:=by omega
   have hw:=yU j (by omega);simp[mkS,mkB,zQ,zB,hjl,hkd];intro _;refine mr (zFk m k hkm hx.mods) [0,1] (by simp[mkS,mkB]) ?_;rw[hv];simp[mkS,mkB,zQ,zB,hjl,hdS,hbS,aD];refine qB (mQ D.slots[j].typ t) (by simp[zB]) (by simp) ?_;by_cases hjj:j<j0
   .rw[hj2 j hjj];simp[mkS,mkB];exact zN (j+1) hjj (by omega) (mw [0,1,2,3,4] 0 (by rfl) (by simp[mkS,mkB,zB,zH,Exp.zero,Id.zero,Typ.zero,zQ,hkd,hw]))
   .have hje:j=j0:=by omega
    subst hje;rw[hj1];simp[mkS,mkB];refine mu (zG0 D.id) (by simp[zX]) ?_;simp[mkS,mkB,wd];refine mr g1 [0,1] (by simp[mkS,mkB,zB,dP]) ?_;simp[mkS,mkB];refine mr (y5 m1 8 j [a] l3 (by omega) (by omega) l6) [0,1] (by simp[mkS,mkB,zM]) ?_;simp[mkS,mkB,zH];exact mv [0,1] 0 (by rfl) (by simp[zH,zM])
 .have hii:i=m.defs.length:=by omega
  have hi0':i0=m.defs.length:=by omega
  subst hii;simp[mkS,mkB,zB];refine mr (hfull hi0') [0,1] (by simp[mkS,mkB,zB]) ?_;simp[mkS,mkB];exact mv [0,1] 0 (by rfl) (by simp[zH])
def qA2:K:=G [kO 6 1,kZ 10 kz1] (Z (G [kMi 11 0] (K.block 0 (K.loop (Z (G [M 16 11,M 17 0,kU 18 17,D 19 18 0,D 20 19 1,L 21 20 1,kN 22 21,kB 23 16 22 .lss] (Y 23 ks (K.exit 0))) (Z (K.block 1 (G [M 26 0,kU 27 26,D 28 27 0,D 29 28 1,L 30 29 1,M 31 11,kX 32 30 31 31,J 33 32 31,kZ 12 kz0,S 12 33 31] (G [D 34 12 3,L 35 34 1,kQi 36 35 2 false,M 37 36,T 37 true (M 38 0),T 37 true (M 39 11),T 37 true (kC 40 154 [(kt 38),(kt 39)]),kPf 41 37 40,M 42 41,T 42 true (D 43 12 9),T 42 true (J 44 43 5),T 42 true (J 45 6 5),T 42 true (kC 46 152 [(kt 44),(kt 45)]),kPf 47 42 46] (Y 47 (G [kMn 13] (Z (G [kMi 14 0] (K.block 2 (K.loop (Z (G [M 48 14,D 49 12 8,L 50 49 1,kN 51 50,kB 52 48 51 .lss] (Y 52 ks (K.exit 2))) (Z (K.block 3 (K.ops [M 55 13,M 56 0,D 57 12 8,L 58 57 1,M 59 14,kX 60 58 59 11,D 61 60 4,J 62 61 5,M 63 2,M 64 4,kBi 65 64 1 .sub,kC 66 37 [(kt 56),(kt 62),(kt 63),(kt 65)],kd 67 40 15 1 kz1 [(0,15,(kt 66))],kP 68 40 15 168 55 67,M 13 68])) (K.ops [M 53 14,kBi 54 53 1 .add,M 14 54])))))) (Z (K.wk (K.ops [M 69 0,M 70 13,kC 71 89 [(kt 69),(kc 3),(kc 0),(kt 70)],kZ 15 kz1,S 15 71 15])) (G [D 72 12 0,J 73 72 3,D 74 15 5,S 74 73 3] (G [J 75 15 15,S 10 75 15] kr))))) ks)))) (K.ops [M 24 11,kBi 25 24 1 .add,M 11 25])))))) (G [M 76 0,J 77 6 5,M 78 2,M 79 3,M 80 4,kC 81 95 [(kt 76),(kt 77),(kt 78),(kt 79),(kt 80)],S 10 81 15] kr))
theorem qId:ky f94 qA2:=m_ (by kernel_rfl)
abbrev zQb:FuncId:=94
def zPZ(m:Mk)(t:Typ)(k:Nat):Bool:=match m.defs[k]? with
 |some d=>decide (d.kind=2)&&(zAt m k&&yH d.res t)
 |none=>false
theorem zMz{R:Nat}{len:Nat}(hc:0<=c)(hl:Lim m (7*c+7))(x:Nat)(hk:dG hs R c (depth-1) (fun r=>r<=R) len)
 (hx:Cx hs R m)(he:EnvOk hs R m.temp env)(h1:0<env.length)(h2:env.length<=len)(hd1 : -1000<=depth)(hd2:depth<=1000)(t:Typ)
 (hop:bW hs m.own opF m [.ptr 0 0,.agg (zB t),.sl env.length (zU env),int x,int depth] env t (7*c+7)) :
 bW hs m.own zQb m [.ptr 0 0,.agg (zB t),.sl env.length (zU env),int x,int depth] env t (7*c+7):=by
 have hdl:=hx.dlen;have hd100:=hx.len;have hd0:=hx.len0;have hN:0<m.defs.length:=by omega
 have wd:=z8 (depth-1) (by omega);obtain⟨i0,e,m',hi0,hlow,hfull,hhit,hA,hW,hS,hZ⟩:∃(i0:Nat) (e:Exp) (m':Mk),i0<=m.defs.length/\(∀i<i0,zPZ m t i=false) /\
  (i0=m.defs.length->my opF [.ptr 0 0,.agg (zB t),.sl env.length (zU env),int x,int depth] (mkS m) (.agg (zH e)) (mkS m')) /\
  (∀(D:Dfn),m.defs[i0]?=some D->D.kind=2/\zAt m i0=true/\D.res=t/\∃(es:wH) (ms:Nat->Mk),es.length=D.slots.length/\ms 0=m/\Lim (ms es.length) 1 /\
   (∀(j:Nat) (hj:j<es.length) (hj':j<D.slots.length),my aX [.ptr 0 0,.agg (zB D.slots[j].typ),.sl env.length (zU env),int (depth-1)] (mkS (ms j)) (.agg (zH es[j])) (mkS (ms (j+1)))) /\
   e=.mk ⟨0,0,(ms es.length).temp⟩ 3 0 D.id Typ.zero es []/\m'={ms es.length with temp:=(ms es.length).temp+1,left:=(ms es.length).left-1}) /\
  Adv m m' (7*c+7)/\WT hs m.own env e t/\Seg m.temp m'.temp (tmps e)/\e.num0:=by
  by_cases hex:∃i,i<m.defs.length/\zPZ m t i=true
  .obtain⟨k,hkm,hp,hlow⟩:=zMI hex;have hks:k<hs.length:=by omega
   have hget:=hx.get hkm;unfold zPZ at hp;rw[jA2 hkm]at hp;simp only[jA7,decide_eq_true_eq]at hp;generalize hD:m.defs[k]=D at hget hp;obtain⟨hkind,hvis,hst⟩:=hp;have hres:=(gF _ _).1 hst;have eid:hs[k].id=D.id:=by rw[hget];rfl
   have eslots:hs[k].slots=D.slots:=by rw[hget];rfl
   have eres:hs[k].res=D.res:=by rw[hget];rfl
   have ekind:hs[k].kind=2:=by rw[hget];exact hkind
   obtain⟨hs6,hsT⟩:=hx.slots k hks;rw[eslots]at hs6 hsT;have hsc:((D.slots.length:Int))*c<=6*c:=jD9 (by omega) hc;obtain⟨es,ms,q1,q2,q3,q4,q5⟩:=zMF hk hc env h1 h2 (D.slots.map (·.typ)) m hx (hl.mono (by rw[jAa];omega)) (fun t ht=>by obtain⟨s,hs',rfl⟩:=jAf.1 ht;exact⟨R,hsT s hs',jA _⟩) he
   rw[jAa]at q1 q3 q4;have ha:=(q3 D.slots.length (jA _)).mono hsc;have hl1:Lim (ms es.length) 1:=by rw[q1];exact Lim.adv (c:=6*c) (c':=1) (hl.mono (by omega)) ha
   refine⟨k,.mk ⟨0,0,(ms es.length).temp⟩ 3 0 D.id Typ.zero es [],{ms es.length with temp:=(ms es.length).temp+1,left:=(ms es.length).left-1},by omega,hlow,fun h=>by omega,fun D' hD'=>?_,by rw[q1];exact(ha.trans (yV _)).mono (by omega),?_,
    by simp only[tmps];rw[q1];exact q4.append (Seg.one _) ha.temp1 (by omega),gS (zBc rfl fun j hj=>(q5 j hj (by rw[jAa];omega)).2.2)⟩
   .rw[jA2 hkm,hD]at hD';injection hD' with hD'
    subst hD';refine⟨hkind,hvis,hres,es,ms,q1,q2,hl1,fun j hj hj'=>?_,rfl,rfl⟩;have:=(q5 j hj (by rw[jAa];omega)).1;rw[jB5]at this;exact this
   .have:=WT.call (own:=m.own) env ⟨0,0,(ms es.length).temp⟩ k hks es (zTM hvis) ekind (by rw[eslots,q1]) (fun j hj=>by
     have:=(q5 j hj (by rw[jAa];omega)).2.1;rw[jB5]at this
     simpa only[eslots]using this)
    rw[eid,eres,hres]at this;exact this
  .obtain⟨e,m',g1,g2,g3,g4,g5⟩:=hop;refine⟨m.defs.length,e,m',jA _,fun i hi=>?_,fun _=>g1,(fun D h=>by rw[jBe (jA _)]at h;cases h),g2,g3,g4,g5⟩;cases hp:zPZ m t i
   .rfl
   .exact(hex ⟨i,hi,hp⟩).elim
 refine⟨e,m',?_,hA,hW,hS,hZ⟩;refine zJ func94 rfl qId (rs:=[.cell 10 15 true]) (by kernel_rfl) ?_;unfold qA2;simp[mkS,mkB,zB];refine qH (S:=Nat) (fun i=>[(0,.ptr 0 0),(2,.sl env.length (zU env)),(3,int x),(4,int depth),(6,.ptr 2 0),(10,.ptr 3 0),(11,int i)])
  (fun _=>mkS m++[.box (zB t),.box (zH Exp.zero)]) (fun i=>i<=i0) (fun i=>i0-i) 0 (by simp)
  (mw [0,1,2,3] 0 (by rfl) (by simp[mkS,mkB,zB,zH,Exp.zero,Id.zero,Typ.zero])) ?_
 intro i hi;by_cases h:i<m.defs.length
 .have w2:=yU i (by omega);have hlow':=fun hlt:i<i0=>hlow i hlt
  have hhit':i=i0->_:=fun e=>hhit m.defs[i] (by rw[<-e,jA2 h])
  unfold zPZ at hlow';rw[jA2 h]at hlow';have hsl:m.defs[i].slots.length<=6:=by have:=(hx.slots i (by omega)).1;rw[hx.get h]at this;exact this
  have hdr:=j5 h;have hb31:i*31+31<=m.defs.length*31:=by omega
  generalize m.defs[i]=D at hlow' hhit' hsl hdr;by_cases hlt:i<i0
  .have hno:=hlow' hlt;simp only at hno;by_cases hkd:D.kind=2
   .simp[mkS,mkB,h,hdr,hb31,zQ,hkd];refine mr (zFk m i h hx.mods) [0,1] (by simp[mkS,mkB]) ?_;cases hv:zAt m i
    .simp[mkS,mkB];exact zN (i+1) (by omega) (by omega) (mw [0,1,2,3] 0 (by rfl) (by simp[mkS,mkB,zB,zH,Exp.zero,Id.zero,Typ.zero,w2]))
    .have hsf:yH D.res t=false:=by simpa[hkd,hv]using hno
     simp[mkS,mkB,zQ,zB];refine mu (mQ D.res t) (by simp[zB]) ?_;rw[hsf];simp[mkS,mkB];exact zN (i+1) (by omega) (by omega) (mw [0,1,2,3] 0 (by rfl) (by simp[mkS,mkB,zB,zH,Exp.zero,Id.zero,Typ.zero,w2]))
   .simp[mkS,mkB,h,hdr,hb31,zQ,hkd];exact zN (i+1) (by omega) (by omega) (mw [0,1,2,3] 0 (by rfl) (by simp[mkS,mkB,zB,zH,Exp.zero,Id.zero,Typ.zero,w2]))
  .have hie:i=i0:=by omega
   subst hie;obtain⟨hkd,hv,hres,es,ms,q1,q2,hln,g1,he1,he2⟩:=hhit' rfl;obtain⟨l1,l2,l3,l4,l5,l6,l7,l8⟩:=hln;subst he1 he2;simp[mkS,mkB,h,hdr,hb31,zQ,hkd];refine mr (zFk m i h hx.mods) [0,1] (by simp[mkS,mkB]) ?_;rw[hv];simp[mkS,mkB,zQ,zB];refine mu (mQ D.res t) (by simp[zB]) ?_;rw[show yH D.res t=true from (gF _ _).2 hres];simp[mkS,mkB];refine qH (S:=Nat) (fun j=>[(0,.ptr 0 0),(2,.sl env.length (zU env)),(4,int depth),(10,.ptr 3 0),(12,.ptr 4 0),(13,.row 5 j),(14,int j)])
    (fun j=>mkS (ms j)++[.box (zB t),.box (zH Exp.zero),.box (zQ D),.row false 40 15 j (qS (es.take j))]) (fun j=>j<=es.length) (fun j=>es.length-j) 0 (by simp)
    ((jS (t:=13) (by simp) 40 15).trans (mw [0,1,2,3,4,5] 0 (by rfl) (by simp[mkS,mkB,zB,q2,zH,Exp.zero,Id.zero,Typ.zero,zQ,hkd]))) ?_
   intro j hj;by_cases hj2:j<es.length
   .have hjd:j<D.slots.length:=by omega
    have g1':=g1 j hj2 hjd;have hst:qS (es.take (j+1))=qS (es.take j)++zH es[j]:=aR hj2;have hw:=yU j (by omega);have hdS:List.drop (j*11+4) (qW D.slots)=(aD D.slots[j]++qW (D.slots.drop (j+1))).drop 4:=by rw[<-jAy,jN hjd]
    have hbS:j*11+4+5<=D.slots.length*11:=by omega
    simp[mkS,mkB,zQ,hjd,hdS,hbS,aD,wd];intro _;refine mr g1' [0,1] (by simp[mkS,mkB,zB]) ?_;simp[mkS,mkB];refine⟨⟨by simp[maxLen];omega,by omega⟩,?_⟩;exact zN (j+1) hj2 (by omega) (mw [0,1,2,3,4,5] 0 (by rfl) (by simp[mkS,mkB,zB,zH,Exp.zero,Id.zero,Typ.zero,hst,zQ,hw]))
   .have hje:j=es.length:=by omega
    subst hje;have hid:¬es.length<D.slots.length:=by omega
    simp[mkS,mkB,zQ,hid];intro _;refine⟨jR [(0,.ptr 0 0),(10,.ptr 3 0),(12,.ptr 4 0),(13,.sl es.length (qS es))],mkS (ms es.length)++[.box (zB t),.box (zH Exp.zero),.box (zQ D)],mw [0,1,2,3,4] 1 (by rfl) (by simp[mkS,mkB,zB,zH,Exp.zero,Id.zero,Typ.zero,zQ]),?_⟩;simp[mkS,mkB];refine mr (y5 (ms es.length) 3 0 es l3 (by omega) (by omega) l6) [0,1] (by simp[mkS,mkB]) ?_;simp[mkS,mkB,zH,zQ];exact mv [0,1] 0 (by rfl) (by simp[zH])
 .have hii:i=m.defs.length:=by omega
  have hi0':i0=m.defs.length:=by omega
  subst hii;simp[mkS,mkB,zB];refine mr (hfull hi0') [0,1] (by simp[mkS,mkB,zB]) ?_;simp[mkS,mkB];exact mv [0,1] 0 (by rfl) (by simp[zH])
end Go.Proofs.YtolkhapmieigcaaGreatDoor
