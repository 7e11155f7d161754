/- The maker's fields and calls. -/
import Derived.Test.YtdnelmeboihpkaaGreatDoorX12
set_option linter.unusedVariables false
set_option maxHeartbeats 8000000
set_option maxRecDepth 100000
set_option linter.unusedSimpArgs false
open Go.Proofs.Tryz
namespace Go.Proofs.YtdnelmeboihpkaaGreatDoor
open Go.Abs
abbrev zRS:FuncId:=136
theorem zOa{p:Nat->Bool}:∀{n:Nat},(∃i,i<n/\p i=true)->∃i,i<n/\p i=true/\∀j<i,p j=false
 | 0,⟨i,hi,_⟩=>by omega
 |n+1,⟨i,hi,hp⟩=>by
  by_cases h:∃i,i<n/\p i=true
  .obtain⟨j,h1,h2,h3⟩:=zOa h;exact⟨j,by omega,h2,h3⟩
  .have hin:i=n:=by
    by_cases e:i=n
    .exact e
    .exact(h ⟨i,by omega,hp⟩).elim
   subst hin;refine⟨i,by omega,hp,fun j hj=>?_⟩;cases hpj:p j
   .rfl
   .exact(h ⟨j,hj,hpj⟩).elim
def zRV(m:Mk)(t:Typ)(k:Nat):Bool:=match m.defs[k]? with
 |some d=>decide (d.kind=0)&&(zBc m k&&d.slots.any fun s=>aU s.typ t)
 |none=>false
variable{hs:wP}{R:Nat}{m:Mk}{env:wJ}{c depth:Int}
theorem zRT{len:Nat}(hc:0<=c)(hl:Lim m (7*c+7))(x:Nat)(hx1:x<=65536)(hk:eL hs R c (depth-1) (fun r=>r<=R) len)
 (hx:Cx hs R m)(he:EnvOk hs R m.temp env)(h1:0<env.length)(h2:env.length<=len)(h3:env.length<=1000)(hd1 : -1000<=depth)(hd2:depth<=1000)(t:Typ)(ht:TyOk hs R t)
 (hop:c6 hs m.own opF m [.ptr 0 0,.agg (zB t),.sl env.length (qC env),int x,int depth] env t (7*c+7)) :
 c6 hs m.own zRS m [.ptr 0 0,.agg (zB t),.sl env.length (qC env),int x,int depth] env t (7*c+7):=by
 have hdl:=hx.dlen;have hd100:=hx.len;have hd0:=hx.len0;have hN:0<m.defs.length:=by omega
 have wd:=zY (depth-1) (by omega);obtain⟨i0,e,m',hi0,hlow,hfull,hhit,hA,hW,hS,hZ⟩:∃(i0:Nat) (e:Exp) (m':Mk),i0<=m.defs.length/\(∀i<i0,zRV m t ((x+i) % m.defs.length)=false) /\
  (i0=m.defs.length->mv opF [.ptr 0 0,.agg (zB t),.sl env.length (qC env),int x,int depth] (mkS m) (.agg (zI e)) (mkS m')) /\
  (∀(hlt:i0<m.defs.length) (D:Dfn),m.defs[(x+i0) % m.defs.length]?=some D->D.kind=0/\zBc m ((x+i0) % m.defs.length)=true/\∃(j0:Nat) (hj0:j0<D.slots.length) (a:Exp) (m1:Mk),aU D.slots[j0].typ t=true/\(∀(j:Nat) (hj:j<j0),aU D.slots[j].typ t=false) /\
   mv bX [.ptr 0 0,.agg (zB (yI D.id)),.sl env.length (qC env),int (depth-1)] (mkS m) (.agg (zI a)) (mkS m1)/\Lim m1 1 /\
   e=.mk ⟨0,0,m1.temp⟩ 8 j0 D.id Typ.zero [a] []/\m'={m1 with temp:=m1.temp+1,left:=m1.left-1}) /\
  Adv m m' (7*c+7)/\WT hs m.own env e t/\Seg m.temp m'.temp (tmps e)/\e.num0:=by
  by_cases hex:∃i,i<m.defs.length/\zRV m t ((x+i) % m.defs.length)=true
  .obtain⟨i0,hi0,hp,hlow⟩:=zOa hex;have hkm:=Nat.mod_lt (x+i0) hN;generalize hkk:(x+i0) % m.defs.length=k at hkm hp;have hks:k<hs.length:=by omega
   have hget:=hx.get hkm;unfold zRV at hp;rw[jA1 hkm]at hp;simp only[jA7,decide_eq_true_eq]at hp;generalize hD:m.defs[k]=D at hget hp;obtain⟨hkind,hvis,hany⟩:=hp;have eid:hs[k].id=D.id:=by rw[hget];rfl
   have eslots:hs[k].slots=D.slots:=by rw[hget];rfl
   have ekind:hs[k].kind=0:=by rw[hget];exact hkind
   obtain⟨j0,hj0,hpj,hlj⟩:=zOa (p:=fun j=>match D.slots[j]? with|some s=>aU s.typ t|none=>false) (n:=D.slots.length) (by
    rw[List.any_eq_true]at hany;obtain⟨s,hs1,hs2⟩:=hany;obtain⟨j,hj,rfl⟩:=jAn hs1;exact⟨j,hj,by simp only[jA1 hj];exact hs2⟩)
   simp only[jA1 hj0]at hpj;obtain⟨a,m1,g1,g2,g3,g4,g5⟩:=hk m R (yI hs[k].id) env hx (hl.mono (by omega)) (hx.typs k hks (.inl ekind)) (jA _) he h1 h2;refine⟨i0,.mk ⟨0,0,m1.temp⟩ 8 j0 D.id Typ.zero [a] [],{m1 with temp:=m1.temp+1,left:=m1.left-1},by omega,hlow,fun h=>by omega,fun hlt D' hD'=>?_,(g2.trans (aL _)).mono (by omega),?_,zIE g4 g2.temp1,zFp g5⟩
   .rw[hkk,jA1 hkm,hD]at hD';injection hD' with hD'
    subst hD';rw[hkk];refine⟨hkind,hvis,j0,hj0,a,m1,hpj,fun j hj=>?_,by rw[<-eid];exact g1,Lim.adv (c:=c) (hl.mono (by omega)) g2,rfl,rfl⟩;have:=hlj j hj;simp only[jA1 (show j<D.slots.length by omega)]at this;exact this
   .have hjs:j0<hs[k].slots.length:=by rw[eslots];exact hj0
    have:=WT.field (own:=m.own) env ⟨0,0,m1.temp⟩ k hks j0 hjs a ekind g3;rw[eid]at this;have e2:hs[k].slots[j0].typ=t:=by rw[<-(sA _ _).1 hpj];simp only[eslots]
    rw[e2]at this;exact this
  .obtain⟨e,m',g1,g2,g3,g4,g5⟩:=hop;refine⟨m.defs.length,e,m',jA _,fun i hi=>?_,fun _=>g1,fun h=>by omega,g2,g3,g4,g5⟩;cases hp:zRV m t ((x+i) % m.defs.length)
   .rfl
   .exact(hex ⟨i,hi,hp⟩).elim
 refine⟨e,m',?_,hA,hW,hS,hZ⟩;refine ml [] [.cell 10 15 true] func136 (by kernel_rfl) ?_
 (conv in kq _ _=>cbv)
 simp[mkS,mkB,zB];refine qK (S:=Nat) (fun i=>[(0,.ptr 0 0),(2,.sl env.length (qC env)),(3,int x),(4,int depth),(6,.ptr 2 0),(10,.ptr 3 0),(11,int i)])
  (fun _=>mkS m++[.box (zB t),.box (zI Exp.zero)]) (fun i=>i<=i0) (fun i=>i0-i) 0 (by simp)
  (mu [0,1,2,3] 0 (by rfl) (by simp[mkS,mkB,zB,zI,Exp.zero,Id.zero,Typ.zero])) ?_
 intro i hi;by_cases h:i<m.defs.length
 .have hkm:=Nat.mod_lt (x+i) hN;have w1:=zY ((x:Int)+i) (by omega);have w2:=jZ i (by omega);have e1:Int.tmod ((x:Int)+i) (m.defs.length:Int)=(((x+i) % m.defs.length:Nat):Int):=by rw[tmN (by omega)];simp
  have hnil:m.defs≠[]:=fun e=>by rw[e]at hN;simp at hN
  have hne:¬((m.defs.length:Int)=0):=by omega
  have hlow':=fun hlt:i<i0=>hlow i hlt
  have hhit':i=i0->_:=fun e=>hhit (by omega) m.defs[(x+i) % m.defs.length] (by rw[<-e,jA1 hkm])
  unfold zRV at hlow';rw[jA1 hkm]at hlow';have hsl:m.defs[(x+i) % m.defs.length].slots.length<=6:=by have:=(hx.slots ((x+i) % m.defs.length) (by omega)).1;rw[hx.get hkm]at this;exact this
  generalize hkk:(x+i) % m.defs.length=k at hkm e1 hlow' hhit' hsl;generalize hD:m.defs[k]=D at hlow' hhit' hsl;have hdr:=yG hkm;rw[hD]at hdr;have hb31:k*31+31<=m.defs.length*31:=by omega
  simp[mkS,mkB,h,w1,e1,hne,hkm,hdr,hb31,zJ,hnil];by_cases hlt:i<i0
  .have hno:=hlow' hlt;refine qK (S:=Nat) (fun j=>[(0,.ptr 0 0),(2,.sl env.length (qC env)),(3,int x),(4,int depth),(6,.ptr 2 0),(10,.ptr 3 0),(11,int i),(12,int k),(13,.ptr 4 0),(14,int j)])
    (fun _=>mkS m++[.box (zB t),.box (zI Exp.zero),.box (zJ D)]) (fun j=>j<=D.slots.length) (fun j=>D.slots.length-j) 0 (by simp)
    (mu [0,1,2,3,4] 0 (by rfl) (by simp[mkS,mkB,zB,zI,Exp.zero,Id.zero,Typ.zero,zJ])) ?_
   intro j hj;by_cases hjl:j<D.slots.length
   .have hdS:List.drop (j*11+4) (jS D.slots)=(j8 D.slots[j]++jS (D.slots.drop (j+1))).drop 4:=by rw[<-jBc,qZ hjl]
    have hbS:j*11+4+5<=D.slots.length*11:=by omega
    by_cases hkd:D.kind=0
    .simp[mkS,mkB,zJ,zB,hjl,hkd];intro _;refine mn (zFX m k hkm hx.mods) [0,1] (by simp[mkS,mkB]) ?_;cases hv:zBc m k
     .simp[mkS,mkB];exact zO (i+1) (by omega) (by omega) (mu [0,1,2,3] 0 (by rfl) (by simp[mkS,mkB,zB,zI,Exp.zero,Id.zero,Typ.zero,w2]))
     .have hsf:aU D.slots[j].typ t=false:=by
       simp only[hkd,hv,decide_true,jBm]at hno;rw[List.any_eq_false]at hno
       simpa using hno D.slots[j] (jA0 hjl)
      have hw:=jZ j (by omega);simp[mkS,mkB,zJ,zB,hjl,hdS,hbS,j8];refine z7 (nZ D.slots[j].typ t) (by simp[zB]) (by simp) ?_;rw[hsf];simp[mkS,mkB];exact zO (j+1) hjl (by omega) (mu [0,1,2,3,4] 0 (by rfl) (by simp[mkS,mkB,zB,zI,Exp.zero,Id.zero,Typ.zero,zJ,hkd,hw]))
    .simp[mkS,mkB,zJ,zB,hjl,hkd];intro _;exact zO (i+1) (by omega) (by omega) (mu [0,1,2,3] 0 (by rfl) (by simp[mkS,mkB,zB,zI,Exp.zero,Id.zero,Typ.zero,w2]))
   .simp[mkS,mkB,zJ,zB,hjl];intro _;exact zO (i+1) (by omega) (by omega) (mu [0,1,2,3] 0 (by rfl) (by simp[mkS,mkB,zB,zI,Exp.zero,Id.zero,Typ.zero,w2]))
  .have hie:i=i0:=by omega
   subst hie;obtain⟨hkd,hv,j0,hj0,a,m1,hj1,hj2,g1,hln,he1,he2⟩:=hhit' rfl;rw[hkk]at hv;obtain⟨l1,l2,l3,l4,l5,l6,l7,l8⟩:=hln;subst he1 he2;refine qK (S:=Nat) (fun j=>[(0,.ptr 0 0),(2,.sl env.length (qC env)),(3,int x),(4,int depth),(6,.ptr 2 0),(10,.ptr 3 0),(11,int i),(12,int k),(13,.ptr 4 0),(14,int j)])
    (fun _=>mkS m++[.box (zB t),.box (zI Exp.zero),.box (zJ D)]) (fun j=>j<=j0) (fun j=>j0-j) 0 (by simp)
    (mu [0,1,2,3,4] 0 (by rfl) (by simp[mkS,mkB,zB,zI,Exp.zero,Id.zero,Typ.zero,zJ])) ?_
   intro j hj;have hjl:j<D.slots.length:=by omega
   have hdS:List.drop (j*11+4) (jS D.slots)=(j8 D.slots[j]++jS (D.slots.drop (j+1))).drop 4:=by rw[<-jBc,qZ hjl]
   have hbS:j*11+4+5<=D.slots.length*11:=by omega
   have hw:=jZ j (by omega);simp[mkS,mkB,zJ,zB,hjl,hkd];intro _;refine mn (zFX m k hkm hx.mods) [0,1] (by simp[mkS,mkB]) ?_;rw[hv];simp[mkS,mkB,zJ,zB,hjl,hdS,hbS,j8];refine z7 (nZ D.slots[j].typ t) (by simp[zB]) (by simp) ?_;by_cases hjj:j<j0
   .rw[hj2 j hjj];simp[mkS,mkB];exact zO (j+1) hjj (by omega) (mu [0,1,2,3,4] 0 (by rfl) (by simp[mkS,mkB,zB,zI,Exp.zero,Id.zero,Typ.zero,zJ,hkd,hw]))
   .have hje:j=j0:=by omega
    subst hje;rw[hj1];simp[mkS,mkB];refine mq (zBN D.id) (by simp[zK]) ?_;simp[mkS,mkB,wd];refine mn g1 [0,1] (by simp[mkS,mkB,zB,yI]) ?_;simp[mkS,mkB];refine mn (aZ m1 8 j [a] l3 (by omega) (by omega) l6) [0,1] (by simp[mkS,mkB,zQ]) ?_;simp[mkS,mkB,zI];exact mr [0,1] 0 (by rfl) (by simp[zI,zQ])
 .have hii:i=m.defs.length:=by omega
  have hi0':i0=m.defs.length:=by omega
  subst hii;simp[mkS,mkB,zB];refine mn (hfull hi0') [0,1] (by simp[mkS,mkB,zB]) ?_;simp[mkS,mkB];exact mr [0,1] 0 (by rfl) (by simp[zI])
abbrev zRj:FuncId:=137
def zRh(m:Mk)(t:Typ)(k:Nat):Bool:=match m.defs[k]? with
 |some d=>decide (d.kind=2)&&(zBc m k&&aU d.res t)
 |none=>false
theorem zN8{len:Nat}(hc:0<=c)(hl:Lim m (7*c+7))(x:Nat)(hk:eL hs R c (depth-1) (fun r=>r<=R) len)
 (hx:Cx hs R m)(he:EnvOk hs R m.temp env)(h1:0<env.length)(h2:env.length<=len)(hd1 : -1000<=depth)(hd2:depth<=1000)(t:Typ)
 (hop:c6 hs m.own opF m [.ptr 0 0,.agg (zB t),.sl env.length (qC env),int x,int depth] env t (7*c+7)) :
 c6 hs m.own zRj m [.ptr 0 0,.agg (zB t),.sl env.length (qC env),int x,int depth] env t (7*c+7):=by
 have hdl:=hx.dlen;have hd100:=hx.len;have hd0:=hx.len0;have hN:0<m.defs.length:=by omega
 have wd:=zY (depth-1) (by omega);obtain⟨i0,e,m',hi0,hlow,hfull,hhit,hA,hW,hS,hZ⟩:∃(i0:Nat) (e:Exp) (m':Mk),i0<=m.defs.length/\(∀i<i0,zRh m t i=false) /\
  (i0=m.defs.length->mv opF [.ptr 0 0,.agg (zB t),.sl env.length (qC env),int x,int depth] (mkS m) (.agg (zI e)) (mkS m')) /\
  (∀(D:Dfn),m.defs[i0]?=some D->D.kind=2/\zBc m i0=true/\D.res=t/\∃(es:wG) (ms:Nat->Mk),es.length=D.slots.length/\ms 0=m/\Lim (ms es.length) 1 /\
   (∀(j:Nat) (hj:j<es.length) (hj':j<D.slots.length),mv bX [.ptr 0 0,.agg (zB D.slots[j].typ),.sl env.length (qC env),int (depth-1)] (mkS (ms j)) (.agg (zI es[j])) (mkS (ms (j+1)))) /\
   e=.mk ⟨0,0,(ms es.length).temp⟩ 3 0 D.id Typ.zero es []/\m'={ms es.length with temp:=(ms es.length).temp+1,left:=(ms es.length).left-1}) /\
  Adv m m' (7*c+7)/\WT hs m.own env e t/\Seg m.temp m'.temp (tmps e)/\e.num0:=by
  by_cases hex:∃i,i<m.defs.length/\zRh m t i=true
  .obtain⟨k,hkm,hp,hlow⟩:=zOa hex;have hks:k<hs.length:=by omega
   have hget:=hx.get hkm;unfold zRh at hp;rw[jA1 hkm]at hp;simp only[jA7,decide_eq_true_eq]at hp;generalize hD:m.defs[k]=D at hget hp;obtain⟨hkind,hvis,hst⟩:=hp;have hres:=(sA _ _).1 hst;have eid:hs[k].id=D.id:=by rw[hget];rfl
   have eslots:hs[k].slots=D.slots:=by rw[hget];rfl
   have eres:hs[k].res=D.res:=by rw[hget];rfl
   have ekind:hs[k].kind=2:=by rw[hget];exact hkind
   obtain⟨hs6,hsT⟩:=hx.slots k hks;rw[eslots]at hs6 hsT;have hsc:((D.slots.length:Int))*c<=6*c:=jDa (by omega) hc;obtain⟨es,ms,q1,q2,q3,q4,q5⟩:=zNW hk hc env h1 h2 (D.slots.map (·.typ)) m hx (hl.mono (by rw[jAe];omega)) (fun t ht=>by obtain⟨s,hs',rfl⟩:=jAd.1 ht;exact⟨R,hsT s hs',jA _⟩) he
   rw[jAe]at q1 q3 q4;have ha:=(q3 D.slots.length (jA _)).mono hsc;have hl1:Lim (ms es.length) 1:=by rw[q1];exact Lim.adv (c:=6*c) (c':=1) (hl.mono (by omega)) ha
   refine⟨k,.mk ⟨0,0,(ms es.length).temp⟩ 3 0 D.id Typ.zero es [],{ms es.length with temp:=(ms es.length).temp+1,left:=(ms es.length).left-1},by omega,hlow,fun h=>by omega,fun D' hD'=>?_,by rw[q1];exact(ha.trans (aL _)).mono (by omega),?_,
    by simp only[tmps];rw[q1];exact q4.append (Seg.one _) ha.temp1 (by omega),lN (zBK rfl fun j hj=>(q5 j hj (by rw[jAe];omega)).2.2)⟩
   .rw[jA1 hkm,hD]at hD';injection hD' with hD'
    subst hD';refine⟨hkind,hvis,hres,es,ms,q1,q2,hl1,fun j hj hj'=>?_,rfl,rfl⟩;have:=(q5 j hj (by rw[jAe];omega)).1;rw[jAw]at this;exact this
   .have:=WT.call (own:=m.own) env ⟨0,0,(ms es.length).temp⟩ k hks es (zVC hvis) ekind (by rw[eslots,q1]) (fun j hj=>by
     have:=(q5 j hj (by rw[jAe];omega)).2.1;rw[jAw]at this
     simpa only[eslots]using this)
    rw[eid,eres,hres]at this;exact this
  .obtain⟨e,m',g1,g2,g3,g4,g5⟩:=hop;refine⟨m.defs.length,e,m',jA _,fun i hi=>?_,fun _=>g1,(fun D h=>by rw[jBd (jA _)]at h;cases h),g2,g3,g4,g5⟩;cases hp:zRh m t i
   .rfl
   .exact(hex ⟨i,hi,hp⟩).elim
 refine⟨e,m',?_,hA,hW,hS,hZ⟩;refine mg [69] [] [] [.cell 10 15 true] func137 (by kernel_rfl) ?_
 (conv in kH _ _ _=>cbv)
 simp[mkS,mkB,zB];refine qK (S:=Nat) (fun i=>[(0,.ptr 0 0),(2,.sl env.length (qC env)),(3,int x),(4,int depth),(6,.ptr 2 0),(10,.ptr 3 0),(11,int i)])
  (fun _=>mkS m++[.box (zB t),.box (zI Exp.zero)]) (fun i=>i<=i0) (fun i=>i0-i) 0 (by simp)
  (mu [0,1,2,3] 0 (by rfl) (by simp[mkS,mkB,zB,zI,Exp.zero,Id.zero,Typ.zero])) ?_
 intro i hi;by_cases h:i<m.defs.length
 .have w2:=jZ i (by omega);have hlow':=fun hlt:i<i0=>hlow i hlt
  have hhit':i=i0->_:=fun e=>hhit m.defs[i] (by rw[<-e,jA1 h])
  unfold zRh at hlow';rw[jA1 h]at hlow';have hsl:m.defs[i].slots.length<=6:=by have:=(hx.slots i (by omega)).1;rw[hx.get h]at this;exact this
  have hdr:=yG h;have hb31:i*31+31<=m.defs.length*31:=by omega
  generalize m.defs[i]=D at hlow' hhit' hsl hdr;by_cases hlt:i<i0
  .have hno:=hlow' hlt;simp only at hno;by_cases hkd:D.kind=2
   .simp[mkS,mkB,h,hdr,hb31,zJ,hkd];refine mn (zFX m i h hx.mods) [0,1] (by simp[mkS,mkB]) ?_;cases hv:zBc m i
    .simp[mkS,mkB];exact zO (i+1) (by omega) (by omega) (mu [0,1,2,3] 0 (by rfl) (by simp[mkS,mkB,zB,zI,Exp.zero,Id.zero,Typ.zero,w2]))
    .have hsf:aU D.res t=false:=by simpa[hkd,hv]using hno
     simp[mkS,mkB,zJ,zB];refine mq (nZ D.res t) (by simp[zB]) ?_;rw[hsf];simp[mkS,mkB];exact zO (i+1) (by omega) (by omega) (mu [0,1,2,3] 0 (by rfl) (by simp[mkS,mkB,zB,zI,Exp.zero,Id.zero,Typ.zero,w2]))
   .simp[mkS,mkB,h,hdr,hb31,zJ,hkd];exact zO (i+1) (by omega) (by omega) (mu [0,1,2,3] 0 (by rfl) (by simp[mkS,mkB,zB,zI,Exp.zero,Id.zero,Typ.zero,w2]))
  .have hie:i=i0:=by omega
   subst hie;obtain⟨hkd,hv,hres,es,ms,q1,q2,hln,g1,he1,he2⟩:=hhit' rfl;obtain⟨l1,l2,l3,l4,l5,l6,l7,l8⟩:=hln;subst he1 he2;simp[mkS,mkB,h,hdr,hb31,zJ,hkd];refine mn (zFX m i h hx.mods) [0,1] (by simp[mkS,mkB]) ?_;rw[hv];simp[mkS,mkB,zJ,zB];refine mq (nZ D.res t) (by simp[zB]) ?_;rw[show aU D.res t=true from (sA _ _).2 hres];simp[mkS,mkB];refine qK (S:=Nat) (fun j=>[(0,.ptr 0 0),(2,.sl env.length (qC env)),(4,int depth),(10,.ptr 3 0),(12,.ptr 4 0),(13,.row 5 j),(14,int j)])
    (fun j=>mkS (ms j)++[.box (zB t),.box (zI Exp.zero),.box (zJ D),.row false 39 15 j (qT (es.take j))]) (fun j=>j<=es.length) (fun j=>es.length-j) 0 (by simp)
    ((qS (t:=13) (by simp) 39 15).trans (mu [0,1,2,3,4,5] 0 (by rfl) (by simp[mkS,mkB,zB,q2,zI,Exp.zero,Id.zero,Typ.zero,zJ,hkd]))) ?_
   intro j hj;by_cases hj2:j<es.length
   .have hjd:j<D.slots.length:=by omega
    have g1':=g1 j hj2 hjd;have hst:qT (es.take (j+1))=qT (es.take j)++zI es[j]:=bT hj2;have hw:=jZ j (by omega);have hdS:List.drop (j*11+4) (jS D.slots)=(j8 D.slots[j]++jS (D.slots.drop (j+1))).drop 4:=by rw[<-jBc,qZ hjd]
    have hbS:j*11+4+5<=D.slots.length*11:=by omega
    simp[mkS,mkB,zJ,hjd,hdS,hbS,j8,wd];intro _;refine mn g1' [0,1] (by simp[mkS,mkB,zB]) ?_;simp[mkS,mkB];refine⟨⟨by simp[maxLen];omega,by omega⟩,?_⟩;exact zO (j+1) hj2 (by omega) (mu [0,1,2,3,4,5] 0 (by rfl) (by simp[mkS,mkB,zB,zI,Exp.zero,Id.zero,Typ.zero,hst,zJ,hw]))
   .have hje:j=es.length:=by omega
    subst hje;have hid:¬es.length<D.slots.length:=by omega
    simp[mkS,mkB,zJ,hid];intro _;refine⟨qV [(0,.ptr 0 0),(10,.ptr 3 0),(12,.ptr 4 0),(13,.sl es.length (qT es))],mkS (ms es.length)++[.box (zB t),.box (zI Exp.zero),.box (zJ D)],mu [0,1,2,3,4] 1 (by rfl) (by simp[mkS,mkB,zB,zI,Exp.zero,Id.zero,Typ.zero,zJ]),?_⟩;simp[mkS,mkB];refine mn (aZ (ms es.length) 3 0 es l3 (by omega) (by omega) l6) [0,1] (by simp[mkS,mkB]) ?_;simp[mkS,mkB,zI,zJ];exact mr [0,1] 0 (by rfl) (by simp[zI])
 .have hii:i=m.defs.length:=by omega
  have hi0':i0=m.defs.length:=by omega
  subst hii;simp[mkS,mkB,zB];refine mn (hfull hi0') [0,1] (by simp[mkS,mkB,zB]) ?_;simp[mkS,mkB];exact mr [0,1] 0 (by rfl) (by simp[zI])
def qFX:Nat->Option wD:=fun|14=>k_ [0,2002,2002,0,0,0,0,0,1002,0,4,0] | 20=>k_ [2002,0,0,0,0,0,0,0,0,0,0,1002,0,2,0] | 34=>k_ [2002,2002,0,0,0,0,0,1002,0,2,0]|_=>none
noncomputable def rH:{k:K//zV prog f85 qFX []=k}:=⟨_,by conv=>lhs;cbv⟩
theorem sH:kv f85 qFX rH.1:=mw (by kernel_rfl)
abbrev zK8:FuncId:=128
abbrev zJ8:FuncId:=129
variable{m0:Mk}{t:Typ}{X:Int}{F:wJ}
theorem zOU(hd1 : -1000<=depth)(hd2:depth<=1000)(hX0:0<=X)(hX1:X<65536)(hF:F.length<=1000)(hE0:0<env.length)(hE:env.length<=1000)
 (hnum:mv zK8 [.ptr 0 0,int 65536] (mkS m) (int X) (mkS m0))(hfit:mv zJ8 [.sl env.length (qC env),.agg (zB t)] [] (.sl F.length (qC F)) [])(hleft:0<m0.left)(hd:0<depth)(hF0:F≠[])(hX3:X.tmod 3=0)(h0:0<=m0.temp)(h1:m0.temp<=1000000000000000)(h2 : -1000000000000000<=m0.left)(h3:m0.left<=1000000000000000) :
 ∃b∈F,mv bX [.ptr 0 0,.agg (zB t),.sl env.length (qC env),int depth] (mkS m) (.agg (zI (.mk ⟨0,0,m0.temp⟩ 2 b.n b.id Typ.zero [] []))) (mkS {m0 with temp:=m0.temp+1,left:=m0.left-1}):=by
 have hl':¬m0.left<=0:=by omega
 have hd':¬depth<=0:=by omega
 have d3:X.tdiv 3=X / 3:=tdN hX0;have w3:=zY (X.tdiv 3) (by omega);have hFl:0<F.length:=by cases F with
  |nil=>exact(hF0 rfl).elim
  |cons=>simp
 obtain⟨j,hj,e1⟩:∃j:Nat,j<F.length/\(X.tdiv 3).tmod (F.length:Int)=j:=by
  have q0:0<=X.tdiv 3:=by omega
  have q1:=jDb (X.tdiv 3) (b:=(F.length:Int)) (by omega);have q2:=jD1 (X.tdiv 3) (b:=(F.length:Int)) (by omega);exact⟨((X.tdiv 3) % F.length).toNat,by omega,by rw[tmN q0];omega⟩
 have hdr:=iV hj;have hbj:j*9+9<=F.length*9:=by omega
 have hne:¬((F.length:Int)=0):=by omega
 refine⟨F[j],jA0 hj,?_⟩;have hvar:=zTE m0 F[j] h0 h1 h2 h3;refine zN func85 rfl sH (rs:=[.cell 8 15 true]) (by kernel_rfl) ?_
 simp only[rH]
 simp[mkS,mkB,zB];refine mn hnum [0,1] (by simp[mkS,mkB]) ?_;simp[mkS,mkB];refine mq hfit (by simp[zB]) ?_;simp[mkS,mkB,hl',hd',hX3,hFl,hF0,w3,e1,hne,hj,hdr,hbj];intro _;refine mn hvar [0,1] (by simp[mkS,mkB,c7]) ?_;simp[mkS,mkB,zI];exact mr [0,1] 0 (by rfl) (by simp[zI])
variable{d:Int}
theorem zOV(hd1 : -1000<=depth)(hd2:depth<=1000)(hX0:0<=X)(hX1:X<65536)(hF:F.length<=1000)(hE0:0<env.length)(hE:env.length<=1000)
 (hnum:mv zK8 [.ptr 0 0,int 65536] (mkS m) (int X) (mkS m0))(hfit:mv zJ8 [.sl env.length (qC env),.agg (zB t)] [] (.sl F.length (qC F)) [])(hd:d<=0)(hcase:m0.left<=0/\0<depth/\d=0\/m0.left<=0/\depth<=0/\d=depth\/0<m0.left/\depth<=0/\d=depth)(hF0:F≠[])(h0:0<=m0.temp)(h1:m0.temp<=1000000000000000)(h2 : -1000000000000000<=m0.left)(h3:m0.left<=1000000000000000) :
 ∃b∈F,mv bX [.ptr 0 0,.agg (zB t),.sl env.length (qC env),int depth] (mkS m) (.agg (zI (.mk ⟨0,0,m0.temp⟩ 2 b.n b.id Typ.zero [] []))) (mkS {m0 with temp:=m0.temp+1,left:=m0.left-1}):=by
 have d3:X.tdiv 3=X / 3:=tdN hX0;have w3:=zY (X.tdiv 3) (by omega);have hFl:0<F.length:=by cases F with
  |nil=>exact(hF0 rfl).elim
  |cons=>simp
 obtain⟨j,hj,e1⟩:∃j:Nat,j<F.length/\(X.tdiv 3).tmod (F.length:Int)=j:=by
  have q0:0<=X.tdiv 3:=by omega
  have q1:=jDb (X.tdiv 3) (b:=(F.length:Int)) (by omega);have q2:=jD1 (X.tdiv 3) (b:=(F.length:Int)) (by omega);exact⟨((X.tdiv 3) % F.length).toNat,by omega,by rw[tmN q0];omega⟩
 have hdr:=iV hj;have hbj:j*9+9<=F.length*9:=by omega
 have hne:¬((F.length:Int)=0):=by omega
 refine⟨F[j],jA0 hj,?_⟩;have hvar:=zTE m0 F[j] h0 h1 h2 h3;rcases hcase with ⟨hl1,hp,hdd⟩|⟨hl1,hp,hdd⟩|⟨hl1,hp,hdd⟩
 .subst hdd;refine zN func85 rfl sH (rs:=[.cell 8 15 true]) (by kernel_rfl) ?_
  simp only[rH]
  simp[mkS,mkB,zB];refine mn hnum [0,1] (by simp[mkS,mkB]) ?_;simp[mkS,mkB];refine mq hfit (by simp[zB]) ?_;simp[mkS,mkB,hl1,hp,hFl,hF0,w3,e1,hne,hj,hdr,hbj];intro _;refine mn hvar [0,1] (by simp[mkS,mkB,c7]) ?_;simp[mkS,mkB,zI];exact mr [0,1] 0 (by rfl) (by simp[zI])
 .have hp0:¬0<depth:=by omega
  subst hdd;refine zN func85 rfl sH (rs:=[.cell 8 15 true]) (by kernel_rfl) ?_
  simp only[rH]
  simp[mkS,mkB,zB];refine mn hnum [0,1] (by simp[mkS,mkB]) ?_;simp[mkS,mkB];refine mq hfit (by simp[zB]) ?_;simp[mkS,mkB,hl1,hp,hp0,hFl,hF0,w3,e1,hne,hj,hdr,hbj];intro _;refine mn hvar [0,1] (by simp[mkS,mkB,c7]) ?_;simp[mkS,mkB,zI];exact mr [0,1] 0 (by rfl) (by simp[zI])
 .have hp0:¬0<depth:=by omega
  have hl2:¬m0.left<=0:=by omega
  subst hdd;refine zN func85 rfl sH (rs:=[.cell 8 15 true]) (by kernel_rfl) ?_
  simp only[rH]
  simp[mkS,mkB,zB];refine mn hnum [0,1] (by simp[mkS,mkB]) ?_;simp[mkS,mkB];refine mq hfit (by simp[zB]) ?_;simp[mkS,mkB,hl2,hp,hFl,hF0,w3,e1,hne,hj,hdr,hbj];intro _;refine mn hvar [0,1] (by simp[mkS,mkB,c7]) ?_;simp[mkS,mkB,zI];exact mr [0,1] 0 (by rfl) (by simp[zI])
variable{e:Exp}{m':Mk}
theorem zZd(hd1 : -1000<=depth)(hd2:depth<=1000)(hX0:0<=X)(hX1:X<65536)(hF:F.length<=1000)(hE0:0<env.length)(hE:env.length<=1000)
 (hnum:mv zK8 [.ptr 0 0,int 65536] (mkS m) (int X) (mkS m0))(hfit:mv zJ8 [.sl env.length (qC env),.agg (zB t)] [] (.sl F.length (qC F)) [])(hd:d<=0)(hcase:m0.left<=0/\0<depth/\d=0\/m0.left<=0/\depth<=0/\d=depth\/0<m0.left/\depth<=0/\d=depth)(hF0:F=[])(hlit:mv zIy [.ptr 0 0,.agg (zB t),.sl env.length (qC env),int (X.tdiv 3),int d] (mkS m0) (.agg (zI e)) (mkS m')) :
 mv bX [.ptr 0 0,.agg (zB t),.sl env.length (qC env),int depth] (mkS m) (.agg (zI e)) (mkS m'):=by
 have d3:X.tdiv 3=X / 3:=tdN hX0;have w3:=zY (X.tdiv 3) (by omega);subst hF0;rcases hcase with ⟨hl1,hp,hdd⟩|⟨hl1,hp,hdd⟩|⟨hl1,hp,hdd⟩
 .subst hdd;refine zN func85 rfl sH (rs:=[.cell 8 15 true]) (by kernel_rfl) ?_
  simp only[rH]
  simp[mkS,mkB,zB];refine mn hnum [0,1] (by simp[mkS,mkB]) ?_;simp[mkS,mkB];refine mq hfit (by simp[zB]) ?_;simp[mkS,mkB,hl1,hp,w3];refine mn hlit [0,1] (by simp[mkS,mkB,zB]) ?_;simp[mkS,mkB,zI];exact mr [0,1] 0 (by rfl) (by simp[zI])
 .have hp0:¬0<depth:=by omega
  subst hdd;refine zN func85 rfl sH (rs:=[.cell 8 15 true]) (by kernel_rfl) ?_
  simp only[rH]
  simp[mkS,mkB,zB];refine mn hnum [0,1] (by simp[mkS,mkB]) ?_;simp[mkS,mkB];refine mq hfit (by simp[zB]) ?_;simp[mkS,mkB,hl1,hp,hp0,w3];refine mn hlit [0,1] (by simp[mkS,mkB,zB]) ?_;simp[mkS,mkB,zI];exact mr [0,1] 0 (by rfl) (by simp[zI])
 .have hp0:¬0<depth:=by omega
  have hl2:¬m0.left<=0:=by omega
  subst hdd;refine zN func85 rfl sH (rs:=[.cell 8 15 true]) (by kernel_rfl) ?_
  simp only[rH]
  simp[mkS,mkB,zB];refine mn hnum [0,1] (by simp[mkS,mkB]) ?_;simp[mkS,mkB];refine mq hfit (by simp[zB]) ?_;simp[mkS,mkB,hl2,hp,w3];refine mn hlit [0,1] (by simp[mkS,mkB,zB]) ?_;simp[mkS,mkB,zI];exact mr [0,1] 0 (by rfl) (by simp[zI])
theorem qFO(hd1 : -1000<=depth)(hd2:depth<=1000)(hX0:0<=X)(hX1:X<65536)(hF:F.length<=1000)(hE0:0<env.length)(hE:env.length<=1000)
 (hnum:mv zK8 [.ptr 0 0,int 65536] (mkS m) (int X) (mkS m0))(hfit:mv zJ8 [.sl env.length (qC env),.agg (zB t)] [] (.sl F.length (qC F)) [])(hleft:0<m0.left)(hd:0<depth)(hc:F=[]\/X.tmod 3≠0)(hk:9<=(X.tdiv 3).tmod 12)(hop:mv opF [.ptr 0 0,.agg (zB t),.sl env.length (qC env),int (X.tdiv 36),int depth] (mkS m0) (.agg (zI e)) (mkS m')) :
 mv bX [.ptr 0 0,.agg (zB t),.sl env.length (qC env),int depth] (mkS m) (.agg (zI e)) (mkS m'):=by
 have hl':¬m0.left<=0:=by omega
 have hd':¬depth<=0:=by omega
 have d3:X.tdiv 3=X / 3:=tdN hX0;have w3:=zY (X.tdiv 3) (by omega);have d36:X.tdiv 36=X / 36:=tdN hX0;have w36:=zY (X.tdiv 36) (by omega);have d12:(X.tdiv 3).tmod 12=(X.tdiv 3) % 12:=tmN (by omega);have k0:(X.tdiv 3).tmod 12≠0:=by omega
 have k1:(X.tdiv 3).tmod 12≠1:=by omega
 have k2:(X.tdiv 3).tmod 12≠2:=by omega
 have k3:(X.tdiv 3).tmod 12≠3:=by omega
 have k4:(X.tdiv 3).tmod 12≠4:=by omega
 have k5:(X.tdiv 3).tmod 12≠5:=by omega
 have k6:(X.tdiv 3).tmod 12≠6:=by omega
 have k7:(X.tdiv 3).tmod 12≠7:=by omega
 have k8:(X.tdiv 3).tmod 12≠8:=by omega
 by_cases hF0:F=[]
 .subst hF0;refine zN func85 rfl sH (rs:=[.cell 8 15 true]) (by kernel_rfl) ?_
  simp only[rH]
  simp[mkS,mkB,zB];refine mn hnum [0,1] (by simp[mkS,mkB]) ?_;simp[mkS,mkB];refine mq hfit (by simp[zB]) ?_;simp[mkS,mkB,hl',hd',w3,w36,k0,k1,k2,k3,k4,k5,k6,k7,k8];refine mn hop [0,1] (by simp[mkS,mkB,zB]) ?_;simp[mkS,mkB,zI];exact mr [0,1] 0 (by rfl) (by simp[zI])
 .have hc:=hc.resolve_left hF0;have hFl:0<F.length:=by cases F with
   |nil=>exact(hF0 rfl).elim
   |cons=>simp
  refine zN func85 rfl sH (rs:=[.cell 8 15 true]) (by kernel_rfl) ?_
  simp only[rH]
  simp[mkS,mkB,zB];refine mn hnum [0,1] (by simp[mkS,mkB]) ?_;simp[mkS,mkB];refine mq hfit (by simp[zB]) ?_;simp[mkS,mkB,hl',hd',hF0,hFl,hc,w3,w36,k0,k1,k2,k3,k4,k5,k6,k7,k8];intro _;refine mn hop [0,1] (by simp[mkS,mkB,zB]) ?_;simp[mkS,mkB,zI];exact mr [0,1] 0 (by rfl) (by simp[zI])
theorem zB0{N:Int}{G:FuncId}(hN:N=3/\G=zM6\/N=4/\G=zM6\/N=5/\G=zRS\/N=6/\G=zRj\/N=7/\G=zRj)(hd1 : -1000<=depth)(hd2:depth<=1000)(hX0:0<=X)(hX1:X<65536)(hF:F.length<=1000)(hE0:0<env.length)(hE:env.length<=1000)
 (hnum:mv zK8 [.ptr 0 0,int 65536] (mkS m) (int X) (mkS m0))(hfit:mv zJ8 [.sl env.length (qC env),.agg (zB t)] [] (.sl F.length (qC F)) [])(hleft:0<m0.left)(hd:0<depth)(hc:F=[]\/X.tmod 3≠0)(hk:(X.tdiv 3).tmod 12=N)(hop:mv G [.ptr 0 0,.agg (zB t),.sl env.length (qC env),int (X.tdiv 36),int depth] (mkS m0) (.agg (zI e)) (mkS m')) :
 mv bX [.ptr 0 0,.agg (zB t),.sl env.length (qC env),int depth] (mkS m) (.agg (zI e)) (mkS m'):=by
 have hl':¬m0.left<=0:=by omega
 have hd':¬depth<=0:=by omega
 have d3:X.tdiv 3=X / 3:=tdN hX0;have w3:=zY (X.tdiv 3) (by omega);have d36:X.tdiv 36=X / 36:=tdN hX0;have w36:=zY (X.tdiv 36) (by omega);have d12:(X.tdiv 3).tmod 12=(X.tdiv 3) % 12:=tmN (by omega);by_cases hF0:F=[]
 .subst hF0;rcases hN with ⟨rfl,rfl⟩|⟨rfl,rfl⟩|⟨rfl,rfl⟩|⟨rfl,rfl⟩|⟨rfl,rfl⟩
  all_goals
   refine zN func85 rfl sH (rs:=[.cell 8 15 true]) (by kernel_rfl) ?_
   simp only[rH]
   simp[mkS,mkB,zB];refine mn hnum [0,1] (by simp[mkS,mkB]) ?_;simp[mkS,mkB];refine mq hfit (by simp[zB]) ?_;simp[mkS,mkB,hl',hd',w3,w36,hk];refine mn hop [0,1] (by simp[mkS,mkB,zB]) ?_;simp[mkS,mkB,zI];exact mr [0,1] 0 (by rfl) (by simp[zI])
 .have hc:=hc.resolve_left hF0;have hFl:0<F.length:=by cases F with
   |nil=>exact(hF0 rfl).elim
   |cons=>simp
  rcases hN with ⟨rfl,rfl⟩|⟨rfl,rfl⟩|⟨rfl,rfl⟩|⟨rfl,rfl⟩|⟨rfl,rfl⟩
  all_goals
   refine zN func85 rfl sH (rs:=[.cell 8 15 true]) (by kernel_rfl) ?_
   simp only[rH]
   simp[mkS,mkB,zB];refine mn hnum [0,1] (by simp[mkS,mkB]) ?_;simp[mkS,mkB];refine mq hfit (by simp[zB]) ?_;simp[mkS,mkB,hl',hd',hF0,hFl,hc,w3,w36,hk];intro _;refine mn hop [0,1] (by simp[mkS,mkB,zB]) ?_;simp[mkS,mkB,zI];exact mr [0,1] 0 (by rfl) (by simp[zI])
variable{a b:Exp}{m1 m2 m3:Mk}
theorem qFN{N:Int}(hN:N=0\/N=1)(hd1 : -1000<=depth)(hd2:depth<=1000)(hX0:0<=X)(hX1:X<65536)(hF:F.length<=1000)(hE0:0<env.length)(hE:env.length<=1000)
 (hnum:mv zK8 [.ptr 0 0,int 65536] (mkS m) (int X) (mkS m0))(hfit:mv zJ8 [.sl env.length (qC env),.agg (zB t)] [] (.sl F.length (qC F)) [])(hleft:0<m0.left)(hd:0<depth)(hc:F=[]\/X.tmod 3≠0)(hk:(X.tdiv 3).tmod 12=N){c:Exp}(ga:mv bX [.ptr 0 0,.agg (zB jX),.sl env.length (qC env),int (depth-1)] (mkS m0) (.agg (zI a)) (mkS m1))(gb:mv bX [.ptr 0 0,.agg (zB t),.sl env.length (qC env),int (depth-1)] (mkS m1) (.agg (zI b)) (mkS m2))(gc:mv bX [.ptr 0 0,.agg (zB t),.sl env.length (qC env),int (depth-1)] (mkS m2) (.agg (zI c)) (mkS m3))(hln:Lim m3 1) :
 mv bX [.ptr 0 0,.agg (zB t),.sl env.length (qC env),int depth] (mkS m) (.agg (zI (.mk ⟨0,0,m3.temp⟩ 5 0 Id.zero Typ.zero [a,b,c] []))) (mkS {m3 with temp:=m3.temp+1,left:=m3.left-1}):=by
 have hl':¬m0.left<=0:=by omega
 have hd':¬depth<=0:=by omega
 have d3:X.tdiv 3=X / 3:=tdN hX0;have w3:=zY (X.tdiv 3) (by omega);have d36:X.tdiv 36=X / 36:=tdN hX0;have w36:=zY (X.tdiv 36) (by omega);have d12:(X.tdiv 3).tmod 12=(X.tdiv 3) % 12:=tmN (by omega);have wd:=zY (depth-1) (by omega);obtain⟨l1,l2,l3,l4,l5,l6,l7,l8⟩:=hln;by_cases hF0:F=[]
 .subst hF0;rcases hN with rfl|rfl
  all_goals
   refine zN func85 rfl sH (rs:=[.cell 8 15 true]) (by kernel_rfl) ?_
   simp only[rH]
   simp[mkS,mkB,zB];refine mn hnum [0,1] (by simp[mkS,mkB]) ?_;simp[mkS,mkB];refine mq hfit (by simp[zB]) ?_;simp[mkS,mkB,hl',hd',w3,w36,hk,wd];refine mn ga [0,1] (by simp[mkS,mkB,zB]) ?_;simp[mkS,mkB,zB,wd];refine mn gb [0,1] (by simp[mkS,mkB,zB]) ?_;simp[mkS,mkB,zB,wd];refine aP gc [0,1] (by decide) (by simp[mkS,mkB]) (by simp[zB]) (by decide) (by simp) (by simp[mkS]) ?_;simp[mkS,mkB];refine b6 (aZ m3 5 0 [a,b,c] l3 (by omega) (by omega) l6) [0,1] (by decide) (by simp[mkS,mkB]) (by simp[zQ,zI]) ?_;simp[mkS,mkB,zI,zQ];exact mr [0,1] 0 (by rfl) (by simp[zI,zQ])
 .have hc:=hc.resolve_left hF0;have hFl:0<F.length:=by cases F with
   |nil=>exact(hF0 rfl).elim
   |cons=>simp
  rcases hN with rfl|rfl
  all_goals
   refine zN func85 rfl sH (rs:=[.cell 8 15 true]) (by kernel_rfl) ?_
   simp only[rH]
   simp[mkS,mkB,zB];refine mn hnum [0,1] (by simp[mkS,mkB]) ?_;simp[mkS,mkB];refine mq hfit (by simp[zB]) ?_;simp[mkS,mkB,hl',hd',hF0,hFl,hc,w3,w36,hk,wd];intro _;refine mn ga [0,1] (by simp[mkS,mkB,zB]) ?_;simp[mkS,mkB,zB,wd];refine mn gb [0,1] (by simp[mkS,mkB,zB]) ?_;simp[mkS,mkB,zB,wd];refine aP gc [0,1] (by decide) (by simp[mkS,mkB]) (by simp[zB]) (by decide) (by simp) (by simp[mkS]) ?_;simp[mkS,mkB];refine b6 (aZ m3 5 0 [a,b,c] l3 (by omega) (by omega) l6) [0,1] (by decide) (by simp[mkS,mkB]) (by simp[zQ,zI]) ?_;simp[mkS,mkB,zI,zQ];exact mr [0,1] 0 (by rfl) (by simp[zI,zQ])
@[simp]theorem qBW{U:St}:oR 2002 U = U:=rfl
variable{s:ByteArray}
theorem eQ:yR [s]=[.lit (.string s)]:=rfl
variable{s':ByteArray}
theorem eU:yR [s,s']=[.lit (.string s),.lit (.string s')]:=rfl
abbrev zSF:FuncId:=133
theorem zZc(hd1 : -1000<=depth)(hd2:depth<=1000)(hX0:0<=X)(hX1:X<65536)(hF:F.length<=1000)(hE0:0<env.length)(hE:env.length<=1000)
 (hnum:mv zK8 [.ptr 0 0,int 65536] (mkS m) (int X) (mkS m0))(hfit:mv zJ8 [.sl env.length (qC env),.agg (zB t)] [] (.sl F.length (qC F)) [])(hleft:0<m0.left)(hd:0<depth)(hc:F=[]\/X.tmod 3≠0)(hk:(X.tdiv 3).tmod 12=2){j:Nat}(hj:j<env.length)(e1:(X.tdiv 36).tmod (env.length:Int)=j){m4:Mk}(ga:mv bX [.ptr 0 0,.agg (zB env[j].typ),.sl env.length (qC env),int (depth-1)] (mkS m0) (.agg (zI a)) (mkS m1))(hln:Lim m1 1)(hm2:m2={m1 with temp:=m1.temp+1,left:=m1.left-1})
 (gn:mv zSF [.ptr 0 0] (mkS m2) (.lit (.string s)) (mkS m3))(gb:mv bX [.ptr 0 0,.agg (zB t),.sl (env.length+1) (qC (env++[⟨⟨0,0,m1.temp⟩,0,env[j].typ⟩])),int (depth-1)] (mkS m3) (.agg (zI b)) (mkS m4)) :
 mv bX [.ptr 0 0,.agg (zB t),.sl env.length (qC env),int depth] (mkS m) (.agg (zI (.mk ⟨0,0,m1.temp⟩ 6 0 Id.zero Typ.zero [a,b] [s]))) (mkS m4):=by
 have hl':¬m0.left<=0:=by omega
 have hd':¬depth<=0:=by omega
 have d3:X.tdiv 3=X / 3:=tdN hX0;have w3:=zY (X.tdiv 3) (by omega);have d36:X.tdiv 36=X / 36:=tdN hX0;have w36:=zY (X.tdiv 36) (by omega);have d12:(X.tdiv 3).tmod 12=(X.tdiv 3) % 12:=tmN (by omega);have wd:=zY (depth-1) (by omega);obtain⟨l1,l2,l3,l4,l5,l6,l7,l8⟩:=hln;have hdr:=iV hj;have hdr4:List.drop (j*9+4) (qC env)=(c7 env[j]++qC (env.drop (j+1))).drop 4:=by rw[<-jBc,hdr]
 have hb4:j*9+4+5<=env.length*9:=by omega
 have hne:¬((env.length:Int)=0):=by omega
 have hnil:env≠[]:=fun e=>by rw[e]at hE0;simp at hE0
 have hnode:=aZ m1 6 0 [] l3 (by omega) (by omega) l6;rw[<-hm2]at hnode;rcases hc with hc|hc
 .subst hc;refine zN func85 rfl sH (rs:=[.cell 8 15 true]) (by kernel_rfl) ?_
  simp only[rH]
  simp[mkS,mkB,zB];refine mn hnum [0,1] (by simp[mkS,mkB]) ?_;simp[mkS,mkB];refine mq hfit (by simp[zB]) ?_;simp[mkS,mkB,hl',hd',w3,w36,hk,wd,e1,hne,hnil,hj,hdr4,hb4,c7];intro _;refine mn ga [0,1] (by simp[mkS,mkB,zB]) ?_;simp[mkS,mkB];refine mn hnode [0,1] (by simp[mkS,mkB]) ?_;simp[mkS,mkB,zI];refine mn gn [0,1] (by simp[mkS,mkB]) ?_;simp[mkS,mkB];refine z7 (mQ env ⟨⟨0,0,m1.temp⟩,0,env[j].typ⟩ (by omega)) (by simp[c7]) (by simp) ?_;simp[mkS,mkB,wd];refine aP gb [0,1] (by decide) (by simp[mkS,mkB]) (by simp[zB]) (by decide) (by simp) (by simp[mkS]) ?_;simp[mkS,mkB];exact mr [0,1] 0 (by rfl) (by simp[zI,zQ,eQ,eU])
 .by_cases hF0:F=[]
  .subst hF0;refine zN func85 rfl sH (rs:=[.cell 8 15 true]) (by kernel_rfl) ?_
   simp only[rH]
   simp[mkS,mkB,zB];refine mn hnum [0,1] (by simp[mkS,mkB]) ?_;simp[mkS,mkB];refine mq hfit (by simp[zB]) ?_;simp[mkS,mkB,hl',hd',w3,w36,hk,wd,e1,hne,hnil,hj,hdr4,hb4,c7];intro _;refine mn ga [0,1] (by simp[mkS,mkB,zB]) ?_;simp[mkS,mkB];refine mn hnode [0,1] (by simp[mkS,mkB]) ?_;simp[mkS,mkB,zI];refine mn gn [0,1] (by simp[mkS,mkB]) ?_;simp[mkS,mkB];refine z7 (mQ env ⟨⟨0,0,m1.temp⟩,0,env[j].typ⟩ (by omega)) (by simp[c7]) (by simp) ?_;simp[mkS,mkB,wd];refine aP gb [0,1] (by decide) (by simp[mkS,mkB]) (by simp[zB]) (by decide) (by simp) (by simp[mkS]) ?_;simp[mkS,mkB];exact mr [0,1] 0 (by rfl) (by simp[zI,zQ,eQ,eU])
  .have hFl:0<F.length:=by cases F with
    |nil=>exact(hF0 rfl).elim
    |cons=>simp
   refine zN func85 rfl sH (rs:=[.cell 8 15 true]) (by kernel_rfl) ?_
   simp only[rH]
   simp[mkS,mkB,zB];refine mn hnum [0,1] (by simp[mkS,mkB]) ?_;simp[mkS,mkB];refine mq hfit (by simp[zB]) ?_;simp[mkS,mkB,hl',hd',hF0,hFl,hc,w3,w36,hk,wd,e1,hne,hnil,hj,hdr4,hb4,c7];intro _;intro _;refine mn ga [0,1] (by simp[mkS,mkB,zB]) ?_;simp[mkS,mkB];refine mn hnode [0,1] (by simp[mkS,mkB]) ?_;simp[mkS,mkB,zI];refine mn gn [0,1] (by simp[mkS,mkB]) ?_;simp[mkS,mkB];refine z7 (mQ env ⟨⟨0,0,m1.temp⟩,0,env[j].typ⟩ (by omega)) (by simp[c7]) (by simp) ?_;simp[mkS,mkB,wd];refine aP gb [0,1] (by decide) (by simp[mkS,mkB]) (by simp[zB]) (by decide) (by simp) (by simp[mkS]) ?_;simp[mkS,mkB];exact mr [0,1] 0 (by rfl) (by simp[zI,zQ,eQ,eU])
theorem zU7(hd1 : -1000<=depth)(hd2:depth<=1000)(hX0:0<=X)(hX1:X<65536)(hF:F.length<=1000)(hE0:0<env.length)(hE:env.length<=1000)
 (hnum:mv zK8 [.ptr 0 0,int 65536] (mkS m) (int X) (mkS m0))(hfit:mv zJ8 [.sl env.length (qC env),.agg (zB t)] [] (.sl F.length (qC F)) [])(hleft:0<m0.left)(hd:0<depth)(hc:F=[]\/X.tmod 3≠0)(hk:(X.tdiv 3).tmod 12=8){c:Exp}{m4 m5 m6:Mk}(ga:mv bX [.ptr 0 0,.agg (zB (yC jO)),.sl env.length (qC env),int (depth-1)] (mkS m0) (.agg (zI a)) (mkS m1))(gb:mv bX [.ptr 0 0,.agg (zB t),.sl env.length (qC env),int (depth-1)] (mkS m1) (.agg (zI b)) (mkS m2))(hln:Lim m2 1)(hm3:m3={m2 with temp:=m2.temp+1,left:=m2.left-1})
 (gn:mv zSF [.ptr 0 0] (mkS m3) (.lit (.string s)) (mkS m4))(gn':mv zSF [.ptr 0 0] (mkS m4) (.lit (.string s')) (mkS m5))(gc:mv bX [.ptr 0 0,.agg (zB t),.sl (env.length+1+1) (qC (env++[⟨⟨0,0,m2.temp⟩,0,jO⟩]++[⟨⟨0,0,m2.temp⟩,1,t⟩])),int (depth-1)] (mkS m5) (.agg (zI c)) (mkS m6)) :
 mv bX [.ptr 0 0,.agg (zB t),.sl env.length (qC env),int depth] (mkS m) (.agg (zI (.mk ⟨0,0,m2.temp⟩ 12 0 Id.zero Typ.zero [a,b,c] [s,s']))) (mkS m6):=by
 have hl':¬m0.left<=0:=by omega
 have hd':¬depth<=0:=by omega
 have d3:X.tdiv 3=X / 3:=tdN hX0;have w3:=zY (X.tdiv 3) (by omega);have d36:X.tdiv 36=X / 36:=tdN hX0;have w36:=zY (X.tdiv 36) (by omega);have d12:(X.tdiv 3).tmod 12=(X.tdiv 3) % 12:=tmN (by omega);have wd:=zY (depth-1) (by omega);obtain⟨l1,l2,l3,l4,l5,l6,l7,l8⟩:=hln;have hnode:=aZ m2 12 0 [] l3 (by omega) (by omega) l6;rw[<-hm3]at hnode;rcases hc with hc|hc
 .subst hc;refine zN func85 rfl sH (rs:=[.cell 8 15 true]) (by kernel_rfl) ?_
  simp only[rH]
  simp[mkS,mkB,zB];refine mn hnum [0,1] (by simp[mkS,mkB]) ?_;simp[mkS,mkB];refine mq hfit (by simp[zB]) ?_;simp[mkS,mkB,hl',hd',w3,w36,hk,wd];refine mq zFa (by simp[zB,jO]) ?_;simp[mkS,mkB,wd];refine mn ga [0,1] (by simp[mkS,mkB,zB]) ?_;simp[mkS,mkB,zB,wd];refine mn gb [0,1] (by simp[mkS,mkB,zB]) ?_;simp[mkS,mkB];refine mn hnode [0,1] (by simp[mkS,mkB]) ?_;simp[mkS,mkB,zI];refine mn gn [0,1] (by simp[mkS,mkB]) ?_;simp[mkS,mkB];refine mn gn' [0,1] (by simp[mkS,mkB]) ?_;simp[mkS,mkB];refine z7 (mQ env ⟨⟨0,0,m2.temp⟩,0,jO⟩ (by omega)) (by simp[c7,jO,Id.zero]) (by simp) ?_;simp[mkS,mkB,zB];refine z7 (mQ (env++[⟨⟨0,0,m2.temp⟩,0,jO⟩]) ⟨⟨0,0,m2.temp⟩,1,t⟩ (by simp;omega)) (by simp[c7]) (by simp) ?_;simp[mkS,mkB,zB,wd];refine aP gc [0,1] (by decide) (by simp[mkS,mkB]) (by simp[zB]) (by decide) (by simp) (by simp[mkS]) ?_;simp[mkS,mkB];exact mr [0,1] 0 (by rfl) (by simp[zI,zQ,eQ,eU])
 .by_cases hF0:F=[]
  .subst hF0;refine zN func85 rfl sH (rs:=[.cell 8 15 true]) (by kernel_rfl) ?_
   simp only[rH]
   simp[mkS,mkB,zB];refine mn hnum [0,1] (by simp[mkS,mkB]) ?_;simp[mkS,mkB];refine mq hfit (by simp[zB]) ?_;simp[mkS,mkB,hl',hd',w3,w36,hk,wd];refine mq zFa (by simp[zB,jO]) ?_;simp[mkS,mkB,wd];refine mn ga [0,1] (by simp[mkS,mkB,zB]) ?_;simp[mkS,mkB,zB,wd];refine mn gb [0,1] (by simp[mkS,mkB,zB]) ?_;simp[mkS,mkB];refine mn hnode [0,1] (by simp[mkS,mkB]) ?_;simp[mkS,mkB,zI];refine mn gn [0,1] (by simp[mkS,mkB]) ?_;simp[mkS,mkB];refine mn gn' [0,1] (by simp[mkS,mkB]) ?_;simp[mkS,mkB];refine z7 (mQ env ⟨⟨0,0,m2.temp⟩,0,jO⟩ (by omega)) (by simp[c7,jO,Id.zero]) (by simp) ?_;simp[mkS,mkB,zB];refine z7 (mQ (env++[⟨⟨0,0,m2.temp⟩,0,jO⟩]) ⟨⟨0,0,m2.temp⟩,1,t⟩ (by simp;omega)) (by simp[c7]) (by simp) ?_;simp[mkS,mkB,zB,wd];refine aP gc [0,1] (by decide) (by simp[mkS,mkB]) (by simp[zB]) (by decide) (by simp) (by simp[mkS]) ?_;simp[mkS,mkB];exact mr [0,1] 0 (by rfl) (by simp[zI,zQ,eQ,eU])
  .have hFl:0<F.length:=by cases F with
    |nil=>exact(hF0 rfl).elim
    |cons=>simp
   refine zN func85 rfl sH (rs:=[.cell 8 15 true]) (by kernel_rfl) ?_
   simp only[rH]
   simp[mkS,mkB,zB];refine mn hnum [0,1] (by simp[mkS,mkB]) ?_;simp[mkS,mkB];refine mq hfit (by simp[zB]) ?_;simp[mkS,mkB,hl',hd',hF0,hFl,hc,w3,w36,hk,wd];intro _;refine mq zFa (by simp[zB,jO]) ?_;simp[mkS,mkB,wd];refine mn ga [0,1] (by simp[mkS,mkB,zB]) ?_;simp[mkS,mkB,zB,wd];refine mn gb [0,1] (by simp[mkS,mkB,zB]) ?_;simp[mkS,mkB];refine mn hnode [0,1] (by simp[mkS,mkB]) ?_;simp[mkS,mkB,zI];refine mn gn [0,1] (by simp[mkS,mkB]) ?_;simp[mkS,mkB];refine mn gn' [0,1] (by simp[mkS,mkB]) ?_;simp[mkS,mkB];refine z7 (mQ env ⟨⟨0,0,m2.temp⟩,0,jO⟩ (by omega)) (by simp[c7,jO,Id.zero]) (by simp) ?_;simp[mkS,mkB,zB];refine z7 (mQ (env++[⟨⟨0,0,m2.temp⟩,0,jO⟩]) ⟨⟨0,0,m2.temp⟩,1,t⟩ (by simp;omega)) (by simp[c7]) (by simp) ?_;simp[mkS,mkB,zB,wd];refine aP gc [0,1] (by decide) (by simp[mkS,mkB]) (by simp[zB]) (by decide) (by simp) (by simp[mkS]) ?_;simp[mkS,mkB];exact mr [0,1] 0 (by rfl) (by simp[zI,zQ,eQ,eU])
theorem zTL(hl:∀x∈m.l,w64 x=x):0<=atV m.l m.at_ 65536/\atV m.l m.at_ 65536<65536:=yJ hl (by omega)
theorem zNM{b:Bnd}(h:b∈env.filter fun b=>aU b.typ t):b∈env/\b.typ=t:=by rw[List.mem_filter]at h;exact⟨h.1,(sA _ _).1 h.2⟩
theorem zIh{len r:Nat}(hc:0<=c)(hl:Lim m (6*c+2))(hd:d<=0)(hdd : -1000<=d)
 (hcase:m.left<=0/\0<depth/\d=0\/m.left<=0/\depth<=0/\d=depth\/0<m.left/\depth<=0/\d=depth)(t:Typ)(hr:TyOk hs r t)(hk:eL hs R c (d-1) (fun r'=>r'<r) len)
 (hx:Cx hs R m)(he:EnvOk hs R m.temp env)(h1:0<env.length)(h2:env.length<=len)(h3:env.length<=1000)(hd1 : -1000<=depth)(hd2:depth<=1000) :
 c6 hs m.own bX m [.ptr 0 0,.agg (zB t),.sl env.length (qC env),int depth] env t (6*c+2):=by
 obtain⟨hX0,hX1⟩:=zTL hx.nums;have ha:=zN1 m;obtain⟨l1,l2,l3,l4,l5,l6,l7,l8⟩:=hl;have hl0:Lim {m with at_:=m.at_+1} (6*c+1):=Lim.adv (c:=1) ⟨l1,by omega,l3,by omega,by omega,l6,l7,by omega⟩ ha;have hnum:=zSL m 65536 (by omega) l1 (by omega);have hfit:=zEJ env t (by omega);have hFl:(env.filter fun b=>aU b.typ t).length<=1000:=jBt (jCn _ _) h3;by_cases hF0:(env.filter fun b=>aU b.typ t)=[]
 .obtain⟨e,m',g1,g2,g3,g4,g5⟩:=zS6 hc hl0 ((atV m.l m.at_ 65536).tdiv 3) (by rw[tdN hX0];omega) (by rw[tdN hX0];omega) t hr (fun r' h=>h) hk (hx.adv ha) (he.mono ha.temp1) h1 h2 hdd (by omega);exact⟨e,m',zZd hd1 hd2 hX0 hX1 hFl h1 h3 hnum hfit hd hcase hF0 g1,(ha.trans g2).mono (by omega),g3,g4,g5⟩
 .obtain⟨b,hb,hret⟩:=zOV hd1 hd2 hX0 hX1 hFl h1 h3 hnum hfit hd hcase hF0 l3 (by simp only;omega) (by simp only;omega) l6;obtain⟨hbe,hbt⟩:=zNM hb;refine⟨_,_,hret,(ha.trans (aL _)).mono (by omega),.var _ _ _ _ _ (by rw[zHo he.nd hbe,hbt]),?_,xW⟩;simp only[tmps,yN,jBy];exact Seg.one _
theorem zU9{len:Nat}(hc:8<=c)(hl:Lim m (8*c))(hleft:0<m.left)(hd0:0<depth)(hR:1<=R)(t:Typ)(ht:TyOk hs R t)
 (hk:eL hs R c (depth-1) (fun r=>r<=R) len)(hk2:eL hs R c (depth-2) (fun r=>r<=R) len)
 (hx:Cx hs R m)(he:EnvOk hs R m.temp env)(h1:0<env.length)(h2:env.length+2<=len)(h3:env.length+2<=1000)(hd2:depth<=1000) :
 c6 hs m.own bX m [.ptr 0 0,.agg (zB t),.sl env.length (qC env),int depth] env t (8*c):=by
 obtain⟨hX0,hX1⟩:=zTL hx.nums;have ha:=zN1 m;obtain⟨m0,hm0⟩:∃m0:Mk,m0={m with at_:=m.at_+1}:=⟨_,rfl⟩;rw[<-hm0]at ha;have hl0:Lim m0 (7*c+7):=Lim.adv (c:=1) (hl.mono (by omega)) ha;have hlm:=hl0;obtain⟨l1,l2,l3,l4,l5,l6,l7,l8⟩:=hlm;have hnum:=zSL m 65536 (by omega) hl.at1 (by have:=hl.at2;omega);rw[<-hm0]at hnum;have hfit:=zEJ env t (by omega);have hFl:(env.filter fun b=>aU b.typ t).length<=1000:=jBt (jCn _ _) (by omega);have hleft0:0<m0.left:=by rw[hm0];exact hleft
 have hx0:=hx.adv ha;have he0:=he.mono ha.temp1;have eown:m0.own=m.own:=ha.own;generalize hF:(env.filter fun b=>aU b.typ t)=F at hfit hFl;generalize atV m.l m.at_ 65536=X at hX0 hX1 hnum;have fin:∀{e:Exp} {m':Mk} {c':Int},mv bX [.ptr 0 0,.agg (zB t),.sl env.length (qC env),int depth] (mkS m) (.agg (zI e)) (mkS m')->Adv m0 m' c'->c'<=7*c+7->WT hs m0.own env e t->Seg m0.temp m'.temp (tmps e)->e.num0 ->
  c6 hs m.own bX m [.ptr 0 0,.agg (zB t),.sl env.length (qC env),int depth] env t (8*c):=fun {e m' c'} q1 q2 q3 q4 q5 q6 =>
  ⟨e,m',q1,(ha.trans q2).mono (by omega),eown▸q4,q5.mono ha.temp1 (by omega),q6⟩
 by_cases hv:F≠[]/\X.tmod 3=0
 .obtain⟨b,hb,hret⟩:=zOU (by omega) hd2 hX0 hX1 hFl h1 (by omega) hnum hfit hleft0 hd0 hv.1 hv.2 l3 (by omega) (by omega) l6;rw[<-hF]at hb;obtain⟨hbe,hbt⟩:=zNM hb;refine fin hret (aL _) (by omega) (.var _ _ _ _ _ (by rw[zHo he.nd hbe,hbt])) ?_ xW;simp only[tmps,yN,jBy];exact Seg.one _
 have hcnd:F=[]\/X.tmod 3≠0:=by
  by_cases h:F=[]
  .exact .inl h
  .exact .inr fun h'=>hv ⟨h,h'⟩
 have d36:X.tdiv 36=X / 36:=tdN hX0;have d3:X.tdiv 3=X / 3:=tdN hX0;have d12:(X.tdiv 3).tmod 12=(X.tdiv 3) % 12:=tmN (by omega);obtain⟨y,hy⟩:∃y:Nat,(y:Int)=X.tdiv 36:=⟨(X / 36).toNat,by omega⟩;have hop:=qHj (by omega) hl0 (X.tdiv 36) (by omega) (by omega) hk hR hx0 he0 h1 (by omega) (by omega) (by omega) hd2 t ht;have viaOp:∀{f:FuncId},c6 hs m0.own f m0 [.ptr 0 0,.agg (zB t),.sl env.length (qC env),int (X.tdiv 36),int depth] env t (7*c+7) ->
  (∀{e:Exp} {m':Mk},mv f [.ptr 0 0,.agg (zB t),.sl env.length (qC env),int (X.tdiv 36),int depth] (mkS m0) (.agg (zI e)) (mkS m')->mv bX [.ptr 0 0,.agg (zB t),.sl env.length (qC env),int depth] (mkS m) (.agg (zI e)) (mkS m')) ->
  c6 hs m.own bX m [.ptr 0 0,.agg (zB t),.sl env.length (qC env),int depth] env t (8*c):=fun q w=>by
  obtain⟨e,m',g1,g2,g3,g4,g5⟩:=q;exact fin (w g1) g2 (by omega) g3 g4 g5
 have hif:(X.tdiv 3).tmod 12=0\/(X.tdiv 3).tmod 12=1->c6 hs m.own bX m [.ptr 0 0,.agg (zB t),.sl env.length (qC env),int depth] env t (8*c):=fun hk01=>by
  obtain⟨a,m1,a1,a2,a3,a4,a5⟩:=hk m0 0 jX env hx0 (hl0.mono (by omega)) (.bool _) (by omega) he0 h1 (by omega);have hl1:Lim m1 (6*c):=Lim.adv (c:=c) (hl0.mono (by omega)) a2;obtain⟨b,m2,b1,b2,b3,b4,b5⟩:=hk m1 R t env (hx0.adv a2) (hl1.mono (by omega)) ht (jA _) (he0.mono a2.temp1) h1 (by omega);have hl2:Lim m2 (5*c):=Lim.adv (c:=c) (hl1.mono (by omega)) b2;obtain⟨e,m3,c1,c2,c3,c4,c5⟩:=hk m2 R t env ((hx0.adv a2).adv b2) (hl2.mono (by omega)) ht (jA _) ((he0.mono a2.temp1).mono b2.temp1) h1 (by omega);have hl3:Lim m3 1:=Lim.adv (c:=c) (hl2.mono (by omega)) c2;have hret:mv bX [.ptr 0 0,.agg (zB t),.sl env.length (qC env),int depth] (mkS m) (.agg (zI (.mk ⟨0,0,m3.temp⟩ 5 0 Id.zero Typ.zero [a,b,e] []))) (mkS {m3 with temp:=m3.temp+1,left:=m3.left-1}):=by exact qFN hk01 (by omega) hd2 hX0 hX1 hFl h1 (by omega) hnum hfit hleft0 hd0 hcnd rfl a1 b1 c1 hl3
  rw[a2.own]at b3;rw[b2.own,a2.own]at c3;refine fin hret (((a2.trans b2).trans c2).trans (aL _)) (by omega) (.ite _ _ _ _ _ _ a3 b3 c3) ?_ (lN (by simp[a5,b5,c5]));have t1:=a2.temp1;have t2:=b2.temp1;have t3:=c2.temp1;simp only[tmps,yN,jBa];exact(a4.append (b4.append c4 t2 t3) t1 (by omega)).append (Seg.one _) (by omega) (by omega)
 have hlet:(X.tdiv 3).tmod 12=2->c6 hs m.own bX m [.ptr 0 0,.agg (zB t),.sl env.length (qC env),int depth] env t (8*c):=fun hk2'=>by
  obtain⟨j,hj,e1⟩:∃j:Nat,j<env.length/\(X.tdiv 36).tmod (env.length:Int)=j:=by
   have q0:0<=X.tdiv 36:=by omega
   have q1:=jDb (X.tdiv 36) (b:=(env.length:Int)) (by omega);have q2:=jD1 (X.tdiv 36) (b:=(env.length:Int)) (by omega);exact⟨((X.tdiv 36) % env.length).toNat,by omega,by rw[tmN q0];omega⟩
  have htu:=he.typs env[j] (jA0 hj);obtain⟨a,m1,a1,a2,a3,a4,a5⟩:=hk m0 R env[j].typ env hx0 (hl0.mono (by omega)) htu (jA _) he0 h1 (by omega);have hl1:Lim m1 (6*c):=Lim.adv (c:=c) (hl0.mono (by omega)) a2;have n2:=aL m1;obtain⟨m2,hm2⟩:∃m2:Mk,m2={m1 with temp:=m1.temp+1,left:=m1.left-1}:=⟨_,rfl⟩;have tm2:m2.temp=m1.temp+1:=by rw[hm2]
  rw[<-hm2]at n2;have hl2:Lim m2 (5*c+7):=Lim.adv (c:=1) (hl1.mono (by omega)) n2;obtain⟨s,hs'⟩:=zEg m2 hl2.name1 (by have:=hl2.name2;omega);have n3:=zBf m2;obtain⟨m3,hm3⟩:∃m3:Mk,m3={m2 with name:=m2.name+1}:=⟨_,rfl⟩;rw[<-hm3]at n3 hs';have hl3:Lim m3 (5*c+6):=Lim.adv (c:=1) (hl2.mono (by omega)) n3;have t1:=a2.temp1;have t2:=n2.temp1;have t3:=n3.temp1;have t3':m3.temp=m2.temp:=by rw[hm3]
  have he3:EnvOk hs R m3.temp (env++[⟨⟨0,0,m1.temp⟩,0,env[j].typ⟩]):=(((he0.mono t1).mono t2).mono t3).snoc _ _ _ htu (fun b hb e=>by have hb':=he0.new b hb (by rw[e]);rw[e]at hb';simp only at hb';omega) (by omega)
  obtain⟨b,m4,b1,b2,b3,b4,b5⟩:=hk m3 R t _ (((hx0.adv a2).adv n2).adv n3) (hl3.mono (by omega)) ht (jA _) he3 (by simp) (by simp;omega);have hret:=zZc (by omega) hd2 hX0 hX1 hFl h1 (by omega) hnum hfit hleft0 hd0 hcnd hk2' hj e1 a1 (hl1.mono (by omega)) hm2 hs' (by simpa using b1);rw[n3.own,n2.own,a2.own]at b3;refine fin hret (((a2.trans n2).trans n3).trans b2) (by omega) (.lets _ _ _ _ _ _ _ (by simp) a3 b3) ?_ (lN (by simp[a5,b5]));have t4:=b2.temp1;simp only[tmps,yN,jBa];have s1:Seg m1.temp (m1.temp+1) [m1.temp]:=Seg.one _;have s2:=s1.append (b:=m1.temp+1) (tm2▸t3'▸b4) (by omega) (by omega);have s3:=a4.append s2 t1 (by omega);refine s3.perm ?_;rw[jAu];exact jDj _ jDs
 have hfold:(X.tdiv 3).tmod 12=8->c6 hs m.own bX m [.ptr 0 0,.agg (zB t),.sl env.length (qC env),int depth] env t (8*c):=fun hk8=>by
  obtain⟨a,m1,a1,a2,a3,a4,a5⟩:=hk m0 1 (yC jO) env hx0 (hl0.mono (by omega)) (.list _ _ (.int _)) hR he0 h1 (by omega);have hl1:Lim m1 (6*c):=Lim.adv (c:=c) (hl0.mono (by omega)) a2;obtain⟨b,m2,b1,b2,b3,b4,b5⟩:=hk m1 R t env (hx0.adv a2) (hl1.mono (by omega)) ht (jA _) (he0.mono a2.temp1) h1 (by omega);have hl2:Lim m2 (5*c):=Lim.adv (c:=c) (hl1.mono (by omega)) b2;have n3:=aL m2;obtain⟨m3,hm3⟩:∃m3:Mk,m3={m2 with temp:=m2.temp+1,left:=m2.left-1}:=⟨_,rfl⟩;have tm3:m3.temp=m2.temp+1:=by rw[hm3]
  rw[<-hm3]at n3;have hl3:Lim m3 (4*c+7):=Lim.adv (c:=1) (hl2.mono (by omega)) n3;obtain⟨s,hs'⟩:=zEg m3 hl3.name1 (by have:=hl3.name2;omega);have n4:=zBf m3;obtain⟨m4,hm4⟩:∃m4:Mk,m4={m3 with name:=m3.name+1}:=⟨_,rfl⟩;have tm4:m4.temp=m3.temp:=by rw[hm4]
  rw[<-hm4]at n4 hs';have hl4:Lim m4 (4*c+6):=Lim.adv (c:=1) (hl3.mono (by omega)) n4;obtain⟨s',hs''⟩:=zEg m4 hl4.name1 (by have:=hl4.name2;omega);have n5:=zBf m4;obtain⟨m5,hm5⟩:∃m5:Mk,m5={m4 with name:=m4.name+1}:=⟨_,rfl⟩;have tm5:m5.temp=m4.temp:=by rw[hm5]
  rw[<-hm5]at n5 hs'';have hl5:Lim m5 (4*c+5):=Lim.adv (c:=1) (hl4.mono (by omega)) n5;have t1:=a2.temp1;have t2:=b2.temp1;have hnew:∀b∈env,b.id=⟨0,0,m2.temp⟩->∀n,b.n≠n:=fun b hb e=>by have hb':=he0.new b hb (by rw[e]);rw[e]at hb';simp only at hb';omega
  have he5:EnvOk hs R m5.temp (env++[⟨⟨0,0,m2.temp⟩,0,jO⟩]++[⟨⟨0,0,m2.temp⟩,1,t⟩]):=((he0.mono (show m0.temp<=m5.temp by omega)).snoc _ _ _ (.int _) (fun b hb e=>hnew b hb e _) (by omega)).snoc _ _ _ ht (fun b hb e=>by
   rcases jAc.1 hb with hb|hb
   .exact hnew b hb e _
   .rw[jAp.1 hb];simp) (by omega)
  obtain⟨k,m6,c1,c2,c3,c4,c5⟩:=hk m5 R t _ (((((hx0.adv a2).adv b2).adv n3).adv n4).adv n5) (hl5.mono (by omega)) ht (jA _) he5 (by simp) (by simp;omega);have hret:=zU7 (by omega) hd2 hX0 hX1 hFl h1 (by omega) hnum hfit hleft0 hd0 hcnd hk8 a1 b1 (hl2.mono (by omega)) hm3 hs' hs'' (by simpa using c1);rw[a2.own]at b3;rw[n5.own,n4.own,n3.own,b2.own,a2.own]at c3;refine fin hret (((((a2.trans b2).trans n3).trans n4).trans n5).trans c2) (by omega) (.fold _ _ _ _ _ _ _ _ (by simp) a3 b3 c3) ?_ (lN (by simp[a5,b5,c5]));have t6:=c2.temp1;simp only[tmps,yN,jBa];have s1:Seg m2.temp (m2.temp+1) [m2.temp]:=Seg.one _;have c4':Seg (m2.temp+1) m6.temp (tmps k):=c4.mono (by omega) (by omega);have s2:=s1.append c4' (by omega) (by omega);have s3:=(a4.append b4 t1 t2).append s2 (by omega) (by omega);refine s3.perm ?_;simp only[jAu];exact jDj _ (jDj _ jDs)
 have hk12:(X.tdiv 3).tmod 12=0\/(X.tdiv 3).tmod 12=1\/(X.tdiv 3).tmod 12=2\/(X.tdiv 3).tmod 12=3\/(X.tdiv 3).tmod 12=4\/(X.tdiv 3).tmod 12=5\/(X.tdiv 3).tmod 12=6\/(X.tdiv 3).tmod 12=7\/(X.tdiv 3).tmod 12=8\/9<=(X.tdiv 3).tmod 12:=by omega
 have hop':=hop;rw[<-hy]at hop';rcases hk12 with h|h|h|h|h|h|h|h|h|h
 .exact hif (.inl h)
 .exact hif (.inr h)
 .exact hlet h
 .have:=zKy (by omega) hl0 y (by omega) hk hk2 hx0 he0 h1 (by omega) (by omega) (by omega) hd2 t ht hop';rw[hy]at this;exact viaOp this fun g=>zB0 (.inl ⟨rfl,rfl⟩) (by omega) hd2 hX0 hX1 hFl h1 (by omega) hnum hfit hleft0 hd0 hcnd h g
 .have:=zKy (by omega) hl0 y (by omega) hk hk2 hx0 he0 h1 (by omega) (by omega) (by omega) hd2 t ht hop';rw[hy]at this;exact viaOp this fun g=>zB0 (.inr (.inl ⟨rfl,rfl⟩)) (by omega) hd2 hX0 hX1 hFl h1 (by omega) hnum hfit hleft0 hd0 hcnd h g
 .have:=zRT (by omega) hl0 y (by omega) hk hx0 he0 h1 (by omega) (by omega) (by omega) hd2 t ht hop';rw[hy]at this;exact viaOp this fun g=>zB0 (.inr (.inr (.inl ⟨rfl,rfl⟩))) (by omega) hd2 hX0 hX1 hFl h1 (by omega) hnum hfit hleft0 hd0 hcnd h g
 .have:=zN8 (by omega) hl0 y hk hx0 he0 h1 (by omega) (by omega) hd2 t hop';rw[hy]at this;exact viaOp this fun g=>zB0 (.inr (.inr (.inr (.inl ⟨rfl,rfl⟩)))) (by omega) hd2 hX0 hX1 hFl h1 (by omega) hnum hfit hleft0 hd0 hcnd h g
 .have:=zN8 (by omega) hl0 y hk hx0 he0 h1 (by omega) (by omega) hd2 t hop';rw[hy]at this;exact viaOp this fun g=>zB0 (.inr (.inr (.inr (.inr ⟨rfl,rfl⟩)))) (by omega) hd2 hX0 hX1 hFl h1 (by omega) hnum hfit hleft0 hd0 hcnd h g
 .exact hfold h
 .exact viaOp hop fun g=>qFO (by omega) hd2 hX0 hX1 hFl h1 (by omega) hnum hfit hleft0 hd0 hcnd h g
theorem eL.mono{c':Int}{Q Q':Nat->Prop}{len len':Nat}(h:eL hs R c depth Q len)(hc:c<=c')(hQ:∀r,Q' r->Q r)(hl:len'<=len):eL hs R c' depth Q' len' :=
 fun m r t env hx hm hr hq he h1 h2=>(h m r t env hx (hm.mono hc) hr (hQ r hq) he h1 (by omega)).mono hc
theorem p8(k:Nat):(8:Int) ^ (k+1)=8*8 ^ k:=by rw[Int.pow_succ];omega
theorem zCQ:∀k:Nat,1<=(8:Int) ^ k
 | 0=>by simp
 |k+1=>by rw[p8];have:=zCQ k;omega
theorem zB1(hs:wP)(R:Nat):∀(r:Nat) (depth:Int),depth<=0->-900<=depth-r->eL hs R (8 ^ (r+1)) depth (fun r'=>r'<=r) 1000
 | 0,depth,h0,h1=>fun m r t env hx hl hr hq he h2 h3=>by
  rw[p8]at hl ⊢;have:=zCQ 0;refine(zIh (R:=R) (r:=r) (c:=0) (d:=depth) (len:=1000) (by omega) (hl.mono (by omega)) h0 (by omega) ?_ t hr (fun m' r' t' env' _ _ _ hq'=>?_) hx he h2 h3 h3 (by omega) (by omega)).mono (by omega)
  .rcases Int.lt_or_le 0 m.left with h|h
   .exact .inr (.inr ⟨h,h0,rfl⟩)
   .exact .inr (.inl ⟨h,h0,rfl⟩)
  .have:r'<r:=hq';omega
 |s+1,depth,h0,h1=>fun m r t env hx hl hr hq he h2 h3=>by
  have hp:=p8 (s+1);rw[hp]at hl ⊢;have:=zCQ (s+1);have hk:=zB1 hs R s (depth-1) (by omega) (by omega);refine(zIh (R:=R) (r:=r) (c:=8 ^ (s+1)) (d:=depth) (len:=1000) (by omega) (hl.mono (by omega)) h0 (by omega) ?_ t hr (hk.mono (by omega) (fun r' (hr':r'<r)=>by omega) (jA _)) hx he h2 h3 h3 (by omega) (by omega)).mono (by omega);rcases Int.lt_or_le 0 m.left with h|h
  .exact .inr (.inr ⟨h,h0,rfl⟩)
  .exact .inr (.inl ⟨h,h0,rfl⟩)
theorem zI6{a b:Nat}(h:a<=b):(8:Int) ^ a<=8 ^ b:=by
 induction h with
 |refl=>exact jAf _
 |step h ih=>rw[p8];have:=zCQ a;omega
theorem zEI(hs:wP)(R:Nat)(hR:1<=R)(hR2:R<=100):∀n:Nat,n<=100 ->
 eL hs R (8 ^ (n+R+1)) n (fun r=>r<=R) (1000-2*n)/\eL hs R (8 ^ (n+R+1)) ((n:Int)-1) (fun r=>r<=R) (1000-2*n)
 | 0,_=>by
  constructor
  .exact(zB1 hs R R 0 (by omega) (by omega)).mono (zI6 (by omega)) (fun _ h=>h) (by omega)
  .exact(zB1 hs R R _ (by omega) (by omega)).mono (zI6 (by omega)) (fun _ h=>h) (by omega)
 |n+1,hn=>by
  obtain⟨i1,i2⟩:=zEI hs R hR hR2 n (by omega);have hp:(8:Int) ^ (n+1+R+1)=8*8 ^ (n+R+1):=by rw[p8,show n+1+R=n+R+1 by omega]
  have hge:=zCQ (n+R);have hp':=p8 (n+R);have e1:(((n+1:Nat)):Int)-1=n:=by omega
  rw[hp];constructor
  .intro m r t env hx hl hr hq he h1 h2;have ht:=hr.mono hq;rcases Int.lt_or_le 0 m.left with h|h
   .refine zU9 (R:=R) (len:=1000-2*n) (by omega) hl h (by omega) hR t ht (e1▸i1) ?_ hx he h1 (by omega) (by omega) (by omega);rw[show (((n+1:Nat)):Int)-2=(n:Int)-1 by omega];exact i2
   .obtain⟨s,hs'⟩:∃s,R=s+1:=⟨R-1,by omega⟩;have hk:=zB1 hs R s (0-1) (by omega) (by omega);have q1:(8:Int) ^ (s+1)<=8 ^ (n+R):=zI6 (by omega);have q2:=zCQ (s+1);exact(zIh (R:=R) (r:=R) (c:=8 ^ (s+1)) (d:=0) (len:=1000) (by omega) (hl.mono (by omega)) (by omega) (by omega) (.inl ⟨h,by omega,rfl⟩) t ht (hk.mono (by omega) (fun r' (hr':r'<R)=>by omega) (jA _)) hx he h1 (by omega) (by omega) (by omega) (by omega)).mono (by omega)
  .rw[e1];exact i1.mono (by omega) (fun _ h=>h) (by omega)
def zXj:Nat->Option wD:=fun|9=>k_ [2,2001,0,0,0,0,0,0,1001,0,0,2,0]|_=>none
variable{x:Operand}
@[simp]theorem qHK{d:wC}{n:Nat}{g:Bool}{env:Env}:c9 2001 (.ld d x n g) env=fW 1 (ev env x):=propext (x7 (by omega) (by omega))
@[simp]theorem qAn{d:wC}{l:List Operand}{env:Env}:c9 1001 (.call d x l) env=True:=rfl
@[simp]theorem qBV{U:St}:oR 2001 U = U:=rfl
theorem gR(e:Exp):tmps e=yN e.kids++[e.id.c]:=by cases e;simp only[tmps,Exp.kids,Exp.id]
theorem bO{l:wG}{i:Nat}(h:i<l.length):yN (l.take (i+1))=yN (l.take i)++tmps l[i]:=by rw[jA6 h,oT]
theorem zFS:∀{l:wG} {e:Exp},e∈l->(tmps e).length<=(yN l).length
 |x::l,e,h=>by
  simp only[yN,jA5];rcases jA3.1 h with rfl|h
  .omega
  .have:=zFS h;omega
theorem rE{l:wG}(i:Nat):(yN (l.take i)).length<=(yN l).length:=by
 have h:∀a b:wG,yN (a++b)=yN a++yN b:=fun a b=>by
  induction a with
  |nil=>simp[yN]
  |cons x a ih=>simp[yN,ih]
 have:=h (l.take i) (l.drop i);rw[jC1]at this;rw[this,jA5];omega
mutual
theorem zK6:∀(e:Exp),(tmps e).length<=1000000000->mv 86 [.agg (zI e)] [] (int (tmps e).length) []
 | .mk a b c d t l ns,hle=>by
  have ih:=zHt l;generalize ha:Exp.mk a b c d t l ns=e at hle;have hal:e.kids=l:=by rw[<-ha];rfl
  rw[<-hal]at ih;rw[gR,jA5,jAz]at hle;refine ml [] [.slot 2] func86 (by kernel_rfl) ?_
  (conv in kq _ _=>cbv)
  simp[zI];refine qK (S:=Nat) (fun i=>[(1,.ptr 0 0),(3,int ((yN (e.kids.take i)).length+1:Nat)),(4,int i)]) (fun _=>[.box (zI e)]) (fun i=>i<=e.kids.length) (fun i=>e.kids.length-i) 0 (by simp)
   (mu [0] 0 (by rfl) (by simp[zI,yN])) ?_
  intro i hi;by_cases h:i<e.kids.length
  .have hle2:(tmps e.kids[i]).length<=1000000000:=by have:=zFS (jA0 h);omega
   have h3:=rE (l:=e.kids) (i+1);rw[bO h,jA5]at h3;simp[zI,h,y5 h];intro hl;refine mq (ih e.kids[i] (jA0 h) hle2) (by simp[zI]) ?_;have hw:IntKind.i64.wrap ((((yN (e.kids.take i)).length:Int)+1)+((tmps e.kids[i]).length:Int))=((yN (e.kids.take i)).length:Int)+1+(tmps e.kids[i]).length:=IntWalk.i64_in _ (by omega);simp[hw];exact zO (i+1) h (by omega) (m_ [0] 0 (by rfl) (by simp[zI]) (by simp[z8 h hl,bO h];omega))
  .have hie:i=e.kids.length:=by omega
   subst hie;simp[zI]
   first|exact fun _=>zA 0 (by simp[gR])|exact zA 0 (by simp[gR])
theorem zHt:∀(l:wG),∀x∈l,(tmps x).length<=1000000000->mv 86 [.agg (zI x)] [] (int (tmps x).length) []
 |[],x,hx=>by simp at hx
 |z::l,x,hx=>by
  rcases jA3.1 hx with e|hx
  .rw[e];exact zK6 z
  .exact zHt l x hx
end
def mJ(l:wB):AObj:=.row false 3 1 l.length (yH l)
mutual
theorem zHu:∀(e:Exp) (l:wB),l.length+(tmps e).length<=1000000000->mv 87 [.agg (zI e),.row 0 l.length] [mJ l] (.row 0 (l++tmps e).length) [mJ (l++tmps e)]
 | .mk a b c d t ks ns,l,hle=>by
  have ih:=zFt ks;generalize ha:Exp.mk a b c d t ks ns=e at hle;have hal:e.kids=ks:=by rw[<-ha];rfl
  rw[<-hal]at ih;rw[gR,jA5,jAz]at hle;refine ml [] [.slot 4] func87 (by kernel_rfl) ?_
  (conv in kq _ _=>cbv)
  simp[zI,mJ];refine qK (S:=Nat) (fun i=>[(1,.row 0 (l++yN (e.kids.take i)).length),(2,.ptr 1 0),(5,int i)]) (fun i=>[mJ (l++yN (e.kids.take i)),.box (zI e)]) (fun i=>i<=e.kids.length) (fun i=>e.kids.length-i) 0 (by simp)
   (mu [0,1] 0 (by rfl) (by simp[zI,mJ,yN])) ?_
  intro i hi;by_cases h:i<e.kids.length
  .have h3:=rE (l:=e.kids) (i+1);rw[bO h,jA5]at h3;have hg:=ih e.kids[i] (jA0 h) (l++yN (e.kids.take i)) (by rw[jA5];omega);simp[zI,mJ,h,y5 h];intro hl;refine mn hg [0] (by simp[mJ,cJ,zI]) ?_;simp[mJ];exact zO (i+1) h (by omega) (mu [0,1] 0 (by rfl) (by simp[zI,mJ,bO h,cJ,z8 h hl]))
  .have hie:i=e.kids.length:=by omega
   subst hie;simp[zI,mJ];intro _;refine⟨⟨by simp[maxLen];omega,by omega⟩,?_⟩;exact mz [0] 0 (by rfl) (by simp[gR,cJ];omega) (by simp[gR];omega)
theorem zFt:∀(ks:wG),∀x∈ks,∀(l:wB),l.length+(tmps x).length<=1000000000->mv 87 [.agg (zI x),.row 0 l.length] [mJ l] (.row 0 (l++tmps x).length) [mJ (l++tmps x)]
 |[],x,hx=>by simp at hx
 |z::l,x,hx=>by
  rcases jA3.1 hx with e|hx
  .rw[e];exact zHu z
  .exact zFt l x hx
end
theorem zMF(e:Exp)(hle:(tmps e).length<=1000000000):mv 87 [.agg (zI e),.nil] [] (.row 0 (tmps e).length) [mJ (tmps e)]:=by
 rw[gR,jA5,jAz]at hle;refine ml [] [.slot 4] func87 (by kernel_rfl) ?_
 (conv in kq _ _=>cbv)
 simp[zI,mJ];refine qK (S:=Nat) (fun i=>[(1,.row 0 (yN (e.kids.take i)).length),(2,.ptr 1 0),(5,int i)]) (fun i=>[mJ (yN (e.kids.take i)),.box (zI e)]) (fun i=>i<=e.kids.length) (fun i=>e.kids.length-i) 0 (by simp)
  ((qS (t:=1) (by simp) 3 1).trans (mu [1,0] 0 (by rfl) (by simp[zI,mJ,yN]))) ?_
 intro i hi;by_cases h:i<e.kids.length
 .have h3:=rE (l:=e.kids) (i+1);rw[bO h,jA5]at h3;have hg:=zHu e.kids[i] (yN (e.kids.take i)) (by omega);simp[zI,mJ,h,y5 h];intro hl;refine mn hg [0] (by simp[mJ,zI]) ?_;simp[mJ];exact zO (i+1) h (by omega) (mu [0,1] 0 (by rfl) (by simp[zI,mJ,bO h,cJ,z8 h hl]))
 .have hie:i=e.kids.length:=by omega
  subst hie;simp[zI,mJ];intro _;refine⟨⟨by simp[maxLen];omega,by omega⟩,?_⟩;exact mr [0] 0 (by rfl) (by simp[gR,cJ])
mutual
def lC(f:Int->Id):Exp->Exp
 | .mk i k n r t ks ns=>.mk (f i.c) k n (if k=2/\r.b=0 then f r.c else r) t (zKQ f ks) ns
def zKQ(f:Int->Id):List Exp->wG
 |[]=>[]
 |e::l=>lC f e::zKQ f l
end
theorem r7(f:Int->Id):∀l:wG,zKQ f l=l.map (lC f)
 |[]=>rfl
 |e::l=>by simp only[zKQ,jAg,r7 f l]
mutual
def Exp.under(N:Nat):Exp->Prop
 | .mk i k _ r _ ks _=>(0<=i.c/\i.c<N)/\(k=2->r.b=0->0<=r.c/\r.c<N)/\ks.length<=1000000000/\zDd N ks
def zDd(N:Nat):List Exp->Prop
 |[]=>True
 |e::l=>e.under N/\zDd N l
end
theorem zBb{N:Nat}:∀l:wG,zDd N l↔∀e∈l,e.under N
 |[]=>by simp[zDd]
 |e::l=>by simp[zDd,zBb l]
def rC(ids:wF)(c:Int):Id:=ids.getD c.toNat Id.zero
theorem zKe{ids:wF}{j:Nat}(h:c=j)(hj:j<ids.length):rC ids c=ids[j]:=by subst h;unfold rC;rw[jCl,jB7,jA1 hj];rfl
def bM(ids:wF):AObj:=.row false 31 3 ids.length (zT ids)
mutual
theorem zFA(ids:wF):∀(e:Exp),e.under ids.length->mv 88 [.agg (zI e),.row 0 ids.length] [bM ids] (.agg (zI (lC (rC ids) e))) [bM ids]
 | .mk a b c d t ks ns,hb=>by
  have ih:=zDB ids ks;simp only[Exp.under,zBb]at hb;obtain⟨⟨hb1,hb2⟩,hb3,hkl,hb4⟩:=hb;obtain⟨j,hj⟩:∃j:Nat,a.c=j:=⟨a.c.toNat,by omega⟩;have hjl:j<ids.length:=by omega
  have hdj:=yS hjl;have hej:=zKe hj hjl;have hbj:j*3+3<=ids.length*3:=by omega
  refine mj zXj [] [.cell 4 15 true] func88 (by kernel_rfl) ?_
  (conv in zV _ _ _ _=>cbv)
  obtain⟨x,hx⟩:∃x,x=ids[j]:=⟨_,rfl⟩;rw[<-hx]at hej hdj;by_cases hv1:b=2
  .by_cases hv2:d.b=0
   .obtain⟨hb5,hb6⟩:=hb3 hv1 hv2;obtain⟨m,hm⟩:∃m:Nat,d.c=m:=⟨d.c.toNat,by omega⟩;have hml:m<ids.length:=by omega
    have hdm:=yS hml;have hem:=zKe hm hml;have hbm:m*3+3<=ids.length*3:=by omega
    obtain⟨y,hy⟩:∃y,y=ids[m]:=⟨_,rfl⟩;rw[<-hy]at hem hdm;simp[zI,bM,hj,hjl,hdj,hbj,hv1,hv2,hm,hml,hdm,hbm,zK];refine qK (S:=Nat) (fun i=>[(1,.row 0 ids.length),(2,.ptr 1 0),(4,.ptr 2 0),(5,.ptr 3 0),(6,int i)])
     (fun i=>[bM ids,.box (zI (.mk a b c d t ks ns)),.box (zI Exp.zero),.box [int x.a,int x.b,int x.c,int b,int c,int y.a,int y.b,int y.c,int t.k,int t.id.a,int t.id.b,int t.id.c,.sl t.kids.length (jQ t.kids),.row 4 i,.sl ns.length (yR ns)],.row false 39 15 i (qT ((ks.map (lC (rC ids))).take i))]) (fun i=>i<=ks.length) (fun i=>ks.length-i) 0 (by simp)
     ((y7 (l:=3) (o:=13) rfl rfl 39 15).trans (mu [0,1,2,3,4] 0 (by rfl) (by simp[bM,zI,Exp.zero,Id.zero,Typ.zero,hj,hv1,hv2,hm,hem]))) ?_
    intro i hi;by_cases h:i<ks.length
    .have hg:=ih ks[i] (jA0 h) (hb4 _ (jA0 h));have hst:=bT (l:=ks.map (lC (rC ids))) (i:=i) (by rw[jAe];exact h);rw[jAw]at hst;simp[bM,zI,h,y5 h];intro hl;refine aP hg [0] (by decide) (by simp[bM]) (by simp[zI]) (by decide) (by simp) (by simp) ?_;simp[bM];refine⟨⟨by omega,by omega⟩,?_⟩;exact zO (i+1) h (by omega) (m_ [0,1,2,3,4] 0 (by rfl) (by rw[hst];simp[bM,zI]) (by simp[z8 h hl]))
    .have hie:i=ks.length:=by omega
     subst hie;have hall:List.take ks.length (ks.map (lC (rC ids)))=ks.map (lC (rC ids)):=jA9 (by simp);simp[bM,zI];intro _;exact mr [0] 1 (by rfl) (by simp[zI,lC,r7,hej,hall,hv1,hv2,hem])
   .simp[zI,bM,hj,hjl,hdj,hbj,hv1,hv2,zK];refine qK (S:=Nat) (fun i=>[(1,.row 0 ids.length),(2,.ptr 1 0),(4,.ptr 2 0),(5,.ptr 3 0),(6,int i)])
     (fun i=>[bM ids,.box (zI (.mk a b c d t ks ns)),.box (zI Exp.zero),.box [int x.a,int x.b,int x.c,int b,int c,int d.a,int d.b,int d.c,int t.k,int t.id.a,int t.id.b,int t.id.c,.sl t.kids.length (jQ t.kids),.row 4 i,.sl ns.length (yR ns)],.row false 39 15 i (qT ((ks.map (lC (rC ids))).take i))]) (fun i=>i<=ks.length) (fun i=>ks.length-i) 0 (by simp)
     ((y7 (l:=3) (o:=13) rfl rfl 39 15).trans (mu [0,1,2,3,4] 0 (by rfl) (by simp[bM,zI,Exp.zero,Id.zero,Typ.zero,hj,hv1,hv2]))) ?_
    intro i hi;by_cases h:i<ks.length
    .have hg:=ih ks[i] (jA0 h) (hb4 _ (jA0 h));have hst:=bT (l:=ks.map (lC (rC ids))) (i:=i) (by rw[jAe];exact h);rw[jAw]at hst;simp[bM,zI,h,y5 h];intro hl;refine aP hg [0] (by decide) (by simp[bM]) (by simp[zI]) (by decide) (by simp) (by simp) ?_;simp[bM];refine⟨⟨by omega,by omega⟩,?_⟩;exact zO (i+1) h (by omega) (m_ [0,1,2,3,4] 0 (by rfl) (by rw[hst];simp[bM,zI]) (by simp[z8 h hl]))
    .have hie:i=ks.length:=by omega
     subst hie;have hall:List.take ks.length (ks.map (lC (rC ids)))=ks.map (lC (rC ids)):=jA9 (by simp);simp[bM,zI];intro _;exact mr [0] 1 (by rfl) (by simp[zI,lC,r7,hej,hall,hv1,hv2])
  .simp[zI,bM,hj,hjl,hdj,hbj,hv1,zK];refine qK (S:=Nat) (fun i=>[(1,.row 0 ids.length),(2,.ptr 1 0),(4,.ptr 2 0),(5,.ptr 3 0),(6,int i)])
    (fun i=>[bM ids,.box (zI (.mk a b c d t ks ns)),.box (zI Exp.zero),.box [int x.a,int x.b,int x.c,int b,int c,int d.a,int d.b,int d.c,int t.k,int t.id.a,int t.id.b,int t.id.c,.sl t.kids.length (jQ t.kids),.row 4 i,.sl ns.length (yR ns)],.row false 39 15 i (qT ((ks.map (lC (rC ids))).take i))]) (fun i=>i<=ks.length) (fun i=>ks.length-i) 0 (by simp)
    ((y7 (l:=3) (o:=13) rfl rfl 39 15).trans (mu [0,1,2,3,4] 0 (by rfl) (by simp[bM,zI,Exp.zero,Id.zero,Typ.zero,hj,hv1]))) ?_
   intro i hi;by_cases h:i<ks.length
   .have hg:=ih ks[i] (jA0 h) (hb4 _ (jA0 h));have hst:=bT (l:=ks.map (lC (rC ids))) (i:=i) (by rw[jAe];exact h);rw[jAw]at hst;simp[bM,zI,h,y5 h];intro hl;refine aP hg [0] (by decide) (by simp[bM]) (by simp[zI]) (by decide) (by simp) (by simp) ?_;simp[bM];refine⟨⟨by omega,by omega⟩,?_⟩;exact zO (i+1) h (by omega) (m_ [0,1,2,3,4] 0 (by rfl) (by rw[hst];simp[bM,zI]) (by simp[z8 h hl]))
   .have hie:i=ks.length:=by omega
    subst hie;have hall:List.take ks.length (ks.map (lC (rC ids)))=ks.map (lC (rC ids)):=jA9 (by simp);simp[bM,zI];intro _;exact mr [0] 1 (by rfl) (by simp[zI,lC,r7,hej,hall,hv1])
theorem zDB(ids:wF):∀(ks:wG),∀x∈ks,x.under ids.length->mv 88 [.agg (zI x),.row 0 ids.length] [bM ids] (.agg (zI (lC (rC ids) x))) [bM ids]
 |[],x,hx=>by simp at hx
 |z::l,x,hx=>by
  rcases jA3.1 hx with e|hx
  .rw[e];exact zFA ids z
  .exact zDB ids l x hx
end
def zQ6:K:=(G [M 72 9,M 73 10,M 6 72,M 7 73] kr)
def zQ5:K:=(G [M 50 0,M 51 1,kBi 52 51 2 .add,kC 53 38 [(kt 50),(kt 52),(kc 3)],M 11 53] (Z (G [M 54 11,kQi 55 54 1 false] (Y 55 (G [M 56 9,kb 57 kz2 [],kd 58 35 5 1 kz2 [(0,5,(kt 57))],kP 59 35 5 56 56 58,M 9 59] (K.ops [M 60 10,kd 61 3 1 1 [ki] [(0,1,(kc 1))],kP 62 3 1 8 60 61,M 10 62])) ks)) (Z (G [M 63 11,kQi 64 63 2 false] (Y 64 (G [M 65 9,kb 66 kz2 [(0,1,(kc 1))],kd 67 35 5 1 kz2 [(0,5,(kt 66))],kP 68 35 5 56 65 67,M 9 68] (K.ops [M 69 10,kd 70 3 1 1 [ki] [(0,1,(kc 0))],kP 71 3 1 8 69 70,M 10 71])) ks)) (K.wk zQ6))))
def qDg:K:=G [kO 5 2,kMn 6,kMn 7] (G [M 12 0,M 13 1,kC 14 38 [(kt 12),(kt 13),(kc 5)],M 8 14] (G [kb 15 kz2 [],⟨none,.brow (some 16) 35 5 1 kz2 [(0,5,(kt 15))]⟩,M 9 16] (G [M 17 0,M 18 1,kBi 19 18 1 .add,kC 20 38 [(kt 17),(kt 19),(kc 3)],⟨none,.bin (some 21) .add (kc 1) (kt 20)⟩,⟨none,.brow (some 22) 3 1 1 [ki] [(0,1,(kt 21))]⟩,M 10 22] (Z (G [M 23 8,kQi 24 23 1 false] (Y 24 (G [M 25 9,kb 26 kz2 [(0,1,(kc 1))],kXi 27 25 5 0,S 27 26 5] (K.ops [M 28 10,kXi 29 28 1 0,⟨none,.st none (kt 29) (kc 0) 1⟩])) ks)) (Z (G [M 30 8,kQi 31 30 2 false] (Y 31 (G [M 32 9,kb 33 kz2 [],kC 34 126 [(kt 33)],kXi 35 32 5 0,S 35 34 5] (K.ops [M 36 10,M 37 0,M 38 1,kBi 39 38 1 .add,kC 40 38 [(kt 37),(kt 39),(kc 2)],⟨none,.bin (some 41) .add (kc 1) (kt 40)⟩,kXi 42 36 1 0,S 42 41 1])) ks)) (Z (G [M 43 8,kQi 44 43 3 false] (Y 44 (G [M 45 9,J 46 5 5,kXi 47 45 5 0,S 47 46 5] (K.ops [M 48 10,kXi 49 48 1 0,⟨none,.st none (kt 49) (kc 1) 1⟩])) ks)) (K.wk zQ5)))))))
theorem qLk:kw f127 qDg:=my (by kernel_rfl)
def lP(x:Int)(one two:Typ):Typ:=[jO,jX,yC jO,one,two,jO].getD (aN x 6).toNat jO
theorem zHE(x:Int)(one two:Typ)(hx:w64 x=x):mv 125 [int x,.agg (zB one),.agg (zB two)] [] (.agg (zB (lP x one two))) []:=by
 obtain⟨k0,k6⟩:=gT (k:=6) hx (by omega);have ha:=lZ x 6 (by omega);have hk:aN x 6=0\/aN x 6=1\/aN x 6=2\/aN x 6=3\/aN x 6=4\/aN x 6=5:=by omega
 unfold lP;generalize aN x 6=k at ha k0 k6 hk;refine ml [] [.cell 6 5 true] func125 (by kernel_rfl) ?_
 (conv in kq _ _=>cbv)
 simp[zB];refine z7 zFa (by simp[zB,jO]) (by simp) ?_;simp[zB];refine z7 ha (by simp) (by simp) ?_;rcases hk with rfl|rfl|rfl|rfl|rfl|rfl
 all_goals
  simp[zB,jO,jX,yC];exact zA 0 (by simp[zB,jO,jX,yC,Id.zero,qI])
def zZq(l:wB)(at_:Int)(point:Typ):Typ×Int:=if atV l at_ 5=1 then (jX,0)else if atV l at_ 5=2 then (yC jO,1+atV l (at_+1) 2)else if atV l at_ 5=3 then (point,1)else (jO,1+atV l (at_+1) 3)
def zSp(l:wB)(at_:Int):List (Typ×Int):=if atV l (at_+2) 3=1 then [(jO,1)]else if atV l (at_+2) 3=2 then [(jX,0)]else []
def inV(l:wB)(at_:Int)(point:Typ):List (Typ×Int):=zZq l at_ point::zSp l at_
def zNg(L:List (Typ×Int)):wE:=jQ (L.map (·.1))
def zFi(L:List (Typ×Int)):wE:=yH (L.map (·.2))
def inR(L:List (Typ×Int)):A:=.tup [.sl L.length (zNg L),.sl L.length (zFi L)]
theorem zSq(l:wB)(at_:Int)(ha:0<=at_)(ha':at_<=1000)(hl:∀x∈l,w64 x=x)(p:Typ×Int) :
 wpK prog 0 zQ5 (fin [RS.slot 6,RS.slot 7] (uQ 0 (inR (p::zSp l at_)) [])) (qV [(0,.sl l.length (yH l)),(1,int at_),(9,.row 0 1),(10,.row 1 1)])
  [.row false 35 5 1 (zB p.1),.row false 3 1 1 [int p.2]]:=by
 have w2:=zY (at_+2) (by omega);have h3:=gA l (at_+2) 3 (by omega);unfold zSp;generalize atV l (at_+2) 3=z at *
 have tailU:∀L:List (Typ×Int),wpK prog 0 zQ6 (fin [RS.slot 6,RS.slot 7] (uQ 0 (inR L) [])) (qV [(9,.sl L.length (zNg L)),(10,.sl L.length (zFi L))]) []:=fun L=>by unfold zQ6;simp;exact zA 0 (by simp[inR,zNg,zFi])
 unfold zQ5;simp[w2];refine mq h3 (by simp) ?_;by_cases hz1:z=1
 .simp[hz1,maxLen];exact⟨_,_,mu [] 1 (by rfl) (by simp[zNg,zFi,qI,zB,jO,Id.zero]),tailU _⟩
 .by_cases hz2:z=2
  all_goals
   simp[hz1,hz2,maxLen];exact⟨_,_,mu [] 1 (by rfl) (by simp[zNg,zFi,qI,zB,jX,Id.zero]),tailU _⟩
theorem zZr(l:wB)(at_:Int)(point:Typ)(ha:0<=at_)(ha':at_<=1000)(hl:∀x∈l,w64 x=x) :
 mv 127 [.sl l.length (yH l),int at_,.agg (zB point)] [] (inR (inV l at_ point)) []:=by
 have w1:=zY (at_+1) (by omega);have h0:=gA l at_ 5 (by omega)
 have h1:=gA l (at_+1) 3 (by omega);have h2:=gA l (at_+1) 2 (by omega);have ht:=zSq l at_ ha ha' hl
 obtain⟨r1,r1'⟩:=yJ (i:=at_+1) hl (most:=3) (by omega);obtain⟨r2,r2'⟩:=yJ (i:=at_+1) hl (most:=2) (by omega);unfold inV zZq;generalize atV l at_ 5=x at *
 generalize atV l (at_+1) 3=y1 at *
 generalize atV l (at_+1) 2=y2 at *
 have v1:=zY (1+y1) (by omega);have v2:=zY (1+y2) (by omega);refine zH func127 rfl qLk (rs:=[.slot 6,.slot 7]) (by kernel_rfl) ?_;unfold qDg;simp[zB];refine mq h0 (by simp) ?_;simp[w1];refine mq h1 (by simp) ?_;by_cases hx1:x=1
 .simp[v1,hx1];exact⟨_,_,mu [1,2] 0 (by rfl) (by simp[zB,jX,Id.zero]),ht (jX,0)⟩
 .by_cases hx2:x=2
  .simp[v1,hx1,hx2];refine mq zFa (by simp[zB,jO,Id.zero]) ?_;simp[zB,w1];refine mq h2 (by simp) ?_;simp[v2];exact⟨_,_,mu [1,2] 0 (by rfl) (by simp[zB,yC,Id.zero]),ht (yC jO,1+y2)⟩
  .by_cases hx3:x=3
   .simp[v1,hx1,hx2,hx3];exact⟨_,_,mu [1,2] 0 (by rfl) (by simp[zB]),ht (point,1)⟩
   .simp[v1,hx1,hx2,hx3];exact⟨_,_,mu [1,2] 0 (by rfl) (by simp[zB,jO,Id.zero]),ht (jO,1+y1)⟩
end Go.Proofs.YtdnelmeboihpkaaGreatDoor
