/- The maker's fields and calls. -/
import Derived.Test.YtdnelmeboihpkaaGreatDoorX13
set_option linter.unusedVariables false
set_option maxHeartbeats 8000000
set_option maxRecDepth 100000
set_option linter.unusedSimpArgs false
open Go.Proofs.Tryz
namespace Go.Proofs.YtdnelmeboihpkaaGreatDoor
open Go.Abs
abbrev zQD:FuncId:=136
theorem zMR{p:Nat->Bool}:∀{n:Nat},(∃i,i<n/\p i=true)->∃i,i<n/\p i=true/\∀j<i,p j=false
 | 0,⟨i,hi,_⟩=>by omega
 |n+1,⟨i,hi,hp⟩=>by
  by_cases h:∃i,i<n/\p i=true
  .obtain⟨j,h1,h2,h3⟩:=zMR h;exact⟨j,by omega,h2,h3⟩
  .have hin:i=n:=by
    by_cases e:i=n
    .exact e
    .exact(h ⟨i,by omega,hp⟩).elim
   subst hin;refine⟨i,by omega,hp,fun j hj=>?_⟩;cases hpj:p j
   .rfl
   .exact(h ⟨j,hj,hpj⟩).elim
def zQI(m:Mk)(t:Typ)(k:Nat):Bool:=match m.defs[k]? with
 |some d=>decide (d.kind=0)&&(zAn m k&&d.slots.any fun s=>aF s.typ t)
 |none=>false
variable{hs:wO}{R:Nat}{m:Mk}{env:wI}{c depth:Int}
theorem zQF{len:Nat}(hc:0<=c)(hl:Lim m (7*c+7))(x:Nat)(hx1:x<=65536)(hk:dN hs R c (depth-1) (fun r=>r<=R) len)
 (hx:Cx hs R m)(he:EnvOk hs R m.temp env)(h1:0<env.length)(h2:env.length<=len)(h3:env.length<=1000)(hd1 : -1000<=depth)(hd2:depth<=1000)(t:Typ)(ht:TyOk hs R t)
 (hop:cH hs m.own opF m [.ptr 0 0,.agg (zB t),.sl env.length (zW env),int x,int depth] env t (7*c+7)) :
 cH hs m.own zQD m [.ptr 0 0,.agg (zB t),.sl env.length (zW env),int x,int depth] env t (7*c+7):=by
 have hdl:=hx.dlen;have hd100:=hx.len;have hd0:=hx.len0;have hN:0<m.defs.length:=by omega
 have wd:=qA (depth-1) (by omega);obtain⟨i0,e,m',hi0,hlow,hfull,hhit,hA,hW,hS,hZ⟩:∃(i0:Nat) (e:Exp) (m':Mk),i0<=m.defs.length/\(∀i<i0,zQI m t ((x+i) % m.defs.length)=false) /\
  (i0=m.defs.length->my opF [.ptr 0 0,.agg (zB t),.sl env.length (zW env),int x,int depth] (mkS m) (.agg (zH e)) (mkS m')) /\
  (∀(hlt:i0<m.defs.length) (D:Dfn),m.defs[(x+i0) % m.defs.length]?=some D->D.kind=0/\zAn m ((x+i0) % m.defs.length)=true/\∃(j0:Nat) (hj0:j0<D.slots.length) (a:Exp) (m1:Mk),aF D.slots[j0].typ t=true/\(∀(j:Nat) (hj:j<j0),aF D.slots[j].typ t=false) /\
   my bL [.ptr 0 0,.agg (zB (yB D.id)),.sl env.length (zW env),int (depth-1)] (mkS m) (.agg (zH a)) (mkS m1)/\Lim m1 1 /\
   e=.mk ⟨0,0,m1.temp⟩ 8 j0 D.id Typ.zero [a] []/\m'={m1 with temp:=m1.temp+1,left:=m1.left-1}) /\
  Adv m m' (7*c+7)/\WT hs m.own env e t/\Seg m.temp m'.temp (tmps e)/\e.num0:=by
  by_cases hex:∃i,i<m.defs.length/\zQI m t ((x+i) % m.defs.length)=true
  .obtain⟨i0,hi0,hp,hlow⟩:=zMR hex;have hkm:=Nat.mod_lt (x+i0) hN;generalize hkk:(x+i0) % m.defs.length=k at hkm hp;have hks:k<hs.length:=by omega
   have hget:=hx.get hkm;unfold zQI at hp;rw[jA0 hkm]at hp;simp only[jA6,decide_eq_true_eq]at hp;generalize hD:m.defs[k]=D at hget hp;obtain⟨hkind,hvis,hany⟩:=hp;have eid:hs[k].id=D.id:=by rw[hget];rfl
   have eslots:hs[k].slots=D.slots:=by rw[hget];rfl
   have ekind:hs[k].kind=0:=by rw[hget];exact hkind
   obtain⟨j0,hj0,hpj,hlj⟩:=zMR (p:=fun j=>match D.slots[j]? with|some s=>aF s.typ t|none=>false) (n:=D.slots.length) (by
    rw[List.any_eq_true]at hany;obtain⟨s,hs1,hs2⟩:=hany;obtain⟨j,hj,rfl⟩:=jAn hs1;exact⟨j,hj,by simp only[jA0 hj];exact hs2⟩)
   simp only[jA0 hj0]at hpj;obtain⟨a,m1,g1,g2,g3,g4,g5⟩:=hk m R (yB hs[k].id) env hx (hl.mono (by omega)) (hx.typs k hks (.inl ekind)) (jA _) he h1 h2;refine⟨i0,.mk ⟨0,0,m1.temp⟩ 8 j0 D.id Typ.zero [a] [],{m1 with temp:=m1.temp+1,left:=m1.left-1},by omega,hlow,fun h=>by omega,fun hlt D' hD'=>?_,(g2.trans (y9 _)).mono (by omega),?_,zH7 g4 g2.temp1,zEi g5⟩
   .rw[hkk,jA0 hkm,hD]at hD';injection hD' with hD'
    subst hD';rw[hkk];refine⟨hkind,hvis,j0,hj0,a,m1,hpj,fun j hj=>?_,by rw[<-eid];exact g1,Lim.adv (c:=c) (hl.mono (by omega)) g2,rfl,rfl⟩;have:=hlj j hj;simp only[jA0 (show j<D.slots.length by omega)]at this;exact this
   .have hjs:j0<hs[k].slots.length:=by rw[eslots];exact hj0
    have:=WT.field (own:=m.own) env ⟨0,0,m1.temp⟩ k hks j0 hjs a ekind g3;rw[eid]at this;have e2:hs[k].slots[j0].typ=t:=by rw[<-(pU _ _).1 hpj];simp only[eslots]
    rw[e2]at this;exact this
  .obtain⟨e,m',g1,g2,g3,g4,g5⟩:=hop;refine⟨m.defs.length,e,m',jA _,fun i hi=>?_,fun _=>g1,fun h=>by omega,g2,g3,g4,g5⟩;cases hp:zQI m t ((x+i) % m.defs.length)
   .rfl
   .exact(hex ⟨i,hi,hp⟩).elim
 refine⟨e,m',?_,hA,hW,hS,hZ⟩;refine mq [] [.cell 10 15 true] func136 (by kernel_rfl) ?_
 (conv in kq _ _=>cbv)
 simp[mkS,mkB,zB];refine qM (S:=Nat) (fun i=>[(0,.ptr 0 0),(2,.sl env.length (zW env)),(3,int x),(4,int depth),(6,.ptr 2 0),(10,.ptr 3 0),(11,int i)])
  (fun _=>mkS m++[.box (zB t),.box (zH Exp.zero)]) (fun i=>i<=i0) (fun i=>i0-i) 0 (by simp)
  (mw [0,1,2,3] 0 (by rfl) (by simp[mkS,mkB,zB,zH,Exp.zero,Id.zero,Typ.zero])) ?_
 intro i hi;by_cases h:i<m.defs.length
 .have hkm:=Nat.mod_lt (x+i) hN;have w1:=qA ((x:Int)+i) (by omega);have w2:=yK i (by omega);have e1:Int.tmod ((x:Int)+i) (m.defs.length:Int)=(((x+i) % m.defs.length:Nat):Int):=by rw[tmN (by omega)];simp
  have hnil:m.defs≠[]:=fun e=>by rw[e]at hN;simp at hN
  have hne:¬((m.defs.length:Int)=0):=by omega
  have hlow':=fun hlt:i<i0=>hlow i hlt
  have hhit':i=i0->_:=fun e=>hhit (by omega) m.defs[(x+i) % m.defs.length] (by rw[<-e,jA0 hkm])
  unfold zQI at hlow';rw[jA0 hkm]at hlow';have hsl:m.defs[(x+i) % m.defs.length].slots.length<=6:=by have:=(hx.slots ((x+i) % m.defs.length) (by omega)).1;rw[hx.get hkm]at this;exact this
  generalize hkk:(x+i) % m.defs.length=k at hkm e1 hlow' hhit' hsl;generalize hD:m.defs[k]=D at hlow' hhit' hsl;have hdr:=j6 hkm;rw[hD]at hdr;have hb31:k*31+31<=m.defs.length*31:=by omega
  simp[mkS,mkB,h,w1,e1,hne,hkm,hdr,hb31,zI,hnil];by_cases hlt:i<i0
  .have hno:=hlow' hlt;refine qM (S:=Nat) (fun j=>[(0,.ptr 0 0),(2,.sl env.length (zW env)),(3,int x),(4,int depth),(6,.ptr 2 0),(10,.ptr 3 0),(11,int i),(12,int k),(13,.ptr 4 0),(14,int j)])
    (fun _=>mkS m++[.box (zB t),.box (zH Exp.zero),.box (zI D)]) (fun j=>j<=D.slots.length) (fun j=>D.slots.length-j) 0 (by simp)
    (mw [0,1,2,3,4] 0 (by rfl) (by simp[mkS,mkB,zB,zH,Exp.zero,Id.zero,Typ.zero,zI])) ?_
   intro j hj;by_cases hjl:j<D.slots.length
   .have hdS:List.drop (j*11+4) (jF D.slots)=(j4 D.slots[j]++jF (D.slots.drop (j+1))).drop 4:=by rw[<-jBb,jN hjl]
    have hbS:j*11+4+5<=D.slots.length*11:=by omega
    by_cases hkd:D.kind=0
    .simp[mkS,mkB,zI,zB,hjl,hkd];intro _;refine mr (zER m k hkm hx.mods) [0,1] (by simp[mkS,mkB]) ?_;cases hv:zAn m k
     .simp[mkS,mkB];exact zN (i+1) (by omega) (by omega) (mw [0,1,2,3] 0 (by rfl) (by simp[mkS,mkB,zB,zH,Exp.zero,Id.zero,Typ.zero,w2]))
     .have hsf:aF D.slots[j].typ t=false:=by
       simp only[hkd,hv,decide_true,jC4]at hno;rw[List.any_eq_false]at hno
       simpa using hno D.slots[j] (jA3 hjl)
      have hw:=yK j (by omega);simp[mkS,mkB,zI,zB,hjl,hdS,hbS,j4];refine zZ (mU D.slots[j].typ t) (by simp[zB]) (by simp) ?_;rw[hsf];simp[mkS,mkB];exact zN (j+1) hjl (by omega) (mw [0,1,2,3,4] 0 (by rfl) (by simp[mkS,mkB,zB,zH,Exp.zero,Id.zero,Typ.zero,zI,hkd,hw]))
    .simp[mkS,mkB,zI,zB,hjl,hkd];intro _;exact zN (i+1) (by omega) (by omega) (mw [0,1,2,3] 0 (by rfl) (by simp[mkS,mkB,zB,zH,Exp.zero,Id.zero,Typ.zero,w2]))
   .simp[mkS,mkB,zI,zB,hjl];intro _;exact zN (i+1) (by omega) (by omega) (mw [0,1,2,3] 0 (by rfl) (by simp[mkS,mkB,zB,zH,Exp.zero,Id.zero,Typ.zero,w2]))
  .have hie:i=i0:=by omega
   subst hie;obtain⟨hkd,hv,j0,hj0,a,m1,hj1,hj2,g1,hln,he1,he2⟩:=hhit' rfl;rw[hkk]at hv;obtain⟨l1,l2,l3,l4,l5,l6,l7,l8⟩:=hln;subst he1 he2;refine qM (S:=Nat) (fun j=>[(0,.ptr 0 0),(2,.sl env.length (zW env)),(3,int x),(4,int depth),(6,.ptr 2 0),(10,.ptr 3 0),(11,int i),(12,int k),(13,.ptr 4 0),(14,int j)])
    (fun _=>mkS m++[.box (zB t),.box (zH Exp.zero),.box (zI D)]) (fun j=>j<=j0) (fun j=>j0-j) 0 (by simp)
    (mw [0,1,2,3,4] 0 (by rfl) (by simp[mkS,mkB,zB,zH,Exp.zero,Id.zero,Typ.zero,zI])) ?_
   intro j hj;have hjl:j<D.slots.length:=by omega
   have hdS:List.drop (j*11+4) (jF D.slots)=(j4 D.slots[j]++jF (D.slots.drop (j+1))).drop 4:=by rw[<-jBb,jN hjl]
   have hbS:j*11+4+5<=D.slots.length*11:=by omega
   have hw:=yK j (by omega);simp[mkS,mkB,zI,zB,hjl,hkd];intro _;refine mr (zER m k hkm hx.mods) [0,1] (by simp[mkS,mkB]) ?_;rw[hv];simp[mkS,mkB,zI,zB,hjl,hdS,hbS,j4];refine zZ (mU D.slots[j].typ t) (by simp[zB]) (by simp) ?_;by_cases hjj:j<j0
   .rw[hj2 j hjj];simp[mkS,mkB];exact zN (j+1) hjj (by omega) (mw [0,1,2,3,4] 0 (by rfl) (by simp[mkS,mkB,zB,zH,Exp.zero,Id.zero,Typ.zero,zI,hkd,hw]))
   .have hje:j=j0:=by omega
    subst hje;rw[hj1];simp[mkS,mkB];refine mu (zC7 D.id) (by simp[zG]) ?_;simp[mkS,mkB,wd];refine mr g1 [0,1] (by simp[mkS,mkB,zB,yB]) ?_;simp[mkS,mkB];refine mr (aL m1 8 j [a] l3 (by omega) (by omega) l6) [0,1] (by simp[mkS,mkB,zM]) ?_;simp[mkS,mkB,zH];exact mv [0,1] 0 (by rfl) (by simp[zH,zM])
 .have hii:i=m.defs.length:=by omega
  have hi0':i0=m.defs.length:=by omega
  subst hii;simp[mkS,mkB,zB];refine mr (hfull hi0') [0,1] (by simp[mkS,mkB,zB]) ?_;simp[mkS,mkB];exact mv [0,1] 0 (by rfl) (by simp[zH])
abbrev zPU:FuncId:=137
def zPS(m:Mk)(t:Typ)(k:Nat):Bool:=match m.defs[k]? with
 |some d=>decide (d.kind=2)&&(zAn m k&&aF d.res t)
 |none=>false
theorem zMu{len:Nat}(hc:0<=c)(hl:Lim m (7*c+7))(x:Nat)(hk:dN hs R c (depth-1) (fun r=>r<=R) len)
 (hx:Cx hs R m)(he:EnvOk hs R m.temp env)(h1:0<env.length)(h2:env.length<=len)(hd1 : -1000<=depth)(hd2:depth<=1000)(t:Typ)
 (hop:cH hs m.own opF m [.ptr 0 0,.agg (zB t),.sl env.length (zW env),int x,int depth] env t (7*c+7)) :
 cH hs m.own zPU m [.ptr 0 0,.agg (zB t),.sl env.length (zW env),int x,int depth] env t (7*c+7):=by
 have hdl:=hx.dlen;have hd100:=hx.len;have hd0:=hx.len0;have hN:0<m.defs.length:=by omega
 have wd:=qA (depth-1) (by omega);obtain⟨i0,e,m',hi0,hlow,hfull,hhit,hA,hW,hS,hZ⟩:∃(i0:Nat) (e:Exp) (m':Mk),i0<=m.defs.length/\(∀i<i0,zPS m t i=false) /\
  (i0=m.defs.length->my opF [.ptr 0 0,.agg (zB t),.sl env.length (zW env),int x,int depth] (mkS m) (.agg (zH e)) (mkS m')) /\
  (∀(D:Dfn),m.defs[i0]?=some D->D.kind=2/\zAn m i0=true/\D.res=t/\∃(es:wG) (ms:Nat->Mk),es.length=D.slots.length/\ms 0=m/\Lim (ms es.length) 1 /\
   (∀(j:Nat) (hj:j<es.length) (hj':j<D.slots.length),my bL [.ptr 0 0,.agg (zB D.slots[j].typ),.sl env.length (zW env),int (depth-1)] (mkS (ms j)) (.agg (zH es[j])) (mkS (ms (j+1)))) /\
   e=.mk ⟨0,0,(ms es.length).temp⟩ 3 0 D.id Typ.zero es []/\m'={ms es.length with temp:=(ms es.length).temp+1,left:=(ms es.length).left-1}) /\
  Adv m m' (7*c+7)/\WT hs m.own env e t/\Seg m.temp m'.temp (tmps e)/\e.num0:=by
  by_cases hex:∃i,i<m.defs.length/\zPS m t i=true
  .obtain⟨k,hkm,hp,hlow⟩:=zMR hex;have hks:k<hs.length:=by omega
   have hget:=hx.get hkm;unfold zPS at hp;rw[jA0 hkm]at hp;simp only[jA6,decide_eq_true_eq]at hp;generalize hD:m.defs[k]=D at hget hp;obtain⟨hkind,hvis,hst⟩:=hp;have hres:=(pU _ _).1 hst;have eid:hs[k].id=D.id:=by rw[hget];rfl
   have eslots:hs[k].slots=D.slots:=by rw[hget];rfl
   have eres:hs[k].res=D.res:=by rw[hget];rfl
   have ekind:hs[k].kind=2:=by rw[hget];exact hkind
   obtain⟨hs6,hsT⟩:=hx.slots k hks;rw[eslots]at hs6 hsT;have hsc:((D.slots.length:Int))*c<=6*c:=jDb (by omega) hc;obtain⟨es,ms,q1,q2,q3,q4,q5⟩:=zMN hk hc env h1 h2 (D.slots.map (·.typ)) m hx (hl.mono (by rw[jAd];omega)) (fun t ht=>by obtain⟨s,hs',rfl⟩:=jAk.1 ht;exact⟨R,hsT s hs',jA _⟩) he
   rw[jAd]at q1 q3 q4;have ha:=(q3 D.slots.length (jA _)).mono hsc;have hl1:Lim (ms es.length) 1:=by rw[q1];exact Lim.adv (c:=6*c) (c':=1) (hl.mono (by omega)) ha
   refine⟨k,.mk ⟨0,0,(ms es.length).temp⟩ 3 0 D.id Typ.zero es [],{ms es.length with temp:=(ms es.length).temp+1,left:=(ms es.length).left-1},by omega,hlow,fun h=>by omega,fun D' hD'=>?_,by rw[q1];exact(ha.trans (y9 _)).mono (by omega),?_,
    by simp only[tmps];rw[q1];exact q4.append (Seg.one _) ha.temp1 (by omega),iM (zAS rfl fun j hj=>(q5 j hj (by rw[jAd];omega)).2.2)⟩
   .rw[jA0 hkm,hD]at hD';injection hD' with hD'
    subst hD';refine⟨hkind,hvis,hres,es,ms,q1,q2,hl1,fun j hj hj'=>?_,rfl,rfl⟩;have:=(q5 j hj (by rw[jAd];omega)).1;rw[jAy]at this;exact this
   .have:=WT.call (own:=m.own) env ⟨0,0,(ms es.length).temp⟩ k hks es (zUo hvis) ekind (by rw[eslots,q1]) (fun j hj=>by
     have:=(q5 j hj (by rw[jAd];omega)).2.1;rw[jAy]at this
     simpa only[eslots]using this)
    rw[eid,eres,hres]at this;exact this
  .obtain⟨e,m',g1,g2,g3,g4,g5⟩:=hop;refine⟨m.defs.length,e,m',jA _,fun i hi=>?_,fun _=>g1,(fun D h=>by rw[jB7 (jA _)]at h;cases h),g2,g3,g4,g5⟩;cases hp:zPS m t i
   .rfl
   .exact(hex ⟨i,hi,hp⟩).elim
 refine⟨e,m',?_,hA,hW,hS,hZ⟩;refine mj [69] [] [] [.cell 10 15 true] func137 (by kernel_rfl) ?_
 (conv in kH _ _ _=>cbv)
 simp[mkS,mkB,zB];refine qM (S:=Nat) (fun i=>[(0,.ptr 0 0),(2,.sl env.length (zW env)),(3,int x),(4,int depth),(6,.ptr 2 0),(10,.ptr 3 0),(11,int i)])
  (fun _=>mkS m++[.box (zB t),.box (zH Exp.zero)]) (fun i=>i<=i0) (fun i=>i0-i) 0 (by simp)
  (mw [0,1,2,3] 0 (by rfl) (by simp[mkS,mkB,zB,zH,Exp.zero,Id.zero,Typ.zero])) ?_
 intro i hi;by_cases h:i<m.defs.length
 .have w2:=yK i (by omega);have hlow':=fun hlt:i<i0=>hlow i hlt
  have hhit':i=i0->_:=fun e=>hhit m.defs[i] (by rw[<-e,jA0 h])
  unfold zPS at hlow';rw[jA0 h]at hlow';have hsl:m.defs[i].slots.length<=6:=by have:=(hx.slots i (by omega)).1;rw[hx.get h]at this;exact this
  have hdr:=j6 h;have hb31:i*31+31<=m.defs.length*31:=by omega
  generalize m.defs[i]=D at hlow' hhit' hsl hdr;by_cases hlt:i<i0
  .have hno:=hlow' hlt;simp only at hno;by_cases hkd:D.kind=2
   .simp[mkS,mkB,h,hdr,hb31,zI,hkd];refine mr (zER m i h hx.mods) [0,1] (by simp[mkS,mkB]) ?_;cases hv:zAn m i
    .simp[mkS,mkB];exact zN (i+1) (by omega) (by omega) (mw [0,1,2,3] 0 (by rfl) (by simp[mkS,mkB,zB,zH,Exp.zero,Id.zero,Typ.zero,w2]))
    .have hsf:aF D.res t=false:=by simpa[hkd,hv]using hno
     simp[mkS,mkB,zI,zB];refine mu (mU D.res t) (by simp[zB]) ?_;rw[hsf];simp[mkS,mkB];exact zN (i+1) (by omega) (by omega) (mw [0,1,2,3] 0 (by rfl) (by simp[mkS,mkB,zB,zH,Exp.zero,Id.zero,Typ.zero,w2]))
   .simp[mkS,mkB,h,hdr,hb31,zI,hkd];exact zN (i+1) (by omega) (by omega) (mw [0,1,2,3] 0 (by rfl) (by simp[mkS,mkB,zB,zH,Exp.zero,Id.zero,Typ.zero,w2]))
  .have hie:i=i0:=by omega
   subst hie;obtain⟨hkd,hv,hres,es,ms,q1,q2,hln,g1,he1,he2⟩:=hhit' rfl;obtain⟨l1,l2,l3,l4,l5,l6,l7,l8⟩:=hln;subst he1 he2;simp[mkS,mkB,h,hdr,hb31,zI,hkd];refine mr (zER m i h hx.mods) [0,1] (by simp[mkS,mkB]) ?_;rw[hv];simp[mkS,mkB,zI,zB];refine mu (mU D.res t) (by simp[zB]) ?_;rw[show aF D.res t=true from (pU _ _).2 hres];simp[mkS,mkB];refine qM (S:=Nat) (fun j=>[(0,.ptr 0 0),(2,.sl env.length (zW env)),(4,int depth),(10,.ptr 3 0),(12,.ptr 4 0),(13,.row 5 j),(14,int j)])
    (fun j=>mkS (ms j)++[.box (zB t),.box (zH Exp.zero),.box (zI D),.row false 39 15 j (qL (es.take j))]) (fun j=>j<=es.length) (fun j=>es.length-j) 0 (by simp)
    ((jW (t:=13) (by simp) 39 15).trans (mw [0,1,2,3,4,5] 0 (by rfl) (by simp[mkS,mkB,zB,q2,zH,Exp.zero,Id.zero,Typ.zero,zI,hkd]))) ?_
   intro j hj;by_cases hj2:j<es.length
   .have hjd:j<D.slots.length:=by omega
    have g1':=g1 j hj2 hjd;have hst:qL (es.take (j+1))=qL (es.take j)++zH es[j]:=bH hj2;have hw:=yK j (by omega);have hdS:List.drop (j*11+4) (jF D.slots)=(j4 D.slots[j]++jF (D.slots.drop (j+1))).drop 4:=by rw[<-jBb,jN hjd]
    have hbS:j*11+4+5<=D.slots.length*11:=by omega
    simp[mkS,mkB,zI,hjd,hdS,hbS,j4,wd];intro _;refine mr g1' [0,1] (by simp[mkS,mkB,zB]) ?_;simp[mkS,mkB];refine⟨⟨by simp[maxLen];omega,by omega⟩,?_⟩;exact zN (j+1) hj2 (by omega) (mw [0,1,2,3,4,5] 0 (by rfl) (by simp[mkS,mkB,zB,zH,Exp.zero,Id.zero,Typ.zero,hst,zI,hw]))
   .have hje:j=es.length:=by omega
    subst hje;have hid:¬es.length<D.slots.length:=by omega
    simp[mkS,mkB,zI,hid];intro _;refine⟨qK [(0,.ptr 0 0),(10,.ptr 3 0),(12,.ptr 4 0),(13,.sl es.length (qL es))],mkS (ms es.length)++[.box (zB t),.box (zH Exp.zero),.box (zI D)],mw [0,1,2,3,4] 1 (by rfl) (by simp[mkS,mkB,zB,zH,Exp.zero,Id.zero,Typ.zero,zI]),?_⟩;simp[mkS,mkB];refine mr (aL (ms es.length) 3 0 es l3 (by omega) (by omega) l6) [0,1] (by simp[mkS,mkB]) ?_;simp[mkS,mkB,zH,zI];exact mv [0,1] 0 (by rfl) (by simp[zH])
 .have hii:i=m.defs.length:=by omega
  have hi0':i0=m.defs.length:=by omega
  subst hii;simp[mkS,mkB,zB];refine mr (hfull hi0') [0,1] (by simp[mkS,mkB,zB]) ?_;simp[mkS,mkB];exact mv [0,1] 0 (by rfl) (by simp[zH])
def qEi:Nat->Option wD:=fun|14=>k_ [0,2002,2002,0,0,0,0,0,1002,0,4,0] | 20=>k_ [2002,0,0,0,0,0,0,0,0,0,0,1002,0,2,0] | 34=>k_ [2002,2002,0,0,0,0,0,1002,0,2,0]|_=>none
abbrev zJ1:FuncId:=128
abbrev zI3:FuncId:=129
variable{m0:Mk}{t:Typ}{X:Int}{F:wI}
theorem zNP(hd1 : -1000<=depth)(hd2:depth<=1000)(hX0:0<=X)(hX1:X<65536)(hF:F.length<=1000)(hE0:0<env.length)(hE:env.length<=1000)
 (hnum:my zJ1 [.ptr 0 0,int 65536] (mkS m) (int X) (mkS m0))(hfit:my zI3 [.sl env.length (zW env),.agg (zB t)] [] (.sl F.length (zW F)) [])(hleft:0<m0.left)(hd:0<depth)(hF0:F≠[])(hX3:X.tmod 3=0)(h0:0<=m0.temp)(h1:m0.temp<=1000000000000000)(h2 : -1000000000000000<=m0.left)(h3:m0.left<=1000000000000000) :
 ∃b∈F,my bL [.ptr 0 0,.agg (zB t),.sl env.length (zW env),int depth] (mkS m) (.agg (zH (.mk ⟨0,0,m0.temp⟩ 2 b.n b.id Typ.zero [] []))) (mkS {m0 with temp:=m0.temp+1,left:=m0.left-1}):=by
 have hl':¬m0.left<=0:=by omega
 have hd':¬depth<=0:=by omega
 have d3:X.tdiv 3=X / 3:=tdN hX0;have w3:=qA (X.tdiv 3) (by omega);have hFl:0<F.length:=by cases F with
  |nil=>exact(hF0 rfl).elim
  |cons=>simp
 obtain⟨j,hj,e1⟩:∃j:Nat,j<F.length/\(X.tdiv 3).tmod (F.length:Int)=j:=by
  have q0:0<=X.tdiv 3:=by omega
  have q1:=jDc (X.tdiv 3) (b:=(F.length:Int)) (by omega);have q2:=jD2 (X.tdiv 3) (b:=(F.length:Int)) (by omega);exact⟨((X.tdiv 3) % F.length).toNat,by omega,by rw[tmN q0];omega⟩
 have hdr:=gO hj;have hbj:j*9+9<=F.length*9:=by omega
 have hne:¬((F.length:Int)=0):=by omega
 refine⟨F[j],jA3 hj,?_⟩;have hvar:=zSv m0 F[j] h0 h1 h2 h3;refine mn qEi [] [.cell 8 15 true] func85 (by kernel_rfl) ?_
 (conv in zY _ _ _ _=>cbv)
 simp[mkS,mkB,zB];refine mr hnum [0,1] (by simp[mkS,mkB]) ?_;simp[mkS,mkB];refine mu hfit (by simp[zB]) ?_;simp[mkS,mkB,hl',hd',hX3,hFl,hF0,w3,e1,hne,hj,hdr,hbj];intro _;refine mr hvar [0,1] (by simp[mkS,mkB,cI]) ?_;simp[mkS,mkB,zH];exact mv [0,1] 0 (by rfl) (by simp[zH])
variable{d:Int}
theorem zNQ(hd1 : -1000<=depth)(hd2:depth<=1000)(hX0:0<=X)(hX1:X<65536)(hF:F.length<=1000)(hE0:0<env.length)(hE:env.length<=1000)
 (hnum:my zJ1 [.ptr 0 0,int 65536] (mkS m) (int X) (mkS m0))(hfit:my zI3 [.sl env.length (zW env),.agg (zB t)] [] (.sl F.length (zW F)) [])(hd:d<=0)(hcase:m0.left<=0/\0<depth/\d=0\/m0.left<=0/\depth<=0/\d=depth\/0<m0.left/\depth<=0/\d=depth)(hF0:F≠[])(h0:0<=m0.temp)(h1:m0.temp<=1000000000000000)(h2 : -1000000000000000<=m0.left)(h3:m0.left<=1000000000000000) :
 ∃b∈F,my bL [.ptr 0 0,.agg (zB t),.sl env.length (zW env),int depth] (mkS m) (.agg (zH (.mk ⟨0,0,m0.temp⟩ 2 b.n b.id Typ.zero [] []))) (mkS {m0 with temp:=m0.temp+1,left:=m0.left-1}):=by
 have d3:X.tdiv 3=X / 3:=tdN hX0;have w3:=qA (X.tdiv 3) (by omega);have hFl:0<F.length:=by cases F with
  |nil=>exact(hF0 rfl).elim
  |cons=>simp
 obtain⟨j,hj,e1⟩:∃j:Nat,j<F.length/\(X.tdiv 3).tmod (F.length:Int)=j:=by
  have q0:0<=X.tdiv 3:=by omega
  have q1:=jDc (X.tdiv 3) (b:=(F.length:Int)) (by omega);have q2:=jD2 (X.tdiv 3) (b:=(F.length:Int)) (by omega);exact⟨((X.tdiv 3) % F.length).toNat,by omega,by rw[tmN q0];omega⟩
 have hdr:=gO hj;have hbj:j*9+9<=F.length*9:=by omega
 have hne:¬((F.length:Int)=0):=by omega
 refine⟨F[j],jA3 hj,?_⟩;have hvar:=zSv m0 F[j] h0 h1 h2 h3;rcases hcase with ⟨hl1,hp,hdd⟩|⟨hl1,hp,hdd⟩|⟨hl1,hp,hdd⟩
 .subst hdd;refine mn qEi [] [.cell 8 15 true] func85 (by kernel_rfl) ?_
  (conv in zY _ _ _ _=>cbv)
  simp[mkS,mkB,zB];refine mr hnum [0,1] (by simp[mkS,mkB]) ?_;simp[mkS,mkB];refine mu hfit (by simp[zB]) ?_;simp[mkS,mkB,hl1,hp,hFl,hF0,w3,e1,hne,hj,hdr,hbj];intro _;refine mr hvar [0,1] (by simp[mkS,mkB,cI]) ?_;simp[mkS,mkB,zH];exact mv [0,1] 0 (by rfl) (by simp[zH])
 .have hp0:¬0<depth:=by omega
  subst hdd;refine mn qEi [] [.cell 8 15 true] func85 (by kernel_rfl) ?_
  (conv in zY _ _ _ _=>cbv)
  simp[mkS,mkB,zB];refine mr hnum [0,1] (by simp[mkS,mkB]) ?_;simp[mkS,mkB];refine mu hfit (by simp[zB]) ?_;simp[mkS,mkB,hl1,hp,hp0,hFl,hF0,w3,e1,hne,hj,hdr,hbj];intro _;refine mr hvar [0,1] (by simp[mkS,mkB,cI]) ?_;simp[mkS,mkB,zH];exact mv [0,1] 0 (by rfl) (by simp[zH])
 .have hp0:¬0<depth:=by omega
  have hl2:¬m0.left<=0:=by omega
  subst hdd;refine mn qEi [] [.cell 8 15 true] func85 (by kernel_rfl) ?_
  (conv in zY _ _ _ _=>cbv)
  simp[mkS,mkB,zB];refine mr hnum [0,1] (by simp[mkS,mkB]) ?_;simp[mkS,mkB];refine mu hfit (by simp[zB]) ?_;simp[mkS,mkB,hl2,hp,hFl,hF0,w3,e1,hne,hj,hdr,hbj];intro _;refine mr hvar [0,1] (by simp[mkS,mkB,cI]) ?_;simp[mkS,mkB,zH];exact mv [0,1] 0 (by rfl) (by simp[zH])
variable{e:Exp}{m':Mk}
theorem zXB(hd1 : -1000<=depth)(hd2:depth<=1000)(hX0:0<=X)(hX1:X<65536)(hF:F.length<=1000)(hE0:0<env.length)(hE:env.length<=1000)
 (hnum:my zJ1 [.ptr 0 0,int 65536] (mkS m) (int X) (mkS m0))(hfit:my zI3 [.sl env.length (zW env),.agg (zB t)] [] (.sl F.length (zW F)) [])(hd:d<=0)(hcase:m0.left<=0/\0<depth/\d=0\/m0.left<=0/\depth<=0/\d=depth\/0<m0.left/\depth<=0/\d=depth)(hF0:F=[])(hlit:my zHm [.ptr 0 0,.agg (zB t),.sl env.length (zW env),int (X.tdiv 3),int d] (mkS m0) (.agg (zH e)) (mkS m')) :
 my bL [.ptr 0 0,.agg (zB t),.sl env.length (zW env),int depth] (mkS m) (.agg (zH e)) (mkS m'):=by
 have d3:X.tdiv 3=X / 3:=tdN hX0;have w3:=qA (X.tdiv 3) (by omega);subst hF0;rcases hcase with ⟨hl1,hp,hdd⟩|⟨hl1,hp,hdd⟩|⟨hl1,hp,hdd⟩
 .subst hdd;refine mn qEi [] [.cell 8 15 true] func85 (by kernel_rfl) ?_
  (conv in zY _ _ _ _=>cbv)
  simp[mkS,mkB,zB];refine mr hnum [0,1] (by simp[mkS,mkB]) ?_;simp[mkS,mkB];refine mu hfit (by simp[zB]) ?_;simp[mkS,mkB,hl1,hp,w3];refine mr hlit [0,1] (by simp[mkS,mkB,zB]) ?_;simp[mkS,mkB,zH];exact mv [0,1] 0 (by rfl) (by simp[zH])
 .have hp0:¬0<depth:=by omega
  subst hdd;refine mn qEi [] [.cell 8 15 true] func85 (by kernel_rfl) ?_
  (conv in zY _ _ _ _=>cbv)
  simp[mkS,mkB,zB];refine mr hnum [0,1] (by simp[mkS,mkB]) ?_;simp[mkS,mkB];refine mu hfit (by simp[zB]) ?_;simp[mkS,mkB,hl1,hp,hp0,w3];refine mr hlit [0,1] (by simp[mkS,mkB,zB]) ?_;simp[mkS,mkB,zH];exact mv [0,1] 0 (by rfl) (by simp[zH])
 .have hp0:¬0<depth:=by omega
  have hl2:¬m0.left<=0:=by omega
  subst hdd;refine mn qEi [] [.cell 8 15 true] func85 (by kernel_rfl) ?_
  (conv in zY _ _ _ _=>cbv)
  simp[mkS,mkB,zB];refine mr hnum [0,1] (by simp[mkS,mkB]) ?_;simp[mkS,mkB];refine mu hfit (by simp[zB]) ?_;simp[mkS,mkB,hl2,hp,w3];refine mr hlit [0,1] (by simp[mkS,mkB,zB]) ?_;simp[mkS,mkB,zH];exact mv [0,1] 0 (by rfl) (by simp[zH])
theorem qDZ(hd1 : -1000<=depth)(hd2:depth<=1000)(hX0:0<=X)(hX1:X<65536)(hF:F.length<=1000)(hE0:0<env.length)(hE:env.length<=1000)
 (hnum:my zJ1 [.ptr 0 0,int 65536] (mkS m) (int X) (mkS m0))(hfit:my zI3 [.sl env.length (zW env),.agg (zB t)] [] (.sl F.length (zW F)) [])(hleft:0<m0.left)(hd:0<depth)(hc:F=[]\/X.tmod 3≠0)(hk:9<=(X.tdiv 3).tmod 12)(hop:my opF [.ptr 0 0,.agg (zB t),.sl env.length (zW env),int (X.tdiv 36),int depth] (mkS m0) (.agg (zH e)) (mkS m')) :
 my bL [.ptr 0 0,.agg (zB t),.sl env.length (zW env),int depth] (mkS m) (.agg (zH e)) (mkS m'):=by
 have hl':¬m0.left<=0:=by omega
 have hd':¬depth<=0:=by omega
 have d3:X.tdiv 3=X / 3:=tdN hX0;have w3:=qA (X.tdiv 3) (by omega);have d36:X.tdiv 36=X / 36:=tdN hX0;have w36:=qA (X.tdiv 36) (by omega);have d12:(X.tdiv 3).tmod 12=(X.tdiv 3) % 12:=tmN (by omega);have k0:(X.tdiv 3).tmod 12≠0:=by omega
 have k1:(X.tdiv 3).tmod 12≠1:=by omega
 have k2:(X.tdiv 3).tmod 12≠2:=by omega
 have k3:(X.tdiv 3).tmod 12≠3:=by omega
 have k4:(X.tdiv 3).tmod 12≠4:=by omega
 have k5:(X.tdiv 3).tmod 12≠5:=by omega
 have k6:(X.tdiv 3).tmod 12≠6:=by omega
 have k7:(X.tdiv 3).tmod 12≠7:=by omega
 have k8:(X.tdiv 3).tmod 12≠8:=by omega
 by_cases hF0:F=[]
 .subst hF0;refine mn qEi [] [.cell 8 15 true] func85 (by kernel_rfl) ?_
  (conv in zY _ _ _ _=>cbv)
  simp[mkS,mkB,zB];refine mr hnum [0,1] (by simp[mkS,mkB]) ?_;simp[mkS,mkB];refine mu hfit (by simp[zB]) ?_;simp[mkS,mkB,hl',hd',w3,w36,k0,k1,k2,k3,k4,k5,k6,k7,k8];refine mr hop [0,1] (by simp[mkS,mkB,zB]) ?_;simp[mkS,mkB,zH];exact mv [0,1] 0 (by rfl) (by simp[zH])
 .have hc:=hc.resolve_left hF0;have hFl:0<F.length:=by cases F with
   |nil=>exact(hF0 rfl).elim
   |cons=>simp
  refine mn qEi [] [.cell 8 15 true] func85 (by kernel_rfl) ?_
  (conv in zY _ _ _ _=>cbv)
  simp[mkS,mkB,zB];refine mr hnum [0,1] (by simp[mkS,mkB]) ?_;simp[mkS,mkB];refine mu hfit (by simp[zB]) ?_;simp[mkS,mkB,hl',hd',hF0,hFl,hc,w3,w36,k0,k1,k2,k3,k4,k5,k6,k7,k8];intro _;refine mr hop [0,1] (by simp[mkS,mkB,zB]) ?_;simp[mkS,mkB,zH];exact mv [0,1] 0 (by rfl) (by simp[zH])
theorem zAA{N:Int}{G:FuncId}(hN:N=3/\G=zLr\/N=4/\G=zLr\/N=5/\G=zQD\/N=6/\G=zPU\/N=7/\G=zPU)(hd1 : -1000<=depth)(hd2:depth<=1000)(hX0:0<=X)(hX1:X<65536)(hF:F.length<=1000)(hE0:0<env.length)(hE:env.length<=1000)
 (hnum:my zJ1 [.ptr 0 0,int 65536] (mkS m) (int X) (mkS m0))(hfit:my zI3 [.sl env.length (zW env),.agg (zB t)] [] (.sl F.length (zW F)) [])(hleft:0<m0.left)(hd:0<depth)(hc:F=[]\/X.tmod 3≠0)(hk:(X.tdiv 3).tmod 12=N)(hop:my G [.ptr 0 0,.agg (zB t),.sl env.length (zW env),int (X.tdiv 36),int depth] (mkS m0) (.agg (zH e)) (mkS m')) :
 my bL [.ptr 0 0,.agg (zB t),.sl env.length (zW env),int depth] (mkS m) (.agg (zH e)) (mkS m'):=by
 have hl':¬m0.left<=0:=by omega
 have hd':¬depth<=0:=by omega
 have d3:X.tdiv 3=X / 3:=tdN hX0;have w3:=qA (X.tdiv 3) (by omega);have d36:X.tdiv 36=X / 36:=tdN hX0;have w36:=qA (X.tdiv 36) (by omega);have d12:(X.tdiv 3).tmod 12=(X.tdiv 3) % 12:=tmN (by omega);by_cases hF0:F=[]
 .subst hF0;rcases hN with ⟨rfl,rfl⟩|⟨rfl,rfl⟩|⟨rfl,rfl⟩|⟨rfl,rfl⟩|⟨rfl,rfl⟩
  all_goals
   refine mn qEi [] [.cell 8 15 true] func85 (by kernel_rfl) ?_
   (conv in zY _ _ _ _=>cbv)
   simp[mkS,mkB,zB];refine mr hnum [0,1] (by simp[mkS,mkB]) ?_;simp[mkS,mkB];refine mu hfit (by simp[zB]) ?_;simp[mkS,mkB,hl',hd',w3,w36,hk];refine mr hop [0,1] (by simp[mkS,mkB,zB]) ?_;simp[mkS,mkB,zH];exact mv [0,1] 0 (by rfl) (by simp[zH])
 .have hc:=hc.resolve_left hF0;have hFl:0<F.length:=by cases F with
   |nil=>exact(hF0 rfl).elim
   |cons=>simp
  rcases hN with ⟨rfl,rfl⟩|⟨rfl,rfl⟩|⟨rfl,rfl⟩|⟨rfl,rfl⟩|⟨rfl,rfl⟩
  all_goals
   refine mn qEi [] [.cell 8 15 true] func85 (by kernel_rfl) ?_
   (conv in zY _ _ _ _=>cbv)
   simp[mkS,mkB,zB];refine mr hnum [0,1] (by simp[mkS,mkB]) ?_;simp[mkS,mkB];refine mu hfit (by simp[zB]) ?_;simp[mkS,mkB,hl',hd',hF0,hFl,hc,w3,w36,hk];intro _;refine mr hop [0,1] (by simp[mkS,mkB,zB]) ?_;simp[mkS,mkB,zH];exact mv [0,1] 0 (by rfl) (by simp[zH])
variable{a b:Exp}{m1 m2 m3:Mk}
theorem qDY{N:Int}(hN:N=0\/N=1)(hd1 : -1000<=depth)(hd2:depth<=1000)(hX0:0<=X)(hX1:X<65536)(hF:F.length<=1000)(hE0:0<env.length)(hE:env.length<=1000)
 (hnum:my zJ1 [.ptr 0 0,int 65536] (mkS m) (int X) (mkS m0))(hfit:my zI3 [.sl env.length (zW env),.agg (zB t)] [] (.sl F.length (zW F)) [])(hleft:0<m0.left)(hd:0<depth)(hc:F=[]\/X.tmod 3≠0)(hk:(X.tdiv 3).tmod 12=N){c:Exp}(ga:my bL [.ptr 0 0,.agg (zB jO),.sl env.length (zW env),int (depth-1)] (mkS m0) (.agg (zH a)) (mkS m1))(gb:my bL [.ptr 0 0,.agg (zB t),.sl env.length (zW env),int (depth-1)] (mkS m1) (.agg (zH b)) (mkS m2))(gc:my bL [.ptr 0 0,.agg (zB t),.sl env.length (zW env),int (depth-1)] (mkS m2) (.agg (zH c)) (mkS m3))(hln:Lim m3 1) :
 my bL [.ptr 0 0,.agg (zB t),.sl env.length (zW env),int depth] (mkS m) (.agg (zH (.mk ⟨0,0,m3.temp⟩ 5 0 Id.zero Typ.zero [a,b,c] []))) (mkS {m3 with temp:=m3.temp+1,left:=m3.left-1}):=by
 have hl':¬m0.left<=0:=by omega
 have hd':¬depth<=0:=by omega
 have d3:X.tdiv 3=X / 3:=tdN hX0;have w3:=qA (X.tdiv 3) (by omega);have d36:X.tdiv 36=X / 36:=tdN hX0;have w36:=qA (X.tdiv 36) (by omega);have d12:(X.tdiv 3).tmod 12=(X.tdiv 3) % 12:=tmN (by omega);have wd:=qA (depth-1) (by omega);obtain⟨l1,l2,l3,l4,l5,l6,l7,l8⟩:=hln;by_cases hF0:F=[]
 .subst hF0;rcases hN with rfl|rfl
  all_goals
   refine mn qEi [] [.cell 8 15 true] func85 (by kernel_rfl) ?_
   (conv in zY _ _ _ _=>cbv)
   simp[mkS,mkB,zB];refine mr hnum [0,1] (by simp[mkS,mkB]) ?_;simp[mkS,mkB];refine mu hfit (by simp[zB]) ?_;simp[mkS,mkB,hl',hd',w3,w36,hk,wd];refine mr ga [0,1] (by simp[mkS,mkB,zB]) ?_;simp[mkS,mkB,zB,wd];refine mr gb [0,1] (by simp[mkS,mkB,zB]) ?_;simp[mkS,mkB,zB,wd];refine aK gc [0,1] (by decide) (by simp[mkS,mkB]) (by simp[zB]) (by decide) (by simp) (by simp[mkS]) ?_;simp[mkS,mkB];refine cE (aL m3 5 0 [a,b,c] l3 (by omega) (by omega) l6) [0,1] (by decide) (by simp[mkS,mkB]) (by simp[zM,zH]) ?_;simp[mkS,mkB,zH,zM];exact mv [0,1] 0 (by rfl) (by simp[zH,zM])
 .have hc:=hc.resolve_left hF0;have hFl:0<F.length:=by cases F with
   |nil=>exact(hF0 rfl).elim
   |cons=>simp
  rcases hN with rfl|rfl
  all_goals
   refine mn qEi [] [.cell 8 15 true] func85 (by kernel_rfl) ?_
   (conv in zY _ _ _ _=>cbv)
   simp[mkS,mkB,zB];refine mr hnum [0,1] (by simp[mkS,mkB]) ?_;simp[mkS,mkB];refine mu hfit (by simp[zB]) ?_;simp[mkS,mkB,hl',hd',hF0,hFl,hc,w3,w36,hk,wd];intro _;refine mr ga [0,1] (by simp[mkS,mkB,zB]) ?_;simp[mkS,mkB,zB,wd];refine mr gb [0,1] (by simp[mkS,mkB,zB]) ?_;simp[mkS,mkB,zB,wd];refine aK gc [0,1] (by decide) (by simp[mkS,mkB]) (by simp[zB]) (by decide) (by simp) (by simp[mkS]) ?_;simp[mkS,mkB];refine cE (aL m3 5 0 [a,b,c] l3 (by omega) (by omega) l6) [0,1] (by decide) (by simp[mkS,mkB]) (by simp[zM,zH]) ?_;simp[mkS,mkB,zH,zM];exact mv [0,1] 0 (by rfl) (by simp[zH,zM])
@[simp]theorem qA5{U:St}:nK 2002 U = U:=rfl
variable{s:ByteArray}
theorem dT:yI [s]=[.lit (.string s)]:=rfl
variable{s':ByteArray}
theorem dV:yI [s,s']=[.lit (.string s),.lit (.string s')]:=rfl
abbrev zR2:FuncId:=133
theorem zXA(hd1 : -1000<=depth)(hd2:depth<=1000)(hX0:0<=X)(hX1:X<65536)(hF:F.length<=1000)(hE0:0<env.length)(hE:env.length<=1000)
 (hnum:my zJ1 [.ptr 0 0,int 65536] (mkS m) (int X) (mkS m0))(hfit:my zI3 [.sl env.length (zW env),.agg (zB t)] [] (.sl F.length (zW F)) [])(hleft:0<m0.left)(hd:0<depth)(hc:F=[]\/X.tmod 3≠0)(hk:(X.tdiv 3).tmod 12=2){j:Nat}(hj:j<env.length)(e1:(X.tdiv 36).tmod (env.length:Int)=j){m4:Mk}(ga:my bL [.ptr 0 0,.agg (zB env[j].typ),.sl env.length (zW env),int (depth-1)] (mkS m0) (.agg (zH a)) (mkS m1))(hln:Lim m1 1)(hm2:m2={m1 with temp:=m1.temp+1,left:=m1.left-1})
 (gn:my zR2 [.ptr 0 0] (mkS m2) (.lit (.string s)) (mkS m3))(gb:my bL [.ptr 0 0,.agg (zB t),.sl (env.length+1) (zW (env++[⟨⟨0,0,m1.temp⟩,0,env[j].typ⟩])),int (depth-1)] (mkS m3) (.agg (zH b)) (mkS m4)) :
 my bL [.ptr 0 0,.agg (zB t),.sl env.length (zW env),int depth] (mkS m) (.agg (zH (.mk ⟨0,0,m1.temp⟩ 6 0 Id.zero Typ.zero [a,b] [s]))) (mkS m4):=by
 have hl':¬m0.left<=0:=by omega
 have hd':¬depth<=0:=by omega
 have d3:X.tdiv 3=X / 3:=tdN hX0;have w3:=qA (X.tdiv 3) (by omega);have d36:X.tdiv 36=X / 36:=tdN hX0;have w36:=qA (X.tdiv 36) (by omega);have d12:(X.tdiv 3).tmod 12=(X.tdiv 3) % 12:=tmN (by omega);have wd:=qA (depth-1) (by omega);obtain⟨l1,l2,l3,l4,l5,l6,l7,l8⟩:=hln;have hdr:=gO hj;have hdr4:List.drop (j*9+4) (zW env)=(cI env[j]++zW (env.drop (j+1))).drop 4:=by rw[<-jBb,hdr]
 have hb4:j*9+4+5<=env.length*9:=by omega
 have hne:¬((env.length:Int)=0):=by omega
 have hnil:env≠[]:=fun e=>by rw[e]at hE0;simp at hE0
 have hnode:=aL m1 6 0 [] l3 (by omega) (by omega) l6;rw[<-hm2]at hnode;rcases hc with hc|hc
 .subst hc;refine mn qEi [] [.cell 8 15 true] func85 (by kernel_rfl) ?_
  (conv in zY _ _ _ _=>cbv)
  simp[mkS,mkB,zB];refine mr hnum [0,1] (by simp[mkS,mkB]) ?_;simp[mkS,mkB];refine mu hfit (by simp[zB]) ?_;simp[mkS,mkB,hl',hd',w3,w36,hk,wd,e1,hne,hnil,hj,hdr4,hb4,cI];intro _;refine mr ga [0,1] (by simp[mkS,mkB,zB]) ?_;simp[mkS,mkB];refine mr hnode [0,1] (by simp[mkS,mkB]) ?_;simp[mkS,mkB,zH];refine mr gn [0,1] (by simp[mkS,mkB]) ?_;simp[mkS,mkB];refine zZ (lJ env ⟨⟨0,0,m1.temp⟩,0,env[j].typ⟩ (by omega)) (by simp[cI]) (by simp) ?_;simp[mkS,mkB,wd];refine aK gb [0,1] (by decide) (by simp[mkS,mkB]) (by simp[zB]) (by decide) (by simp) (by simp[mkS]) ?_;simp[mkS,mkB];exact mv [0,1] 0 (by rfl) (by simp[zH,zM,dT,dV])
 .by_cases hF0:F=[]
  .subst hF0;refine mn qEi [] [.cell 8 15 true] func85 (by kernel_rfl) ?_
   (conv in zY _ _ _ _=>cbv)
   simp[mkS,mkB,zB];refine mr hnum [0,1] (by simp[mkS,mkB]) ?_;simp[mkS,mkB];refine mu hfit (by simp[zB]) ?_;simp[mkS,mkB,hl',hd',w3,w36,hk,wd,e1,hne,hnil,hj,hdr4,hb4,cI];intro _;refine mr ga [0,1] (by simp[mkS,mkB,zB]) ?_;simp[mkS,mkB];refine mr hnode [0,1] (by simp[mkS,mkB]) ?_;simp[mkS,mkB,zH];refine mr gn [0,1] (by simp[mkS,mkB]) ?_;simp[mkS,mkB];refine zZ (lJ env ⟨⟨0,0,m1.temp⟩,0,env[j].typ⟩ (by omega)) (by simp[cI]) (by simp) ?_;simp[mkS,mkB,wd];refine aK gb [0,1] (by decide) (by simp[mkS,mkB]) (by simp[zB]) (by decide) (by simp) (by simp[mkS]) ?_;simp[mkS,mkB];exact mv [0,1] 0 (by rfl) (by simp[zH,zM,dT,dV])
  .have hFl:0<F.length:=by cases F with
    |nil=>exact(hF0 rfl).elim
    |cons=>simp
   refine mn qEi [] [.cell 8 15 true] func85 (by kernel_rfl) ?_
   (conv in zY _ _ _ _=>cbv)
   simp[mkS,mkB,zB];refine mr hnum [0,1] (by simp[mkS,mkB]) ?_;simp[mkS,mkB];refine mu hfit (by simp[zB]) ?_;simp[mkS,mkB,hl',hd',hF0,hFl,hc,w3,w36,hk,wd,e1,hne,hnil,hj,hdr4,hb4,cI];intro _;intro _;refine mr ga [0,1] (by simp[mkS,mkB,zB]) ?_;simp[mkS,mkB];refine mr hnode [0,1] (by simp[mkS,mkB]) ?_;simp[mkS,mkB,zH];refine mr gn [0,1] (by simp[mkS,mkB]) ?_;simp[mkS,mkB];refine zZ (lJ env ⟨⟨0,0,m1.temp⟩,0,env[j].typ⟩ (by omega)) (by simp[cI]) (by simp) ?_;simp[mkS,mkB,wd];refine aK gb [0,1] (by decide) (by simp[mkS,mkB]) (by simp[zB]) (by decide) (by simp) (by simp[mkS]) ?_;simp[mkS,mkB];exact mv [0,1] 0 (by rfl) (by simp[zH,zM,dT,dV])
theorem zTo(hd1 : -1000<=depth)(hd2:depth<=1000)(hX0:0<=X)(hX1:X<65536)(hF:F.length<=1000)(hE0:0<env.length)(hE:env.length<=1000)
 (hnum:my zJ1 [.ptr 0 0,int 65536] (mkS m) (int X) (mkS m0))(hfit:my zI3 [.sl env.length (zW env),.agg (zB t)] [] (.sl F.length (zW F)) [])(hleft:0<m0.left)(hd:0<depth)(hc:F=[]\/X.tmod 3≠0)(hk:(X.tdiv 3).tmod 12=8){c:Exp}{m4 m5 m6:Mk}(ga:my bL [.ptr 0 0,.agg (zB (j5 q9)),.sl env.length (zW env),int (depth-1)] (mkS m0) (.agg (zH a)) (mkS m1))(gb:my bL [.ptr 0 0,.agg (zB t),.sl env.length (zW env),int (depth-1)] (mkS m1) (.agg (zH b)) (mkS m2))(hln:Lim m2 1)(hm3:m3={m2 with temp:=m2.temp+1,left:=m2.left-1})
 (gn:my zR2 [.ptr 0 0] (mkS m3) (.lit (.string s)) (mkS m4))(gn':my zR2 [.ptr 0 0] (mkS m4) (.lit (.string s')) (mkS m5))(gc:my bL [.ptr 0 0,.agg (zB t),.sl (env.length+1+1) (zW (env++[⟨⟨0,0,m2.temp⟩,0,q9⟩]++[⟨⟨0,0,m2.temp⟩,1,t⟩])),int (depth-1)] (mkS m5) (.agg (zH c)) (mkS m6)) :
 my bL [.ptr 0 0,.agg (zB t),.sl env.length (zW env),int depth] (mkS m) (.agg (zH (.mk ⟨0,0,m2.temp⟩ 12 0 Id.zero Typ.zero [a,b,c] [s,s']))) (mkS m6):=by
 have hl':¬m0.left<=0:=by omega
 have hd':¬depth<=0:=by omega
 have d3:X.tdiv 3=X / 3:=tdN hX0;have w3:=qA (X.tdiv 3) (by omega);have d36:X.tdiv 36=X / 36:=tdN hX0;have w36:=qA (X.tdiv 36) (by omega);have d12:(X.tdiv 3).tmod 12=(X.tdiv 3) % 12:=tmN (by omega);have wd:=qA (depth-1) (by omega);obtain⟨l1,l2,l3,l4,l5,l6,l7,l8⟩:=hln;have hnode:=aL m2 12 0 [] l3 (by omega) (by omega) l6;rw[<-hm3]at hnode;rcases hc with hc|hc
 .subst hc;refine mn qEi [] [.cell 8 15 true] func85 (by kernel_rfl) ?_
  (conv in zY _ _ _ _=>cbv)
  simp[mkS,mkB,zB];refine mr hnum [0,1] (by simp[mkS,mkB]) ?_;simp[mkS,mkB];refine mu hfit (by simp[zB]) ?_;simp[mkS,mkB,hl',hd',w3,w36,hk,wd];refine mu zDX (by simp[zB,q9]) ?_;simp[mkS,mkB,wd];refine mr ga [0,1] (by simp[mkS,mkB,zB]) ?_;simp[mkS,mkB,zB,wd];refine mr gb [0,1] (by simp[mkS,mkB,zB]) ?_;simp[mkS,mkB];refine mr hnode [0,1] (by simp[mkS,mkB]) ?_;simp[mkS,mkB,zH];refine mr gn [0,1] (by simp[mkS,mkB]) ?_;simp[mkS,mkB];refine mr gn' [0,1] (by simp[mkS,mkB]) ?_;simp[mkS,mkB];refine zZ (lJ env ⟨⟨0,0,m2.temp⟩,0,q9⟩ (by omega)) (by simp[cI,q9,Id.zero]) (by simp) ?_;simp[mkS,mkB,zB];refine zZ (lJ (env++[⟨⟨0,0,m2.temp⟩,0,q9⟩]) ⟨⟨0,0,m2.temp⟩,1,t⟩ (by simp;omega)) (by simp[cI]) (by simp) ?_;simp[mkS,mkB,zB,wd];refine aK gc [0,1] (by decide) (by simp[mkS,mkB]) (by simp[zB]) (by decide) (by simp) (by simp[mkS]) ?_;simp[mkS,mkB];exact mv [0,1] 0 (by rfl) (by simp[zH,zM,dT,dV])
 .by_cases hF0:F=[]
  .subst hF0;refine mn qEi [] [.cell 8 15 true] func85 (by kernel_rfl) ?_
   (conv in zY _ _ _ _=>cbv)
   simp[mkS,mkB,zB];refine mr hnum [0,1] (by simp[mkS,mkB]) ?_;simp[mkS,mkB];refine mu hfit (by simp[zB]) ?_;simp[mkS,mkB,hl',hd',w3,w36,hk,wd];refine mu zDX (by simp[zB,q9]) ?_;simp[mkS,mkB,wd];refine mr ga [0,1] (by simp[mkS,mkB,zB]) ?_;simp[mkS,mkB,zB,wd];refine mr gb [0,1] (by simp[mkS,mkB,zB]) ?_;simp[mkS,mkB];refine mr hnode [0,1] (by simp[mkS,mkB]) ?_;simp[mkS,mkB,zH];refine mr gn [0,1] (by simp[mkS,mkB]) ?_;simp[mkS,mkB];refine mr gn' [0,1] (by simp[mkS,mkB]) ?_;simp[mkS,mkB];refine zZ (lJ env ⟨⟨0,0,m2.temp⟩,0,q9⟩ (by omega)) (by simp[cI,q9,Id.zero]) (by simp) ?_;simp[mkS,mkB,zB];refine zZ (lJ (env++[⟨⟨0,0,m2.temp⟩,0,q9⟩]) ⟨⟨0,0,m2.temp⟩,1,t⟩ (by simp;omega)) (by simp[cI]) (by simp) ?_;simp[mkS,mkB,zB,wd];refine aK gc [0,1] (by decide) (by simp[mkS,mkB]) (by simp[zB]) (by decide) (by simp) (by simp[mkS]) ?_;simp[mkS,mkB];exact mv [0,1] 0 (by rfl) (by simp[zH,zM,dT,dV])
  .have hFl:0<F.length:=by cases F with
    |nil=>exact(hF0 rfl).elim
    |cons=>simp
   refine mn qEi [] [.cell 8 15 true] func85 (by kernel_rfl) ?_
   (conv in zY _ _ _ _=>cbv)
   simp[mkS,mkB,zB];refine mr hnum [0,1] (by simp[mkS,mkB]) ?_;simp[mkS,mkB];refine mu hfit (by simp[zB]) ?_;simp[mkS,mkB,hl',hd',hF0,hFl,hc,w3,w36,hk,wd];intro _;refine mu zDX (by simp[zB,q9]) ?_;simp[mkS,mkB,wd];refine mr ga [0,1] (by simp[mkS,mkB,zB]) ?_;simp[mkS,mkB,zB,wd];refine mr gb [0,1] (by simp[mkS,mkB,zB]) ?_;simp[mkS,mkB];refine mr hnode [0,1] (by simp[mkS,mkB]) ?_;simp[mkS,mkB,zH];refine mr gn [0,1] (by simp[mkS,mkB]) ?_;simp[mkS,mkB];refine mr gn' [0,1] (by simp[mkS,mkB]) ?_;simp[mkS,mkB];refine zZ (lJ env ⟨⟨0,0,m2.temp⟩,0,q9⟩ (by omega)) (by simp[cI,q9,Id.zero]) (by simp) ?_;simp[mkS,mkB,zB];refine zZ (lJ (env++[⟨⟨0,0,m2.temp⟩,0,q9⟩]) ⟨⟨0,0,m2.temp⟩,1,t⟩ (by simp;omega)) (by simp[cI]) (by simp) ?_;simp[mkS,mkB,zB,wd];refine aK gc [0,1] (by decide) (by simp[mkS,mkB]) (by simp[zB]) (by decide) (by simp) (by simp[mkS]) ?_;simp[mkS,mkB];exact mv [0,1] 0 (by rfl) (by simp[zH,zM,dT,dV])
theorem zS3(hl:∀x∈m.l,w64 x=x):0<=atV m.l m.at_ 65536/\atV m.l m.at_ 65536<65536:=yA hl (by omega)
theorem zM9{b:Bnd}(h:b∈env.filter fun b=>aF b.typ t):b∈env/\b.typ=t:=by rw[List.mem_filter]at h;exact⟨h.1,(pU _ _).1 h.2⟩
theorem zGV{len r:Nat}(hc:0<=c)(hl:Lim m (6*c+2))(hd:d<=0)(hdd : -1000<=d)
 (hcase:m.left<=0/\0<depth/\d=0\/m.left<=0/\depth<=0/\d=depth\/0<m.left/\depth<=0/\d=depth)(t:Typ)(hr:TyOk hs r t)(hk:dN hs R c (d-1) (fun r'=>r'<r) len)
 (hx:Cx hs R m)(he:EnvOk hs R m.temp env)(h1:0<env.length)(h2:env.length<=len)(h3:env.length<=1000)(hd1 : -1000<=depth)(hd2:depth<=1000) :
 cH hs m.own bL m [.ptr 0 0,.agg (zB t),.sl env.length (zW env),int depth] env t (6*c+2):=by
 obtain⟨hX0,hX1⟩:=zS3 hx.nums;have ha:=zMm m;obtain⟨l1,l2,l3,l4,l5,l6,l7,l8⟩:=hl;have hl0:Lim {m with at_:=m.at_+1} (6*c+1):=Lim.adv (c:=1) ⟨l1,by omega,l3,by omega,by omega,l6,l7,by omega⟩ ha;have hnum:=zR8 m 65536 (by omega) l1 (by omega);have hfit:=zDE env t (by omega);have hFl:(env.filter fun b=>aF b.typ t).length<=1000:=jBu (jCi _ _) h3;by_cases hF0:(env.filter fun b=>aF b.typ t)=[]
 .obtain⟨e,m',g1,g2,g3,g4,g5⟩:=zRs hc hl0 ((atV m.l m.at_ 65536).tdiv 3) (by rw[tdN hX0];omega) (by rw[tdN hX0];omega) t hr (fun r' h=>h) hk (hx.adv ha) (he.mono ha.temp1) h1 h2 hdd (by omega);exact⟨e,m',zXB hd1 hd2 hX0 hX1 hFl h1 h3 hnum hfit hd hcase hF0 g1,(ha.trans g2).mono (by omega),g3,g4,g5⟩
 .obtain⟨b,hb,hret⟩:=zNQ hd1 hd2 hX0 hX1 hFl h1 h3 hnum hfit hd hcase hF0 l3 (by simp only;omega) (by simp only;omega) l6;obtain⟨hbe,hbt⟩:=zM9 hb;refine⟨_,_,hret,(ha.trans (y9 _)).mono (by omega),.var _ _ _ _ _ (by rw[zGf he.nd hbe,hbt]),?_,vI⟩;simp only[tmps,yF,jBm];exact Seg.one _
theorem zTq{len:Nat}(hc:8<=c)(hl:Lim m (8*c))(hleft:0<m.left)(hd0:0<depth)(hR:1<=R)(t:Typ)(ht:TyOk hs R t)
 (hk:dN hs R c (depth-1) (fun r=>r<=R) len)(hk2:dN hs R c (depth-2) (fun r=>r<=R) len)
 (hx:Cx hs R m)(he:EnvOk hs R m.temp env)(h1:0<env.length)(h2:env.length+2<=len)(h3:env.length+2<=1000)(hd2:depth<=1000) :
 cH hs m.own bL m [.ptr 0 0,.agg (zB t),.sl env.length (zW env),int depth] env t (8*c):=by
 obtain⟨hX0,hX1⟩:=zS3 hx.nums;have ha:=zMm m;obtain⟨m0,hm0⟩:∃m0:Mk,m0={m with at_:=m.at_+1}:=⟨_,rfl⟩;rw[<-hm0]at ha;have hl0:Lim m0 (7*c+7):=Lim.adv (c:=1) (hl.mono (by omega)) ha;have hlm:=hl0;obtain⟨l1,l2,l3,l4,l5,l6,l7,l8⟩:=hlm;have hnum:=zR8 m 65536 (by omega) hl.at1 (by have:=hl.at2;omega);rw[<-hm0]at hnum;have hfit:=zDE env t (by omega);have hFl:(env.filter fun b=>aF b.typ t).length<=1000:=jBu (jCi _ _) (by omega);have hleft0:0<m0.left:=by rw[hm0];exact hleft
 have hx0:=hx.adv ha;have he0:=he.mono ha.temp1;have eown:m0.own=m.own:=ha.own;generalize hF:(env.filter fun b=>aF b.typ t)=F at hfit hFl;generalize atV m.l m.at_ 65536=X at hX0 hX1 hnum;have fin:∀{e:Exp} {m':Mk} {c':Int},my bL [.ptr 0 0,.agg (zB t),.sl env.length (zW env),int depth] (mkS m) (.agg (zH e)) (mkS m')->Adv m0 m' c'->c'<=7*c+7->WT hs m0.own env e t->Seg m0.temp m'.temp (tmps e)->e.num0 ->
  cH hs m.own bL m [.ptr 0 0,.agg (zB t),.sl env.length (zW env),int depth] env t (8*c):=fun {e m' c'} q1 q2 q3 q4 q5 q6 =>
  ⟨e,m',q1,(ha.trans q2).mono (by omega),eown▸q4,q5.mono ha.temp1 (by omega),q6⟩
 by_cases hv:F≠[]/\X.tmod 3=0
 .obtain⟨b,hb,hret⟩:=zNP (by omega) hd2 hX0 hX1 hFl h1 (by omega) hnum hfit hleft0 hd0 hv.1 hv.2 l3 (by omega) (by omega) l6;rw[<-hF]at hb;obtain⟨hbe,hbt⟩:=zM9 hb;refine fin hret (y9 _) (by omega) (.var _ _ _ _ _ (by rw[zGf he.nd hbe,hbt])) ?_ vI;simp only[tmps,yF,jBm];exact Seg.one _
 have hcnd:F=[]\/X.tmod 3≠0:=by
  by_cases h:F=[]
  .exact .inl h
  .exact .inr fun h'=>hv ⟨h,h'⟩
 have d36:X.tdiv 36=X / 36:=tdN hX0;have d3:X.tdiv 3=X / 3:=tdN hX0;have d12:(X.tdiv 3).tmod 12=(X.tdiv 3) % 12:=tmN (by omega);obtain⟨y,hy⟩:∃y:Nat,(y:Int)=X.tdiv 36:=⟨(X / 36).toNat,by omega⟩;have hop:=qFs (by omega) hl0 (X.tdiv 36) (by omega) (by omega) hk hR hx0 he0 h1 (by omega) (by omega) (by omega) hd2 t ht;have viaOp:∀{f:FuncId},cH hs m0.own f m0 [.ptr 0 0,.agg (zB t),.sl env.length (zW env),int (X.tdiv 36),int depth] env t (7*c+7) ->
  (∀{e:Exp} {m':Mk},my f [.ptr 0 0,.agg (zB t),.sl env.length (zW env),int (X.tdiv 36),int depth] (mkS m0) (.agg (zH e)) (mkS m')->my bL [.ptr 0 0,.agg (zB t),.sl env.length (zW env),int depth] (mkS m) (.agg (zH e)) (mkS m')) ->
  cH hs m.own bL m [.ptr 0 0,.agg (zB t),.sl env.length (zW env),int depth] env t (8*c):=fun q w=>by
  obtain⟨e,m',g1,g2,g3,g4,g5⟩:=q;exact fin (w g1) g2 (by omega) g3 g4 g5
 have hif:(X.tdiv 3).tmod 12=0\/(X.tdiv 3).tmod 12=1->cH hs m.own bL m [.ptr 0 0,.agg (zB t),.sl env.length (zW env),int depth] env t (8*c):=fun hk01=>by
  obtain⟨a,m1,a1,a2,a3,a4,a5⟩:=hk m0 0 jO env hx0 (hl0.mono (by omega)) (.bool _) (by omega) he0 h1 (by omega);have hl1:Lim m1 (6*c):=Lim.adv (c:=c) (hl0.mono (by omega)) a2;obtain⟨b,m2,b1,b2,b3,b4,b5⟩:=hk m1 R t env (hx0.adv a2) (hl1.mono (by omega)) ht (jA _) (he0.mono a2.temp1) h1 (by omega);have hl2:Lim m2 (5*c):=Lim.adv (c:=c) (hl1.mono (by omega)) b2;obtain⟨e,m3,c1,c2,c3,c4,c5⟩:=hk m2 R t env ((hx0.adv a2).adv b2) (hl2.mono (by omega)) ht (jA _) ((he0.mono a2.temp1).mono b2.temp1) h1 (by omega);have hl3:Lim m3 1:=Lim.adv (c:=c) (hl2.mono (by omega)) c2;have hret:my bL [.ptr 0 0,.agg (zB t),.sl env.length (zW env),int depth] (mkS m) (.agg (zH (.mk ⟨0,0,m3.temp⟩ 5 0 Id.zero Typ.zero [a,b,e] []))) (mkS {m3 with temp:=m3.temp+1,left:=m3.left-1}):=by exact qDY hk01 (by omega) hd2 hX0 hX1 hFl h1 (by omega) hnum hfit hleft0 hd0 hcnd rfl a1 b1 c1 hl3
  rw[a2.own]at b3;rw[b2.own,a2.own]at c3;refine fin hret (((a2.trans b2).trans c2).trans (y9 _)) (by omega) (.ite _ _ _ _ _ _ a3 b3 c3) ?_ (iM (by simp[a5,b5,c5]));have t1:=a2.temp1;have t2:=b2.temp1;have t3:=c2.temp1;simp only[tmps,yF,jB8];exact(a4.append (b4.append c4 t2 t3) t1 (by omega)).append (Seg.one _) (by omega) (by omega)
 have hlet:(X.tdiv 3).tmod 12=2->cH hs m.own bL m [.ptr 0 0,.agg (zB t),.sl env.length (zW env),int depth] env t (8*c):=fun hk2'=>by
  obtain⟨j,hj,e1⟩:∃j:Nat,j<env.length/\(X.tdiv 36).tmod (env.length:Int)=j:=by
   have q0:0<=X.tdiv 36:=by omega
   have q1:=jDc (X.tdiv 36) (b:=(env.length:Int)) (by omega);have q2:=jD2 (X.tdiv 36) (b:=(env.length:Int)) (by omega);exact⟨((X.tdiv 36) % env.length).toNat,by omega,by rw[tmN q0];omega⟩
  have htu:=he.typs env[j] (jA3 hj);obtain⟨a,m1,a1,a2,a3,a4,a5⟩:=hk m0 R env[j].typ env hx0 (hl0.mono (by omega)) htu (jA _) he0 h1 (by omega);have hl1:Lim m1 (6*c):=Lim.adv (c:=c) (hl0.mono (by omega)) a2;have n2:=y9 m1;obtain⟨m2,hm2⟩:∃m2:Mk,m2={m1 with temp:=m1.temp+1,left:=m1.left-1}:=⟨_,rfl⟩;have tm2:m2.temp=m1.temp+1:=by rw[hm2]
  rw[<-hm2]at n2;have hl2:Lim m2 (5*c+7):=Lim.adv (c:=1) (hl1.mono (by omega)) n2;obtain⟨s,hs'⟩:=zDa m2 hl2.name1 (by have:=hl2.name2;omega);have n3:=zAr m2;obtain⟨m3,hm3⟩:∃m3:Mk,m3={m2 with name:=m2.name+1}:=⟨_,rfl⟩;rw[<-hm3]at n3 hs';have hl3:Lim m3 (5*c+6):=Lim.adv (c:=1) (hl2.mono (by omega)) n3;have t1:=a2.temp1;have t2:=n2.temp1;have t3:=n3.temp1;have t3':m3.temp=m2.temp:=by rw[hm3]
  have he3:EnvOk hs R m3.temp (env++[⟨⟨0,0,m1.temp⟩,0,env[j].typ⟩]):=(((he0.mono t1).mono t2).mono t3).snoc _ _ _ htu (fun b hb e=>by have hb':=he0.new b hb (by rw[e]);rw[e]at hb';simp only at hb';omega) (by omega)
  obtain⟨b,m4,b1,b2,b3,b4,b5⟩:=hk m3 R t _ (((hx0.adv a2).adv n2).adv n3) (hl3.mono (by omega)) ht (jA _) he3 (by simp) (by simp;omega);have hret:=zXA (by omega) hd2 hX0 hX1 hFl h1 (by omega) hnum hfit hleft0 hd0 hcnd hk2' hj e1 a1 (hl1.mono (by omega)) hm2 hs' (by simpa using b1);rw[n3.own,n2.own,a2.own]at b3;refine fin hret (((a2.trans n2).trans n3).trans b2) (by omega) (.lets _ _ _ _ _ _ _ (by simp) a3 b3) ?_ (iM (by simp[a5,b5]));have t4:=b2.temp1;simp only[tmps,yF,jB8];have s1:Seg m1.temp (m1.temp+1) [m1.temp]:=Seg.one _;have s2:=s1.append (b:=m1.temp+1) (tm2▸t3'▸b4) (by omega) (by omega);have s3:=a4.append s2 t1 (by omega);refine s3.perm ?_;rw[jAp];exact jDk _ jDs
 have hfold:(X.tdiv 3).tmod 12=8->cH hs m.own bL m [.ptr 0 0,.agg (zB t),.sl env.length (zW env),int depth] env t (8*c):=fun hk8=>by
  obtain⟨a,m1,a1,a2,a3,a4,a5⟩:=hk m0 1 (j5 q9) env hx0 (hl0.mono (by omega)) (.list _ _ (.int _)) hR he0 h1 (by omega);have hl1:Lim m1 (6*c):=Lim.adv (c:=c) (hl0.mono (by omega)) a2;obtain⟨b,m2,b1,b2,b3,b4,b5⟩:=hk m1 R t env (hx0.adv a2) (hl1.mono (by omega)) ht (jA _) (he0.mono a2.temp1) h1 (by omega);have hl2:Lim m2 (5*c):=Lim.adv (c:=c) (hl1.mono (by omega)) b2;have n3:=y9 m2;obtain⟨m3,hm3⟩:∃m3:Mk,m3={m2 with temp:=m2.temp+1,left:=m2.left-1}:=⟨_,rfl⟩;have tm3:m3.temp=m2.temp+1:=by rw[hm3]
  rw[<-hm3]at n3;have hl3:Lim m3 (4*c+7):=Lim.adv (c:=1) (hl2.mono (by omega)) n3;obtain⟨s,hs'⟩:=zDa m3 hl3.name1 (by have:=hl3.name2;omega);have n4:=zAr m3;obtain⟨m4,hm4⟩:∃m4:Mk,m4={m3 with name:=m3.name+1}:=⟨_,rfl⟩;have tm4:m4.temp=m3.temp:=by rw[hm4]
  rw[<-hm4]at n4 hs';have hl4:Lim m4 (4*c+6):=Lim.adv (c:=1) (hl3.mono (by omega)) n4;obtain⟨s',hs''⟩:=zDa m4 hl4.name1 (by have:=hl4.name2;omega);have n5:=zAr m4;obtain⟨m5,hm5⟩:∃m5:Mk,m5={m4 with name:=m4.name+1}:=⟨_,rfl⟩;have tm5:m5.temp=m4.temp:=by rw[hm5]
  rw[<-hm5]at n5 hs'';have hl5:Lim m5 (4*c+5):=Lim.adv (c:=1) (hl4.mono (by omega)) n5;have t1:=a2.temp1;have t2:=b2.temp1;have hnew:∀b∈env,b.id=⟨0,0,m2.temp⟩->∀n,b.n≠n:=fun b hb e=>by have hb':=he0.new b hb (by rw[e]);rw[e]at hb';simp only at hb';omega
  have he5:EnvOk hs R m5.temp (env++[⟨⟨0,0,m2.temp⟩,0,q9⟩]++[⟨⟨0,0,m2.temp⟩,1,t⟩]):=((he0.mono (show m0.temp<=m5.temp by omega)).snoc _ _ _ (.int _) (fun b hb e=>hnew b hb e _) (by omega)).snoc _ _ _ ht (fun b hb e=>by
   rcases jAa.1 hb with hb|hb
   .exact hnew b hb e _
   .rw[jAl.1 hb];simp) (by omega)
  obtain⟨k,m6,c1,c2,c3,c4,c5⟩:=hk m5 R t _ (((((hx0.adv a2).adv b2).adv n3).adv n4).adv n5) (hl5.mono (by omega)) ht (jA _) he5 (by simp) (by simp;omega);have hret:=zTo (by omega) hd2 hX0 hX1 hFl h1 (by omega) hnum hfit hleft0 hd0 hcnd hk8 a1 b1 (hl2.mono (by omega)) hm3 hs' hs'' (by simpa using c1);rw[a2.own]at b3;rw[n5.own,n4.own,n3.own,b2.own,a2.own]at c3;refine fin hret (((((a2.trans b2).trans n3).trans n4).trans n5).trans c2) (by omega) (.fold _ _ _ _ _ _ _ _ (by simp) a3 b3 c3) ?_ (iM (by simp[a5,b5,c5]));have t6:=c2.temp1;simp only[tmps,yF,jB8];have s1:Seg m2.temp (m2.temp+1) [m2.temp]:=Seg.one _;have c4':Seg (m2.temp+1) m6.temp (tmps k):=c4.mono (by omega) (by omega);have s2:=s1.append c4' (by omega) (by omega);have s3:=(a4.append b4 t1 t2).append s2 (by omega) (by omega);refine s3.perm ?_;simp only[jAp];exact jDk _ (jDk _ jDs)
 have hk12:(X.tdiv 3).tmod 12=0\/(X.tdiv 3).tmod 12=1\/(X.tdiv 3).tmod 12=2\/(X.tdiv 3).tmod 12=3\/(X.tdiv 3).tmod 12=4\/(X.tdiv 3).tmod 12=5\/(X.tdiv 3).tmod 12=6\/(X.tdiv 3).tmod 12=7\/(X.tdiv 3).tmod 12=8\/9<=(X.tdiv 3).tmod 12:=by omega
 have hop':=hop;rw[<-hy]at hop';rcases hk12 with h|h|h|h|h|h|h|h|h|h
 .exact hif (.inl h)
 .exact hif (.inr h)
 .exact hlet h
 .have:=zJq (by omega) hl0 y (by omega) hk hk2 hx0 he0 h1 (by omega) (by omega) (by omega) hd2 t ht hop';rw[hy]at this;exact viaOp this fun g=>zAA (.inl ⟨rfl,rfl⟩) (by omega) hd2 hX0 hX1 hFl h1 (by omega) hnum hfit hleft0 hd0 hcnd h g
 .have:=zJq (by omega) hl0 y (by omega) hk hk2 hx0 he0 h1 (by omega) (by omega) (by omega) hd2 t ht hop';rw[hy]at this;exact viaOp this fun g=>zAA (.inr (.inl ⟨rfl,rfl⟩)) (by omega) hd2 hX0 hX1 hFl h1 (by omega) hnum hfit hleft0 hd0 hcnd h g
 .have:=zQF (by omega) hl0 y (by omega) hk hx0 he0 h1 (by omega) (by omega) (by omega) hd2 t ht hop';rw[hy]at this;exact viaOp this fun g=>zAA (.inr (.inr (.inl ⟨rfl,rfl⟩))) (by omega) hd2 hX0 hX1 hFl h1 (by omega) hnum hfit hleft0 hd0 hcnd h g
 .have:=zMu (by omega) hl0 y hk hx0 he0 h1 (by omega) (by omega) hd2 t hop';rw[hy]at this;exact viaOp this fun g=>zAA (.inr (.inr (.inr (.inl ⟨rfl,rfl⟩)))) (by omega) hd2 hX0 hX1 hFl h1 (by omega) hnum hfit hleft0 hd0 hcnd h g
 .have:=zMu (by omega) hl0 y hk hx0 he0 h1 (by omega) (by omega) hd2 t hop';rw[hy]at this;exact viaOp this fun g=>zAA (.inr (.inr (.inr (.inr ⟨rfl,rfl⟩)))) (by omega) hd2 hX0 hX1 hFl h1 (by omega) hnum hfit hleft0 hd0 hcnd h g
 .exact hfold h
 .exact viaOp hop fun g=>qDZ (by omega) hd2 hX0 hX1 hFl h1 (by omega) hnum hfit hleft0 hd0 hcnd h g
theorem dN.mono{c':Int}{Q Q':Nat->Prop}{len len':Nat}(h:dN hs R c depth Q len)(hc:c<=c')(hQ:∀r,Q' r->Q r)(hl:len'<=len):dN hs R c' depth Q' len' :=
 fun m r t env hx hm hr hq he h1 h2=>(h m r t env hx (hm.mono hc) hr (hQ r hq) he h1 (by omega)).mono hc
theorem p8(k:Nat):(8:Int) ^ (k+1)=8*8 ^ k:=by rw[Int.pow_succ];omega
theorem zBU:∀k:Nat,1<=(8:Int) ^ k
 | 0=>by simp
 |k+1=>by rw[p8];have:=zBU k;omega
theorem zAB(hs:wO)(R:Nat):∀(r:Nat) (depth:Int),depth<=0->-900<=depth-r->dN hs R (8 ^ (r+1)) depth (fun r'=>r'<=r) 1000
 | 0,depth,h0,h1=>fun m r t env hx hl hr hq he h2 h3=>by
  rw[p8]at hl ⊢;have:=zBU 0;refine(zGV (R:=R) (r:=r) (c:=0) (d:=depth) (len:=1000) (by omega) (hl.mono (by omega)) h0 (by omega) ?_ t hr (fun m' r' t' env' _ _ _ hq'=>?_) hx he h2 h3 h3 (by omega) (by omega)).mono (by omega)
  .rcases Int.lt_or_le 0 m.left with h|h
   .exact .inr (.inr ⟨h,h0,rfl⟩)
   .exact .inr (.inl ⟨h,h0,rfl⟩)
  .have:r'<r:=hq';omega
 |s+1,depth,h0,h1=>fun m r t env hx hl hr hq he h2 h3=>by
  have hp:=p8 (s+1);rw[hp]at hl ⊢;have:=zBU (s+1);have hk:=zAB hs R s (depth-1) (by omega) (by omega);refine(zGV (R:=R) (r:=r) (c:=8 ^ (s+1)) (d:=depth) (len:=1000) (by omega) (hl.mono (by omega)) h0 (by omega) ?_ t hr (hk.mono (by omega) (fun r' (hr':r'<r)=>by omega) (jA _)) hx he h2 h3 h3 (by omega) (by omega)).mono (by omega);rcases Int.lt_or_le 0 m.left with h|h
  .exact .inr (.inr ⟨h,h0,rfl⟩)
  .exact .inr (.inl ⟨h,h0,rfl⟩)
theorem zHx{a b:Nat}(h:a<=b):(8:Int) ^ a<=8 ^ b:=by
 induction h with
 |refl=>exact jAe _
 |step h ih=>rw[p8];have:=zBU a;omega
theorem zDC(hs:wO)(R:Nat)(hR:1<=R)(hR2:R<=100):∀n:Nat,n<=100 ->
 dN hs R (8 ^ (n+R+1)) n (fun r=>r<=R) (1000-2*n)/\dN hs R (8 ^ (n+R+1)) ((n:Int)-1) (fun r=>r<=R) (1000-2*n)
 | 0,_=>by
  constructor
  .exact(zAB hs R R 0 (by omega) (by omega)).mono (zHx (by omega)) (fun _ h=>h) (by omega)
  .exact(zAB hs R R _ (by omega) (by omega)).mono (zHx (by omega)) (fun _ h=>h) (by omega)
 |n+1,hn=>by
  obtain⟨i1,i2⟩:=zDC hs R hR hR2 n (by omega);have hp:(8:Int) ^ (n+1+R+1)=8*8 ^ (n+R+1):=by rw[p8,show n+1+R=n+R+1 by omega]
  have hge:=zBU (n+R);have hp':=p8 (n+R);have e1:(((n+1:Nat)):Int)-1=n:=by omega
  rw[hp];constructor
  .intro m r t env hx hl hr hq he h1 h2;have ht:=hr.mono hq;rcases Int.lt_or_le 0 m.left with h|h
   .refine zTq (R:=R) (len:=1000-2*n) (by omega) hl h (by omega) hR t ht (e1▸i1) ?_ hx he h1 (by omega) (by omega) (by omega);rw[show (((n+1:Nat)):Int)-2=(n:Int)-1 by omega];exact i2
   .obtain⟨s,hs'⟩:∃s,R=s+1:=⟨R-1,by omega⟩;have hk:=zAB hs R s (0-1) (by omega) (by omega);have q1:(8:Int) ^ (s+1)<=8 ^ (n+R):=zHx (by omega);have q2:=zBU (s+1);exact(zGV (R:=R) (r:=R) (c:=8 ^ (s+1)) (d:=0) (len:=1000) (by omega) (hl.mono (by omega)) (by omega) (by omega) (.inl ⟨h,by omega,rfl⟩) t ht (hk.mono (by omega) (fun r' (hr':r'<R)=>by omega) (jA _)) hx he h1 (by omega) (by omega) (by omega) (by omega)).mono (by omega)
  .rw[e1];exact i1.mono (by omega) (fun _ h=>h) (by omega)
def zVJ:Nat->Option wD:=fun|9=>k_ [2,2001,0,0,0,0,0,0,1001,0,0,2,0]|_=>none
variable{x:Operand}
@[simp]theorem qFT{d:wC}{n:Nat}{g:Bool}{env:Env}:dI 2001 (.ld d x n g) env=eX 1 (ev env x):=propext (vM (by omega) (by omega))
@[simp]theorem zYL{d:wC}{l:List Operand}{env:Env}:dI 1001 (.call d x l) env=True:=rfl
@[simp]theorem qA4{U:St}:nK 2001 U = U:=rfl
theorem fM(e:Exp):tmps e=yF e.kids++[e.id.c]:=by cases e;simp only[tmps,Exp.kids,Exp.id]
theorem bC{l:wG}{i:Nat}(h:i<l.length):yF (l.take (i+1))=yF (l.take i)++tmps l[i]:=by rw[jA8 h,nN]
theorem zEN:∀{l:wG} {e:Exp},e∈l->(tmps e).length<=(yF l).length
 |x::l,e,h=>by
  simp only[yF,jA5];rcases jA1.1 h with rfl|h
  .omega
  .have:=zEN h;omega
theorem oW{l:wG}(i:Nat):(yF (l.take i)).length<=(yF l).length:=by
 have h:∀a b:wG,yF (a++b)=yF a++yF b:=fun a b=>by
  induction a with
  |nil=>simp[yF]
  |cons x a ih=>simp[yF,ih]
 have:=h (l.take i) (l.drop i);rw[jC0]at this;rw[this,jA5];omega
mutual
theorem zJz:∀(e:Exp),(tmps e).length<=1000000000->my 86 [.agg (zH e)] [] (int (tmps e).length) []
 | .mk a b c d t l ns,hle=>by
  have ih:=zGl l;generalize ha:Exp.mk a b c d t l ns=e at hle;have hal:e.kids=l:=by rw[<-ha];rfl
  rw[<-hal]at ih;rw[fM,jA5,jAx]at hle;refine mq [] [.slot 2] func86 (by kernel_rfl) ?_
  (conv in kq _ _=>cbv)
  simp[zH];refine qM (S:=Nat) (fun i=>[(1,.ptr 0 0),(3,int ((yF (e.kids.take i)).length+1:Nat)),(4,int i)]) (fun _=>[.box (zH e)]) (fun i=>i<=e.kids.length) (fun i=>e.kids.length-i) 0 (by simp)
   (mw [0] 0 (by rfl) (by simp[zH,yF])) ?_
  intro i hi;by_cases h:i<e.kids.length
  .have hle2:(tmps e.kids[i]).length<=1000000000:=by have:=zEN (jA3 h);omega
   have h3:=oW (l:=e.kids) (i+1);rw[bC h,jA5]at h3;simp[zH,h,yT h];intro hl;refine mu (ih e.kids[i] (jA3 h) hle2) (by simp[zH]) ?_;have hw:IntKind.i64.wrap ((((yF (e.kids.take i)).length:Int)+1)+((tmps e.kids[i]).length:Int))=((yF (e.kids.take i)).length:Int)+1+(tmps e.kids[i]).length:=IntWalk.i64_in _ (by omega);simp[hw];exact zN (i+1) h (by omega) (kf [0] 0 (by rfl) (by simp[zH]) (by simp[z6 h hl,bC h];omega))
  .have hie:i=e.kids.length:=by omega
   subst hie;simp[zH]
   first|exact fun _=>zA 0 (by simp[fM])|exact zA 0 (by simp[fM])
theorem zGl:∀(l:wG),∀x∈l,(tmps x).length<=1000000000->my 86 [.agg (zH x)] [] (int (tmps x).length) []
 |[],x,hx=>by simp at hx
 |z::l,x,hx=>by
  rcases jA1.1 hx with e|hx
  .rw[e];exact zJz z
  .exact zGl l x hx
end
def lC(l:wB):AObj:=.row false 3 1 l.length (jQ l)
mutual
theorem zGm:∀(e:Exp) (l:wB),l.length+(tmps e).length<=1000000000->my 87 [.agg (zH e),.row 0 l.length] [lC l] (.row 0 (l++tmps e).length) [lC (l++tmps e)]
 | .mk a b c d t ks ns,l,hle=>by
  have ih:=zEm ks;generalize ha:Exp.mk a b c d t ks ns=e at hle;have hal:e.kids=ks:=by rw[<-ha];rfl
  rw[<-hal]at ih;rw[fM,jA5,jAx]at hle;refine mq [] [.slot 4] func87 (by kernel_rfl) ?_
  (conv in kq _ _=>cbv)
  simp[zH,lC];refine qM (S:=Nat) (fun i=>[(1,.row 0 (l++yF (e.kids.take i)).length),(2,.ptr 1 0),(5,int i)]) (fun i=>[lC (l++yF (e.kids.take i)),.box (zH e)]) (fun i=>i<=e.kids.length) (fun i=>e.kids.length-i) 0 (by simp)
   (mw [0,1] 0 (by rfl) (by simp[zH,lC,yF])) ?_
  intro i hi;by_cases h:i<e.kids.length
  .have h3:=oW (l:=e.kids) (i+1);rw[bC h,jA5]at h3;have hg:=ih e.kids[i] (jA3 h) (l++yF (e.kids.take i)) (by rw[jA5];omega);simp[zH,lC,h,yT h];intro hl;refine mr hg [0] (by simp[lC,dO,zH]) ?_;simp[lC];exact zN (i+1) h (by omega) (mw [0,1] 0 (by rfl) (by simp[zH,lC,bC h,dO,z6 h hl]))
  .have hie:i=e.kids.length:=by omega
   subst hie;simp[zH,lC];intro _;refine⟨⟨by simp[maxLen];omega,by omega⟩,?_⟩;exact ke [0] 0 (by rfl) (by simp[fM,dO];omega) (by simp[fM];omega)
theorem zEm:∀(ks:wG),∀x∈ks,∀(l:wB),l.length+(tmps x).length<=1000000000->my 87 [.agg (zH x),.row 0 l.length] [lC l] (.row 0 (l++tmps x).length) [lC (l++tmps x)]
 |[],x,hx=>by simp at hx
 |z::l,x,hx=>by
  rcases jA1.1 hx with e|hx
  .rw[e];exact zGm z
  .exact zEm l x hx
end
theorem zLy(e:Exp)(hle:(tmps e).length<=1000000000):my 87 [.agg (zH e),.nil] [] (.row 0 (tmps e).length) [lC (tmps e)]:=by
 rw[fM,jA5,jAx]at hle;refine mq [] [.slot 4] func87 (by kernel_rfl) ?_
 (conv in kq _ _=>cbv)
 simp[zH,lC];refine qM (S:=Nat) (fun i=>[(1,.row 0 (yF (e.kids.take i)).length),(2,.ptr 1 0),(5,int i)]) (fun i=>[lC (yF (e.kids.take i)),.box (zH e)]) (fun i=>i<=e.kids.length) (fun i=>e.kids.length-i) 0 (by simp)
  ((jW (t:=1) (by simp) 3 1).trans (mw [1,0] 0 (by rfl) (by simp[zH,lC,yF]))) ?_
 intro i hi;by_cases h:i<e.kids.length
 .have h3:=oW (l:=e.kids) (i+1);rw[bC h,jA5]at h3;have hg:=zGm e.kids[i] (yF (e.kids.take i)) (by omega);simp[zH,lC,h,yT h];intro hl;refine mr hg [0] (by simp[lC,zH]) ?_;simp[lC];exact zN (i+1) h (by omega) (mw [0,1] 0 (by rfl) (by simp[zH,lC,bC h,dO,z6 h hl]))
 .have hie:i=e.kids.length:=by omega
  subst hie;simp[zH,lC];intro _;refine⟨⟨by simp[maxLen];omega,by omega⟩,?_⟩;exact mv [0] 0 (by rfl) (by simp[fM,dO])
mutual
def gY(f:Int->Id):Exp->Exp
 | .mk i k n r t ks ns=>.mk (f i.c) k n (if k=2/\r.b=0 then f r.c else r) t (zJG f ks) ns
def zJG(f:Int->Id):List Exp->wG
 |[]=>[]
 |e::l=>gY f e::zJG f l
end
theorem pQ(f:Int->Id):∀l:wG,zJG f l=l.map (gY f)
 |[]=>rfl
 |e::l=>by simp only[zJG,jAg,pQ f l]
mutual
def Exp.under(N:Nat):Exp->Prop
 | .mk i k _ r _ ks _=>(0<=i.c/\i.c<N)/\(k=2->r.b=0->0<=r.c/\r.c<N)/\ks.length<=1000000000/\zCf N ks
def zCf(N:Nat):List Exp->Prop
 |[]=>True
 |e::l=>e.under N/\zCf N l
end
theorem zAl{N:Nat}:∀l:wG,zCf N l↔∀e∈l,e.under N
 |[]=>by simp[zCf]
 |e::l=>by simp[zCf,zAl l]
def oT(ids:wF)(c:Int):Id:=ids.getD c.toNat Id.zero
theorem zIX{ids:wF}{j:Nat}(h:c=j)(hj:j<ids.length):oT ids c=ids[j]:=by subst h;unfold oT;rw[jCp,jBe,jA0 hj];rfl
def a7(ids:wF):AObj:=.row false 31 3 ids.length (zP ids)
mutual
theorem zE7(ids:wF):∀(e:Exp),e.under ids.length->my 88 [.agg (zH e),.row 0 ids.length] [a7 ids] (.agg (zH (gY (oT ids) e))) [a7 ids]
 | .mk a b c d t ks ns,hb=>by
  have ih:=zCB ids ks;simp only[Exp.under,zAl]at hb;obtain⟨⟨hb1,hb2⟩,hb3,hkl,hb4⟩:=hb;obtain⟨j,hj⟩:∃j:Nat,a.c=j:=⟨a.c.toNat,by omega⟩;have hjl:j<ids.length:=by omega
  have hdj:=yC hjl;have hej:=zIX hj hjl;have hbj:j*3+3<=ids.length*3:=by omega
  refine mn zVJ [] [.cell 4 15 true] func88 (by kernel_rfl) ?_
  (conv in zY _ _ _ _=>cbv)
  obtain⟨x,hx⟩:∃x,x=ids[j]:=⟨_,rfl⟩;rw[<-hx]at hej hdj;by_cases hv1:b=2
  .by_cases hv2:d.b=0
   .obtain⟨hb5,hb6⟩:=hb3 hv1 hv2;obtain⟨m,hm⟩:∃m:Nat,d.c=m:=⟨d.c.toNat,by omega⟩;have hml:m<ids.length:=by omega
    have hdm:=yC hml;have hem:=zIX hm hml;have hbm:m*3+3<=ids.length*3:=by omega
    obtain⟨y,hy⟩:∃y,y=ids[m]:=⟨_,rfl⟩;rw[<-hy]at hem hdm;simp[zH,a7,hj,hjl,hdj,hbj,hv1,hv2,hm,hml,hdm,hbm,zG];refine qM (S:=Nat) (fun i=>[(1,.row 0 ids.length),(2,.ptr 1 0),(4,.ptr 2 0),(5,.ptr 3 0),(6,int i)])
     (fun i=>[a7 ids,.box (zH (.mk a b c d t ks ns)),.box (zH Exp.zero),.box [int x.a,int x.b,int x.c,int b,int c,int y.a,int y.b,int y.c,int t.k,int t.id.a,int t.id.b,int t.id.c,.sl t.kids.length (jG t.kids),.row 4 i,.sl ns.length (yI ns)],.row false 39 15 i (qL ((ks.map (gY (oT ids))).take i))]) (fun i=>i<=ks.length) (fun i=>ks.length-i) 0 (by simp)
     ((yU (l:=3) (o:=13) rfl rfl 39 15).trans (mw [0,1,2,3,4] 0 (by rfl) (by simp[a7,zH,Exp.zero,Id.zero,Typ.zero,hj,hv1,hv2,hm,hem]))) ?_
    intro i hi;by_cases h:i<ks.length
    .have hg:=ih ks[i] (jA3 h) (hb4 _ (jA3 h));have hst:=bH (l:=ks.map (gY (oT ids))) (i:=i) (by rw[jAd];exact h);rw[jAy]at hst;simp[a7,zH,h,yT h];intro hl;refine aK hg [0] (by decide) (by simp[a7]) (by simp[zH]) (by decide) (by simp) (by simp) ?_;simp[a7];refine⟨⟨by omega,by omega⟩,?_⟩;exact zN (i+1) h (by omega) (kf [0,1,2,3,4] 0 (by rfl) (by rw[hst];simp[a7,zH]) (by simp[z6 h hl]))
    .have hie:i=ks.length:=by omega
     subst hie;have hall:List.take ks.length (ks.map (gY (oT ids)))=ks.map (gY (oT ids)):=jAc (by simp);simp[a7,zH];intro _;exact mv [0] 1 (by rfl) (by simp[zH,gY,pQ,hej,hall,hv1,hv2,hem])
   .simp[zH,a7,hj,hjl,hdj,hbj,hv1,hv2,zG];refine qM (S:=Nat) (fun i=>[(1,.row 0 ids.length),(2,.ptr 1 0),(4,.ptr 2 0),(5,.ptr 3 0),(6,int i)])
     (fun i=>[a7 ids,.box (zH (.mk a b c d t ks ns)),.box (zH Exp.zero),.box [int x.a,int x.b,int x.c,int b,int c,int d.a,int d.b,int d.c,int t.k,int t.id.a,int t.id.b,int t.id.c,.sl t.kids.length (jG t.kids),.row 4 i,.sl ns.length (yI ns)],.row false 39 15 i (qL ((ks.map (gY (oT ids))).take i))]) (fun i=>i<=ks.length) (fun i=>ks.length-i) 0 (by simp)
     ((yU (l:=3) (o:=13) rfl rfl 39 15).trans (mw [0,1,2,3,4] 0 (by rfl) (by simp[a7,zH,Exp.zero,Id.zero,Typ.zero,hj,hv1,hv2]))) ?_
    intro i hi;by_cases h:i<ks.length
    .have hg:=ih ks[i] (jA3 h) (hb4 _ (jA3 h));have hst:=bH (l:=ks.map (gY (oT ids))) (i:=i) (by rw[jAd];exact h);rw[jAy]at hst;simp[a7,zH,h,yT h];intro hl;refine aK hg [0] (by decide) (by simp[a7]) (by simp[zH]) (by decide) (by simp) (by simp) ?_;simp[a7];refine⟨⟨by omega,by omega⟩,?_⟩;exact zN (i+1) h (by omega) (kf [0,1,2,3,4] 0 (by rfl) (by rw[hst];simp[a7,zH]) (by simp[z6 h hl]))
    .have hie:i=ks.length:=by omega
     subst hie;have hall:List.take ks.length (ks.map (gY (oT ids)))=ks.map (gY (oT ids)):=jAc (by simp);simp[a7,zH];intro _;exact mv [0] 1 (by rfl) (by simp[zH,gY,pQ,hej,hall,hv1,hv2])
  .simp[zH,a7,hj,hjl,hdj,hbj,hv1,zG];refine qM (S:=Nat) (fun i=>[(1,.row 0 ids.length),(2,.ptr 1 0),(4,.ptr 2 0),(5,.ptr 3 0),(6,int i)])
    (fun i=>[a7 ids,.box (zH (.mk a b c d t ks ns)),.box (zH Exp.zero),.box [int x.a,int x.b,int x.c,int b,int c,int d.a,int d.b,int d.c,int t.k,int t.id.a,int t.id.b,int t.id.c,.sl t.kids.length (jG t.kids),.row 4 i,.sl ns.length (yI ns)],.row false 39 15 i (qL ((ks.map (gY (oT ids))).take i))]) (fun i=>i<=ks.length) (fun i=>ks.length-i) 0 (by simp)
    ((yU (l:=3) (o:=13) rfl rfl 39 15).trans (mw [0,1,2,3,4] 0 (by rfl) (by simp[a7,zH,Exp.zero,Id.zero,Typ.zero,hj,hv1]))) ?_
   intro i hi;by_cases h:i<ks.length
   .have hg:=ih ks[i] (jA3 h) (hb4 _ (jA3 h));have hst:=bH (l:=ks.map (gY (oT ids))) (i:=i) (by rw[jAd];exact h);rw[jAy]at hst;simp[a7,zH,h,yT h];intro hl;refine aK hg [0] (by decide) (by simp[a7]) (by simp[zH]) (by decide) (by simp) (by simp) ?_;simp[a7];refine⟨⟨by omega,by omega⟩,?_⟩;exact zN (i+1) h (by omega) (kf [0,1,2,3,4] 0 (by rfl) (by rw[hst];simp[a7,zH]) (by simp[z6 h hl]))
   .have hie:i=ks.length:=by omega
    subst hie;have hall:List.take ks.length (ks.map (gY (oT ids)))=ks.map (gY (oT ids)):=jAc (by simp);simp[a7,zH];intro _;exact mv [0] 1 (by rfl) (by simp[zH,gY,pQ,hej,hall,hv1])
theorem zCB(ids:wF):∀(ks:wG),∀x∈ks,x.under ids.length->my 88 [.agg (zH x),.row 0 ids.length] [a7 ids] (.agg (zH (gY (oT ids) x))) [a7 ids]
 |[],x,hx=>by simp at hx
 |z::l,x,hx=>by
  rcases jA1.1 hx with e|hx
  .rw[e];exact zE7 ids z
  .exact zCB ids l x hx
end
end Go.Proofs.YtdnelmeboihpkaaGreatDoor
