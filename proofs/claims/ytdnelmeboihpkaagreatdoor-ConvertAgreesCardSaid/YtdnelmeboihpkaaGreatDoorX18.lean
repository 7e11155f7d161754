/- eval.Call. -/
import Derived.Test.YtdnelmeboihpkaaGreatDoorX17
set_option linter.unusedVariables false
set_option maxHeartbeats 8000000
set_option maxRecDepth 100000
set_option linter.unusedSimpArgs false
namespace Go.Proofs.YtdnelmeboihpkaaGreatDoor
open Go Go.Abs
section
variable{p:Prg}{F:Int}{d:Dfn}{us:wI}{s:XS}{r:Val×XS}
theorem zR2(hb:RP 72 [.ptr 0 0,.agg (zJ d),.sl us.length (zR us)] p F s (.agg (zF r.1)) r.2)(hf:r.2.fail=0) :
 mv 71 [.ptr 0 0,.ptr 1 0,.ptr 2 0] (eS p F s++dA d us) (.agg (zF r.1)) (eS p F r.2++dA d us):=by
 have hP:=eP p;refine zH Tryz.func71 rfl qE6 (rs:=[.cell 4 3 true]) (by kernel_rfl) ?_
 (conv in zXR=>cbv)
 simp[eS,hP];refine mn (hb.ret hf) [0] (by simp[eS,hP]) ?_;simp[eS,hP,zF];exact mr [0,1,2] 0 (by rfl) (by simp[zF])
theorem zR1(hb:RP 72 [.ptr 0 0,.agg (zJ d),.sl us.length (zR us)] p F s (.agg (zF r.1)) r.2)(hf:r.2.fail≠0) :
 aG Tryz.prog 71 [.ptr 0 0,.ptr 1 0,.ptr 2 0] (eS p F s++dA d us) fun o U'=>o=.pan (zJ4 r.2.fail)/\U'[1]?=some (.box (zJ d))/\U'[2]?=some (.box [.sl us.length (zR us)]):=by
 have hP:=eP p;refine uY Tryz.func71 rfl qE6 (rs:=[.cell 4 3 true]) (by kernel_rfl) ?_
 (conv in zXR=>cbv);unfold wpF
 simp[eS,hP];refine zBm (hb.pan hf) [0] (by decide) (by simp[eS,hP]) (by simp) fun τ=>?_
 refine⟨rfl,?_,?_⟩
 .rw[mI (by simp) (by simp)];rfl
 .rw[mI (by simp) (by simp)];rfl
end
def qFT:Nat->Option wD:=fun|2=>k_ [0,0,0,0,0,0,0,0,2,2,0,0,0,0]|_=>none
def zG8(p:Prg)(id:Id):A:=.tup [.agg (zJ ((jK p.defs id).getD .zero)),bl ((jK p.defs id).isSome&&fO ((jK p.defs id).getD .zero))]
theorem zRz(p:Prg)(id:Id):mv 69 [.agg (zP p),.agg (zK id)] [] (zG8 p id) []:=by
 have hP:=eP p;have hdf:=oE p id;unfold zG8;unfold bR at hdf;generalize (jK p.defs id).getD .zero=d at *
 generalize (jK p.defs id).isSome=b at *
 refine mh qFT [14] [] [] [.cell 4 31 true,.slot 5] Tryz.func69 (by kernel_rfl) ?_
 (conv in kH _ _ _=>cbv)
 simp[hP,zK];refine mq hdf (by simp[zP,zK]) ?_;simp[zJ];refine⟨_,_,zM (l:=[(4,.ptr 0 0),(6,.rptr (zJ d)),(7,bl b)]) (U':=[.box (kz0.map jN)]) [2] 1 (by simp) (by simp) (by simp) (by simp[zJ]),?_⟩;cases b
 .simp[zJ];exact zA 0 (by simp[zJ])
 .by_cases h0:d.kind=0
  .simp[zJ,h0];exact zA 0 (by simp[zJ,h0,fO])
  .by_cases h1:d.kind=1
   .simp[zJ,h0,h1];exact zA 0 (by simp[zJ,h1,fO])
   .simp[zJ,h0,h1];exact zA 0 (by simp[zJ,h0,h1,fO])
def rI(p:Prg)(id:Id)(vs:wI)(fuel:Int):A:=match jK p.defs id with
 |none=>.tup [.agg (zF vz),int 0,int 6]
 |some d=>if fO d=false then .tup [.agg (zF vz),int 0,int 6]else if vs.length≠d.slots.length then .tup [.agg (zF vz),int 0,int 1]
  else if dU p (d.slots.map Slt.typ) vs=false then .tup [.agg (zF vz),int 0,int 1]else zI5 fuel (r8 p d vs fuel)
theorem zLW{p:Prg}{hs:wP}(hf:Fit p hs)(id:Id)(vs:wI){gas fuel:Int}(hG:fuel=max gas 0)(hfu:fuel<=90000)(hz:∀v∈vs,qN v<=256/\aD v<=24) :
 mv 29 [.agg (zP p),.agg (zK id),.sl vs.length (zR vs),int gas] [] (rI p id vs fuel) []:=by
 have hP:=eP p;have hbo:=zRz p id;refine ml [] [.cell 8 3 true,.slot 9,.slot 10] Tryz.func29 (by kernel_rfl) ?_
 (conv in kq _ _=>cbv)
 simp[hP,zK];refine mq hbo (by simp[zP,zK,zG8]) ?_;cases hd:jK p.defs id with
 |none =>
  rw[show rI p id vs fuel=.tup [.agg (zF vz),int 0,int 6] by simp[rI,hd]];simp[zG8,hd,zJ];exact zA 0 (by simp[zF,qD,zX,zL])
 |some d =>
 have hdm:=(aV hd).1;obtain⟨s1,s6,_,snd,sty⟩:=hf.slots d hdm;cases hb:fO d with
 |false =>
  rw[show rI p id vs fuel=.tup [.agg (zF vz),int 0,int 6] by simp[rI,hd,hb]];simp[zG8,hd,hb,zJ];exact zA 0 (by simp[zF,qD,zX,zL])
 |true =>
 simp[zG8,hd,hb,zJ];by_cases hl:vs.length=d.slots.length
 .have hfit:=fun i (hi:i<d.slots.length)=>zHO p d.slots[i].typ (vs[i]'(by omega)) (hz _ (jA0 _)).1 (hz _ (jA0 _)).2
  simp[hl];intro hls;refine qK (S:=Nat) (fun i=>[(3,int gas),(4,.ptr 0 0),(6,.ptr 2 0),(8,.ptr 3 0),(11,.ptr 4 0),(32,.sl d.slots.length (jS d.slots)),(33,int d.slots.length),(34,int i)])
   (fun i=>[.box (zP p),.box (zK id),.box [.sl vs.length (zR vs)],.box [int 0,int 0,.nil],.box (zJ d)]) (fun i=>i<=d.slots.length/\∀j (hj:j<i) (hj':j<d.slots.length),bY p d.slots[j].typ (vs[j]'(by omega))=true) (fun i=>d.slots.length-i) 0 ⟨by omega,fun j hj=>by omega⟩
   (mu [0,1,2,3,4] 0 (by rfl) (by simp[hP,zJ,zK,hl])) ?_
  rintro i ⟨hi,hft⟩;by_cases hil:i<d.slots.length
  .have hiv:i<vs.length:=by omega
   have hdr:=qZ hil;have hdv:=qL hiv;have hfi:=hfit i hil;cases hfv:bY p d.slots[i].typ vs[i]with
   |false =>
    rw[hfv]at hfi;have hfl:dU p (d.slots.map Slt.typ) vs=false:=by
     cases hq:dU p (d.slots.map Slt.typ) vs with
     |false=>rfl
     |true =>
      have:=rM hq i (by simpa using hil) hiv;rw[jAw,hfv]at this;cases this
    rw[show rI p id vs fuel=.tup [.agg (zF vz),int 0,int 1] by simp[rI,hd,hb,hl,hfl]];simp[hP,hil,hiv,hdr,hdv,j8,zJ];refine z7 hfi (by simp[hP,zB,zF]) (by simp) ?_;simp;exact zA 0 (by simp[zF,qD,zX,zL])
   |true =>
    rw[hfv]at hfi;simp[hP,hil,hiv,hdr,hdv,j8,zJ];refine z7 hfi (by simp[hP,zB,zF]) (by simp) ?_;simp;refine zO (i+1) ⟨hil,fun j hj hj'=>?_⟩ (by omega) (mu [0,1,2,3,4] 0 (by rfl) (by simp[hP,zJ,z8 hil hls]));by_cases hji:j=i
    .subst hji;exact hfv
    .exact hft j (by omega) hj'
  .have hie:i=d.slots.length:=by omega
   subst hie;have hfl:dU p (d.slots.map Slt.typ) vs=true:=zC6 (by simpa using hl) fun j h1 h2=>by rw[jAw];exact hft j (by simpa using h1) (by simpa using h1)
   rw[show rI p id vs fuel=zI5 fuel (r8 p d vs fuel) by simp[rI,hd,hb,hl,hfl]];have hty:TyL p (d.slots.map Slt.typ) vs:=TyL.of (by simpa using hl) fun j hj=>by rw[jAw];exact zIi hf (sty _ (jA0 _)) _ (hft j (by omega) (by omega))
   have hV:=EnvT.args hty fun v hv=>(hz v hv).1
   have hIh:=zNI (F:=fuel) hf.bods (zG7 hf) (by omega) fuel.toNat (by omega);have hca:=zJ0 hIh d vs hl s6 (s:=⟨fuel,0,zMM p d.slots [],[]⟩) rfl (fun _=>⟨_,_,hf.bods _ d hd hb,hV,zEc snd vs hl⟩) ⟨by simp only;omega,by simp only;omega⟩;change RP _ _ _ _ _ (.agg (zF (r8 p d vs fuel).1)) (r8 p d vs fuel).2 at hca;have hsz:(r8 p d vs fuel).2.fail=0->qN (r8 p d vs fuel).1<=256:=fun h0=>by
    have he:r8 p d vs fuel=aT p 1 fuel.toNat d.body (cN d.slots vs) ⟨fuel,0,zMM p d.slots []++[d.id],[]⟩:=by unfold r8 b7;simp
    rw[he]at h0 ⊢;exact(hIh.snd _ _ _ _ _ (hf.bods _ d hd hb) hV h0).2
   generalize r8 p d vs fuel=r at *
   have hdo:=zYS (d:=d) (us:=vs) hG rfl hsz (zR2 hca) (zR1 hca);simp[hP];refine mn hdo [4,2] (by simp[zJ,hP]) ?_;by_cases h0:r.2.fail=0
   all_goals
    simp[zI5,h0,zF];exact zA 0 (by simp)
 .rw[show rI p id vs fuel=.tup [.agg (zF vz),int 0,int 1] by simp[rI,hd,hb,hl]];have hl':¬((vs.length:Int)=d.slots.length):=by omega
  simp[hl']
  intros
  exact zA 0 (by simp[zF,qD,zX,zL])
end Go.Proofs.YtdnelmeboihpkaaGreatDoor
namespace Go.Proofs.YtdnelmeboihpkaaGreatDoor
open Go.Abs
def SE(s s':XS):Prop:=s.fuel=s'.fuel/\s.fail=s'.fail
def EqF(r r':Val×XS):Prop:=SE r.2 r'.2/\(r.2.fail=0->r.1=r'.1)
theorem SE.rfl'(s:XS):SE s s:=⟨rfl,rfl⟩
theorem vF{s s':XS}(h:SE s s')(v:Val):EqF (v,s) (v,s'):=⟨h,fun _=>rfl⟩
section
variable{p:Prg}{f g:Evl}
theorem zJd(hf:pR f)(h:∀e V s s',SE s s'->EqF (f e V s) (g e V s'))(V:wO):∀(l:wG) (s s':XS),SE s s'->SE (jJ f V l s).2 (jJ g V l s').2/\((jJ f V l s).2.fail=0->(jJ f V l s).1=(jJ g V l s').1)
 |[],s,s',hs=>⟨hs,fun _=>rfl⟩
 |e::l,s,s',hs=>by have h1:=h e V s s' hs;have h2:=zJd hf h V l _ _ h1.1;refine⟨by simp only[jJ];exact h2.1,fun h0=>?_⟩;have h3:=zN3 hf h0;simp only[jJ]at h0 ⊢;rw[<-h2.2 h0,h1.2 h3]
theorem zGQ(hf:pR f)(hg:pR g)(h:∀e V s s',SE s s'->EqF (f e V s) (g e V s'))(V:wO)(i:Id)(b:Exp):∀(l:wI) (r r':Val×XS),EqF r r'->EqF (yB f V i b l r) (yB g V i b l r')
 |[],r,r',hr=>hr
 |x::l,r,r',hr=>by
  simp only[yB];refine zGQ hf hg h V i b l _ _ ?_;by_cases h0:r.2.fail=0
  .rw[hr.2 h0];exact h _ _ _ _ hr.1
  .rw[hf _ _ _ h0,hg _ _ _ (by rw[<-hr.1.2];exact h0)];exact vF hr.1 _
variable{s s':XS}
theorem zTM{c c':Bool}{v v':Val}(hs:SE s s')(h:s.fail=0->v=v'):EqF (zf c s v,s) (zf c' s' v',s'):=by refine⟨hs,fun hf=>?_⟩;simp only at hf ⊢;rw[sG hf,sG (by rw[<-hs.2];exact hf),h hf]
theorem zCp(h:∀e V s s',SE s s'->EqF (f e V s) (g e V s'))(d:Dfn){vs vs':wI}(hs:SE s s')(hv:s.fail=0->vs=vs'):EqF (b7 f d vs s) (b7 g d vs' s'):=by
 unfold b7;by_cases hf:s.fail=0
 .rw[if_neg (by simp[hf]),if_neg (by simp[<-hs.2,hf]),hv hf];exact h _ _ _ _ hs
 .rw[if_pos hf,if_pos (by rw[<-hs.2];exact hf)];exact vF hs _
theorem zJk(hf:pR f)(hg:pR g)(h:∀e V s s',SE s s'->EqF (f e V s) (g e V s'))(e:Exp)(V:wO)(hs:SE s s'):EqF (j6 f e V s) (j6 g e V s'):=by
 unfold j6;have h0:=h (e.kids.headD .zero) V s s' hs;generalize f (e.kids.headD .zero) V s=r at *
 generalize g (e.kids.headD .zero) V s'=r' at *
 obtain⟨v,t⟩:=r;obtain⟨v',t'⟩:=r';by_cases hz:t.fail=0
 .have hz':t'.fail=0:=h0.1.2.symm.trans hz;have hv:v=v':=h0.2 hz;subst hv;simp only[hz,hz',ne_eq,not_true,if_false]
  repeat' split
  all_goals first
   |exact vF h0.1 _
   |exact h _ _ _ _ h0.1
   |exact zGQ hf hg h _ _ _ _ _ _ (h _ _ _ _ h0.1)
 .rw[if_pos hz,if_pos (by simpa using fun e:t'.fail=0=>hz (h0.1.2.trans e))];exact vF h0.1 _
theorem zNk(hf:pR f)(hg:pR g)(h:∀e V s s',SE s s'->EqF (f e V s) (g e V s'))(a b:Nat)(e:Exp)(V:wO)(hs:SE s s'):EqF (qP p a f e V s) (qP p b g e V s'):=by
 unfold qP;obtain⟨h1,h2⟩:=zJd hf h V e.kids s s' hs;generalize jJ f V e.kids s=r at *
 generalize jJ g V e.kids s'=r' at *
 repeat' split
 all_goals first
  |exact vF hs _
  |exact zJk hf hg h _ _ hs
  |exact zCp h _ h1 h2
  |exact zTM h1 fun hz=>by rw[h2 hz]
theorem zRA(a b:Nat){r r':Val×XS}(h:EqF r r'):EqF (vD a r) (vD b r'):=by
 unfold vD;have e:SE (gY r) (gY r')/\((gY r).fail=0->r.1=r'.1):=by
  unfold gY;by_cases hf:r.2.fail=0
  .have hf':=h.1.2.symm.trans hf;rw[<-h.2 hf];by_cases hb:zDL r.1
   .rw[if_pos ⟨hf,hb⟩,if_pos ⟨hf',hb⟩];exact⟨⟨h.1.1,rfl⟩,fun _=>rfl⟩
   .rw[if_neg fun k=>hb k.2,if_neg fun k=>hb k.2];exact⟨h.1,fun _=>rfl⟩
  .rw[if_neg fun k=>hf k.1,if_neg fun k=>hf (h.1.2.trans k.1)];exact⟨h.1,h.2⟩
 exact zTM e.1 e.2
theorem zCK(a b:Nat):∀(m:Nat) (e:Exp) (V:wO) (s s':XS),SE s s'->EqF (aT p a m e V s) (aT p b m e V s')
 | 0,e,V,s,s',hs=>by
  rw[aT,aT,hs.2];split
  .exact vF hs _
  .exact vF (s:={s with fail:=uG}) (s':={s' with fail:=uG}) ⟨hs.1,rfl⟩ _
 |m+1,e,V,s,s',hs=>by
  rw[aT,aT,hs.2,hs.1];split
  .exact vF hs _
  .split
   .exact⟨⟨rfl,rfl⟩,fun _=>rfl⟩
   .exact zRA a b (zNk (iQ p a m) (iQ p b m) (zCK a b m) a b e V ⟨by simp only[nJ];rw[hs.1],hs.2⟩)
end
variable{p:Prg}{hs:wP}
theorem zUj(hf:Fit p hs)(id:Id)(vs:wI)(gas:Int):rI p id vs (max gas 0)=fD (jY p id vs gas):=by
 unfold rI jY;cases hd:jK p.defs id with
 |none=>rfl
 |some d =>
  have hk:=hf.kinds d (aV hd).1;have hbb:fO d=zCo d.kind:=by
   have h6:d.kind=0\/d.kind=1\/d.kind=2\/d.kind=3\/d.kind=4\/d.kind=5:=by omega
   unfold fO zCo;rcases h6 with h|h|h|h|h|h<;>rw[h]<;>rfl
  simp only[hbb];by_cases h1:zCo d.kind=false
  .rw[if_pos h1,if_pos h1];rfl
  rw[if_neg h1,if_neg h1];by_cases h2:vs.length≠d.slots.length
  .rw[if_pos h2,if_pos h2];rfl
  rw[if_neg h2,if_neg h2];by_cases h3:dU p (d.slots.map Slt.typ) vs=false
  .rw[if_pos h3,if_pos h3];rfl
  rw[if_neg h3,if_neg h3];have hn:(max gas 0).toNat=gas.toNat:=by omega
  by_cases hg:0<=gas
  .have he:EqF (r8 p d vs (max gas 0)) (nH p d vs gas):=by unfold r8 nH;rw[hn];exact zCp (zCK 1 2 gas.toNat) d ⟨by simp only;omega,rfl⟩ fun _=>rfl
   obtain⟨⟨e1,e2⟩,e3⟩:=he;unfold zI5;by_cases h0:(r8 p d vs (max gas 0)).2.fail=0
   .rw[if_pos h0,if_neg (by simp[<-e2,h0])];simp only[fD];rw[e3 h0,e1,show max gas 0=gas by omega]
   .rw[if_neg h0,if_pos (by rw[<-e2];exact h0),e2];rfl
  .have hz:gas.toNat=0:=by omega
   have e1:(r8 p d vs (max gas 0)).2.fail=uG:=by unfold r8 b7;rw[hn,hz];simp[aT]
   have e2:(nH p d vs gas).2.fail=uG:=by unfold nH b7;rw[hz];simp[aT]
   unfold zI5;rw[if_neg (by rw[e1];decide),if_pos (by rw[e2];decide),e1,e2];rfl
theorem zM1{r:Val×XS}(h:(gY r).fail=0):¬zDL r.1/\r.2.fail=0:=by
 unfold gY at h;split at h
 .cases h
 .rename_i h';exact⟨fun hb=>h' ⟨h,hb⟩,h⟩
theorem zPF(p:Prg)(fl n:Nat)(e:Exp)(V:wO)(s:XS)(h:(aT p fl n e V s).2.fail=0):¬zDL (aT p fl n e V s).1:=by
 cases n with
 |zero =>
  rw[aT]at h;split at h
  .rename_i h';exact(h' h).elim
  .cases h
 |succ n =>
  rw[aT]at h⊢;split at h
  .rename_i h';exact(h' h).elim
  .rename_i h0;rw[if_neg h0];split at h
   .cases h
   .rename_i h1;rw[if_neg h1];have:=zM1 (show (gY _).fail=0 from h);show ¬zDL (zf (fl==2) (gY _) _);rw[sG (show (gY _).fail=0 from h)];exact this.1
section
variable{p:Prg}{hs:wP}(hf:Fit p hs)
include hf
theorem xG(id:Id)(vs:wI)(hz:∀v∈vs,qN v<=256/\aD v<=24)(fuel:Int) :
 (qN (jY p id vs fuel).1<=256/\aD (jY p id vs fuel).1<=24)/\0<=(jY p id vs fuel).2.1/\(jY p id vs fuel).2.1<=max fuel 0/\0<=(jY p id vs fuel).2.2/\(jY p id vs fuel).2.2<=100:=by
 have hvz:qN vz<=256/\aD vz<=24:=by decide
 unfold jY;split
 .exact⟨hvz,by simp only;omega⟩
 .rename_i d hd;by_cases h1:zCo d.kind=false
  .rw[if_pos h1];exact⟨hvz,by simp only;omega⟩
  rw[if_neg h1];by_cases h2:vs.length≠d.slots.length
  .rw[if_pos h2];exact⟨hvz,by simp only;omega⟩
  rw[if_neg h2];by_cases h3:dU p (d.slots.map Slt.typ) vs=false
  .rw[if_pos h3];exact⟨hvz,by simp only;omega⟩
  rw[if_neg h3];have hfl:=zV9 p d vs fuel;unfold Fl at hfl;by_cases h0:(nH p d vs fuel).2.fail=0
  .rw[if_neg (by simp[h0])];have hg:0<=fuel:=Int.not_lt.1 fun hn=>by
    have e2:(nH p d vs fuel).2.fail=uG:=by unfold nH b7;rw[show fuel.toNat=0 by omega];simp[aT]
    rw[h0]at e2;cases e2
   have he:EqF (r8 p d vs fuel) (nH p d vs fuel):=by unfold r8 nH;exact zCp (zCK 1 2 fuel.toNat) d ⟨rfl,rfl⟩ fun _=>rfl
   have hc:=zTf p d vs fuel;have hu:=zVy p d vs fuel hg;rw[he.1.1]at hc hu;obtain⟨_,_,_,snd,sty⟩:=hf.slots d (aV hd).1;have hft:dU p (d.slots.map Slt.typ) vs=true:=by simpa using h3
   have hl:vs.length=d.slots.length:=by omega
   have hty:TyL p (d.slots.map Slt.typ) vs:=TyL.of (by simpa using hl) fun j hj=>by
    rw[jAw];refine zIi hf (sty _ (jA0 _)) _ ?_;have:=rM hft j (by simp;omega) (by omega)
    rwa[jAw]at this
   have hbB:fO d=true:=zG6 (by simpa using h1);have hrun:nH p d vs fuel=aT p 2 fuel.toNat d.body (cN d.slots vs) ⟨fuel,0,[d.id],[]⟩:=by unfold nH b7;simp
   have hsz:=rX hf.bods 2 fuel.toNat d.body _ _ ⟨fuel,0,[d.id],[]⟩ d.res (hf.bods _ d hd hbB) (EnvT.args hty fun v hv=>(hz v hv).1) (by rw[<-hrun];exact h0);have hbig:=zPF p 2 fuel.toNat d.body (cN d.slots vs) ⟨fuel,0,[d.id],[]⟩ (by rw[<-hrun];exact h0);rw[<-hrun]at hsz hbig;have hdp:aD (nH p d vs fuel).1<=24:=by have:=zA2 _ (by omega:qN (nH p d vs fuel).1<=100000000);unfold zDL at hbig;omega
   exact⟨⟨hsz.2,hdp⟩,by simp only;omega⟩
  .rw[if_pos h0];refine⟨hvz,?_⟩;simp only;omega
end
def qQ(p:Prg):List Id->Val->Int->Val×Int×Int
 |[],v,_=>(v,0,0)
 |id::l,v,fuel=>if (jY p id [v] fuel).2.2≠0 then (vz,0,(jY p id [v] fuel).2.2)
  else if (qQ p l (jY p id [v] fuel).1 (fuel-(jY p id [v] fuel).2.1)).2.2≠0 then (vz,0,(qQ p l (jY p id [v] fuel).1 (fuel-(jY p id [v] fuel).2.1)).2.2)
  else ((qQ p l (jY p id [v] fuel).1 (fuel-(jY p id [v] fuel).2.1)).1,(jY p id [v] fuel).2.1+(qQ p l (jY p id [v] fuel).1 (fuel-(jY p id [v] fuel).2.1)).2.1,0)
section
variable{p:Prg}{hs:wP}(hf:Fit p hs)
include hf
theorem zB9:∀(l:wF) (v:Val) (fuel:Int),qN v<=256/\aD v<=24 ->
 (qN (qQ p l v fuel).1<=256/\aD (qQ p l v fuel).1<=24)/\0<=(qQ p l v fuel).2.1/\(qQ p l v fuel).2.1<=max fuel 0/\0<=(qQ p l v fuel).2.2/\(qQ p l v fuel).2.2<=100
 |[],v,fuel,hv=>⟨hv,by simp only[qQ];omega⟩
 |id::l,v,fuel,hv=>by
  have hvz:qN vz<=256/\aD vz<=24:=by decide
  have h1:=xG hf id [v] (by simpa using hv) fuel;have h2:=zB9 l (jY p id [v] fuel).1 (fuel-(jY p id [v] fuel).2.1) h1.1;unfold qQ;split
  .exact⟨hvz,by simp only;omega⟩
  .split
   .exact⟨hvz,by simp only;omega⟩
   .exact⟨h2.1,by simp only;omega⟩
end
def zDN(p:Prg)(l:wF)(v:Val)(steps fuel:Int):Val×Int×Int :=
 if (qQ p l v (fuel-steps)).2.2≠0 then (vz,0,(qQ p l v (fuel-steps)).2.2)else ((qQ p l v (fuel-steps)).1,steps+(qQ p l v (fuel-steps)).2.1,0)
theorem zSf(p:Prg)(v:Val)(steps fuel:Int):zDN p [] v steps fuel=(v,steps,0):=by simp[zDN,qQ]
variable{steps fuel:Int}
theorem zSe{id:Id}{l:wF}{v:Val}(h:(jY p id [v] (fuel-steps)).2.2≠0):zDN p (id::l) v steps fuel=(vz,0,(jY p id [v] (fuel-steps)).2.2):=by simp[zDN,qQ,h]
theorem zPm{id:Id}{l:wF}{v:Val}(h:(jY p id [v] (fuel-steps)).2.2=0) :
 zDN p (id::l) v steps fuel=zDN p l (jY p id [v] (fuel-steps)).1 (steps+(jY p id [v] (fuel-steps)).2.1) fuel:=by
 unfold zDN;rw[show fuel-(steps+(jY p id [v] (fuel-steps)).2.1)=fuel-steps-(jY p id [v] (fuel-steps)).2.1 by omega];simp only[qQ,h,ne_eq,not_true,if_false];by_cases h2:(qQ p l (jY p id [v] (fuel-steps)).1 (fuel-steps-(jY p id [v] (fuel-steps)).2.1)).2.2=0
 .simp[h2,Int.add_assoc]
 .simp[h2]
theorem zPn(p:Prg)(l:wF)(v:Val)(fuel:Int):zDN p l v 0 fuel=if (qQ p l v fuel).2.2≠0 then (vz,0,(qQ p l v fuel).2.2)else ((qQ p l v fuel).1,(qQ p l v fuel).2.1,0):=by simp[zDN]
theorem zMe(p:Prg):∀(l:wF) (v:Val) (fuel:Int),(qQ p l v fuel).2.2≠0->(qQ p l v fuel).1=vz/\(qQ p l v fuel).2.1=0
 |[],v,fuel,h=>(h rfl).elim
 |id::l,v,fuel,h=>by
  unfold qQ at h⊢;split
  .exact⟨rfl,rfl⟩
  .rename_i h1;rw[if_neg h1]at h;split
   .exact⟨rfl,rfl⟩
   .rename_i h2;rw[if_neg h2]at h;exact(h rfl).elim
theorem zMq(p:Prg)(l:wF)(v:Val)(fuel:Int):zDN p l v 0 fuel=qQ p l v fuel:=by
 rw[zPn];by_cases h:(qQ p l v fuel).2.2=0
 .rw[if_neg (by simp[h])];exact Prod.ext rfl (Prod.ext rfl h.symm)
 .rw[if_pos h];have:=zMe p l v fuel h;exact Prod.ext this.1.symm (Prod.ext this.2.symm rfl)
def zAu(p:Prg)(l:wF)(v:Val)(fuel:Int):Val×Int×Int :=
 if l=[]then (v,0,0)
 else if zBR p l=false then (vz,0,1)
 else match aF p (l.getD 0 .zero)with
  |some a=>if bY p a.1 v=false then (vz,0,1)else qQ p l v fuel
  |none=>(vz,0,1)
def yD(d:Dfn):Option Edg:=if d.kind=5 then (match d.slots with|[s]=>if s.typ.k=3/\d.res.k=3 then some ⟨d.id,s.typ.id,d.res.id⟩ else none|_=>none)else none
theorem rL{d:Dfn}{e:Edg}(h:yD d=some e):e.id=d.id:=by
 unfold yD at h;split at h
 .split at h
  .split at h
   .cases h;rfl
   .cases h
  .cases h
 .cases h
def yO(p:Prg):wF:=zTk ((p.defs.filter fun d=>(aF p d.id).isSome).map (·.id))
def yA(p:Prg):wU:=(yO p).filterMap fun x=>(jK p.defs x).bind yD
theorem zED(hf:Fit p hs)(e:Edg):e∈yA p↔∃d∈p.defs,yD d=some e:=by
 unfold yA yO;rw[jCs];constructor
 .rintro⟨x,_,h⟩;rw[jA8]at h;obtain⟨d,h1,h2⟩:=h;exact⟨d,(aV h1).1,h2⟩
 .rintro⟨d,hd,he⟩;obtain⟨i,hi,rfl⟩:=jAn hd;have hfd:=sV hf.nd hi;refine⟨p.defs[i].id,?_,by rw[hfd];exact he⟩;rw[zFJ,jAd];refine⟨p.defs[i],List.mem_filter.2 ⟨hd,?_⟩,rfl⟩;unfold aF;rw[hfd];unfold yD at he;simp only;split at he
  .rename_i hk;rw[if_pos hk];split at he
   .rename_i s hs;rw[hs];rfl
   .cases he
  .cases he
theorem p6{p:Prg}:∀(l:wF),((l.filterMap fun x=>(jK p.defs x).bind yD).map (·.id)).Sublist l
 |[]=>by simp
 |x::l=>by
  rw[List.filterMap_cons];cases h:(jK p.defs x).bind yD with
  |none=>exact(p6 l).cons _
  |some e =>
   rw[jA8]at h;obtain⟨d,h1,h2⟩:=h;have:=rL h2;rw[(aV h1).2]at this;simp only[jAg,this];exact(p6 l).cons_cons _
theorem zON(p:Prg):SS ((yA p).map (·.id)):=(zIH _).sublist (p6 _)
theorem zId(hf:Fit p hs){S:wU}(h1:SS (S.map (·.id)))(h2:∀e,e∈S↔∃d∈p.defs,yD d=some e):S=yA p:=by
 have hid:S.map (·.id)=(yA p).map (·.id):=h1.unique (zON p) fun x=>by simp only[jAd,h2,zED hf]
 have hinj:∀a b:Edg,(∃d∈p.defs,yD d=some a)->(∃d∈p.defs,yD d=some b)->a.id=b.id->a=b:=by rintro a b ⟨d,hd,ha⟩ ⟨d',hd',hb⟩ e;rw[rL ha,rL hb]at e;obtain⟨i,hi,rfl⟩:=jAn hd;obtain⟨j,hj,rfl⟩:=jAn hd';have hi':=sV hf.nd hi;have hj':=sV hf.nd hj;rw[e,hj']at hi';rw[<-jB0 hi',hb]at ha;exact(jB0 ha).symm
 have key:∀(A B:wU),(∀e∈A,∃d∈p.defs,yD d=some e)->(∀e∈B,∃d∈p.defs,yD d=some e)->A.map (·.id)=B.map (·.id)->A=B:=by
  intro A;induction A with
  |nil=>intro B _ _ h;cases B with
   |nil=>rfl
   |cons b B=>simp at h
  |cons a A ih =>
   intro B hA hB h;cases B with
   |nil=>simp at h
   |cons b B =>
    simp only[jAg,jBb]at h;rw[hinj a b (hA a (by simp)) (hB b (by simp)) h.1,ih B (fun e he=>hA e (by simp[he])) (fun e he=>hB e (by simp[he])) h.2]
 exact key _ _ (fun e he=>(h2 e).1 he) (fun e he=>(zED hf e).1 he) hid
def zEU(a b:Val×Int×Int):Val×Int×Int:=if a.2.2≠0 then (vz,0,a.2.2)else if b.2.2≠0 then (vz,0,b.2.2)else (b.1,a.2.1+b.2.1,0)
variable{a:Val×Int×Int}
theorem zP2(b:Val×Int×Int)(h:a.2.2≠0):zEU a b=(vz,0,a.2.2):=by simp[zEU,h]
variable{b:Val×Int×Int}
theorem zMw(h:a.2.2=0)(h2:b.2.2≠0):zEU a b=(vz,0,b.2.2):=by simp[zEU,h,h2]
theorem zSw(h:a.2.2=0)(h2:b.2.2=0):zEU a b=(b.1,a.2.1+b.2.1,0):=by simp[zEU,h,h2]
theorem zJJ(p:Prg)(id:Id)(l:wF)(v:Val)(f:Int):qQ p (id::l) v f=zEU (jY p id [v] f) (qQ p l (jY p id [v] f).1 (f-(jY p id [v] f).2.1)):=rfl
def zAm(p:Prg)(x:Id):Option Edg:=match aF p x with
 |some (a,b)=>if a.k=3/\b.k=3 then some ⟨x,a.id,b.id⟩ else none
 |none=>none
theorem zR3(p:Prg)(x:Id):(jK p.defs x).bind yD=zAm p x:=by
 unfold zAm aF;cases h:jK p.defs x with
 |none=>rfl
 |some d =>
  have hx:=(aV h).2;simp only[Option.bind_some,yD];split
  .split
   .rename_i s hs;simp only[hx,hs]
   .rename_i hs;split
    .rename_i hs';split at hs'
     .rename_i s e;exact(hs s e).elim
     .cases hs'
    .rfl
  .rfl
theorem zC2(p:Prg):yA p=(yO p).filterMap (zAm p):=by
 unfold yA
 congr 1
 funext x;exact zR3 p x
theorem oH{α β γ : Type}(g : α->Option β)(f : β->List γ):∀l:List α,(l.filterMap g).flatMap f=l.flatMap fun x=>match g x with|some e=>f e|none=>[]
 |[]=>rfl
 |x::l=>by
  rw[List.filterMap_cons,jB6];cases h:g x with
  |none=>simp[oH g f l]
  |some e=>simp[oH g f l]
def pM(p:Prg)(to:Id)(n:Nat)(at_:Id)(met:wF)(x:Id):List wF:=match zAm p x with
 |some e=>if e.fro=at_/\e.to∉met then (yY (yA p) to n e.to (met++[e.to])).map (e.id::·)else []
 |none=>[]
theorem zLT(p:Prg)(to:Id)(n:Nat)(at_:Id)(met:wF)(h:at_≠to):yY (yA p) to (n+1) at_ met=(yO p).flatMap (pM p to n at_ met):=by
 conv=>lhs;unfold yY
 rw[if_neg h,zC2,oH];refine zAF fun x _=>?_
 unfold pM;rw[<-zC2];cases zAm p x<;>rfl
def cU(p:Prg)(to:Id)(n:Nat)(at_:Id)(met:wF)(i:Nat):List wF:=(((yO p).take i).flatMap (pM p to n at_ met)).take 65
variable{i:Nat}
theorem zMg(p:Prg)(to:Id)(n:Nat)(at_:Id)(met:wF)(h:i<(yO p).length) :
 cU p to n at_ met (i+1)=(cU p to n at_ met i++(pM p to n at_ met (yO p)[i]).take 65).take 65:=by
 unfold cU;rw[jA6 h,jBr,List.flatMap_singleton,zT3];rw[List.take_append,List.take_append,List.take_take,Nat.min_self,jAs];by_cases hl:(((yO p).take i).flatMap (pM p to n at_ met)).length<=65
 .rw[Nat.min_eq_right hl]
 .rw[jAv (by omega),jBv,show 65-(((yO p).take i).flatMap (pM p to n at_ met)).length=0 by omega]
theorem zMf(p:Prg)(to:Id)(n:Nat)(at_:Id)(met:wF)(h:65<=(cU p to n at_ met i).length)(hi:i<=(yO p).length):cU p to n at_ met (yO p).length=cU p to n at_ met i:=by
 unfold cU at h⊢;rw[jAs]at h;have hs:yO p=(yO p).take i++(yO p).drop i:=(jC1 i _).symm;rw[jAt]
 conv=>lhs;rw[hs]
 rw[jBr,jC (by omega)]
theorem zOY(p:Prg)(to:Id)(n:Nat)(at_:Id)(met:wF)(h:at_≠to):cU p to n at_ met (yO p).length=(yY (yA p) to (n+1) at_ met).take 65:=by rw[zLT p to n at_ met h];unfold cU;rw[jAt]
def zPv(n:Nat):Nat:=[1,1,2,3,4,6,9,12].getD n 0
theorem zPw:∀r,r<=7->∀o,o<=r->o*zPv (r-o)<=zPv r:=by decide
theorem zES:∀r,r<=7->1<=zPv r/\zPv r<=64:=by decide
def vP(L:wU)(old:wF):Nat:=(L.filter fun e=>decide (e.fro∉old)).length
theorem zEX(old:wF)(a:Id)(h:a∉old):∀L:wU,vP L old=vP L (old++[a])+(L.filter fun e=>decide (e.fro=a)).length
 |[]=>by simp[vP]
 |e::L=>by
  have ih:=zEX old a h L;unfold vP at ih ⊢;simp only[List.filter_cons];by_cases h1:e.fro=a
  .have e1:decide (e.fro∉old)=true:=decide_eq_true (by rw[h1];exact h);have e2:decide (e.fro∉old++[a])=false:=decide_eq_false (by simp[h1]);have e3:decide (e.fro=a)=true:=decide_eq_true h1;rw[e1,e2,e3];simp only[if_true,jAk,if_false,jAb];omega
  .have e3:decide (e.fro=a)=false:=decide_eq_false h1;by_cases h2:e.fro∈old
   .have e1:decide (e.fro∉old)=false:=decide_eq_false (by simp[h2]);have e2:decide (e.fro∉old++[a])=false:=decide_eq_false (by simp[h2]);rw[e1,e2,e3];simp only[jAk,if_false];exact ih
   .have e1:decide (e.fro∉old)=true:=decide_eq_true h2;have e2:decide (e.fro∉old++[a])=true:=decide_eq_true (by simp[h1,h2]);rw[e1,e2,e3];simp only[if_true,jAk,if_false,jAb];omega
theorem zJC{α β:Type}(f : α->List β)(q : α->Bool)(B:Nat):∀L:List α,(∀x∈L,(f x).length<=if q x then B else 0)->(L.flatMap f).length<=(L.filter q).length*B
 |[],_=>by simp
 |x::L,h=>by
  have ih:=zJC f q B L fun y hy=>h y (by simp[hy])
  have hx:=h x (by simp);rw[jB6,jA5,List.filter_cons];cases hq:q x
  .rw[hq]at hx;simp only[jAk,if_false]at hx ⊢;omega
  .rw[hq]at hx;simp only[if_true]at hx ⊢;rw[jAb,jBi];omega
theorem zGK{L:wU}{to:Id}:∀(n:Nat) (at_:Id) (old:wF),at_∉old->vP L old<=7->(yY L to n at_ (old++[at_])).length<=zPv (vP L old)
 | 0,at_,old,_,h7=>by have:=zES _ h7;unfold yY;split<;>simp<;>omega
 |n+1,at_,old,ha,h7=>by
  have hp:=zES _ h7;unfold yY;split
  .simp;omega
  .have hst:=zEX old at_ ha L
   have hg:=zPw _ h7 (L.filter fun e=>decide (e.fro=at_)).length (by omega);have hsub:vP L old-(L.filter fun e=>decide (e.fro=at_)).length=vP L (old++[at_]):=by omega
   rw[hsub]at hg;refine jBt (zJC _ (fun e=>decide (e.fro=at_)) (zPv (vP L (old++[at_]))) L fun e he=>?_) hg;split
   .rename_i hc;have:=zGK (L:=L) (to:=to) n e.to (old++[at_]) hc.2 (by omega)
    simpa[hc.1]using this
   .simp
theorem zPL(h:(yA p).length<=7)(fro to:Id)(n:Nat):(yY (yA p) to n fro [fro]).length<=64:=by
 have hl:vP (yA p) []<=7:=by have:=jCn (fun e:Edg=>decide (e.fro∉([]:wF))) (yA p);unfold vP;omega
 have:=zGK (L:=yA p) (to:=to) n fro [] (by simp) hl;have h2:=(zES _ hl).2;simp only[jBy]at this;omega
theorem zUE(p:Prg)(l:wF)(v:Val)(fuel:Int):zDN p l v 0 fuel=qQ p l v fuel:=zMq p l v fuel
theorem zGR(hf:Fit p hs)(l:wF)(hl:l.length<=1000000)(v:Val)(hv:qN v<=256/\aD v<=24)(fuel:Int)(h0 : -90000<=fuel)(h1:fuel<=90000) :
 mv 45 [.agg (zP p),.sl l.length (zT l),.agg (zF v),int fuel] [] (fD (qQ p l v fuel)) []:=by
 have hP:=eP p;refine ml [] [.cell 8 3 true,.slot 9,.slot 10] Tryz.func45 (by kernel_rfl) ?_
 (conv in kq _ _=>cbv)
 simp[hP,zF];intro hlm;refine qK (S:=Nat×Val×Int) (fun s=>[(1,.sl l.length (zT l)),(3,int fuel),(4,.ptr 0 0),(6,.ptr 1 0),(8,.ptr 2 0),(11,int s.2.2),(17,.sl l.length (zT l)),(18,int l.length),(19,int s.1)]) (fun s=>[.box (zP p),.box (zF s.2.1),.box [int 0,int 0,.nil]])
  (fun s=>s.1<=l.length/\(qN s.2.1<=256/\aD s.2.1<=24)/\0<=s.2.2/\s.2.2<=max fuel 0/\qQ p l v fuel=zDN p (l.drop s.1) s.2.1 s.2.2 fuel) (fun s=>l.length-s.1) (0,v,0) ⟨by simp,hv,by simp,by simp only;omega,by simp[zUE]⟩
  (mu [0,1,2] 0 (by rfl) (by simp[hP,zF])) ?_
 rintro⟨i,x,st⟩ ⟨hi,hx,hs0,hs1,ho⟩;simp only at hi hx hs0 hs1 ho;by_cases h:i<l.length
 .have hd:l.drop i=l[i]::l.drop (i+1):=jAo h;have hw:=jZ i (by omega);have hw2:=zY (fuel-st) (by omega);simp[hP,zF,h,yS h,hw2];have hcall:=zLW hf l[i] [x] (gas:=fuel-st) (fuel:=max (fuel-st) 0) rfl (by omega) (by simpa using hx);rw[zUj hf]at hcall;refine mq hcall (by simp[hP,zK,zF,mV,fD]) ?_;have hsm:=xG hf l[i] [x] (by simpa using hx) (fuel-st);rw[hd]at ho;by_cases he:(jY p l[i] [x] (fuel-st)).2.2=0
  .rw[zPm he]at ho;simp[fD,zF,he];have hw3:IntKind.i64.wrap (st+(jY p l[i] [x] (fuel-st)).2.1)=st+(jY p l[i] [x] (fuel-st)).2.1:=IntWalk.i64_in _ (by omega);exact zO (i+1,(jY p l[i] [x] (fuel-st)).1,st+(jY p l[i] [x] (fuel-st)).2.1) ⟨h,hsm.1,by simp only;omega,by simp only;omega,ho⟩ (by simp only;omega) (mu [0,1,2] 0 (by rfl) (by simp[hP,zF,hw,hw3]))
  .rw[zSe he]at ho;simp[fD,zF,he];exact zA 0 (by simp[ho,fD,zF,vz,qD,zX,zL])
 .have hi':i=l.length:=by omega
  subst hi';rw[List.drop_length,zSf]at ho;simp[hP,zF];exact zA 0 (by simp[ho,fD,zF])
theorem zQT(hf:Fit p hs)(l:wF)(hl:l.length<=1000000)(v:Val)(hv:qN v<=256/\aD v<=24)(fuel:Int)(h0 : -90000<=fuel)(h1:fuel<=90000) :
 mv 16 [.agg (zP p),.sl l.length (zT l),.agg (zF v),int fuel] [] (fD (zAu p l v fuel)) []:=by
 have hP:=eP p;refine ml [] [.cell 8 3 true,.slot 9,.slot 10] Tryz.func16 (by kernel_rfl) ?_
 (conv in kq _ _=>cbv)
 cases hl0:l with
 |nil =>
  simp[hP,zF];exact zA 0 (by simp[zAu,fD,zF])
 |cons y l' =>
  rw[<-hl0];have hne:l≠[]:=by rw[hl0];simp
  have hlen:¬((l.length:Int)=0):=by rw[hl0];simp;omega
  simp[hP,zF,hlen,hne];intro _;refine mq (zUt p l hl) (by simp[hP,zDt,zB]) ?_;by_cases hp:zBR p l=true
  .have hlead:∃a,aF p (l.getD 0 .zero)=some a:=by
    have h1:r6 p l 1=true:=zKE (List.length_pos_iff.2 hne) hp;simp only[r6,jBm,zDJ]at h1;cases hc:aF p (l.getD 0 .zero)with
    |none=>rw[hc]at h1;cases h1
    |some a=>exact⟨a,rfl⟩
   obtain⟨a,ha⟩:=hlead;have hfro:zRX p l=a.1:=by rw[zRX,ha];rfl
   have hal:zAu p l v fuel=if bY p a.1 v=false then (vz,0,1)else qQ p l v fuel:=by rw[zAu,if_neg hne,if_neg (by rw[hp];decide),ha]
   simp[zDt,zBu,hp,hne,hfro,zB];refine mq (zHO p a.1 v hv.1 hv.2) (by simp[hP,zB,zF]) ?_;cases hfi:bY p a.1 v
   .simp;exact zA 0 (by simp[hal,hfi,fD,zF,vz,qD,zX,zL])
   .simp;refine mq (zGR hf l hl v hv fuel h0 h1) (by simp[hP,zF,fD]) ?_;simp[fD,zF];exact zA 0 (by simp[hal,hfi,fD,zF])
  .have hp':zBR p l=false:=by simpa using hp
   have hal:zAu p l v fuel=(vz,0,1):=by rw[zAu,if_neg hne,if_pos hp']
   simp[zDt,zBu,hp',zB];exact zA 0 (by simp[hal,fD,zF,vz,qD,zX,zL])
def zXi:Nat->Option wD:=fun|4=>k_ [0,0,0,0,0,2,2004,1004,0,0]|_=>none
def eC(a:Option (Typ×Typ)):A:=.tup [.agg (zB (a.getD (.zero,.zero)).1),.agg (zB (a.getD (.zero,.zero)).2),bl a.isSome]
theorem zKq(p:Prg)(hL:p.defs.length<=1000000)(id:Id):mv 13 [.agg (zP p),.agg (zK id)] [] (eC (aF p id)) []:=by
 have hP:=eP p;have hdf:=i4 p hL id;unfold bR at hdf;refine mj zXi [] [.cell 4 5 true,.cell 5 5 true,.slot 6] Tryz.func13 (by kernel_rfl) ?_
 (conv in zV _ _ _ _=>cbv)
 simp -implicitDefEqProofs [hP,zK];refine mq hdf (by simp[zP,zK]) ?_;cases hd:jK p.defs id with
 |none =>
  have hv:aF p id=none:=by simp[aF,hd]
  simp -implicitDefEqProofs [zJ];exact zA 0 (by simp[eC,hv,zB,Typ.zero,Id.zero])
 |some d =>
  by_cases hk:d.kind=5
  .match hs:d.slots with
   |[s] =>
    have hv:aF p id=some (s.typ,d.res):=by simp[aF,hd,hk,hs]
    have hcs:jS [s]=j8 s:=by simp[jS]
    simp -implicitDefEqProofs [zJ,hk,hs,hcs,j8];exact fun _=>zA 0 (by simp[eC,hv,zB])
   |[] =>
    have hv:aF p id=none:=by simp[aF,hd,hs]
    simp -implicitDefEqProofs [zJ,hk,hs];exact zA 0 (by simp[eC,hv,zB,Typ.zero,Id.zero])
   |s::s'::l =>
    have hv:aF p id=none:=by simp[aF,hd,hs]
    have h1:¬((l.length:Int)+1+1=1):=by omega
    simp -implicitDefEqProofs [zJ,hk,hs,h1]
    first|exact fun _=>zA 0 (by simp[eC,hv,zB,Typ.zero,Id.zero])|exact zA 0 (by simp[eC,hv,zB,Typ.zero,Id.zero])
  .have hv:aF p id=none:=by simp[aF,hd,hk]
   simp -implicitDefEqProofs [zJ,hk];exact zA 0 (by simp[eC,hv,zB,Typ.zero,Id.zero])
@[simp]theorem qCw{rf g}(a:Option (Typ×Typ)):vw rf g (eC a)=eC a:=by cases a<;>simp[eC,zB]
@[simp]theorem qKt{rf g}(r:Val×Int×Int):vw rf g (fD r)=fD r:=by simp[fD,zF]
theorem zAW{p:Prg}{hs:wP}(hf:Fit p hs):∀(l:wF) (v:Val) (fuel:Int),l.length<=1000000->qN v<=256/\aD v<=24->-30000<=fuel->fuel<=30000 ->
 mv 48 [.agg (zP p),.sl l.length (zT l),.agg (zF v),int fuel] [] (fD (qQ p l v fuel)) []
 |[],v,fuel,_,hv,h0,h1=>by
  have hP:=eP p;refine ml [(3,[0,2,3,4,7]),(6,[0,3,7])] [.cell 8 3 true,.slot 9,.slot 10] Tryz.func48 (by kernel_rfl) ?_
  (conv in kq _ _=>cbv)
  simp -implicitDefEqProofs [hP,zF];exact zA 0 (by simp[qQ,fD,zF])
 |id::l,v,fuel,hl,hv,h0,h1=>by
  have hP:=eP p;refine ml [(3,[0,2,3,4,7]),(6,[0,3,7])] [.cell 8 3 true,.slot 9,.slot 10] Tryz.func48 (by kernel_rfl) ?_
  (conv in kq _ _=>cbv)
  have hcl:zT (id::l)=zK id++zT l:=by rw[zGD,zGD,jB6]
  have hn1:¬((l.length:Int)+1=0):=by omega
  simp only[jAb]at hl;simp -implicitDefEqProofs [hP,zF,hcl,hn1];have hcall:=zTA hf id [v] fuel h1 (by simpa using hv);intro _;refine⟨by omega,?_⟩;refine yX hcall (by simp[hP,zK,zF,mV]) (by simp) ?_;have hsm:=xG hf id [v] (by simpa using hv) fuel;have ih:=zAW hf l (jY p id [v] fuel).1 (fuel-(jY p id [v] fuel).2.1) (by omega) hsm.1 (by omega) (by omega);have hs2:=zB9 hf l (jY p id [v] fuel).1 (fuel-(jY p id [v] fuel).2.1) hsm.1;have hta:List.take (l.length*3) (zT l)=zT l:=jA9 (by simp);have hfo:=zJJ p id l v fuel;generalize jY p id [v] fuel=r at *
  by_cases he:r.2.2=0
  .have hw:=zY (fuel-r.2.1) (by omega);simp -implicitDefEqProofs [fD,zF,he,hw,hcl];refine⟨by omega,?_⟩;refine yX ih (by simp[hP,zF,hta]) (by simp) ?_;generalize qQ p l r.1 (fuel-r.2.1)=q at *
   by_cases he2:q.2.2=0
   .have hw2:=zY (r.2.1+q.2.1) (by omega);rw[zSw he he2]at hfo;simp -implicitDefEqProofs [fD,zF,he2,hw2];exact zA 0 (by simp[hfo,fD,zF])
   .rw[zMw he he2]at hfo;simp -implicitDefEqProofs [fD,zF,he2];exact zA 0 (by simp[hfo,fD,zF,vz,qD,zX,zL])
  .rw[zP2 _ he]at hfo;simp -implicitDefEqProofs [fD,zF,he];exact zA 0 (by simp[hfo,fD,zF,vz,qD,zX,zL])
def bQ(p:Prg)(id:Id):Bool:=match jK p.defs id with
 |some d=>decide (d.kind=0)||decide (d.kind=1)
 |none=>false
theorem zFD(p:Prg)(hL:p.defs.length<=1000000)(id:Id):mv 54 [.agg (zP p),.agg (zK id)] [] (bl (bQ p id)) []:=by
 have hP:=eP p;have hdf:=i4 p hL id;unfold bR at hdf;refine ml [] [.slot 4] Tryz.func54 (by kernel_rfl) ?_
 (conv in kq _ _=>cbv)
 simp -implicitDefEqProofs [hP,zK];refine mq hdf (by simp[zP,zK]) ?_;cases hd:jK p.defs id with
 |none =>
  simp -implicitDefEqProofs [zJ];exact zA 0 (by simp[bQ,hd])
 |some d =>
  by_cases hk:d.kind=0
  all_goals
   simp -implicitDefEqProofs [zJ,hk];exact zA 0 (by simp[bQ,hd,hk])
theorem zHH(p:Prg)(id:Id):mv 52 [.agg (zP p),.agg (zK id)] [] (bl (bQ p id)) []:=by
 have hP:=eP p;have hdf:=oE p id;unfold bR at hdf;refine ml [] [.slot 4] Tryz.func52 (by kernel_rfl) ?_
 (conv in kq _ _=>cbv)
 simp -implicitDefEqProofs [hP,zK];refine mq hdf (by simp[zP,zK]) ?_;cases hd:jK p.defs id with
 |none =>
  simp -implicitDefEqProofs [zJ];exact zA 0 (by simp[bQ,hd])
 |some d =>
  by_cases hk:d.kind=0
  all_goals
   simp -implicitDefEqProofs [zJ,hk];exact zA 0 (by simp[bQ,hd,hk])
theorem zOH(x y:Id):mv 147 [.agg (zK x),.agg (zK y)] [] (int (zCw x y)) []:=by
 refine ml [] [.slot 4] Tryz.func147 (by kernel_rfl) ?_
 (conv in kq _ _=>cbv)
 simp[zK];refine z7 (iN x.a y.a) (by simp) (by simp) ?_;simp;refine z7 (iN x.b y.b) (by simp) (by simp) ?_;simp;refine z7 (iN x.c y.c) (by simp) (by simp) ?_;simp;refine z7 (zSQ [bU x.a y.a,bU x.b y.b,bU x.c y.c]) (by simp) (by simp) ?_;simp;exact zA 0 (by simp[zCw])
def dT(e:Edg):wE:=[.lit (.int .i64 e.id.a),.lit (.int .i64 e.id.b),.lit (.int .i64 e.id.c),.lit (.int .i64 e.fro.a),.lit (.int .i64 e.fro.b),.lit (.int .i64 e.fro.c),.lit (.int .i64 e.to.a),.lit (.int .i64 e.to.b),.lit (.int .i64 e.to.c)]
def yW(l:wU):wE:=l.flatMap dT
theorem vB(d:Edg):qY (dT d):=qY.lit (qY.lit (qY.lit (qY.lit (qY.lit (qY.lit (qY.lit (qY.lit (qY.lit qY.nil))))))))
theorem zAi(l:wU):qY (yW l):=dL vB l
@[simp]theorem zVd(l:wU):jT (yW l)=yW l:=(zAi l).1
@[simp]theorem qAv{rf g}(l:wU):vwL rf g (yW l)=yW l:=(zAi l).2 _ _
@[simp]theorem zWD:yW []=[]:=rfl
theorem sK(x:Edg)(l:wU):yW (x::l)=dT x++yW l:=rfl
theorem zE0(l l':wU):yW (l++l')=yW l++yW l':=by simp only[yW,jBr]
@[simp]theorem zWC(l:wU):(yW l).length=l.length*9:=by rw[yW,gH (k:=9) (fun _=>rfl)]
theorem eN{l:wU}(h:i<l.length):(yW l).drop (i*9)=dT l[i]++yW (l.drop (i+1)):=by rw[yW,yW,fL (k:=9) (fun _=>rfl) h]
@[simp]theorem qBb(d:Edg):(dT d).length=9:=rfl
@[simp]theorem qBa(d:Edg):(dT d).take 9=dT d:=jA9 (jA _)
@[simp]theorem zYT(d:Edg)(l:wE):(dT d++l).take 9=dT d:=by rw[jC (by simp)];exact jA9 (by simp)
@[simp]theorem zZA(d:Edg):jT (dT d)=dT d:=(vB d).1
@[simp]theorem qHZ(d:Edg) {rf g}:vwL rf g (dT d)=dT d:=(vB d).2 _ _
@[simp]theorem zG4(e:Edg)(k:Nat):eJ k (dT e)=true:=by simp[dT]
@[simp]theorem zW5(l:wU)(k:Nat):eJ k (yW l)=true:=by
 induction l with
 |nil=>rfl
 |cons e l ih=>rw[sK,uV,ih,zG4];rfl
theorem zLG(x y:Edg):mv 146 [.agg (dT x),.agg (dT y)] [] (int (zCw x.id y.id)) []:=by
 refine ml [] [.slot 4] Tryz.func146 (by kernel_rfl) ?_
 (conv in kq _ _=>cbv)
 simp[dT];refine mq (zOH x.id y.id) (by simp[zK]) ?_;simp;exact zA 0 (by simp)
def zVx:Go.Shelf.Ren:=⟨fun | 6=>145 | 15=>121 | 14=>172 | 28=>165 | 29=>166 | 20=>187 | 21=>188 | 22=>189 | 23=>190 | 24=>191 | 25=>192 | 26=>193 | 27=>194 | 46=>201 | 49=>202 | 50=>203 | 57=>209 | 47=>182 | 48=>183|n=>n,fun | 22=>149 | 24=>155 | 25=>202 | 3=>3 | 39=>181 | 0=>0 | 53=>222 | 55=>224 | 4=>4 | 46=>215 | 45=>214 | 50=>219 | 5=>5 | 9=>9 | 66=>241 | 70=>245 | 76=>256 | 77=>257|n=>n,fun n=>n⟩
theorem zNZ:Go.Proofs.SlLaysF0.n6 Tryz.prog zVx:={
 mixed:=by kernel_rfl,
 f6:=⟨Tryz.f145.name,by decide,Tryz.func145.trans (congrArg some (by kernel_rfl))⟩,
 f14:=⟨Tryz.f172.name,by decide,Tryz.func172.trans (congrArg some (by kernel_rfl))⟩,
 f15:=Tryz.func121.trans (congrArg some (by kernel_rfl)),
 f20:=⟨Tryz.f187.name,by decide,Tryz.func187.trans (congrArg some (by kernel_rfl))⟩,
 f21:=⟨Tryz.f188.name,by decide,Tryz.func188.trans (congrArg some (by kernel_rfl))⟩,
 f22:=⟨Tryz.f189.name,by decide,Tryz.func189.trans (congrArg some (by kernel_rfl))⟩,
 f23:=⟨Tryz.f190.name,by decide,Tryz.func190.trans (congrArg some (by kernel_rfl))⟩,
 f24:=⟨Tryz.f191.name,by decide,Tryz.func191.trans (congrArg some (by kernel_rfl))⟩,
 f25:=⟨Tryz.f192.name,by decide,Tryz.func192.trans (congrArg some (by kernel_rfl))⟩,
 f26:=⟨Tryz.f193.name,by decide,Tryz.func193.trans (congrArg some (by kernel_rfl))⟩,
 f27:=⟨Tryz.f194.name,by decide,Tryz.func194.trans (congrArg some (by kernel_rfl))⟩,
 f28:=Tryz.func165.trans (congrArg some (by kernel_rfl)),
 f29:=Tryz.func166.trans (congrArg some (by kernel_rfl)),
 f46:=⟨Tryz.f201.name,by decide,Tryz.func201.trans (congrArg some (by kernel_rfl))⟩,
 f47:=Tryz.func182.trans (congrArg some (by kernel_rfl)),
 f48:=Tryz.func183.trans (congrArg some (by kernel_rfl)),
 f49:=⟨Tryz.f202.name,by decide,Tryz.func202.trans (congrArg some (by kernel_rfl))⟩,
 f50:=⟨Tryz.f203.name,by decide,Tryz.func203.trans (congrArg some (by kernel_rfl))⟩,
 f57:=⟨Tryz.f209.name,by decide,Tryz.func209.trans (congrArg some (by kernel_rfl))⟩,
 t0:=Tryz.underlying0,
 a0:=Tryz.isAgg0,
 z0:=Tryz.sizeOf0,
 v0:=Tryz.zeroValue0,
 t3:=Tryz.underlying3,
 a3:=Tryz.isAgg3,
 z3:=Tryz.sizeOf3,
 v3:=Tryz.zeroValue3,
 t4:=Tryz.underlying4,
 a4:=Tryz.isAgg4,
 z4:=Tryz.sizeOf4,
 v4:=Tryz.zeroValue4,
 t5:=Tryz.underlying5,
 a5:=Tryz.isAgg5,
 z5:=Tryz.sizeOf5,
 v5:=Tryz.zeroValue5,
 t9:=Tryz.underlying9,
 a9:=Tryz.isAgg9,
 z9:=Tryz.sizeOf9,
 v9:=Tryz.zeroValue9,
 t22:=Tryz.underlying149,
 a22:=Tryz.isAgg149,
 z22:=Tryz.sizeOf149,
 v22:=Tryz.zeroValue149,
 t25:=Tryz.underlying202,
 a25:=Tryz.isAgg202,
 z25:=Tryz.sizeOf202,
 v25:=Tryz.zeroValue202,
 t39:=Tryz.underlying181,
 a39:=Tryz.isAgg181,
 z39:=Tryz.sizeOf181,
 v39:=Tryz.zeroValue181,
 t45:=Tryz.underlying214,
 a45:=Tryz.isAgg214,
 z45:=Tryz.sizeOf214,
 v45:=Tryz.zeroValue214,
 t46:=Tryz.underlying215,
 a46:=Tryz.isAgg215,
 z46:=Tryz.sizeOf215,
 v46:=Tryz.zeroValue215,
 t50:=Tryz.underlying219,
 a50:=Tryz.isAgg219,
 z50:=Tryz.sizeOf219,
 v50:=Tryz.zeroValue219,
 t53:=Tryz.underlying222,
 a53:=Tryz.isAgg222,
 z53:=Tryz.sizeOf222,
 v53:=Tryz.zeroValue222,
 t55:=Tryz.underlying224,
 a55:=Tryz.isAgg224,
 z55:=Tryz.sizeOf224,
 v55:=Tryz.zeroValue224,
 t66:=Tryz.underlying241,
 a66:=Tryz.isAgg241,
 z66:=Tryz.sizeOf241,
 v66:=Tryz.zeroValue241,
 t70:=Tryz.underlying245,
 a70:=Tryz.isAgg245,
 z70:=Tryz.sizeOf245,
 v70:=Tryz.zeroValue245,
 t76:=Tryz.underlying256,
 a76:=Tryz.isAgg256,
 z76:=Tryz.sizeOf256,
 v76:=Tryz.zeroValue256,
 t77:=Tryz.underlying257,
 a77:=Tryz.isAgg257,
 z77:=Tryz.sizeOf257,
 v77:=Tryz.zeroValue257}
theorem zUu:∀args w,(callFunc 146 args).run Tryz.prog w=.ok (.enter 146 args) w:=enters_of Tryz.func146 (by kernel_rfl) rfl
def zQP(E:wU):Prop:=∀a∈E,∀b∈E,a.id=b.id->a=b
abbrev zIU(E:wU):={e:Edg // e∈E}
variable{E:wU}
def zOG(a b:zIU E):Int:=zCw a.1.id b.1.id
theorem zEZ(h:zQP E):Ord (zOG (E:=E)) where
 irrefl x:=oL.irrefl _
 trans x y z:=oL.trans _ _ _
 ntrans x y z:=oL.ntrans _ _ _
 anti x y a b:=Subtype.ext (h _ x.2 _ y.2 (oL.anti _ _ a b))
theorem qAf(h:zQP E):zHT Tryz.prog 145 146 (fun e:zIU E=>dT e.1) zOG :=
 zTv (k:=9) (fun _=>rfl) (zEZ h) (fun a b=>zLG a.1 b.1) fun α _ enc hk h1 cf hO blk off cap d w hcmp hH hblk hsz =>
  Go.Proofs.AnyQ.slices_SortFunc zNZ 9 Tryz.isAgg155 Tryz.sizeOf155 enc hk h1 cf hO 146 #[] blk off cap d w zUu hcmp hH hblk hsz
theorem qGR:∀(p:Option Addr) (cap:Nat) (fv:Value) (w:World),Calls Tryz.prog 145 #[.slice p 0 cap,fv] w fun e w'=>e=.returned (.tuple #[])/\w'=w :=
 fun p cap fv w=>Go.Proofs.AnyF.slices_SortFunc_none zNZ p cap fv w
def zFP(E:wU):wU:=(cM (zOG (E:=E)) (E.attach)).map (·.1)
theorem zJE(l:List (zIU E)):l.flatMap (fun e=>dT e.1)=yW (l.map (·.1)):=by
 induction l with
 |nil=>rfl
 |cons e l ih=>rw[jB6,ih,jAg,sK]
theorem zTt(h:zQP E)(hmx:E.length<4611686018427387904):mv 145 [.row 0 E.length,.clo 146 [] []] [.row false 155 9 E.length (yW E)] (.tup []) [.row false 155 9 E.length (yW (zFP E))]:=by have:=zLe (sz:=9) (by omega) (fun _=>rfl) (fun b:zIU E=>zG4 b.1 0) (zEZ h) 155 (qAf h) qGR E.attach (by simpa using hmx);rw[zJE,zJE,List.length_attach]at this;rw[show (E.attach.map (·.1))=E from List.attach_map_subtype_val E]at this;exact this
theorem gQ(E:wU):(zFP E).Perm E:=by have h:=(List.mergeSort_perm E.attach fun x y=>!decide (zOG y x<0)).map (·.1);rw[show (E.attach.map (·.1))=E from List.attach_map_subtype_val E]at h;exact h
theorem zTu(h:zQP E)(hn:E.Nodup):SS ((zFP E).map (·.id)):=by
 have ho:=zEZ h;have hs:=List.pairwise_mergeSort (le:=fun x y:zIU E=>!decide (zOG y x<0)) (fun a b c h1 h2=>by simp only[jBw,decide_eq_false_iff_not]at *;exact ho.ntrans c b a h2 h1)
  (fun a b=>by
   simp only[jBf,jBw,decide_eq_false_iff_not];by_cases h:zOG b a<0
   .exact .inr fun h'=>ho.irrefl _ (ho.trans _ _ _ h h')
   .exact .inl h) E.attach
 have hnd:(zFP E).Nodup:=(gQ E).nodup_iff.2 hn;unfold SS;rw[jCq];have h1:(zFP E).Pairwise fun a b=>¬zCw b.id a.id<0:=by
  unfold zFP;rw[jCq];exact hs.imp fun hab=>by simp only[jBw]at hab;exact of_decide_eq_false hab
 have h2:=List.Pairwise.and h1 hnd;have h3:=List.Pairwise.and_mem.1 h2;exact h3.imp fun {a b} ⟨ha,hb,hc,hne⟩=>by
  cases hl:cC a.id b.id with
  |true=>rfl
  |false =>
   rw[rJ]at hc;have hba:cC b.id a.id=false:=by simpa using hc
   exact(hne (h a ((gQ E).mem_iff.1 ha) b ((gQ E).mem_iff.1 hb) (oK hl hba))).elim
def iF(p:Prg):wU:=p.defs.filterMap yD
theorem zEB(hf:Fit p hs):zQP (iF p)/\(iF p).Nodup:=by
 have hnd:=hf.nd;have key:∀(l:wQ),l.Pairwise (fun a b=>a.id≠b.id)->((l.filterMap yD).map (·.id)).Nodup:=by
  intro l;induction l with
  |nil=>intro _;simp
  |cons d l ih =>
   intro h;have h':=jBq.1 h;rw[List.filterMap_cons];cases he:yD d with
   |none=>exact ih h'.2
   |some e =>
    simp only[jAg,jD2];refine⟨fun hm=>?_,ih h'.2⟩;obtain⟨e',he',hid⟩:=jAd.1 hm;obtain⟨d',hd',hde⟩:=jCs.1 he';rw[rL he,rL hde]at hid;exact h'.1 d' hd' hid.symm
 have hk:=key _ hnd;constructor
 .intro a ha b hb hab;obtain⟨i,hi,rfl⟩:=jAn ha;obtain⟨j,hj,rfl⟩:=jAn hb;have hab':((iF p).map (·.id))[i]'(by simpa using hi)=((iF p).map (·.id))[j]'(by simpa using hj):=by simpa using hab
  have hij:=(List.getElem_inj hk).1 hab';subst hij;rfl
 .exact List.Pairwise.of_map (·.id) (fun a b h e=>h (by rw[e])) hk
theorem m7(hf:Fit p hs):zFP (iF p)=yA p:=by
 obtain⟨h1,h2⟩:=zEB hf;refine zId hf (zTu h1 h2) fun e=>?_
 rw[(gQ _).mem_iff];unfold iF;rw[jCs]
theorem zR4(hf:Fit p hs):mv 98 [.agg (zP p)] [] (.sl (yA p).length (yW (yA p))) []:=by
 have hP:=eP p;have hL:=hf.len8;refine ml [] [.slot 2] Tryz.func98 (by kernel_rfl) ?_
 (conv in kq _ _=>cbv)
 simp[hP];intro hlm;have hlen:∀i,((p.defs.take i).filterMap yD).length<=100:=fun i=>by have:=jDe yD (p.defs.take i);rw[jAs]at this;omega
 refine qK (S:=Nat) (fun i=>[(3,.row 1 ((p.defs.take i).filterMap yD).length),(7,.sl p.defs.length (z6 p.defs)),(8,int p.defs.length),(9,int i)]) (fun i=>[.box (zP p),.row false 155 9 ((p.defs.take i).filterMap yD).length (yW ((p.defs.take i).filterMap yD))])
  (fun i=>i<=p.defs.length) (fun i=>p.defs.length-i) 0 (by simp)
  ((qS (t:=3) (by simp) 155 9).trans (mu [0,1] 0 (by rfl) (by simp[hP]))) ?_
 intro i hi;have hln:=hlen i;by_cases h:i<p.defs.length
 .have hw:=jZ i (by omega);have hts:p.defs.take (i+1)=p.defs.take i++[p.defs[i]]:=jA6 h;generalize hE:(p.defs.take i).filterMap yD=E at *
  have hE':(p.defs.take (i+1)).filterMap yD=E++(yD p.defs[i]).toList:=by rw[hts,List.filterMap_append,hE];cases h:yD p.defs[i]<;>simp[List.filterMap_cons,h]
  simp[hP,h,yG h];generalize hd:p.defs[i]=d at *
  by_cases hk:d.kind=5
  .match hsl:d.slots with
   |[s] =>
    have hcs:jS [s]=j8 s:=by simp[jS]
    by_cases h3:s.typ.k=3
    .by_cases h4:d.res.k=3
     .have hed:yD d=some ⟨d.id,s.typ.id,d.res.id⟩:=by simp[yD,hk,hsl,h3,h4]
      rw[hed]at hE';simp[zJ,hk,hsl,hcs,j8,h3,h4];exact fun _=>⟨⟨by simp[maxLen];omega,by omega⟩,zO (i+1) h (by omega) (mu [0,1] 0 (by rfl) (by simp[hP,hE',zE0,sK,dT,hw]))⟩
     .have hed:yD d=none:=by simp[yD,hk,hsl,h4]
      rw[hed]at hE';simp[zJ,hk,hsl,hcs,j8,h3,h4]
      first|exact fun _=>zO (i+1) h (by omega) (mu [0,1] 0 (by rfl) (by simp[hP,hE',hw]))|exact zO (i+1) h (by omega) (mu [0,1] 0 (by rfl) (by simp[hP,hE',hw]))
    .have hed:yD d=none:=by simp[yD,hk,hsl,h3]
     rw[hed]at hE';simp[zJ,hk,hsl,hcs,j8,h3]
     first|exact fun _=>zO (i+1) h (by omega) (mu [0,1] 0 (by rfl) (by simp[hP,hE',hw]))|exact zO (i+1) h (by omega) (mu [0,1] 0 (by rfl) (by simp[hP,hE',hw]))
   |[] =>
    have hed:yD d=none:=by simp[yD,hsl]
    rw[hed]at hE';simp[zJ,hk,hsl]
    first|exact fun _=>zO (i+1) h (by omega) (mu [0,1] 0 (by rfl) (by simp[hP,hE',hw]))|exact zO (i+1) h (by omega) (mu [0,1] 0 (by rfl) (by simp[hP,hE',hw]))
   |s::s'::l =>
    have hed:yD d=none:=by simp[yD,hsl]
    rw[hed]at hE';have h1:¬((l.length:Int)+1+1=1):=by omega
    simp[zJ,hk,hsl,h1]
    first|exact fun _=>zO (i+1) h (by omega) (mu [0,1] 0 (by rfl) (by simp[hP,hE',hw]))|exact zO (i+1) h (by omega) (mu [0,1] 0 (by rfl) (by simp[hP,hE',hw]))
  .have hed:yD d=none:=by simp[yD,hk]
   rw[hed]at hE';simp[zJ,hk];exact zO (i+1) h (by omega) (mu [0,1] 0 (by rfl) (by simp[hP,hE',hw]))
 .have hi':i=p.defs.length:=by omega
  subst hi';have hE:(p.defs.take p.defs.length).filterMap yD=iF p:=by rw[jAt];rfl
  rw[hE];have hle:(iF p).length<=100:=by have:=jDe yD p.defs;unfold iF;omega
  obtain⟨g1,g2⟩:=zEB hf;simp[hP];refine mn (zTt g1 (by omega)) [1] (by simp) ?_;simp[hP];rw[m7 hf,show (iF p).length=(yA p).length by rw[<-m7 hf];exact(gQ _).length_eq.symm];exact zA 1 (by simp)
end Go.Proofs.YtdnelmeboihpkaaGreatDoor
namespace Go.Proofs.YtdnelmeboihpkaaGreatDoor
open Go.Abs
def mrk(l:wF):List (wB×A):=l.map fun x=>(zAI x,.lit (.bool true))
theorem zFj{x y:Id}:zAI x=zAI y↔x=y:=by simp[zAI,Id.eq_iff]
theorem zGO(x:Id):∀l:wF,fU (zAI x) (mrk l)=if x∈l then some (.lit (.bool true))else none
 |[]=>rfl
 |y::l=>by
  have ih:=zGO x l;simp only[mrk,jAg,fU]at ih ⊢;by_cases h:y=x
  .subst h;simp
  .rw[if_neg fun e=>h (zFj.1 e),ih];simp[Ne.symm h]
theorem zF4(x:Id):∀l:wF,x∉l->putI (zAI x) (.lit (.bool true)) (mrk l)=mrk (l++[x])
 |[],_=>rfl
 |y::l,h=>by simp only[jA3,not_or]at h;have ih:=zF4 x l h.2;simp only[mrk,jAg,putI,jBj]at ih ⊢;rw[if_neg fun e=>h.1 (zFj.1 e).symm,ih]
theorem zJy(x:Id):∀l:wF,x∉l->zCy (zAI x) (mrk (l++[x]))=mrk l
 |[],_=>by simp[mrk,zCy]
 |y::l,h=>by simp only[jA3,not_or]at h;have ih:=zJy x l h.2;simp only[mrk,jAg,zCy,jBj]at ih ⊢;rw[if_neg fun e=>h.1 (zFj.1 e).symm,ih]
theorem zER(x:Id)(l:wF):s7 (Value.bool false) false (fU [x.a,x.b,x.c] (mrk l))=.lit (.bool (decide (x∈l))):=by have hf:=zGO x l;simp only[zAI]at hf;rw[hf];by_cases h:x∈l<;>simp[s7,h,tN,jN]
@[simp]theorem qN6{rf g}(l:wF):(mrk l).map (fun p=>(p.1,vw rf g p.2))=mrk l:=by unfold mrk;rw[jCg];exact jC6 fun x _=>by simp
theorem zEo{marked:wF}{x:Id}:∀(l:wU) (M:wF),(pU marked x l M).length<=M.length+l.length
 |[],M=>by simp[pU]
 |e::l,M=>by
  simp only[pU,jAb];split
  .have:=zEo (marked:=marked) (x:=x) l (M++[e.to]);simp only[jA5,jAz]at this;omega
  .have:=zEo (marked:=marked) (x:=x) l M;omega
def zVV:K:=G [kO 5 1,kO 6 2,kMb 8 false] (G [⟨none,.mop (some 14) (.mk 3) []⟩,J 15 5 3,⟨none,.mop none (.set 3) [(kt 14),(kt 15),(.const (.bool true))]⟩,M 16 14,M 9 16] (G [J 17 5 3,⟨none,.brow (some 18) 31 3 1 [ki,ki,ki] [(0,3,(kt 17))]⟩,M 10 18] (Z (K.block 0 (K.loop (Z (G [M 19 10,kN 20 19,kBi 21 20 0 .gtr] (Y 21 ks (K.exit 0))) (K.block 1 (G [M 22 10,kXi 23 22 3 0,J 24 23 3,kZ 11 [ki,ki,ki],S 11 24 3] (G [M 25 10,⟨none,.rslc (some 26) (kt 25) 3 (some (kc 1)) none⟩,M 10 26] (Z (G [J 27 11 3,J 28 6 3,⟨none,.eqs (some 29) false [.i,.i,.i] (kt 27) (kt 28)⟩] (Y 29 (G [kMb 8 true] kr) ks)) (G [M 30 0,kN 31 30,kMi 32 0] (K.block 2 (K.loop (G [kB 33 32 31 .lss] (Z (Y 33 ks (K.exit 2)) (Z (K.block 3 (G [kX 34 30 32 9,J 35 34 9,kZ 13 [ki,ki,ki,ki,ki,ki,ki,ki,ki],S 13 35 9] (G [D 36 13 3,J 37 36 3,J 38 11 3,⟨none,.eqs (some 39) false [.i,.i,.i] (kt 37) (kt 38)⟩,M 40 39,T 40 true (M 41 9),T 40 true (D 42 13 6),T 40 true (J 43 42 3),⟨some (40,true),.mop (some 44) (.get 3 (.bool false) false) [(kt 41),(kt 43)]⟩,T 40 true (kR 45 44),kPf 46 40 45,M 47 46,T 47 true (M 48 3),T 47 true (D 49 13 6),T 47 true (J 50 49 3),⟨some (47,true),.mop (some 51) (.get 3 (.bool false) false) [(kt 48),(kt 50)]⟩,T 47 true (kR 52 51),kPf 53 47 52] (Y 53 (G [M 54 9,D 55 13 6,J 56 55 3,⟨none,.mop none (.set 3) [(kt 54),(kt 56),(.const (.bool true))]⟩] (K.ops [M 57 10,D 58 13 6,J 59 58 3,kd 60 31 3 1 [ki,ki,ki] [(0,3,(kt 59))],⟨none,.apq (some 61) 31 3 24 (kt 57) (kt 60)⟩,M 10 61])) ks)))) (K.ops [kBi 62 32 1 .add,
 M 32 62])))))))))))))) (G [kMb 8 false] kr))))
theorem qEy:kw Tryz.f101 zVV:=my (by kernel_rfl)
open Classical in
theorem zMN(L:wU)(hL:L.length<=1000)(fro to:Id)(marked:wF)(fr:Bool) :
 mv 101 [.sl L.length (yW L),.agg (zK fro),.agg (zK to),.map 0] [.mp fr 3 (mrk marked)] (bl (decide (Rchs L to marked fro))) [.mp fr 3 (mrk marked)]:=by
 refine zH Tryz.func101 rfl qEy (rs:=[.slot 8]) (by kernel_rfl) ?_;unfold zVV;have hm1:putI [fro.a,fro.b,fro.c] (.lit (.bool true)) []=mrk [fro]:=rfl;simp -implicitDefEqProofs [zK,hm1];refine qK (S:=wF×wF×wF) (fun s=>[(0,.sl L.length (yW L)),(3,.map 0),(5,.ptr 1 0),(6,.ptr 2 0),(8,bl false),(9,.map 3),(10,.win 4 (s.1.length+s.2.2.length) (s.1.length*3) s.2.2.length 3)])
  (fun s=>[.mp fr 3 (mrk marked),.box (zK fro),.box (zK to),.mp true 3 (mrk (s.2.1++s.2.2)),.row false 31 3 (s.1.length+s.2.2.length) (zT (s.1++s.2.2))])
  (fun s=>Bfs L to marked fro (s.2.1++s.2.2) s.2.1.length/\s.1.length<=s.2.1.length) (fun s=>L.length+1-s.2.1.length) ([],[],[fro]) ⟨Bfs.start L to marked fro,by simp⟩ ?_ ?_
 .refine(zTI (t:=10) (l:=4) (m:=1) (sz:=3) (by simp) rfl).trans (mu [0,1,2,3,4] 0 (by rfl) (by simp[zK]))
 rintro⟨junk,dn,live⟩ ⟨hb,hj⟩;simp only at hb hj;have hM:=hb.len;rw[jA5]at hM
 match hlive:live with
 |[] =>
  have hno:=hb.no (by simp);simp -implicitDefEqProofs;exact mr [0] 0 (by rfl) (by simp[hno])
 |x::rest =>
  have hpos:(0:Int)<(rest.length:Int)+1:=by omega
  have hlt:junk.length*3+3<=(junk.length+(rest.length+1))*3:=by omega
  have hk:dn.length<(dn++x::rest).length:=by simp
  have hx:(dn++x::rest)[dn.length]=x:=by simp
  have hdr:(zT (junk++x::rest)).drop (junk.length*3)=zK x++zT rest:=by rw[sL,List.drop_left,gE];rfl
  simp only[jAb]at hM;by_cases hto:x=to
  .have hyes:=hb.yes hk (hx.trans hto);subst hto;simp -implicitDefEqProofs [hpos,hdr,zK,hlt];exact⟨by omega,mr [0] 0 (by rfl) (by simp[hyes])⟩
  .have hnx:=hb.next hk (by rw[hx];exact hto);rw[hx]at hnx;simp -implicitDefEqProofs [hpos,hdr,zK,hlt,hto];refine⟨by omega,fun _=>?_⟩;have hsh:junk.length+1+rest.length=junk.length+(rest.length+1):=by omega
   refine qK (S:=Nat×wF×wF) (fun s=>[(0,.sl L.length (yW L)),(3,.map 0),(5,.ptr 1 0),(6,.ptr 2 0),(8,bl false),(9,.map 3),(10,.win 4 (s.2.1.length+s.2.2.length) (s.2.1.length*3) s.2.2.length 3),(11,.ptr 5 0),(30,.sl L.length (yW L)),(31,int L.length),(32,int s.1)])
    (fun s=>[.mp fr 3 (mrk marked),.box (zK fro),.box (zK to),.mp true 3 (mrk (dn++x::s.2.2)),.row false 31 3 (s.2.1.length+s.2.2.length) (zT (s.2.1++s.2.2)),.box (zK x)])
    (fun s=>s.1<=L.length/\pU marked x (L.take s.1) (dn++x::rest)=dn++x::s.2.2/\s.2.1.length<=dn.length+1) (fun s=>L.length-s.1) (0,junk++[x],rest) ⟨by simp,by simp[pU],by simp;omega⟩
    (mu [0,1,2,3,4,5] 0 (by rfl) (by simp[zK,hsh,jB2])) ?_
   rintro⟨j,jk,lv⟩ ⟨hjl,hN,hjk⟩;simp only at hjl hN hjk;have hlen:=zEo (marked:=marked) (x:=x) (L.take j) (dn++x::rest);rw[hN]at hlen;simp only[jA5,jAb,jAs]at hlen;by_cases h:j<L.length
   .have hw:=jZ j (by omega);have hsn:=zG2 marked x L[j] (L.take j) (dn++x::rest);rw[<-jA6 h,hN]at hsn;have hg1:=zER L[j].to (dn++x::lv);have hg2:=zER L[j].to marked;have hput:=zF4 L[j].to (dn++x::lv);have hMj:dn++x::(lv++[L[j].to])=dn++x::lv++[L[j].to]:=by simp
    have hcs:zT (lv++[L[j].to])=zT lv++zK L[j].to:=by rw[yK];rfl
    have hdl:(zT (jk++lv)).drop (jk.length*3)=zT lv:=by rw[sL,List.drop_left]
    simp only[zAI]at hput;generalize hM0:dn++x::lv=Mj at *
    by_cases c1:L[j].fro=x
    .by_cases c2:L[j].to∈Mj
     .rw[if_neg (by simp[c2])]at hsn;simp -implicitDefEqProofs [h,eN h,dT,zK,c1,hg1,c2];exact zO (j+1,jk,lv) ⟨h,by rw[hsn,hM0],hjk⟩ (by simp only;omega) (mu [0,1,2,3,4,5] 0 (by rfl) (by simp[zK,hM0,hw]))
     .by_cases c3:L[j].to∈marked
      .rw[if_neg (by simp[c3])]at hsn;simp -implicitDefEqProofs [h,eN h,dT,zK,c1,hg1,c2,hg2,c3];exact zO (j+1,jk,lv) ⟨h,by rw[hsn,hM0],hjk⟩ (by simp only;omega) (mu [0,1,2,3,4,5] 0 (by rfl) (by simp[zK,hM0,hw]))
      .rw[if_pos ⟨c1,c2,c3⟩]at hsn;simp -implicitDefEqProofs [h,eN h,dT,zK,c1,hg1,c2,hg2,c3,hput c2];refine⟨?_,?_,?_⟩
       .exact⟨rfl,by omega,rfl,rfl,rfl,rfl,by omega,by simp[maxLen];omega,by omega⟩
       .exact zO (j+1,jk,lv++[L[j].to]) ⟨h,by rw[hsn,hMj],hjk⟩ (by simp only;omega) (mu [0,1,2,3,4,5] 0 (by rfl) (by simp[zK,hMj,yK,jAq,hw]))
       .exact zO (j+1,[],lv++[L[j].to]) ⟨h,by rw[hsn,hMj],by simp⟩ (by simp only;omega) (mu [0,1,2,3,7,5] 0 (by rfl) (by simp[zK,hMj,hdl,yK,hw]))
    .rw[if_neg (by simp[c1])]at hsn;simp -implicitDefEqProofs [h,eN h,dT,zK,c1];exact zO (j+1,jk,lv) ⟨h,by rw[hsn,hM0],hjk⟩ (by simp only;omega) (mu [0,1,2,3,4,5] 0 (by rfl) (by simp[zK,hM0,hw]))
   .have hjl':j=L.length:=by omega
    subst hjl';rw[jAt]at hN;rw[hN]at hnx;simp -implicitDefEqProofs;exact zO (jk,dn++[x],lv) ⟨by simpa using hnx,by simpa using hjk⟩ (by simp only[jA5,jAz];omega) (mu [0,1,2,3,4] 0 (by rfl) (by simp[zK]))
end Go.Proofs.YtdnelmeboihpkaaGreatDoor
namespace Go.Abs
section
variable{P:Program}{env:Env}{d:wC} {U:St}
theorem zND{K:wK}{f:FuncId}{args args':wE}{r:A}{s0 s1:St}(h:Ret P f args s0 r (s0++s1))(js:wA)(hjs:js.Nodup)(hlen:s0.length=js.length)(ho:aB U j9 (qR js) js s0)(ha:dS js args' args)
 (hput:jF U js (s0.map (cP js U.length)) = U)(hq:K (env.put d (ren js U.length r)) (U++s1.map (cP js U.length))):zCh P U d K f args' env :=
 ⟨_,_,bF.append _ _,cS h js hjs ho ha ⟨rfl,by
  have:=zAN (js:=js) (ks:=[]) (s:=U) (a:=s0.map (cP js U.length)) (b:=s1.map (cP js U.length)) (by simpa using hlen);rw[jBa,hput]at this;rw[jBs,this,jF]⟩,hq⟩
end
end Go.Abs
namespace Go.Proofs.YtdnelmeboihpkaaGreatDoor
open Go.Abs
theorem zJv(l:wF)(h:l≠[])(hb:l.length<=1000000):mv 100 [.row 0 l.length] [.row false 31 3 l.length (zT l)] (.row 1 l.length) ([.row false 31 3 l.length (zT l)]++[.row false 31 3 l.length (zT l)]):=by
 refine zH Tryz.func100 rfl zRc (rs:=[.slot 2]) (by kernel_rfl) ?_;unfold zLv;have h0:l.length≠0:=by simpa using h
 simp[h,h0,zP1];refine⟨⟨by simp[maxLen];omega,by omega⟩,?_⟩;exact mr [0,1] 0 (by rfl) (by simp)
theorem zHZ:mv 100 [.row 0 0] [.row false 31 3 0 []] (.sl 0 []) ([.row false 31 3 0 []]++[]):=by refine zH Tryz.func100 rfl zRc (rs:=[.slot 2]) (by kernel_rfl) ?_;unfold zLv;simp[zP1];exact⟨mr [0] 0 (by rfl) (by simp),mr [0] 0 (by rfl) (by simp)⟩
@[simp]theorem zEw:∀(l:wF) (k:Nat),eJ k (zT l)=true
 |[],_=>rfl
 |d::l,k=>by rw[gE];simp[zEw l k]
def zAq(L:wU)(to:Id)(n:Nat)(at_:Id)(met:wF)(e:Edg):List wF:=if e.fro=at_/\e.to∉met then (yY L to n e.to (met++[e.to])).map (e.id::·)else []
variable{to:Id}{met:wF}
theorem zLV{L:wU}{n:Nat}{at_:Id}(h:at_≠to)(hn:rN L met<=n):yY L to n at_ met=L.flatMap (zAq L to (n-1) at_ met):=by
 cases n with
 |zero =>
  unfold yY;rw[if_neg h];symm;rw[List.flatMap_eq_nil_iff];intro e he;unfold zAq;rw[if_neg];rintro⟨_,h'⟩;have:=iI he h';omega
 |succ n =>
  unfold yY;rw[if_neg h];rfl
theorem zPK{L:wU}{n:Nat}{at_:Id}{e:Edg}(he:e∈L)(hn:rN L met<=n)(h:e.fro≠at_\/e.to∈met\/¬Rchs L to met e.to):zAq L to (n-1) at_ met e=[]:=by
 unfold zAq;by_cases hc:e.fro=at_/\e.to∉met
 .rw[if_pos hc];rcases h with h|h|h
  .exact(h hc.1).elim
  .exact(hc.2 h).elim
  .have hlt:=iI he hc.2;have:=zEH (n-1) e.to (met++[e.to]) (L:=L) (to:=to) (by omega);rw[List.map_eq_nil_iff];refine Decidable.byContradiction fun h0=>h ?_
   exact(this.1 h0).mono fun x hx=>jBk _ hx
 .rw[if_neg hc]
def zVY:K:=K.wk (G [kO 7 0,kMb 8 false] (Z (G [J 12 7 3,J 13 1 3,⟨none,.eqs (some 14) false [.i,.i,.i] (kt 12) (kt 13)⟩] (Y 14 (Z (K.dops [(0,1,L 15 2 1),(1,1,L 16 3 1),(2,3,kC 17 100 [(kt 16)]),(3,4,⟨none,.call (some 18) (kt 15) [(kt 17)]⟩),(4,0,M 8 18)]) kr) ks)) (Z (G [L 19 4 1,kN 20 19,kMi 21 0] (K.block 0 (K.loop (G [kB 22 21 20 .lss] (Z (Y 22 ks (K.exit 0)) (Z (K.block 1 (G [kX 23 19 21 9,J 24 23 9,kZ 10 [ki,ki,ki,ki,ki,ki,ki,ki,ki],S 10 24 9] (Z (G [D 25 10 3,J 26 25 3,J 27 7 3,⟨none,.eqs (some 28) true [.i,.i,.i] (kt 26) (kt 27)⟩,M 29 28,T 29 false (L 30 5 1),T 29 false (D 31 10 6),T 29 false (J 32 31 3),⟨some (29,false),.mop (some 33) (.get 3 (.bool false) false) [(kt 30),(kt 32)]⟩,kPt 34 29 33,M 35 34,T 35 false (L 36 4 1),T 35 false (D 37 10 6),T 35 false (J 38 37 3),T 35 false (J 39 1 3),T 35 false (L 40 5 1),T 35 false (kC 41 101 [(kt 36),(kt 38),(kt 39),(kt 40)]),T 35 false (kR 42 41),kPt 43 35 42] (Y 43 (K.exit 1) ks)) (G [L 44 5 1,D 45 10 6,J 46 45 3,⟨none,.mop none (.set 3) [(kt 44),(kt 46),(.const (.bool true))]⟩] (G [L 47 3 1,D 48 10 0,J 49 48 3,kd 50 31 3 1 [ki,ki,ki] [(0,3,(kt 49))],kP 51 31 3 24 47 50,S 3 51 1] (G [L 52 6 1,D 53 10 6,J 54 53 3,⟨none,.call (some 55) (kt 52) [(kt 54)]⟩,M 11 55] (G [L 56 3 1,L 57 3 1,kN 58 57,kBi 59 58 1 .sub,⟨none,.shr (some 60) (kt 56) 3 (kt 59)⟩,S 3 60 1] (G [L 61 5 1,D 62 10 6,J 63 62 3,⟨none,.mop none (.del 3) [(kt 61),(kt 63)]⟩] (G [M 64 11,kR 65 64] (Y 65 (G [kMb 8 false] kr) ks)))))))))) (K.ops [kBi 66 21 1 .add,
 M 21 66]))))))) (G [kMb 8 true] kr))))
def qFS:Nat->Option wD:=fun|2=>k_ [1,1,3,4,0]|_=>none
theorem qE1:kv Tryz.f99 qFS zVY:=mw (by kernel_rfl)
@[simp]theorem zUi:zC Tryz.prog 99=true:=by kernel_rfl
def nR(b m:Nat)(L:wU)(to:Id)(fr:Bool)(met:wF)(l n:Nat):St :=
 [.box [yv b],.box [.sl L.length (yW L)],.mp fr 3 (mrk met),.box [.map (m+2)],.box [.row (m+l) n],.box [.clo 99 [] [.rptr (zK to),.ptr m 0,.ptr (m+4) 0,.ptr (m+1) 0,.ptr (m+3) 0,.ptr (m+5) 0]]]
def zG1(b m:Nat)(L:wU)(to:Id)(fr:Bool)(met path:wF):St:=nR b m L to fr met 6 path.length++[AObj.row false 31 3 path.length (zT path)]
def zDU(b m:Nat)(L:wU)(to:Id)(met path:wF):St:=nR b m L to false met 7 path.length++[AObj.dead,AObj.row false 31 3 path.length (zT path)]
theorem zTH{n0 b m:Nat}{L:wU}{fr:Bool}{path:wF}{S:St}(hS:S.length=m){env:Env}:b9 n0 env (S++zDU b m L to met path) env (S++zG1 b m L to fr met path):=by
 have h1:=zVF (n0:=n0) (env:=env) (U:=S++zG1 b m L to fr met path) (j:=m+4) (o:=0) (l:=m+6) (n:=path.length) (sz:=3) (e:=31) (ds:=[.row (m+6) path.length]) (cs:=zT path)
  (by rw[aR hS];rfl) rfl (by rw[aR hS];rfl)
 have e1:((S++zG1 b m L to fr met path).set (m+6) .dead).set (m+4) (.box ([A.row (m+6) path.length].set 0 (.row (S++zG1 b m L to fr met path).length path.length)))++[AObj.row false 31 3 path.length (zT path)] =
  S++(nR b m L to fr met 7 path.length++[AObj.dead,AObj.row false 31 3 path.length (zT path)]):=by
  rw[cZ hS,cZ hS,jAu,jA5,hS];simp[zG1,nR]
 rw[e1]at h1;have h2:=zFZ (n0:=n0) (env:=env) (U:=S++(nR b m L to fr met 7 path.length++[AObj.dead,AObj.row false 31 3 path.length (zT path)])) (l:=m+2) (nk:=3) (fr:=fr) (es:=mrk met) (by rw[aR hS];rfl);have e2:(S++(nR b m L to fr met 7 path.length++[AObj.dead,AObj.row false 31 3 path.length (zT path)])).set (m+2) (.mp false 3 (mrk met))=S++zDU b m L to met path:=by rw[cZ hS];simp[zDU,nR]
 rw[e2]at h2;exact h1.trans h2
def zEk(m:Nat)(at_ to:Id):wE:=[.agg (zK at_),.rptr (zK to),.ptr m 0,.ptr (m+4) 0,.ptr (m+1) 0,.ptr (m+3) 0,.ptr (m+5) 0]
theorem zPR{L:wU}(hL:L.length<=1000)(to:Id)(b m:Nat)(T:Nat->St)(X:List wE)(hT:∀i,i<=X.length->Cl m (T i))
 (hY:∀i (h:i<X.length),lD Tryz.prog b X[i] (T i) fun o τ=>o=.ret (.lit (.bool true))/\τ = T (i+1)) :
 ∀(n:Nat) (at_:Id) (met path:wF) (fr:Bool) (i:Nat),rN L met<=n->path.length+n<=2000->i+(yY L to n at_ met).length<=X.length ->
  (∀q (hq:q<(yY L to n at_ met).length) (h:i+q<X.length),X[i+q]=[.sl (path++(yY L to n at_ met)[q]).length (zT (path++(yY L to n at_ met)[q]))]) ->
  mv 99 (zEk m at_ to) (T i++zG1 b m L to fr met path) (bl true) (T (i+(yY L to n at_ met).length)++zDU b m L to met path):=by
 intro n;induction n using Nat.strongRecOn with
 |ind n ih =>
 intro at_ met path fr i hn hpn hi hX
 have hTi:=hT i (by omega);have hTe:=hT (i+(yY L to n at_ met).length) hi;have hlen0:(T i++zG1 b m L to fr met path).length=m+7:=by rw[jA5,hTi.1];simp[zG1,nR]
 refine zN Tryz.func99 rfl qE1 (rs:=[.slot 8]) (by kernel_rfl) ?_;unfold zVY;rw[qA7,hlen0];rw[qA8];refine⟨_,_,zTH hTi.1,?_⟩;unfold zEk;simp[zDU,nR,hTi.1,aR hTi.1,a8 hTi.1,zK];by_cases hat:at_=to
 .have hE:yY L to n at_ met=[[]]:=by subst hat;cases n<;>simp[yY]
  subst hat;rw[hE]at hX hTe hi;simp only[jAz]at hX hTe hi;have hyi:=hY i (by omega);have hXi:=hX 0 (by omega) (by omega);simp only[jC7,jCz,jBa]at hXi;rw[hXi]at hyi;rw[hE,jAz];simp[hTi.1,aR hTi.1,a8 hTi.1,zBk];by_cases hp:path=[]
  .subst hp;refine zND zHZ [m+7] (by simp) rfl (by simp[aR hTi.1]) (by simp) (by simp[cZ hTi.1]) ?_;simp[hTi.1,aR hTi.1,a8 hTi.1];refine⟨_,_,zCq hTi hTe hyi (by simp) ⟨rfl,rfl⟩,?_⟩;exact zCY (own':=zDU b m L at_ met []) hTe rfl [0,1,2,3,4,5,6,7] 0 (by decide) (by decide) (by simp[zDU,nR,zK]) (by simp)
  .refine zND (zJv path hp (by omega)) [m+7] (by simp) rfl (by simp[aR hTi.1]) (by simp) (by simp[cZ hTi.1]) ?_;simp[hTi.1,aR hTi.1,a8 hTi.1];refine exY (k:=9) rfl hTi hTe (zEw path 0) hyi ?_;simp;exact zCY (own':=zDU b m L at_ met path) hTe rfl [0,1,2,3,4,5,6,7] 0 (by decide) (by decide) (by simp[zDU,nR,zK]) (by simp)
 .have hE:=zLV (L:=L) (n:=n) (met:=met) hat hn;generalize hEE:yY L to n at_ met=E at *
  have hspl:∀j,E=(L.take j).flatMap (zAq L to (n-1) at_ met)++(L.drop j).flatMap (zAq L to (n-1) at_ met):=fun j=>by rw[<-jBr,jC1];exact hE
  obtain⟨cnt,hcd⟩:∃cnt:Nat->Nat,∀j,cnt j=((L.take j).flatMap (zAq L to (n-1) at_ met)).length:=⟨_,fun _=>rfl⟩;have hcnt:∀j,cnt j<=E.length:=fun j=>by rw[hcd,hspl j,jA5];omega
  have hc0:cnt 0=0:=by rw[hcd];simp
  have hcL:cnt L.length=E.length:=by rw[hcd,jAt,hE]
  simp[hTi.1,aR hTi.1,a8 hTi.1,hat];intro hlm;refine qK (S:=Nat) (fun j=>[(1,.rptr (zK to)),(2,.ptr m 0),(3,.ptr (m+4) 0),(4,.ptr (m+1) 0),(5,.ptr (m+3) 0),(6,.ptr (m+5) 0),(7,.ptr (m+8) 0),(19,.sl L.length (yW L)),(20,int L.length),(21,int j)])
   (fun j=>T (i+cnt j)++(nR b m L to false met 7 path.length++[AObj.dead,AObj.row false 31 3 path.length (zT path),AObj.box (zK at_)]))
   (fun j=>j<=L.length) (fun j=>L.length-j) 0 (by simp) ?_ ?_
  .rw[hc0];exact zHC hTi rfl [0,1,2,3,4,5,6,7,8] 0 (by decide) (by decide) (by simp[nR,zK]) (by simp[zK])
  intro j hj;have hTj:=hT (i+cnt j) (by have:=hcnt j;omega);by_cases h:j<L.length
  .have hw:=jZ j (by omega);have hel:L[j]∈L:=jA0 h;have hsucc:cnt (j+1)=cnt j+(zAq L to (n-1) at_ met L[j]).length:=by rw[hcd,hcd,jA6 h,jBr,List.flatMap_singleton,jA5]
   have hle:=hcnt (j+1);have hg:=zER L[j].to met;have hnone:=zPK (L:=L) (to:=to) (at_:=at_) (met:=met) hel hn;by_cases c1:L[j].fro=at_
   .by_cases c2:L[j].to∈met
    .rw[hnone (.inr (.inl c2)),jBe,jC7]at hsucc;simp[nR,hTj.1,aR hTj.1,a8 hTj.1,cZ hTj.1,h,eN h,dT,zK,c1,c2,hg];refine zO (j+1) h (by omega) ?_;rw[hsucc];exact zHC hTj rfl [0,1,2,3,4,5,6,7,8] 0 (by decide) (by decide) (by simp[nR,zK]) (by simp[zK,hw])
    .simp[nR,hTj.1,aR hTj.1,a8 hTj.1,cZ hTj.1,h,eN h,dT,zK,c1,c2,hg];refine zW (zMN L hL L[j].to to met false) [m+2] (by simp) (by simp[aR hTj.1]) (by simp[zK]) ?_;simp[hTj.1,aR hTj.1,a8 hTj.1,cZ hTj.1];by_cases c3:Rchs L to met L[j].to
     .have hlt:=iI hel c2;have hpe:zAq L to (n-1) at_ met L[j]=(yY L to (n-1) L[j].to (met++[L[j].to])).map (L[j].id::·):=by rw[zAq,if_pos ⟨c1,c2⟩]
      have hput:=zF4 L[j].to met c2;have hdel:=zJy L[j].to met c2;simp only[zAI]at hput hdel;rw[hpe,jAe]at hsucc;have hsucc':i+cnt (j+1)=i+cnt j+(yY L to (n-1) L[j].to (met++[L[j].to])).length:=by omega
      have hcall:=ih (n-1) (by omega) L[j].to (met++[L[j].to]) (path++[L[j].id]) false (i+cnt j) (by omega) (by simp;omega) (by omega) (fun q hq hqx=>by
       have h2:cnt j+q<E.length:=by omega
       have:=hX (cnt j+q) h2 (by omega);have hEq:E[cnt j+q]=L[j].id::(yY L to (n-1) L[j].to (met++[L[j].to]))[q]:=by
        have h3:E[cnt j+q]?=some (L[j].id::(yY L to (n-1) L[j].to (met++[L[j].to]))[q]):=by rw[hspl j,jAy (by rw[<-hcd];omega),<-hcd,Nat.add_sub_cancel_left,jAo h,jB6,hpe,jAl (by simpa using hq),jC0,jA1 hq];rfl
        rw[jA1 h2]at h3;exact jB0 h3
       rw[hEq]at this
       simpa[jAq]using this)
      have hT1:=hT (i+cnt j+(yY L to (n-1) L[j].to (met++[L[j].to])).length) (by omega);simp[hTj.1,aR hTj.1,a8 hTj.1,cZ hTj.1,c3,hput];refine⟨⟨by simp[maxLen];omega,by omega⟩,?_⟩;have hcs:zT (path++[L[j].id])=zT path++[.lit (.int .i64 L[j].id.a),.lit (.int .i64 L[j].id.b),.lit (.int .i64 L[j].id.c)]:=by rw[yK];rfl
      have htk:(zT path++[A.lit (.int .i64 L[j].id.a),.lit (.int .i64 L[j].id.b),.lit (.int .i64 L[j].id.c)]).take (path.length*3)=zT path:=by rw[jC (by simp)];exact jA9 (by simp)
      refine zRk hTj hT1 hcall [0,1,2,3,4,5,7] (by decide) (by simp[zG1,nR,zK,hcs]) (by simp[zEk,zK]) ?_;have hwp:IntKind.i64.wrap (path.length:Int)=path.length:=IntWalk.i64_in _ (by omega);simp[zDU,nR,zK,hcs,hT1.1,aR hT1.1,a8 hT1.1,cZ hT1.1,hdel,hwp,htk];refine⟨by omega,?_⟩;refine zO (j+1) h (by omega) ?_;rw[hsucc'];exact zHC hT1 rfl [0,1,2,3,4,5,6,11,8] 0 (by decide) (by decide) (by simp[nR,zK]) (by simp[zK,hw])
     .rw[hnone (.inr (.inr c3)),jBe,jC7]at hsucc;simp[c3];refine zO (j+1) h (by omega) ?_;rw[hsucc];exact zHC hTj rfl [0,1,2,3,4,5,6,7,8] 0 (by decide) (by decide) (by simp[nR,zK]) (by simp[zK,hw])
   .rw[hnone (.inl c1),jBe,jC7]at hsucc;simp[nR,hTj.1,aR hTj.1,a8 hTj.1,cZ hTj.1,h,eN h,dT,zK,c1];refine zO (j+1) h (by omega) ?_;rw[hsucc];exact zHC hTj rfl [0,1,2,3,4,5,6,7,8] 0 (by decide) (by decide) (by simp[nR,zK]) (by simp[zK,hw])
  .have hj':j=L.length:=by omega
   subst hj';rw[hcL]at hTj ⊢;simp[hTj.1,aR hTj.1,a8 hTj.1];exact zCY (own':=zDU b m L to met path) hTe rfl [0,1,2,3,4,5,6,7] 0 (by decide) (by decide) (by simp[zDU,nR,zK]) (by simp)
end Go.Proofs.YtdnelmeboihpkaaGreatDoor
