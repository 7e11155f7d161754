/- The reference tracer's Call returns what the program's does. -/
import Derived.Test.YtdnelmeboihpkaaGreatDoorX18
set_option linter.unusedVariables false
set_option maxHeartbeats 8000000
set_option maxRecDepth 100000
set_option linter.unusedSimpArgs false
namespace Go.Proofs.YtdnelmeboihpkaaGreatDoor
open Go.Abs
theorem zVp(p:Prg)(d:Dfn)(vs:wI)(fuel:Int):Fl (mQ p d vs fuel).2:=zIK (zKd 2 fuel.toNat) d vs _ (.inl rfl)
end Go.Proofs.YtdnelmeboihpkaaGreatDoor
namespace Go.Proofs.YtdnelmeboihpkaaGreatDoor
open Go Go.Abs
section
variable{p:Prg}{F:Int}{d:Dfn}{us:wI}{s:XS}{r:Val×XS}
theorem zRh(hb:RP 72 [.ptr 0 0,.agg (zK d),.sl us.length (zR us)] p F s (.agg (zC r.1)) r.2)(hf:r.2.fail=0) :
 my 71 [.ptr 0 0,.ptr 1 0,.ptr 2 0] (eS p F s++dA d us) (.agg (zC r.1)) (eS p F r.2++dA d us):=by
 have hP:=eP p;refine zI Tryz.func71 rfl qEn (rs:=[.cell 4 3 true]) (by kernel_rfl) ?_
 (conv in zX9=>cbv)
 simp[eS,hP];refine mr (hb.ret hf) [0] (by simp[eS,hP]) ?_;simp[eS,hP,zC];exact mv [0,1,2] 0 (by rfl) (by simp[zC])
theorem zRg(hb:RP 72 [.ptr 0 0,.agg (zK d),.sl us.length (zR us)] p F s (.agg (zC r.1)) r.2)(hf:r.2.fail≠0) :
 aV Tryz.prog 71 [.ptr 0 0,.ptr 1 0,.ptr 2 0] (eS p F s++dA d us) fun o U'=>o=.pan (zJh r.2.fail)/\U'[1]?=some (.box (zK d))/\U'[2]?=some (.box [.sl us.length (zR us)]):=by
 have hP:=eP p;refine uJ Tryz.func71 rfl qEn (rs:=[.cell 4 3 true]) (by kernel_rfl) ?_
 (conv in zX9=>cbv);unfold wpF
 simp[eS,hP];refine zAW (hb.pan hf) [0] (by decide) (by simp[eS,hP]) (by simp) fun τ=>?_
 refine⟨rfl,?_,?_⟩
 .rw[lO (by simp) (by simp)];rfl
 .rw[lO (by simp) (by simp)];rfl
end
def qF7:Nat->Option wD:=fun|2=>k_ [0,0,0,0,0,0,0,0,2,2,0,0,0,0]|_=>none
def zGk(p:Prg)(id:Id):A:=.tup [.agg (zK ((jH p.defs id).getD .zero)),bl ((jH p.defs id).isSome&&fA ((jH p.defs id).getD .zero))]
theorem zRe(p:Prg)(id:Id):my 69 [.agg (zN p),.agg (zL id)] [] (zGk p id) []:=by
 have hP:=eP p;have hdf:=nO p id;unfold zGk;unfold bL at hdf;generalize (jH p.defs id).getD .zero=d at *
 generalize (jH p.defs id).isSome=b at *
 refine ml qF7 [14] [] [] [.cell 4 31 true,.slot 5] Tryz.func69 (by kernel_rfl) ?_
 (conv in kH _ _ _=>cbv)
 simp[hP,zL];refine mu hdf (by simp[zN,zL]) ?_;simp[zK];refine⟨_,_,zP (l:=[(4,.ptr 0 0),(6,.rptr (zK d)),(7,bl b)]) (U':=[.box (kz0.map jJ)]) [2] 1 (by simp) (by simp) (by simp) (by simp[zK]),?_⟩;cases b
 .simp[zK];exact zA 0 (by simp[zK])
 .by_cases h0:d.kind=0
  .simp[zK,h0];exact zA 0 (by simp[zK,h0,fA])
  .by_cases h1:d.kind=1
   .simp[zK,h0,h1];exact zA 0 (by simp[zK,h1,fA])
   .simp[zK,h0,h1];exact zA 0 (by simp[zK,h0,h1,fA])
def pX(p:Prg)(id:Id)(vs:wI)(fuel:Int):A:=match jH p.defs id with
 |none=>.tup [.agg (zC vz),int 0,int 6]
 |some d=>if fA d=false then .tup [.agg (zC vz),int 0,int 6]else if vs.length≠d.slots.length then .tup [.agg (zC vz),int 0,int 1]
  else if dF p (d.slots.map Slt.typ) vs=false then .tup [.agg (zC vz),int 0,int 1]else zIg fuel (rN p d vs fuel)
theorem zL6{p:Prg}{hs:wP}(hf:Fit p hs)(id:Id)(vs:wI){gas fuel:Int}(hG:fuel=max gas 0)(hfu:fuel<=90000)(hz:∀v∈vs,zZ v<=256/\j6 v<=24) :
 my 29 [.agg (zN p),.agg (zL id),.sl vs.length (zR vs),int gas] [] (pX p id vs fuel) []:=by
 have hP:=eP p;have hbo:=zRe p id;refine mq [] [.cell 8 3 true,.slot 9,.slot 10] Tryz.func29 (by kernel_rfl) ?_
 (conv in kq _ _=>cbv)
 simp[hP,zL];refine mu hbo (by simp[zN,zL,zGk]) ?_;cases hd:jH p.defs id with
 |none =>
  rw[show pX p id vs fuel=.tup [.agg (zC vz),int 0,int 6] by simp[pX,hd]];simp[zGk,hd,zK];exact zA 0 (by simp[zC,zX,zQ,zH])
 |some d =>
 have hdm:=(aN hd).1;obtain⟨s1,s6,_,snd,sty⟩:=hf.slots d hdm;cases hb:fA d with
 |false =>
  rw[show pX p id vs fuel=.tup [.agg (zC vz),int 0,int 6] by simp[pX,hd,hb]];simp[zGk,hd,hb,zK];exact zA 0 (by simp[zC,zX,zQ,zH])
 |true =>
 simp[zGk,hd,hb,zK];by_cases hl:vs.length=d.slots.length
 .have hfit:=fun i (hi:i<d.slots.length)=>zHr p d.slots[i].typ (vs[i]'(by omega)) (hz _ (jA0 _)).1 (hz _ (jA0 _)).2
  simp[hl];intro hls;refine qO (S:=Nat) (fun i=>[(3,int gas),(4,.ptr 0 0),(6,.ptr 2 0),(8,.ptr 3 0),(11,.ptr 4 0),(32,.sl d.slots.length (jN d.slots)),(33,int d.slots.length),(34,int i)])
   (fun i=>[.box (zN p),.box (zL id),.box [.sl vs.length (zR vs)],.box [int 0,int 0,.nil],.box (zK d)]) (fun i=>i<=d.slots.length/\∀j (hj:j<i) (hj':j<d.slots.length),aO p d.slots[j].typ (vs[j]'(by omega))=true) (fun i=>d.slots.length-i) 0 ⟨by omega,fun j hj=>by omega⟩
   (mw [0,1,2,3,4] 0 (by rfl) (by simp[hP,zK,zL,hl])) ?_
  rintro i ⟨hi,hft⟩;by_cases hil:i<d.slots.length
  .have hiv:i<vs.length:=by omega
   have hdr:=qW hil;have hdv:=qT hiv;have hfi:=hfit i hil;cases hfv:aO p d.slots[i].typ vs[i]with
   |false =>
    rw[hfv]at hfi;have hfl:dF p (d.slots.map Slt.typ) vs=false:=by
     cases hq:dF p (d.slots.map Slt.typ) vs with
     |false=>rfl
     |true =>
      have:=p7 hq i (by simpa using hil) hiv;rw[jAt,hfv]at this;cases this
    rw[show pX p id vs fuel=.tup [.agg (zC vz),int 0,int 1] by simp[pX,hd,hb,hl,hfl]];simp[hP,hil,hiv,hdr,hdv,j4,zK];refine qA hfi (by simp[hP,zB,zC]) (by simp) ?_;simp;exact zA 0 (by simp[zC,zX,zQ,zH])
   |true =>
    rw[hfv]at hfi;simp[hP,hil,hiv,hdr,hdv,j4,zK];refine qA hfi (by simp[hP,zB,zC]) (by simp) ?_;simp;refine zS (i+1) ⟨hil,fun j hj hj'=>?_⟩ (by omega) (mw [0,1,2,3,4] 0 (by rfl) (by simp[hP,zK,qF hil hls]));by_cases hji:j=i
    .subst hji;exact hfv
    .exact hft j (by omega) hj'
  .have hie:i=d.slots.length:=by omega
   subst hie;have hfl:dF p (d.slots.map Slt.typ) vs=true:=zCk (by simpa using hl) fun j h1 h2=>by rw[jAt];exact hft j (by simpa using h1) (by simpa using h1)
   rw[show pX p id vs fuel=zIg fuel (rN p d vs fuel) by simp[pX,hd,hb,hl,hfl]];have hty:TyL p (d.slots.map Slt.typ) vs:=TyL.of (by simpa using hl) fun j hj=>by rw[jAt];exact zHH hf (sty _ (jA0 _)) _ (hft j (by omega) (by omega))
   have hV:=EnvT.args hty fun v hv=>(hz v hv).1
   have hIh:=zNw (F:=fuel) hf.bods (zGj hf) (by omega) fuel.toNat (by omega);have hca:=zJd hIh d vs hl s6 (s:=⟨fuel,0,zMx p d.slots [],[]⟩) rfl (fun _=>⟨_,_,hf.bods _ d hd hb,hV,zDC snd vs hl⟩) ⟨by simp only;omega,by simp only;omega⟩;change RP _ _ _ _ _ (.agg (zC (rN p d vs fuel).1)) (rN p d vs fuel).2 at hca;have hsz:(rN p d vs fuel).2.fail=0->zZ (rN p d vs fuel).1<=256:=fun h0=>by
    have he:rN p d vs fuel=aM p 1 fuel.toNat d.body (cG d.slots vs) ⟨fuel,0,zMx p d.slots []++[d.id],[]⟩:=by unfold rN bX;simp
    rw[he]at h0 ⊢;exact(hIh.snd _ _ _ _ _ (hf.bods _ d hd hb) hV h0).2
   generalize rN p d vs fuel=r at *
   have hdo:=zYC (d:=d) (us:=vs) hG rfl hsz (zRh hca) (zRg hca);simp[hP];refine mr hdo [4,2] (by simp[zK,hP]) ?_;by_cases h0:r.2.fail=0
   all_goals
    simp[zIg,h0,zC];exact zA 0 (by simp)
 .rw[show pX p id vs fuel=.tup [.agg (zC vz),int 0,int 1] by simp[pX,hd,hb,hl]];have hl':¬((vs.length:Int)=d.slots.length):=by omega
  simp[hl']
  intros
  exact zA 0 (by simp[zC,zX,zQ,zH])
end Go.Proofs.YtdnelmeboihpkaaGreatDoor
namespace Go.Proofs.YtdnelmeboihpkaaGreatDoor
open Go.Abs
def SE(s s':XS):Prop:=s.fuel=s'.fuel/\s.fail=s'.fail
def EqF(r r':Val×XS):Prop:=SE r.2 r'.2/\(r.2.fail=0->r.1=r'.1)
theorem SE.rfl'(s:XS):SE s s:=⟨rfl,rfl⟩
theorem uY{s s':XS}(h:SE s s')(v:Val):EqF (v,s) (v,s'):=⟨h,fun _=>rfl⟩
section
variable{p:Prg}{f g:Evl}
theorem zIE(hf:pB f)(h:∀e V s s',SE s s'->EqF (f e V s) (g e V s'))(V:wO):∀(l:wG) (s s':XS),SE s s'->SE (jG f V l s).2 (jG g V l s').2/\((jG f V l s).2.fail=0->(jG f V l s).1=(jG g V l s').1)
 |[],s,s',hs=>⟨hs,fun _=>rfl⟩
 |e::l,s,s',hs=>by have h1:=h e V s s' hs;have h2:=zIE hf h V l _ _ h1.1;refine⟨by simp only[jG];exact h2.1,fun h0=>?_⟩;have h3:=zNg hf h0;simp only[jG]at h0 ⊢;rw[<-h2.2 h0,h1.2 h3]
theorem zGz(hf:pB f)(hg:pB g)(h:∀e V s s',SE s s'->EqF (f e V s) (g e V s'))(V:wO)(i:Id)(b:Exp):∀(l:wI) (r r':Val×XS),EqF r r'->EqF (j7 f V i b l r) (j7 g V i b l r')
 |[],r,r',hr=>hr
 |x::l,r,r',hr=>by
  simp only[j7];refine zGz hf hg h V i b l _ _ ?_;by_cases h0:r.2.fail=0
  .rw[hr.2 h0];exact h _ _ _ _ hr.1
  .rw[hf _ _ _ h0,hg _ _ _ (by rw[<-hr.1.2];exact h0)];exact uY hr.1 _
variable{s s':XS}
theorem zTx{c c':Bool}{v v':Val}(hs:SE s s')(h:s.fail=0->v=v'):EqF (zf c s v,s) (zf c' s' v',s'):=by refine⟨hs,fun hf=>?_⟩;simp only at hf ⊢;rw[rX hf,rX (by rw[<-hs.2];exact hf),h hf]
theorem zBV(h:∀e V s s',SE s s'->EqF (f e V s) (g e V s'))(d:Dfn){vs vs':wI}(hs:SE s s')(hv:s.fail=0->vs=vs'):EqF (bX f d vs s) (bX g d vs' s'):=by
 unfold bX;by_cases hf:s.fail=0
 .rw[if_neg (by simp[hf]),if_neg (by simp[<-hs.2,hf]),hv hf];exact h _ _ _ _ hs
 .rw[if_pos hf,if_pos (by rw[<-hs.2];exact hf)];exact uY hs _
theorem zIL(hf:pB f)(hg:pB g)(h:∀e V s s',SE s s'->EqF (f e V s) (g e V s'))(e:Exp)(V:wO)(hs:SE s s'):EqF (jW f e V s) (jW g e V s'):=by
 unfold jW;have h0:=h (e.kids.headD .zero) V s s' hs;generalize f (e.kids.headD .zero) V s=r at *
 generalize g (e.kids.headD .zero) V s'=r' at *
 obtain⟨v,t⟩:=r;obtain⟨v',t'⟩:=r';by_cases hz:t.fail=0
 .have hz':t'.fail=0:=h0.1.2.symm.trans hz;have hv:v=v':=h0.2 hz;subst hv;simp only[hz,hz',ne_eq,not_true,if_false]
  repeat' split
  all_goals first
   |exact uY h0.1 _
   |exact h _ _ _ _ h0.1
   |exact zGz hf hg h _ _ _ _ _ _ (h _ _ _ _ h0.1)
 .rw[if_pos hz,if_pos (by simpa using fun e:t'.fail=0=>hz (h0.1.2.trans e))];exact uY h0.1 _
theorem zMN(hf:pB f)(hg:pB g)(h:∀e V s s',SE s s'->EqF (f e V s) (g e V s'))(a b:Nat)(e:Exp)(V:wO)(hs:SE s s'):EqF (qM p a f e V s) (qM p b g e V s'):=by
 unfold qM;obtain⟨h1,h2⟩:=zIE hf h V e.kids s s' hs;generalize jG f V e.kids s=r at *
 generalize jG g V e.kids s'=r' at *
 repeat' split
 all_goals first
  |exact uY hs _
  |exact zIL hf hg h _ _ hs
  |exact zBV h _ h1 h2
  |exact zTx h1 fun hz=>by rw[h2 hz]
theorem zRo(a b:Nat){r r':Val×XS}(h:EqF r r'):EqF (uU a r) (uU b r'):=by
 unfold uU;have e:SE (gD r) (gD r')/\((gD r).fail=0->r.1=r'.1):=by
  unfold gD;by_cases hf:r.2.fail=0
  .have hf':=h.1.2.symm.trans hf;rw[<-h.2 hf];by_cases hb:zDx r.1
   .rw[if_pos ⟨hf,hb⟩,if_pos ⟨hf',hb⟩];exact⟨⟨h.1.1,rfl⟩,fun _=>rfl⟩
   .rw[if_neg fun k=>hb k.2,if_neg fun k=>hb k.2];exact⟨h.1,fun _=>rfl⟩
  .rw[if_neg fun k=>hf k.1,if_neg fun k=>hf (h.1.2.trans k.1)];exact⟨h.1,h.2⟩
 exact zTx e.1 e.2
theorem zC0(a b:Nat):∀(m:Nat) (e:Exp) (V:wO) (s s':XS),SE s s'->EqF (aM p a m e V s) (aM p b m e V s')
 | 0,e,V,s,s',hs=>by
  rw[aM,aM,hs.2];split
  .exact uY hs _
  .exact uY (s:={s with fail:=tT}) (s':={s' with fail:=tT}) ⟨hs.1,rfl⟩ _
 |m+1,e,V,s,s',hs=>by
  rw[aM,aM,hs.2,hs.1];split
  .exact uY hs _
  .split
   .exact⟨⟨rfl,rfl⟩,fun _=>rfl⟩
   .exact zRo a b (zMN (gY p a m) (gY p b m) (zC0 a b m) a b e V ⟨by simp only[mV];rw[hs.1],hs.2⟩)
end
variable{p:Prg}{hs:wP}
theorem zTM(hf:Fit p hs)(id:Id)(vs:wI)(gas:Int):pX p id vs (max gas 0)=cD (jS p id vs gas):=by
 unfold pX jS;cases hd:jH p.defs id with
 |none=>rfl
 |some d =>
  have hk:=hf.kinds d (aN hd).1;have hbb:fA d=zBU d.kind:=by
   have h6:d.kind=0\/d.kind=1\/d.kind=2\/d.kind=3\/d.kind=4\/d.kind=5:=by omega
   unfold fA zBU;rcases h6 with h|h|h|h|h|h<;>rw[h]<;>rfl
  simp only[hbb];by_cases h1:zBU d.kind=false
  .rw[if_pos h1,if_pos h1];rfl
  rw[if_neg h1,if_neg h1];by_cases h2:vs.length≠d.slots.length
  .rw[if_pos h2,if_pos h2];rfl
  rw[if_neg h2,if_neg h2];by_cases h3:dF p (d.slots.map Slt.typ) vs=false
  .rw[if_pos h3,if_pos h3];rfl
  rw[if_neg h3,if_neg h3];have hn:(max gas 0).toNat=gas.toNat:=by omega
  by_cases hg:0<=gas
  .have he:EqF (rN p d vs (max gas 0)) (mQ p d vs gas):=by unfold rN mQ;rw[hn];exact zBV (zC0 1 2 gas.toNat) d ⟨by simp only;omega,rfl⟩ fun _=>rfl
   obtain⟨⟨e1,e2⟩,e3⟩:=he;unfold zIg;by_cases h0:(rN p d vs (max gas 0)).2.fail=0
   .rw[if_pos h0,if_neg (by simp[<-e2,h0])];simp only[cD];rw[e3 h0,e1,show max gas 0=gas by omega]
   .rw[if_neg h0,if_pos (by rw[<-e2];exact h0),e2];rfl
  .have hz:gas.toNat=0:=by omega
   have e1:(rN p d vs (max gas 0)).2.fail=tT:=by unfold rN bX;rw[hn,hz];simp[aM]
   have e2:(mQ p d vs gas).2.fail=tT:=by unfold mQ bX;rw[hz];simp[aM]
   unfold zIg;rw[if_neg (by rw[e1];decide),if_pos (by rw[e2];decide),e1,e2];rfl
theorem zLZ{r:Val×XS}(h:(gD r).fail=0):¬zDx r.1/\r.2.fail=0:=by
 unfold gD at h;split at h
 .cases h
 .rename_i h';exact⟨fun hb=>h' ⟨h,hb⟩,h⟩
theorem zPs(p:Prg)(fl n:Nat)(e:Exp)(V:wO)(s:XS)(h:(aM p fl n e V s).2.fail=0):¬zDx (aM p fl n e V s).1:=by
 cases n with
 |zero =>
  rw[aM]at h;split at h
  .rename_i h';exact(h' h).elim
  .cases h
 |succ n =>
  rw[aM]at h⊢;split at h
  .rename_i h';exact(h' h).elim
  .rename_i h0;rw[if_neg h0];split at h
   .cases h
   .rename_i h1;rw[if_neg h1];have:=zLZ (show (gD _).fail=0 from h);show ¬zDx (zf (fl==2) (gD _) _);rw[rX (show (gD _).fail=0 from h)];exact this.1
section
variable{p:Prg}{hs:wP}(hf:Fit p hs)
include hf
theorem vV(id:Id)(vs:wI)(hz:∀v∈vs,zZ v<=256/\j6 v<=24)(fuel:Int) :
 (zZ (jS p id vs fuel).1<=256/\j6 (jS p id vs fuel).1<=24)/\0<=(jS p id vs fuel).2.1/\(jS p id vs fuel).2.1<=max fuel 0/\0<=(jS p id vs fuel).2.2/\(jS p id vs fuel).2.2<=100:=by
 have hvz:zZ vz<=256/\j6 vz<=24:=by decide
 unfold jS;split
 .exact⟨hvz,by simp only;omega⟩
 .rename_i d hd;by_cases h1:zBU d.kind=false
  .rw[if_pos h1];exact⟨hvz,by simp only;omega⟩
  rw[if_neg h1];by_cases h2:vs.length≠d.slots.length
  .rw[if_pos h2];exact⟨hvz,by simp only;omega⟩
  rw[if_neg h2];by_cases h3:dF p (d.slots.map Slt.typ) vs=false
  .rw[if_pos h3];exact⟨hvz,by simp only;omega⟩
  rw[if_neg h3];have hfl:=zVp p d vs fuel;unfold Fl at hfl;by_cases h0:(mQ p d vs fuel).2.fail=0
  .rw[if_neg (by simp[h0])];have hg:0<=fuel:=Int.not_lt.1 fun hn=>by
    have e2:(mQ p d vs fuel).2.fail=tT:=by unfold mQ bX;rw[show fuel.toNat=0 by omega];simp[aM]
    rw[h0]at e2;cases e2
   have he:EqF (rN p d vs fuel) (mQ p d vs fuel):=by unfold rN mQ;exact zBV (zC0 1 2 fuel.toNat) d ⟨rfl,rfl⟩ fun _=>rfl
   have hc:=zSJ p d vs fuel;have hu:=zVd p d vs fuel hg;rw[he.1.1]at hc hu;obtain⟨_,_,_,snd,sty⟩:=hf.slots d (aN hd).1;have hft:dF p (d.slots.map Slt.typ) vs=true:=by simpa using h3
   have hl:vs.length=d.slots.length:=by omega
   have hty:TyL p (d.slots.map Slt.typ) vs:=TyL.of (by simpa using hl) fun j hj=>by
    rw[jAt];refine zHH hf (sty _ (jA0 _)) _ ?_;have:=p7 hft j (by simp;omega) (by omega)
    rwa[jAt]at this
   have hbB:fA d=true:=zGi (by simpa using h1);have hrun:mQ p d vs fuel=aM p 2 fuel.toNat d.body (cG d.slots vs) ⟨fuel,0,[d.id],[]⟩:=by unfold mQ bX;simp
   have hsz:=rI hf.bods 2 fuel.toNat d.body _ _ ⟨fuel,0,[d.id],[]⟩ d.res (hf.bods _ d hd hbB) (EnvT.args hty fun v hv=>(hz v hv).1) (by rw[<-hrun];exact h0);have hbig:=zPs p 2 fuel.toNat d.body (cG d.slots vs) ⟨fuel,0,[d.id],[]⟩ (by rw[<-hrun];exact h0);rw[<-hrun]at hsz hbig;have hdp:j6 (mQ p d vs fuel).1<=24:=by have:=nP _ (by omega:zZ (mQ p d vs fuel).1<=100000000);unfold zDx at hbig;omega
   exact⟨⟨hsz.2,hdp⟩,by simp only;omega⟩
  .rw[if_pos h0];refine⟨hvz,?_⟩;simp only;omega
end
def qU(p:Prg):List Id->Val->Int->Val×Int×Int
 |[],v,_=>(v,0,0)
 |id::l,v,fuel=>if (jS p id [v] fuel).2.2≠0 then (vz,0,(jS p id [v] fuel).2.2)
  else if (qU p l (jS p id [v] fuel).1 (fuel-(jS p id [v] fuel).2.1)).2.2≠0 then (vz,0,(qU p l (jS p id [v] fuel).1 (fuel-(jS p id [v] fuel).2.1)).2.2)
  else ((qU p l (jS p id [v] fuel).1 (fuel-(jS p id [v] fuel).2.1)).1,(jS p id [v] fuel).2.1+(qU p l (jS p id [v] fuel).1 (fuel-(jS p id [v] fuel).2.1)).2.1,0)
section
variable{p:Prg}{hs:wP}(hf:Fit p hs)
include hf
theorem zBt:∀(l:wF) (v:Val) (fuel:Int),zZ v<=256/\j6 v<=24 ->
 (zZ (qU p l v fuel).1<=256/\j6 (qU p l v fuel).1<=24)/\0<=(qU p l v fuel).2.1/\(qU p l v fuel).2.1<=max fuel 0/\0<=(qU p l v fuel).2.2/\(qU p l v fuel).2.2<=100
 |[],v,fuel,hv=>⟨hv,by simp only[qU];omega⟩
 |id::l,v,fuel,hv=>by
  have hvz:zZ vz<=256/\j6 vz<=24:=by decide
  have h1:=vV hf id [v] (by simpa using hv) fuel;have h2:=zBt l (jS p id [v] fuel).1 (fuel-(jS p id [v] fuel).2.1) h1.1;unfold qU;split
  .exact⟨hvz,by simp only;omega⟩
  .split
   .exact⟨hvz,by simp only;omega⟩
   .exact⟨h2.1,by simp only;omega⟩
end
def zDz(p:Prg)(l:wF)(v:Val)(steps fuel:Int):Val×Int×Int :=
 if (qU p l v (fuel-steps)).2.2≠0 then (vz,0,(qU p l v (fuel-steps)).2.2)else ((qU p l v (fuel-steps)).1,steps+(qU p l v (fuel-steps)).2.1,0)
theorem zRK(p:Prg)(v:Val)(steps fuel:Int):zDz p [] v steps fuel=(v,steps,0):=by simp[zDz,qU]
variable{steps fuel:Int}
theorem zRJ{id:Id}{l:wF}{v:Val}(h:(jS p id [v] (fuel-steps)).2.2≠0):zDz p (id::l) v steps fuel=(vz,0,(jS p id [v] (fuel-steps)).2.2):=by simp[zDz,qU,h]
theorem zOQ{id:Id}{l:wF}{v:Val}(h:(jS p id [v] (fuel-steps)).2.2=0) :
 zDz p (id::l) v steps fuel=zDz p l (jS p id [v] (fuel-steps)).1 (steps+(jS p id [v] (fuel-steps)).2.1) fuel:=by
 unfold zDz;rw[show fuel-(steps+(jS p id [v] (fuel-steps)).2.1)=fuel-steps-(jS p id [v] (fuel-steps)).2.1 by omega];simp only[qU,h,ne_eq,not_true,if_false];by_cases h2:(qU p l (jS p id [v] (fuel-steps)).1 (fuel-steps-(jS p id [v] (fuel-steps)).2.1)).2.2=0
 .simp[h2,Int.add_assoc]
 .simp[h2]
theorem zOR(p:Prg)(l:wF)(v:Val)(fuel:Int):zDz p l v 0 fuel=if (qU p l v fuel).2.2≠0 then (vz,0,(qU p l v fuel).2.2)else ((qU p l v fuel).1,(qU p l v fuel).2.1,0):=by simp[zDz]
theorem zLE(p:Prg):∀(l:wF) (v:Val) (fuel:Int),(qU p l v fuel).2.2≠0->(qU p l v fuel).1=vz/\(qU p l v fuel).2.1=0
 |[],v,fuel,h=>(h rfl).elim
 |id::l,v,fuel,h=>by
  unfold qU at h⊢;split
  .exact⟨rfl,rfl⟩
  .rename_i h1;rw[if_neg h1]at h;split
   .exact⟨rfl,rfl⟩
   .rename_i h2;rw[if_neg h2]at h;exact(h rfl).elim
theorem zLP(p:Prg)(l:wF)(v:Val)(fuel:Int):zDz p l v 0 fuel=qU p l v fuel:=by
 rw[zOR];by_cases h:(qU p l v fuel).2.2=0
 .rw[if_neg (by simp[h])];exact Prod.ext rfl (Prod.ext rfl h.symm)
 .rw[if_pos h];have:=zLE p l v fuel h;exact Prod.ext this.1.symm (Prod.ext this.2.symm rfl)
def zAk(p:Prg)(l:wF)(v:Val)(fuel:Int):Val×Int×Int :=
 if l=[]then (v,0,0)
 else if lG p l=false then (vz,0,1)
 else match yG p (l.getD 0 .zero)with
  |some a=>if aO p a.1 v=false then (vz,0,1)else qU p l v fuel
  |none=>(vz,0,1)
def yB(d:Dfn):Option Edg:=if d.kind=5 then (match d.slots with|[s]=>if s.typ.k=3/\d.res.k=3 then some ⟨d.id,s.typ.id,d.res.id⟩ else none|_=>none)else none
theorem p6{d:Dfn}{e:Edg}(h:yB d=some e):e.id=d.id:=by
 unfold yB at h;split at h
 .split at h
  .split at h
   .cases h;rfl
   .cases h
  .cases h
 .cases h
def aI(p:Prg):wF:=zSO ((p.defs.filter fun d=>(yG p d.id).isSome).map (·.id))
def bY(p:Prg):wU:=(aI p).filterMap fun x=>(jH p.defs x).bind yB
theorem zEp(hf:Fit p hs)(e:Edg):e∈bY p↔∃d∈p.defs,yB d=some e:=by
 unfold bY aI;rw[jCz];constructor
 .rintro⟨x,_,h⟩;rw[jA7]at h;obtain⟨d,h1,h2⟩:=h;exact⟨d,(aN h1).1,h2⟩
 .rintro⟨d,hd,he⟩;obtain⟨i,hi,rfl⟩:=jAn hd;have hfd:=sN hf.nd hi;refine⟨p.defs[i].id,?_,by rw[hfd];exact he⟩;rw[zFt,jAg];refine⟨p.defs[i],List.mem_filter.2 ⟨hd,?_⟩,rfl⟩;unfold yG;rw[hfd];unfold yB at he;simp only;split at he
  .rename_i hk;rw[if_pos hk];split at he
   .rename_i s hs;rw[hs];rfl
   .cases he
  .cases he
theorem pM{p:Prg}:∀(l:wF),((l.filterMap fun x=>(jH p.defs x).bind yB).map (·.id)).Sublist l
 |[]=>by simp
 |x::l=>by
  rw[List.filterMap_cons];cases h:(jH p.defs x).bind yB with
  |none=>exact(pM l).cons _
  |some e =>
   rw[jA7]at h;obtain⟨d,h1,h2⟩:=h;have:=p6 h2;rw[(aN h1).2]at this;simp only[jAi,this];exact(pM l).cons_cons _
theorem zO4(p:Prg):SS ((bY p).map (·.id)):=(zIs _).sublist (pM _)
theorem zHC(hf:Fit p hs){S:wU}(h1:SS (S.map (·.id)))(h2:∀e,e∈S↔∃d∈p.defs,yB d=some e):S=bY p:=by
 have hid:S.map (·.id)=(bY p).map (·.id):=h1.unique (zO4 p) fun x=>by simp only[jAg,h2,zEp hf]
 have hinj:∀a b:Edg,(∃d∈p.defs,yB d=some a)->(∃d∈p.defs,yB d=some b)->a.id=b.id->a=b:=by rintro a b ⟨d,hd,ha⟩ ⟨d',hd',hb⟩ e;rw[p6 ha,p6 hb]at e;obtain⟨i,hi,rfl⟩:=jAn hd;obtain⟨j,hj,rfl⟩:=jAn hd';have hi':=sN hf.nd hi;have hj':=sN hf.nd hj;rw[e,hj']at hi';rw[<-jB0 hi',hb]at ha;exact(jB0 ha).symm
 have key:∀(A B:wU),(∀e∈A,∃d∈p.defs,yB d=some e)->(∀e∈B,∃d∈p.defs,yB d=some e)->A.map (·.id)=B.map (·.id)->A=B:=by
  intro A;induction A with
  |nil=>intro B _ _ h;cases B with
   |nil=>rfl
   |cons b B=>simp at h
  |cons a A ih =>
   intro B hA hB h;cases B with
   |nil=>simp at h
   |cons b B =>
    simp only[jAi,jBf]at h;rw[hinj a b (hA a (by simp)) (hB b (by simp)) h.1,ih B (fun e he=>hA e (by simp[he])) (fun e he=>hB e (by simp[he])) h.2]
 exact key _ _ (fun e he=>(h2 e).1 he) (fun e he=>(zEp hf e).1 he) hid
def zE5(a b:Val×Int×Int):Val×Int×Int:=if a.2.2≠0 then (vz,0,a.2.2)else if b.2.2≠0 then (vz,0,b.2.2)else (b.1,a.2.1+b.2.1,0)
variable{a:Val×Int×Int}
theorem zPg(b:Val×Int×Int)(h:a.2.2≠0):zE5 a b=(vz,0,a.2.2):=by simp[zE5,h]
variable{b:Val×Int×Int}
theorem zLV(h:a.2.2=0)(h2:b.2.2≠0):zE5 a b=(vz,0,b.2.2):=by simp[zE5,h,h2]
theorem zSb(h:a.2.2=0)(h2:b.2.2=0):zE5 a b=(b.1,a.2.1+b.2.1,0):=by simp[zE5,h,h2]
theorem zJv(p:Prg)(id:Id)(l:wF)(v:Val)(f:Int):qU p (id::l) v f=zE5 (jS p id [v] f) (qU p l (jS p id [v] f).1 (f-(jS p id [v] f).2.1)):=rfl
theorem zR9{α β:Type}(f : α->List β)(q : α->Bool)(B:Nat):∀L:List α,(∀x∈L,(f x).length<=if q x then B else 0)->(L.flatMap f).length<=(L.filter q).length*B
 |[],_=>by simp
 |x::L,h=>by
  have ih:=zR9 f q B L fun y hy=>h y (by simp[hy])
  have hx:=h x (by simp);rw[jBb,jA5,List.filter_cons];cases hq:q x
  .rw[hq]at hx;simp only[jAl,if_false]at hx ⊢;omega
  .rw[hq]at hx;simp only[if_true]at hx ⊢;rw[jA9,jBu];omega
theorem zUr(p:Prg)(l:wF)(v:Val)(fuel:Int):zDz p l v 0 fuel=qU p l v fuel:=zLP p l v fuel
theorem zCo(hf:Fit p hs)(l:wF)(hl:l.length<=1000000)(v:Val)(hv:zZ v<=256/\j6 v<=24)(fuel:Int)(h0 : -90000<=fuel)(h1:fuel<=90000) :
 my 45 [.agg (zN p),.sl l.length (zV l),.agg (zC v),int fuel] [] (cD (qU p l v fuel)) []:=by
 have hP:=eP p;refine mq [] [.cell 8 3 true,.slot 9,.slot 10] Tryz.func45 (by kernel_rfl) ?_
 (conv in kq _ _=>cbv)
 simp[hP,zC];intro hlm;refine qO (S:=Nat×Val×Int) (fun s=>[(1,.sl l.length (zV l)),(3,int fuel),(4,.ptr 0 0),(6,.ptr 1 0),(8,.ptr 2 0),(11,int s.2.2),(17,.sl l.length (zV l)),(18,int l.length),(19,int s.1)]) (fun s=>[.box (zN p),.box (zC s.2.1),.box [int 0,int 0,.nil]])
  (fun s=>s.1<=l.length/\(zZ s.2.1<=256/\j6 s.2.1<=24)/\0<=s.2.2/\s.2.2<=max fuel 0/\qU p l v fuel=zDz p (l.drop s.1) s.2.1 s.2.2 fuel) (fun s=>l.length-s.1) (0,v,0) ⟨by simp,hv,by simp,by simp only;omega,by simp[zUr]⟩
  (mw [0,1,2] 0 (by rfl) (by simp[hP,zC])) ?_
 rintro⟨i,x,st⟩ ⟨hi,hx,hs0,hs1,ho⟩;simp only at hi hx hs0 hs1 ho;by_cases h:i<l.length
 .have hd:l.drop i=l[i]::l.drop (i+1):=jAp h;have hw:=jY i (by omega);have hw2:=z8 (fuel-st) (by omega);simp[hP,zC,h,yA h,hw2];have hcall:=zL6 hf l[i] [x] (gas:=fuel-st) (fuel:=max (fuel-st) 0) rfl (by omega) (by simpa using hx);rw[zTM hf]at hcall;refine mu hcall (by simp[hP,zL,zC,iC,cD]) ?_;have hsm:=vV hf l[i] [x] (by simpa using hx) (fuel-st);rw[hd]at ho;by_cases he:(jS p l[i] [x] (fuel-st)).2.2=0
  .rw[zOQ he]at ho;simp[cD,zC,he];have hw3:IntKind.i64.wrap (st+(jS p l[i] [x] (fuel-st)).2.1)=st+(jS p l[i] [x] (fuel-st)).2.1:=IntWalk.i64_in _ (by omega);exact zS (i+1,(jS p l[i] [x] (fuel-st)).1,st+(jS p l[i] [x] (fuel-st)).2.1) ⟨h,hsm.1,by simp only;omega,by simp only;omega,ho⟩ (by simp only;omega) (mw [0,1,2] 0 (by rfl) (by simp[hP,zC,hw,hw3]))
  .rw[zRJ he]at ho;simp[cD,zC,he];exact zA 0 (by simp[ho,cD,zC,vz,zX,zQ,zH])
 .have hi':i=l.length:=by omega
  subst hi';rw[List.drop_length,zRK]at ho;simp[hP,zC];exact zA 0 (by simp[ho,cD,zC])
theorem zQ9(hf:Fit p hs)(l:wF)(hl:l.length<=1000000)(v:Val)(hv:zZ v<=256/\j6 v<=24)(fuel:Int)(h0 : -90000<=fuel)(h1:fuel<=90000) :
 my 16 [.agg (zN p),.sl l.length (zV l),.agg (zC v),int fuel] [] (cD (zAk p l v fuel)) []:=by
 have hP:=eP p;refine mq [] [.cell 8 3 true,.slot 9,.slot 10] Tryz.func16 (by kernel_rfl) ?_
 (conv in kq _ _=>cbv)
 cases hl0:l with
 |nil =>
  simp[hP,zC];exact zA 0 (by simp[zAk,cD,zC])
 |cons y l' =>
  rw[<-hl0];have hne:l≠[]:=by rw[hl0];simp
  have hlen:¬((l.length:Int)=0):=by rw[hl0];simp;omega
  simp[hP,zC,hlen,hne];intro _;refine mu (zNv p l hl) (by simp[hP,uV,zB]) ?_;by_cases hp:lG p l=true
  .have hlead:∃a,yG p (l.getD 0 .zero)=some a:=by
    have h1:gK p l 1=true:=zB7 (List.length_pos_iff.2 hne) hp;simp only[gK,jBi,oF]at h1;cases hc:yG p (l.getD 0 .zero)with
    |none=>rw[hc]at h1;cases h1
    |some a=>exact⟨a,rfl⟩
   obtain⟨a,ha⟩:=hlead;have hfro:zLF p l=a.1:=by rw[zLF,ha];rfl
   have hal:zAk p l v fuel=if aO p a.1 v=false then (vz,0,1)else qU p l v fuel:=by rw[zAk,if_neg hne,if_neg (by rw[hp];decide),ha]
   simp[uV,uW,hp,hne,hfro,zB];refine mu (zHr p a.1 v hv.1 hv.2) (by simp[hP,zB,zC]) ?_;cases hfi:aO p a.1 v
   .simp;exact zA 0 (by simp[hal,hfi,cD,zC,vz,zX,zQ,zH])
   .simp;refine mu (zCo hf l hl v hv fuel h0 h1) (by simp[hP,zC,cD]) ?_;simp[cD,zC];exact zA 0 (by simp[hal,hfi,cD,zC])
  .have hp':lG p l=false:=by simpa using hp
   have hal:zAk p l v fuel=(vz,0,1):=by rw[zAk,if_neg hne,if_pos hp']
   simp[uV,uW,hp',zB];exact zA 0 (by simp[hal,cD,zC,vz,zX,zQ,zH])
def zWQ:Nat->Option wD:=fun|4=>k_ [0,0,0,0,0,2,2004,1004,0,0]|_=>none
def cP(a:Option (Typ×Typ)):A:=.tup [.agg (zB (a.getD (.zero,.zero)).1),.agg (zB (a.getD (.zero,.zero)).2),bl a.isSome]
theorem nU(p:Prg)(hL:p.defs.length<=1000000)(id:Id):my 13 [.agg (zN p),.agg (zL id)] [] (cP (yG p id)) []:=by
 have hP:=eP p;have hdf:=lP p hL id;unfold bL at hdf;refine mn zWQ [] [.cell 4 5 true,.cell 5 5 true,.slot 6] Tryz.func13 (by kernel_rfl) ?_
 (conv in zY _ _ _ _=>cbv)
 simp -implicitDefEqProofs [hP,zL];refine mu hdf (by simp[zN,zL]) ?_;cases hd:jH p.defs id with
 |none =>
  have hv:yG p id=none:=by simp[yG,hd]
  simp -implicitDefEqProofs [zK];exact zA 0 (by simp[cP,hv,zB,Typ.zero,Id.zero])
 |some d =>
  by_cases hk:d.kind=5
  .match hs:d.slots with
   |[s] =>
    have hv:yG p id=some (s.typ,d.res):=by simp[yG,hd,hk,hs]
    have hcs:jN [s]=j4 s:=by simp[jN]
    simp -implicitDefEqProofs [zK,hk,hs,hcs,j4];exact fun _=>zA 0 (by simp[cP,hv,zB])
   |[] =>
    have hv:yG p id=none:=by simp[yG,hd,hs]
    simp -implicitDefEqProofs [zK,hk,hs];exact zA 0 (by simp[cP,hv,zB,Typ.zero,Id.zero])
   |s::s'::l =>
    have hv:yG p id=none:=by simp[yG,hd,hs]
    have h1:¬((l.length:Int)+1+1=1):=by omega
    simp -implicitDefEqProofs [zK,hk,hs,h1]
    first|exact fun _=>zA 0 (by simp[cP,hv,zB,Typ.zero,Id.zero])|exact zA 0 (by simp[cP,hv,zB,Typ.zero,Id.zero])
  .have hv:yG p id=none:=by simp[yG,hd,hk]
   simp -implicitDefEqProofs [zK,hk];exact zA 0 (by simp[cP,hv,zB,Typ.zero,Id.zero])
@[simp]theorem qCi{rf g}(a:Option (Typ×Typ)):vw rf g (cP a)=cP a:=by cases a<;>simp[cP,zB]
def zWP:Nat->Option wD:=fun|4=>k_ [1,0,0,1,1,1,0,0,0,0,301,302,0,0,0] | 8=>k_ [1,0,0,0,1,1,1,0,0,0,0,303,304,0,0,0]|_=>none
theorem zPd(p:Prg)(hL:p.defs.length<=1000000)(l:wF)(hl:l.length<=1000000):my 46 [.agg (zN p),.sl l.length (zV l)] [] (bl (lG p l)) []:=by
 have hP:=eP p;refine ml zWP [19,33] [] [] [.slot 4] Tryz.func46 (by kernel_rfl) ?_
 (conv in kH _ _ _=>cbv)
 simp -implicitDefEqProofs [hP];refine qO (S:=Nat) (fun i=>[(1,.sl l.length (zV l)),(2,.ptr 0 0),(5,int i)]) (fun i=>[.box (zN p)])
  (fun i=>i<=l.length/\gK p l i=true) (fun i=>l.length-i) 0 (by simp[gK])
  (mw [0] 0 (by rfl) (by simp[hP])) ?_
 rintro i ⟨hi,hp⟩;by_cases h:i<l.length
 .have hgd:l.getD i .zero=l[i]:=by rw[jB7,jA1 h,jBe]
  have hq:l[i]?=some l[i]:=jA1 h;have hw:=jY i (by omega);simp -implicitDefEqProofs [hP,h];intro _;refine⟨_,_,yN 2,?_⟩;simp -implicitDefEqProofs [List.replicate,h,yA h];refine j3 (nU p hL l[i]) (by simp[hP,zL]) (by simp) ?_;cases hc:yG p l[i]with
  |none =>
   have hbad:lG p l=false:=xL h (by rw[oF,hgd,hc]);simp -implicitDefEqProofs [cP,zB];exact zA 0 (by simp[hbad])
  |some a =>
   by_cases h0:i=0
   .subst h0;simp -implicitDefEqProofs [cP,zB];exact zS 1 ⟨h,by simp[gK,oF,hq,hc]⟩ (by omega) (mw [0] 0 (by rfl) (by simp[hP,show IntKind.i64.wrap 1=1 from by decide]))
   .have hi0:(0:Int)<i:=by omega
    obtain⟨j,rfl⟩:∃j,i=j+1:=⟨i-1,by omega⟩;have hj:j<l.length:=by omega
    have hqj:l[j]?=some l[j]:=jA1 hj;have hgj:l.getD j .zero=l[j]:=by rw[jB7,hqj,jBe]
    obtain⟨b,hb⟩:∃b,yG p l[j]=some b:=by
     simp only[gK,jA6]at hp;have h2:=hp.2;rw[oF,hgj]at h2;cases hb:yG p l[j]with
     |none=>rw[hb]at h2;cases h2
     |some b=>exact⟨b,rfl⟩
    have hst:oF p l (j+1)=y7 a.1 b.2:=by rw[oF,hgd,hc];simp[hqj,hb]
    have hwj:=z8 (j:Int) (by omega);simp -implicitDefEqProofs [cP,zB,hi0,hwj];refine⟨_,_,yN 2,?_⟩;simp -implicitDefEqProofs [List.replicate,hj,yA hj,hwj];refine j3 (nU p hL l[j]) (by simp[hP,zL]) (by simp) ?_;rw[hb];simp -implicitDefEqProofs [cP,zB];refine mu (iI a.1 b.2) (by simp[zB]) ?_;cases hsm:y7 a.1 b.2
    .have hbad:lG p l=false:=xL h (by rw[hst,hsm]);simp -implicitDefEqProofs;exact zA 0 (by simp[hbad])
    .simp -implicitDefEqProofs;exact zS (j+2) ⟨h,by rw[gK,hp,hst,hsm];rfl⟩ (by omega) (kf [0] 0 (by rfl) (by simp[hP]) (by simp[show IntKind.i64.wrap ((j:Int)+1+1)=(j:Int)+2 from IntWalk.i64_in _ (by omega)]))
 .have hi':i=l.length:=by omega
  subst hi';have hpv:lG p l=true:=hp;simp -implicitDefEqProofs [hP]
  first|exact fun _=>zA 0 (by simp[hpv])|exact zA 0 (by simp[hpv])
@[simp]theorem qJU{rf g}(r:Val×Int×Int):vw rf g (cD r)=cD r:=by simp[cD,zC]
theorem zFl{p:Prg}{hs:wP}(hf:Fit p hs):∀(l:wF) (v:Val) (fuel:Int),l.length<=1000000->zZ v<=256/\j6 v<=24->-30000<=fuel->fuel<=30000 ->
 my 48 [.agg (zN p),.sl l.length (zV l),.agg (zC v),int fuel] [] (cD (qU p l v fuel)) []
 |[],v,fuel,_,hv,h0,h1=>by
  have hP:=eP p;refine mq [(3,[0,2,3,4,7]),(6,[0,3,7])] [.cell 8 3 true,.slot 9,.slot 10] Tryz.func48 (by kernel_rfl) ?_
  (conv in kq _ _=>cbv)
  simp -implicitDefEqProofs [hP,zC];exact zA 0 (by simp[qU,cD,zC])
 |id::l,v,fuel,hl,hv,h0,h1=>by
  have hP:=eP p;refine mq [(3,[0,2,3,4,7]),(6,[0,3,7])] [.cell 8 3 true,.slot 9,.slot 10] Tryz.func48 (by kernel_rfl) ?_
  (conv in kq _ _=>cbv)
  have hcl:zV (id::l)=zL id++zV l:=by rw[v7,v7,jBb]
  have hn1:¬((l.length:Int)+1=0):=by omega
  simp only[jA9]at hl;simp -implicitDefEqProofs [hP,zC,hcl,hn1];have hcall:=zTl hf id [v] fuel h1 (by simpa using hv);intro _;refine⟨by omega,?_⟩;refine j3 hcall (by simp[hP,zL,zC,iC]) (by simp) ?_;have hsm:=vV hf id [v] (by simpa using hv) fuel;have ih:=zFl hf l (jS p id [v] fuel).1 (fuel-(jS p id [v] fuel).2.1) (by omega) hsm.1 (by omega) (by omega);have hs2:=zBt hf l (jS p id [v] fuel).1 (fuel-(jS p id [v] fuel).2.1) hsm.1;have hta:List.take (l.length*3) (zV l)=zV l:=jAe (by simp);have hfo:=zJv p id l v fuel;generalize jS p id [v] fuel=r at *
  by_cases he:r.2.2=0
  .have hw:=z8 (fuel-r.2.1) (by omega);simp -implicitDefEqProofs [cD,zC,he,hw,hcl];refine⟨by omega,?_⟩;refine j3 ih (by simp[hP,zC,hta]) (by simp) ?_;generalize qU p l r.1 (fuel-r.2.1)=q at *
   by_cases he2:q.2.2=0
   .have hw2:=z8 (r.2.1+q.2.1) (by omega);rw[zSb he he2]at hfo;simp -implicitDefEqProofs [cD,zC,he2,hw2];exact zA 0 (by simp[hfo,cD,zC])
   .rw[zLV he he2]at hfo;simp -implicitDefEqProofs [cD,zC,he2];exact zA 0 (by simp[hfo,cD,zC,vz,zX,zQ,zH])
  .rw[zPg _ he]at hfo;simp -implicitDefEqProofs [cD,zC,he];exact zA 0 (by simp[hfo,cD,zC,vz,zX,zQ,zH])
def zWO:Nat->Option wD:=fun|3=>k_ [1,0,1,1,1,0,0,0,0,303,304,0,0,0]|_=>none
def gG(p:Prg)(id:Id):Bool:=match jH p.defs id with
 |some d=>decide (d.kind=0)||decide (d.kind=1)
 |none=>false
theorem zHk(p:Prg)(id:Id):my 52 [.agg (zN p),.agg (zL id)] [] (bl (gG p id)) []:=by
 have hP:=eP p;have hdf:=nO p id;unfold bL at hdf;refine mq [] [.slot 4] Tryz.func52 (by kernel_rfl) ?_
 (conv in kq _ _=>cbv)
 simp -implicitDefEqProofs [hP,zL];refine mu hdf (by simp[zN,zL]) ?_;cases hd:jH p.defs id with
 |none =>
  simp -implicitDefEqProofs [zK];exact zA 0 (by simp[gG,hd])
 |some d =>
  by_cases hk:d.kind=0
  all_goals
   simp -implicitDefEqProofs [zK,hk];exact zA 0 (by simp[gG,hd,hk])
def gT(p:Prg)(l:wF)(v:Val)(fuel:Int):Val×Int×Int :=
 if l=[]then (v,0,0)
 else if lG p l=false then (vz,0,1)
 else match yG p (l.getD 0 .zero)with
  |some a=>if (i8 v&&aO p a.1 v)=false then (vz,0,1)else qU p l v fuel
  |none=>(vz,0,1)
theorem zOj(hf:Fit p hs)(l:wF)(hl:l.length<=1000000)(v:Val)(hv:zZ v<=100000)(fuel:Int)(h0 : -90000<=fuel)(h1:fuel<=90000) :
 my 16 [.agg (zN p),.sl l.length (zV l),.agg (zC v),int fuel] [] (cD (gT p l v fuel)) []:=by
 have hP:=eP p;refine mq [] [.cell 8 3 true,.slot 9,.slot 10] Tryz.func16 (by kernel_rfl) ?_
 (conv in kq _ _=>cbv)
 cases hl0:l with
 |nil =>
  simp[hP,zC];exact zA 0 (by simp[gT,cD,zC])
 |cons y l' =>
  rw[<-hl0];have hne:l≠[]:=by rw[hl0];simp
  have hlen:¬((l.length:Int)=0):=by rw[hl0];simp;omega
  simp[hP,zC,hlen,hne];intro _;refine mu (zNv p l hl) (by simp[hP,uV,zB]) ?_;by_cases hp:lG p l=true
  .have hlead:∃a,yG p (l.getD 0 .zero)=some a:=by
    have h1:gK p l 1=true:=zB7 (List.length_pos_iff.2 hne) hp;simp only[gK,jBi,oF]at h1;cases hc:yG p (l.getD 0 .zero)with
    |none=>rw[hc]at h1;cases h1
    |some a=>exact⟨a,rfl⟩
   obtain⟨a,ha⟩:=hlead;have hfro:zLF p l=a.1:=by rw[zLF,ha];rfl
   have hal:gT p l v fuel=if (i8 v&&aO p a.1 v)=false then (vz,0,1)else qU p l v fuel:=by rw[gT,if_neg hne,if_neg (by rw[hp];decide),ha]
   simp[uV,uW,hp,hne,hfro,zB];refine mu (zPO p a.1 v hv) (by simp[hP,zB,zC]) ?_;cases hfi:(i8 v&&aO p a.1 v)
   .simp;exact zA 0 (by simp[hal,hfi,cD,zC,vz,zX,zQ,zH])
   .simp;have hsm:zZ v<=256/\j6 v<=24:=by rw[jA6]at hfi;exact of_decide_eq_true hfi.1
    refine mu (zCo hf l hl v hsm fuel h0 h1) (by simp[hP,zC,cD]) ?_;simp[cD,zC];exact zA 0 (by simp[hal,hfi,cD,zC])
  .have hp':lG p l=false:=by simpa using hp
   have hal:gT p l v fuel=(vz,0,1):=by rw[gT,if_neg hne,if_pos hp']
   simp[uV,uW,hp',zB];exact zA 0 (by simp[hal,cD,zC,vz,zX,zQ,zH])
theorem zMv(hf:Fit p hs)(l:wF)(hl:l.length<=1000000)(v:Val)(hv:zZ v<=100000)(fuel:Int)(h0 : -30000<=fuel)(h1:fuel<=30000) :
 my 17 [.agg (zN p),.sl l.length (zV l),.agg (zC v),int fuel] [] (cD (gT p l v fuel)) []:=by
 have hP:=eP p;have hL:p.defs.length<=1000000:=by have:=hf.len8;omega
 refine ml zWO [19] [] [] [.cell 8 3 true,.slot 9,.slot 10] Tryz.func17 (by kernel_rfl) ?_
 (conv in kH _ _ _=>cbv)
 cases hl0:l with
 |nil =>
  simp[hP,zC];exact zA 0 (by simp[gT,cD,zC])
 |cons y l' =>
  have hcl:zV (y::l')=zL y++zV l':=by rw[v7,v7,jBb]
  have hcl':zV l=zL y++zV l':=by rw[hl0,hcl]
  have hne:l≠[]:=by rw[hl0];simp
  have hlen:¬((l.length:Int)=0):=by rw[hl0];simp;omega
  have hpos:0<l.length:=List.length_pos_iff.2 hne;have hg0:l.getD 0 .zero=y:=by rw[hl0];rfl
  rw[<-hl0];simp[hP,zC,hlen,hne];intro _;refine⟨_,_,yN 2,?_⟩;simp[List.replicate,hcl',hpos,hne];refine⟨by omega,?_⟩;refine j3 (nU p hL y) (by simp[hP,zL]) (by simp) ?_;simp[cP,zB];refine mu (zPd p hL l hl) (by simp[hP,hcl']) ?_;by_cases hp:lG p l=true
  .have hlead:∃a,yG p y=some a:=by
    have h1:gK p l 1=true:=zB7 hpos hp;simp only[gK,jBi,oF,hg0]at h1;cases hc:yG p y with
    |none=>rw[hc]at h1;cases h1
    |some a=>exact⟨a,rfl⟩
   obtain⟨a,ha⟩:=hlead;have hal:gT p l v fuel=if (i8 v&&aO p a.1 v)=false then (vz,0,1)else qU p l v fuel:=by rw[gT,if_neg hne,if_neg (by rw[hp];decide),hg0,ha]
   simp[hp,ha];refine mu (zM9 p hL a.1 v hv) (by simp[hP,zB,zC]) ?_;cases hfi:(i8 v&&aO p a.1 v)
   .simp;exact zA 0 (by simp[hal,hfi,cD,zC,vz,zX,zQ,zH])
   .simp;have hsm:zZ v<=256/\j6 v<=24:=by rw[jA6]at hfi;exact of_decide_eq_true hfi.1
    refine mu (zFl hf l v fuel hl hsm h0 h1) (by simp[hP,zC,hcl']) ?_;simp[cD,zC];exact zA 0 (by simp[hal,hfi,cD,zC])
  .have hp':lG p l=false:=by simpa using hp
   have hal:gT p l v fuel=(vz,0,1):=by rw[gT,if_neg hne,if_pos hp']
   simp[hp'];exact zA 0 (by simp[hal,cD,zC,vz,zX,zQ,zH])
theorem zOy(x y:Id):my 147 [.agg (zL x),.agg (zL y)] [] (int (zCc x y)) []:=by
 refine mq [] [.slot 4] Tryz.func147 (by kernel_rfl) ?_
 (conv in kq _ _=>cbv)
 simp[zL];refine qA (gV x.a y.a) (by simp) (by simp) ?_;simp;refine qA (gV x.b y.b) (by simp) (by simp) ?_;simp;refine qA (gV x.c y.c) (by simp) (by simp) ?_;simp;refine qA (zS6 [bT x.a y.a,bT x.b y.b,bT x.c y.c]) (by simp) (by simp) ?_;simp;exact zA 0 (by simp[zCc])
def dE(e:Edg):wE:=[.lit (.int .i64 e.id.a),.lit (.int .i64 e.id.b),.lit (.int .i64 e.id.c),.lit (.int .i64 e.fro.a),.lit (.int .i64 e.fro.b),.lit (.int .i64 e.fro.c),.lit (.int .i64 e.to.a),.lit (.int .i64 e.to.b),.lit (.int .i64 e.to.c)]
def yX(l:wU):wE:=l.flatMap dE
theorem uR(d:Edg):qV (dE d):=qV.lit (qV.lit (qV.lit (qV.lit (qV.lit (qV.lit (qV.lit (qV.lit (qV.lit qV.nil))))))))
theorem x8(l:wU):qV (yX l):=c7 uR l
@[simp]theorem zUH(l:wU):jO (yX l)=yX l:=(x8 l).1
@[simp]theorem qAg{rf g}(l:wU):vwL rf g (yX l)=yX l:=(x8 l).2 _ _
@[simp]theorem zWt:yX []=[]:=rfl
theorem sA(x:Edg)(l:wU):yX (x::l)=dE x++yX l:=rfl
theorem zDZ(l l':wU):yX (l++l')=yX l++yX l':=by simp only[yX,jBz]
@[simp]theorem zWs(l:wU):(yX l).length=l.length*9:=by rw[yX,fN (k:=9) (fun _=>rfl)]
theorem dY{l:wU}{i:Nat}(h:i<l.length):(yX l).drop (i*9)=dE l[i]++yX (l.drop (i+1)):=by rw[yX,yX,eX (k:=9) (fun _=>rfl) h]
@[simp]theorem qAN(d:Edg):(dE d).length=9:=rfl
@[simp]theorem qAM(d:Edg):(dE d).take 9=dE d:=jAe (jA _)
@[simp]theorem zYD(d:Edg)(l:wE):(dE d++l).take 9=dE d:=by rw[jC6 (by simp)];exact jAe (by simp)
@[simp]theorem zZu(d:Edg):jO (dE d)=dE d:=(uR d).1
@[simp]theorem qHC(d:Edg) {rf g}:vwL rf g (dE d)=dE d:=(uR d).2 _ _
@[simp]theorem zGg(e:Edg)(k:Nat):dT k (dE e)=true:=by simp[dE]
@[simp]theorem zWi(l:wU)(k:Nat):dT k (yX l)=true:=by
 induction l with
 |nil=>rfl
 |cons e l ih=>rw[sA,uG,ih,zGg];rfl
theorem zLq(x y:Edg):my 146 [.agg (dE x),.agg (dE y)] [] (int (zCc x.id y.id)) []:=by
 refine mq [] [.slot 4] Tryz.func146 (by kernel_rfl) ?_
 (conv in kq _ _=>cbv)
 simp[dE];refine mu (zOy x.id y.id) (by simp[zL]) ?_;simp;exact zA 0 (by simp)
def zVc:Go.Shelf.Ren:=⟨fun | 6=>145 | 15=>121 | 14=>172 | 28=>165 | 29=>166 | 20=>187 | 21=>188 | 22=>189 | 23=>190 | 24=>191 | 25=>192 | 26=>193 | 27=>194 | 46=>201 | 49=>202 | 50=>203 | 57=>209 | 47=>182 | 48=>183|n=>n,fun | 22=>149 | 24=>155 | 25=>202 | 3=>3 | 39=>181 | 0=>0 | 53=>222 | 55=>224 | 4=>4 | 46=>215 | 45=>214 | 50=>219 | 5=>5 | 9=>9 | 66=>241 | 70=>245 | 76=>256 | 77=>257|n=>n,fun n=>n⟩
theorem zNC:Go.Proofs.SlLaysF0.n6 Tryz.prog zVc:={
 mixed:=by kernel_rfl,
 f6:=⟨Tryz.f145.name,by decide,Tryz.func145.trans (congrArg some (by kernel_rfl))⟩,
 f14:=⟨Tryz.f172.name,by decide,Tryz.func172.trans (congrArg some (by kernel_rfl))⟩,
 f15:=Tryz.func121.trans (congrArg some (by kernel_rfl)),
 f20:=⟨Tryz.f187.name,by decide,Tryz.func187.trans (congrArg some (by kernel_rfl))⟩,
 f21:=⟨Tryz.f188.name,by decide,Tryz.func188.trans (congrArg some (by kernel_rfl))⟩,
 f22:=⟨Tryz.f189.name,by decide,Tryz.func189.trans (congrArg some (by kernel_rfl))⟩,
 f23:=⟨Tryz.f190.name,by decide,Tryz.func190.trans (congrArg some (by kernel_rfl))⟩,
 f24:=⟨Tryz.f191.name,by decide,Tryz.func191.trans (congrArg some (by kernel_rfl))⟩,
 f25:=⟨Tryz.f192.name,by decide,Tryz.func192.trans (congrArg some (by kernel_rfl))⟩,
 f26:=⟨Tryz.f193.name,by decide,Tryz.func193.trans (congrArg some (by kernel_rfl))⟩,
 f27:=⟨Tryz.f194.name,by decide,Tryz.func194.trans (congrArg some (by kernel_rfl))⟩,
 f28:=Tryz.func165.trans (congrArg some (by kernel_rfl)),
 f29:=Tryz.func166.trans (congrArg some (by kernel_rfl)),
 f46:=⟨Tryz.f201.name,by decide,Tryz.func201.trans (congrArg some (by kernel_rfl))⟩,
 f47:=Tryz.func182.trans (congrArg some (by kernel_rfl)),
 f48:=Tryz.func183.trans (congrArg some (by kernel_rfl)),
 f49:=⟨Tryz.f202.name,by decide,Tryz.func202.trans (congrArg some (by kernel_rfl))⟩,
 f50:=⟨Tryz.f203.name,by decide,Tryz.func203.trans (congrArg some (by kernel_rfl))⟩,
 f57:=⟨Tryz.f209.name,by decide,Tryz.func209.trans (congrArg some (by kernel_rfl))⟩,
 t0:=Tryz.underlying0,
 a0:=Tryz.isAgg0,
 z0:=Tryz.sizeOf0,
 v0:=Tryz.zeroValue0,
 t3:=Tryz.underlying3,
 a3:=Tryz.isAgg3,
 z3:=Tryz.sizeOf3,
 v3:=Tryz.zeroValue3,
 t4:=Tryz.underlying4,
 a4:=Tryz.isAgg4,
 z4:=Tryz.sizeOf4,
 v4:=Tryz.zeroValue4,
 t5:=Tryz.underlying5,
 a5:=Tryz.isAgg5,
 z5:=Tryz.sizeOf5,
 v5:=Tryz.zeroValue5,
 t9:=Tryz.underlying9,
 a9:=Tryz.isAgg9,
 z9:=Tryz.sizeOf9,
 v9:=Tryz.zeroValue9,
 t22:=Tryz.underlying149,
 a22:=Tryz.isAgg149,
 z22:=Tryz.sizeOf149,
 v22:=Tryz.zeroValue149,
 t25:=Tryz.underlying202,
 a25:=Tryz.isAgg202,
 z25:=Tryz.sizeOf202,
 v25:=Tryz.zeroValue202,
 t39:=Tryz.underlying181,
 a39:=Tryz.isAgg181,
 z39:=Tryz.sizeOf181,
 v39:=Tryz.zeroValue181,
 t45:=Tryz.underlying214,
 a45:=Tryz.isAgg214,
 z45:=Tryz.sizeOf214,
 v45:=Tryz.zeroValue214,
 t46:=Tryz.underlying215,
 a46:=Tryz.isAgg215,
 z46:=Tryz.sizeOf215,
 v46:=Tryz.zeroValue215,
 t50:=Tryz.underlying219,
 a50:=Tryz.isAgg219,
 z50:=Tryz.sizeOf219,
 v50:=Tryz.zeroValue219,
 t53:=Tryz.underlying222,
 a53:=Tryz.isAgg222,
 z53:=Tryz.sizeOf222,
 v53:=Tryz.zeroValue222,
 t55:=Tryz.underlying224,
 a55:=Tryz.isAgg224,
 z55:=Tryz.sizeOf224,
 v55:=Tryz.zeroValue224,
 t66:=Tryz.underlying241,
 a66:=Tryz.isAgg241,
 z66:=Tryz.sizeOf241,
 v66:=Tryz.zeroValue241,
 t70:=Tryz.underlying245,
 a70:=Tryz.isAgg245,
 z70:=Tryz.sizeOf245,
 v70:=Tryz.zeroValue245,
 t76:=Tryz.underlying256,
 a76:=Tryz.isAgg256,
 z76:=Tryz.sizeOf256,
 v76:=Tryz.zeroValue256,
 t77:=Tryz.underlying257,
 a77:=Tryz.isAgg257,
 z77:=Tryz.sizeOf257,
 v77:=Tryz.zeroValue257}
theorem zTX:∀args w,(callFunc 146 args).run Tryz.prog w=.ok (.enter 146 args) w:=enters_of Tryz.func146 (by kernel_rfl) rfl
def zQ3(E:wU):Prop:=∀a∈E,∀b∈E,a.id=b.id->a=b
abbrev zI5(E:wU):={e:Edg // e∈E}
variable{E:wU}
def zOx(a b:zI5 E):Int:=zCc a.1.id b.1.id
theorem zEA(h:zQ3 E):Ord (zOx (E:=E)) where
 irrefl x:=nW.irrefl _
 trans x y z:=nW.trans _ _ _
 ntrans x y z:=nW.ntrans _ _ _
 anti x y a b:=Subtype.ext (h _ x.2 _ y.2 (nW.anti _ _ a b))
theorem zZQ(h:zQ3 E):zHz Tryz.prog 145 146 (fun e:zI5 E=>dE e.1) zOx :=
 zSZ (k:=9) (fun _=>rfl) (zEA h) (fun a b=>zLq a.1 b.1) fun α _ enc hk h1 cf hO blk off cap d w hcmp hH hblk hsz =>
  Go.Proofs.AnyQ.slices_SortFunc zNC 9 Tryz.isAgg155 Tryz.sizeOf155 enc hk h1 cf hO 146 #[] blk off cap d w zTX hcmp hH hblk hsz
theorem qG3:∀(p:Option Addr) (cap:Nat) (fv:Value) (w:World),Calls Tryz.prog 145 #[.slice p 0 cap,fv] w fun e w'=>e=.returned (.tuple #[])/\w'=w :=
 fun p cap fv w=>Go.Proofs.AnyF.slices_SortFunc_none zNC p cap fv w
def zFz(E:wU):wU:=(pA (zOx (E:=E)) (E.attach)).map (·.1)
theorem zJq(l:List (zI5 E)):l.flatMap (fun e=>dE e.1)=yX (l.map (·.1)):=by
 induction l with
 |nil=>rfl
 |cons e l ih=>rw[jBb,ih,jAi,sA]
theorem zSX(h:zQ3 E)(hmx:E.length<4611686018427387904):my 145 [.row 0 E.length,.clo 146 [] []] [.row false 155 9 E.length (yX E)] (.tup []) [.row false 155 9 E.length (yX (zFz E))]:=by have:=zKA (sz:=9) (by omega) (fun _=>rfl) (fun b:zI5 E=>zGg b.1 0) (zEA h) 155 (zZQ h) qG3 E.attach (by simpa using hmx);rw[zJq,zJq,List.length_attach]at this;rw[show (E.attach.map (·.1))=E from List.attach_map_subtype_val E]at this;exact this
theorem fU(E:wU):(zFz E).Perm E:=by have h:=(List.mergeSort_perm E.attach fun x y=>!decide (zOx y x<0)).map (·.1);rw[show (E.attach.map (·.1))=E from List.attach_map_subtype_val E]at h;exact h
theorem zSY(h:zQ3 E)(hn:E.Nodup):SS ((zFz E).map (·.id)):=by
 have ho:=zEA h;have hs:=List.pairwise_mergeSort (le:=fun x y:zI5 E=>!decide (zOx y x<0)) (fun a b c h1 h2=>by simp only[jBr,decide_eq_false_iff_not]at *;exact ho.ntrans c b a h2 h1)
  (fun a b=>by
   simp only[jBh,jBr,decide_eq_false_iff_not];by_cases h:zOx b a<0
   .exact .inr fun h'=>ho.irrefl _ (ho.trans _ _ _ h h')
   .exact .inl h) E.attach
 have hnd:(zFz E).Nodup:=(fU E).nodup_iff.2 hn;unfold SS;rw[jCy];have h1:(zFz E).Pairwise fun a b=>¬zCc b.id a.id<0:=by
  unfold zFz;rw[jCy];exact hs.imp fun hab=>by simp only[jBr]at hab;exact of_decide_eq_false hab
 have h2:=List.Pairwise.and h1 hnd;have h3:=List.Pairwise.and_mem.1 h2;exact h3.imp fun {a b} ⟨ha,hb,hc,hne⟩=>by
  cases hl:bZ a.id b.id with
  |true=>rfl
  |false =>
   rw[pY]at hc;have hba:bZ b.id a.id=false:=by simpa using hc
   exact(hne (h a ((fU E).mem_iff.1 ha) b ((fU E).mem_iff.1 hb) (nV hl hba))).elim
def gO(p:Prg):wU:=p.defs.filterMap yB
theorem zEo(hf:Fit p hs):zQ3 (gO p)/\(gO p).Nodup:=by
 have hnd:=hf.nd;have key:∀(l:wQ),l.Pairwise (fun a b=>a.id≠b.id)->((l.filterMap yB).map (·.id)).Nodup:=by
  intro l;induction l with
  |nil=>intro _;simp
  |cons d l ih =>
   intro h;have h':=jC5.1 h;rw[List.filterMap_cons];cases he:yB d with
   |none=>exact ih h'.2
   |some e =>
    simp only[jAi,jD4];refine⟨fun hm=>?_,ih h'.2⟩;obtain⟨e',he',hid⟩:=jAg.1 hm;obtain⟨d',hd',hde⟩:=jCz.1 he';rw[p6 he,p6 hde]at hid;exact h'.1 d' hd' hid.symm
 have hk:=key _ hnd;constructor
 .intro a ha b hb hab;obtain⟨i,hi,rfl⟩:=jAn ha;obtain⟨j,hj,rfl⟩:=jAn hb;have hab':((gO p).map (·.id))[i]'(by simpa using hi)=((gO p).map (·.id))[j]'(by simpa using hj):=by simpa using hab
  have hij:=(List.getElem_inj hk).1 hab';subst hij;rfl
 .exact List.Pairwise.of_map (·.id) (fun a b h e=>h (by rw[e])) hk
theorem mG(hf:Fit p hs):zFz (gO p)=bY p:=by
 obtain⟨h1,h2⟩:=zEo hf;refine zHC hf (zSY h1 h2) fun e=>?_
 rw[(fU _).mem_iff];unfold gO;rw[jCz]
theorem zRi(hf:Fit p hs):my 98 [.agg (zN p)] [] (.sl (bY p).length (yX (bY p))) []:=by
 have hP:=eP p;have hL:=hf.len8;refine mq [] [.slot 2] Tryz.func98 (by kernel_rfl) ?_
 (conv in kq _ _=>cbv)
 simp[hP];intro hlm;have hlen:∀i,((p.defs.take i).filterMap yB).length<=100:=fun i=>by have:=jDe yB (p.defs.take i);rw[jAs]at this;omega
 refine qO (S:=Nat) (fun i=>[(3,.row 1 ((p.defs.take i).filterMap yB).length),(7,.sl p.defs.length (z6 p.defs)),(8,int p.defs.length),(9,int i)]) (fun i=>[.box (zN p),.row false 155 9 ((p.defs.take i).filterMap yB).length (yX ((p.defs.take i).filterMap yB))])
  (fun i=>i<=p.defs.length) (fun i=>p.defs.length-i) 0 (by simp)
  ((yK (t:=3) (by simp) 155 9).trans (mw [0,1] 0 (by rfl) (by simp[hP]))) ?_
 intro i hi;have hln:=hlen i;by_cases h:i<p.defs.length
 .have hw:=jY i (by omega);have hts:p.defs.take (i+1)=p.defs.take i++[p.defs[i]]:=jA8 h;generalize hE:(p.defs.take i).filterMap yB=E at *
  have hE':(p.defs.take (i+1)).filterMap yB=E++(yB p.defs[i]).toList:=by rw[hts,List.filterMap_append,hE];cases h:yB p.defs[i]<;>simp[List.filterMap_cons,h]
  simp[hP,h,yD h];generalize hd:p.defs[i]=d at *
  by_cases hk:d.kind=5
  .match hsl:d.slots with
   |[s] =>
    have hcs:jN [s]=j4 s:=by simp[jN]
    by_cases h3:s.typ.k=3
    .by_cases h4:d.res.k=3
     .have hed:yB d=some ⟨d.id,s.typ.id,d.res.id⟩:=by simp[yB,hk,hsl,h3,h4]
      rw[hed]at hE';simp[zK,hk,hsl,hcs,j4,h3,h4];exact fun _=>⟨⟨by simp[maxLen];omega,by omega⟩,zS (i+1) h (by omega) (mw [0,1] 0 (by rfl) (by simp[hP,hE',zDZ,sA,dE,hw]))⟩
     .have hed:yB d=none:=by simp[yB,hk,hsl,h4]
      rw[hed]at hE';simp[zK,hk,hsl,hcs,j4,h3,h4]
      first|exact fun _=>zS (i+1) h (by omega) (mw [0,1] 0 (by rfl) (by simp[hP,hE',hw]))|exact zS (i+1) h (by omega) (mw [0,1] 0 (by rfl) (by simp[hP,hE',hw]))
    .have hed:yB d=none:=by simp[yB,hk,hsl,h3]
     rw[hed]at hE';simp[zK,hk,hsl,hcs,j4,h3]
     first|exact fun _=>zS (i+1) h (by omega) (mw [0,1] 0 (by rfl) (by simp[hP,hE',hw]))|exact zS (i+1) h (by omega) (mw [0,1] 0 (by rfl) (by simp[hP,hE',hw]))
   |[] =>
    have hed:yB d=none:=by simp[yB,hsl]
    rw[hed]at hE';simp[zK,hk,hsl]
    first|exact fun _=>zS (i+1) h (by omega) (mw [0,1] 0 (by rfl) (by simp[hP,hE',hw]))|exact zS (i+1) h (by omega) (mw [0,1] 0 (by rfl) (by simp[hP,hE',hw]))
   |s::s'::l =>
    have hed:yB d=none:=by simp[yB,hsl]
    rw[hed]at hE';have h1:¬((l.length:Int)+1+1=1):=by omega
    simp[zK,hk,hsl,h1]
    first|exact fun _=>zS (i+1) h (by omega) (mw [0,1] 0 (by rfl) (by simp[hP,hE',hw]))|exact zS (i+1) h (by omega) (mw [0,1] 0 (by rfl) (by simp[hP,hE',hw]))
  .have hed:yB d=none:=by simp[yB,hk]
   rw[hed]at hE';simp[zK,hk];exact zS (i+1) h (by omega) (mw [0,1] 0 (by rfl) (by simp[hP,hE',hw]))
 .have hi':i=p.defs.length:=by omega
  subst hi';have hE:(p.defs.take p.defs.length).filterMap yB=gO p:=by rw[jAu];rfl
  rw[hE];have hle:(gO p).length<=100:=by have:=jDe yB p.defs;unfold gO;omega
  obtain⟨g1,g2⟩:=zEo hf;simp[hP];refine mr (zSX g1 (by omega)) [1] (by simp) ?_;simp[hP];rw[mG hf,show (gO p).length=(bY p).length by rw[<-mG hf];exact(fU _).length_eq.symm];exact zA 1 (by simp)
end Go.Proofs.YtdnelmeboihpkaaGreatDoor
namespace Go.Proofs.YtdnelmeboihpkaaGreatDoor
open Go.Abs
def mrk(l:wF):List (wB×A):=l.map fun x=>(zA2 x,.lit (.bool true))
theorem zEJ{x y:Id}:zA2 x=zA2 y↔x=y:=by simp[zA2,Id.eq_iff]
theorem zGx(x:Id):∀l:wF,fF (zA2 x) (mrk l)=if x∈l then some (.lit (.bool true))else none
 |[]=>rfl
 |y::l=>by
  have ih:=zGx x l;simp only[mrk,jAi,fF]at ih ⊢;by_cases h:y=x
  .subst h;simp
  .rw[if_neg fun e=>h (zEJ.1 e),ih];simp[Ne.symm h]
theorem zFc(x:Id):∀l:wF,x∉l->putI (zA2 x) (.lit (.bool true)) (mrk l)=mrk (l++[x])
 |[],_=>rfl
 |y::l,h=>by simp only[jA3,not_or]at h;have ih:=zFc x l h.2;simp only[mrk,jAi,putI,jB6]at ih ⊢;rw[if_neg fun e=>h.1 (zEJ.1 e).symm,ih]
theorem zJa(x:Id):∀l:wF,x∉l->zCe (zA2 x) (mrk (l++[x]))=mrk l
 |[],_=>by simp[mrk,zCe]
 |y::l,h=>by simp only[jA3,not_or]at h;have ih:=zJa x l h.2;simp only[mrk,jAi,zCe,jB6]at ih ⊢;rw[if_neg fun e=>h.1 (zEJ.1 e).symm,ih]
theorem zE3(x:Id)(l:wF):sU (Value.bool false) false (fF [x.a,x.b,x.c] (mrk l))=.lit (.bool (decide (x∈l))):=by have hf:=zGx x l;simp only[zA2]at hf;rw[hf];by_cases h:x∈l<;>simp[sU,h,tC,jJ]
@[simp]theorem qMS{rf g}(l:wF):(mrk l).map (fun p=>(p.1,vw rf g p.2))=mrk l:=by unfold mrk;rw[jCc];exact jC2 fun x _=>by simp
theorem zDM{marked:wF}{x:Id}:∀(l:wU) (M:wF),(pE marked x l M).length<=M.length+l.length
 |[],M=>by simp[pE]
 |e::l,M=>by
  simp only[pE,jA9];split
  .have:=zDM (marked:=marked) (x:=x) l (M++[e.to]);simp only[jA5,jAz]at this;omega
  .have:=zDM (marked:=marked) (x:=x) l M;omega
def zVB:K:=G [kO 5 1,kO 6 2,kMb 8 false] (G [⟨none,.mop (some 14) (.mk 3) []⟩,J 15 5 3,⟨none,.mop none (.set 3) [(kt 14),(kt 15),(.const (.bool true))]⟩,M 16 14,M 9 16] (G [J 17 5 3,⟨none,.brow (some 18) 31 3 1 [ki,ki,ki] [(0,3,(kt 17))]⟩,M 10 18] (Z (K.block 0 (K.loop (Z (G [M 19 10,kN 20 19,kBi 21 20 0 .gtr] (Y 21 ks (K.exit 0))) (K.block 1 (G [M 22 10,kXi 23 22 3 0,J 24 23 3,kZ 11 [ki,ki,ki],S 11 24 3] (G [M 25 10,⟨none,.rslc (some 26) (kt 25) 3 (some (kc 1)) none⟩,M 10 26] (Z (G [J 27 11 3,J 28 6 3,⟨none,.eqs (some 29) false [.i,.i,.i] (kt 27) (kt 28)⟩] (Y 29 (G [kMb 8 true] kr) ks)) (G [M 30 0,kN 31 30,kMi 32 0] (K.block 2 (K.loop (G [kB 33 32 31 .lss] (Z (Y 33 ks (K.exit 2)) (Z (K.block 3 (G [kX 34 30 32 9,J 35 34 9,kZ 13 [ki,ki,ki,ki,ki,ki,ki,ki,ki],S 13 35 9] (G [D 36 13 3,J 37 36 3,J 38 11 3,⟨none,.eqs (some 39) false [.i,.i,.i] (kt 37) (kt 38)⟩,M 40 39,T 40 true (M 41 9),T 40 true (D 42 13 6),T 40 true (J 43 42 3),⟨some (40,true),.mop (some 44) (.get 3 (.bool false) false) [(kt 41),(kt 43)]⟩,T 40 true (kR 45 44),kPf 46 40 45,M 47 46,T 47 true (M 48 3),T 47 true (D 49 13 6),T 47 true (J 50 49 3),⟨some (47,true),.mop (some 51) (.get 3 (.bool false) false) [(kt 48),(kt 50)]⟩,T 47 true (kR 52 51),kPf 53 47 52] (Y 53 (G [M 54 9,D 55 13 6,J 56 55 3,⟨none,.mop none (.set 3) [(kt 54),(kt 56),(.const (.bool true))]⟩] (K.ops [M 57 10,D 58 13 6,J 59 58 3,kd 60 31 3 1 [ki,ki,ki] [(0,3,(kt 59))],⟨none,.apq (some 61) 31 3 24 (kt 57) (kt 60)⟩,M 10 61])) ks)))) (K.ops [kBi 62 32 1 .add,
 M 32 62])))))))))))))) (G [kMb 8 false] kr))))
theorem qEf:ky Tryz.f101 zVB:=m_ (by kernel_rfl)
open Classical in
theorem zMy(L:wU)(hL:L.length<=1000)(fro to:Id)(marked:wF)(fr:Bool) :
 my 101 [.sl L.length (yX L),.agg (zL fro),.agg (zL to),.map 0] [.mp fr 3 (mrk marked)] (bl (decide (Rchs L to marked fro))) [.mp fr 3 (mrk marked)]:=by
 refine zI Tryz.func101 rfl qEf (rs:=[.slot 8]) (by kernel_rfl) ?_;unfold zVB;have hm1:putI [fro.a,fro.b,fro.c] (.lit (.bool true)) []=mrk [fro]:=rfl;simp -implicitDefEqProofs [zL,hm1];refine qO (S:=wF×wF×wF) (fun s=>[(0,.sl L.length (yX L)),(3,.map 0),(5,.ptr 1 0),(6,.ptr 2 0),(8,bl false),(9,.map 3),(10,.win 4 (s.1.length+s.2.2.length) (s.1.length*3) s.2.2.length 3)])
  (fun s=>[.mp fr 3 (mrk marked),.box (zL fro),.box (zL to),.mp true 3 (mrk (s.2.1++s.2.2)),.row false 31 3 (s.1.length+s.2.2.length) (zV (s.1++s.2.2))])
  (fun s=>Bfs L to marked fro (s.2.1++s.2.2) s.2.1.length/\s.1.length<=s.2.1.length) (fun s=>L.length+1-s.2.1.length) ([],[],[fro]) ⟨Bfs.start L to marked fro,by simp⟩ ?_ ?_
 .refine(zTt (t:=10) (l:=4) (m:=1) (sz:=3) (by simp) rfl).trans (mw [0,1,2,3,4] 0 (by rfl) (by simp[zL]))
 rintro⟨junk,dn,live⟩ ⟨hb,hj⟩;simp only at hb hj;have hM:=hb.len;rw[jA5]at hM
 match hlive:live with
 |[] =>
  have hno:=hb.no (by simp);simp -implicitDefEqProofs;exact mv [0] 0 (by rfl) (by simp[hno])
 |x::rest =>
  have hpos:(0:Int)<(rest.length:Int)+1:=by omega
  have hlt:junk.length*3+3<=(junk.length+(rest.length+1))*3:=by omega
  have hk:dn.length<(dn++x::rest).length:=by simp
  have hx:(dn++x::rest)[dn.length]=x:=by simp
  have hdr:(zV (junk++x::rest)).drop (junk.length*3)=zL x++zV rest:=by rw[sB,List.drop_left,fL];rfl
  simp only[jA9]at hM;by_cases hto:x=to
  .have hyes:=hb.yes hk (hx.trans hto);subst hto;simp -implicitDefEqProofs [hpos,hdr,zL,hlt];exact⟨by omega,mv [0] 0 (by rfl) (by simp[hyes])⟩
  .have hnx:=hb.next hk (by rw[hx];exact hto);rw[hx]at hnx;simp -implicitDefEqProofs [hpos,hdr,zL,hlt,hto];refine⟨by omega,fun _=>?_⟩;have hsh:junk.length+1+rest.length=junk.length+(rest.length+1):=by omega
   refine qO (S:=Nat×wF×wF) (fun s=>[(0,.sl L.length (yX L)),(3,.map 0),(5,.ptr 1 0),(6,.ptr 2 0),(8,bl false),(9,.map 3),(10,.win 4 (s.2.1.length+s.2.2.length) (s.2.1.length*3) s.2.2.length 3),(11,.ptr 5 0),(30,.sl L.length (yX L)),(31,int L.length),(32,int s.1)])
    (fun s=>[.mp fr 3 (mrk marked),.box (zL fro),.box (zL to),.mp true 3 (mrk (dn++x::s.2.2)),.row false 31 3 (s.2.1.length+s.2.2.length) (zV (s.2.1++s.2.2)),.box (zL x)])
    (fun s=>s.1<=L.length/\pE marked x (L.take s.1) (dn++x::rest)=dn++x::s.2.2/\s.2.1.length<=dn.length+1) (fun s=>L.length-s.1) (0,junk++[x],rest) ⟨by simp,by simp[pE],by simp;omega⟩
    (mw [0,1,2,3,4,5] 0 (by rfl) (by simp[zL,hsh,jB])) ?_
   rintro⟨j,jk,lv⟩ ⟨hjl,hN,hjk⟩;simp only at hjl hN hjk;have hlen:=zDM (marked:=marked) (x:=x) (L.take j) (dn++x::rest);rw[hN]at hlen;simp only[jA5,jA9,jAs]at hlen;by_cases h:j<L.length
   .have hw:=jY j (by omega);have hsn:=zGe marked x L[j] (L.take j) (dn++x::rest);rw[<-jA8 h,hN]at hsn;have hg1:=zE3 L[j].to (dn++x::lv);have hg2:=zE3 L[j].to marked;have hput:=zFc L[j].to (dn++x::lv);have hMj:dn++x::(lv++[L[j].to])=dn++x::lv++[L[j].to]:=by simp
    have hcs:zV (lv++[L[j].to])=zV lv++zL L[j].to:=by rw[yH];rfl
    have hdl:(zV (jk++lv)).drop (jk.length*3)=zV lv:=by rw[sB,List.drop_left]
    simp only[zA2]at hput;generalize hM0:dn++x::lv=Mj at *
    by_cases c1:L[j].fro=x
    .by_cases c2:L[j].to∈Mj
     .rw[if_neg (by simp[c2])]at hsn;simp -implicitDefEqProofs [h,dY h,dE,zL,c1,hg1,c2];exact zS (j+1,jk,lv) ⟨h,by rw[hsn,hM0],hjk⟩ (by simp only;omega) (mw [0,1,2,3,4,5] 0 (by rfl) (by simp[zL,hM0,hw]))
     .by_cases c3:L[j].to∈marked
      .rw[if_neg (by simp[c3])]at hsn;simp -implicitDefEqProofs [h,dY h,dE,zL,c1,hg1,c2,hg2,c3];exact zS (j+1,jk,lv) ⟨h,by rw[hsn,hM0],hjk⟩ (by simp only;omega) (mw [0,1,2,3,4,5] 0 (by rfl) (by simp[zL,hM0,hw]))
      .rw[if_pos ⟨c1,c2,c3⟩]at hsn;simp -implicitDefEqProofs [h,dY h,dE,zL,c1,hg1,c2,hg2,c3,hput c2];refine⟨?_,?_,?_⟩
       .exact⟨rfl,by omega,rfl,rfl,rfl,rfl,by omega,by simp[maxLen];omega,by omega⟩
       .exact zS (j+1,jk,lv++[L[j].to]) ⟨h,by rw[hsn,hMj],hjk⟩ (by simp only;omega) (mw [0,1,2,3,4,5] 0 (by rfl) (by simp[zL,hMj,yH,jBk,hw]))
       .exact zS (j+1,[],lv++[L[j].to]) ⟨h,by rw[hsn,hMj],by simp⟩ (by simp only;omega) (mw [0,1,2,3,7,5] 0 (by rfl) (by simp[zL,hMj,hdl,yH,hw]))
    .rw[if_neg (by simp[c1])]at hsn;simp -implicitDefEqProofs [h,dY h,dE,zL,c1];exact zS (j+1,jk,lv) ⟨h,by rw[hsn,hM0],hjk⟩ (by simp only;omega) (mw [0,1,2,3,4,5] 0 (by rfl) (by simp[zL,hM0,hw]))
   .have hjl':j=L.length:=by omega
    subst hjl';rw[jAu]at hN;rw[hN]at hnx;simp -implicitDefEqProofs;exact zS (jk,dn++[x],lv) ⟨by simpa using hnx,by simpa using hjk⟩ (by simp only[jA5,jAz];omega) (mw [0,1,2,3,4] 0 (by rfl) (by simp[zL]))
end Go.Proofs.YtdnelmeboihpkaaGreatDoor
