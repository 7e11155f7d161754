/- eval.Call. -/
import Derived.Test.YtdnelmeboihpkaaGreatDoorX18
set_option linter.unusedVariables false
set_option maxHeartbeats 8000000
set_option maxRecDepth 100000
set_option linter.unusedSimpArgs false
namespace Go.Proofs.YtdnelmeboihpkaaGreatDoor
open Go Go.Abs
section
variable{p:Prg}{F:Int}{d:Dfn}{us:wH}{s:XS}{r:Val×XS}
theorem zQn(hb:RP 72 [.ptr 0 0,.agg (zI d),.sl us.length (zS us)] p F s (.agg (zL r.1)) r.2)(hf:r.2.fail=0) :
 my 71 [.ptr 0 0,.ptr 1 0,.ptr 2 0] (eS p F s++dA d us) (.agg (zL r.1)) (eS p F r.2++dA d us):=by
 have hP:=eP p;refine zJ Tryz.func71 rfl qCJ (rs:=[.cell 4 3 true]) (by kernel_rfl) ?_
 (conv in zW1=>cbv)
 simp[eS,hP];refine mr (hb.ret hf) [0] (by simp[eS,hP]) ?_;simp[eS,hP,zL];exact mv [0,1,2] 0 (by rfl) (by simp[zL])
theorem zQm(hb:RP 72 [.ptr 0 0,.agg (zI d),.sl us.length (zS us)] p F s (.agg (zL r.1)) r.2)(hf:r.2.fail≠0) :
 aH Tryz.prog 71 [.ptr 0 0,.ptr 1 0,.ptr 2 0] (eS p F s++dA d us) fun o U'=>o=.pan (zIz r.2.fail)/\U'[1]?=some (.box (zI d))/\U'[2]?=some (.box [.sl us.length (zS us)]):=by
 have hP:=eP p;refine tF Tryz.func71 rfl qCJ (rs:=[.cell 4 3 true]) (by kernel_rfl) ?_
 (conv in zW1=>cbv);unfold wpF
 simp[eS,hP];refine zAw (hb.pan hf) [0] (by decide) (by simp[eS,hP]) (by simp) fun τ=>?_
 refine⟨rfl,?_,?_⟩
 .rw[i9 (by simp) (by simp)];rfl
 .rw[i9 (by simp) (by simp)];rfl
end
def qEe:Nat->Option wD:=fun|2=>k_ [0,0,0,0,0,0,0,0,2,2,0,0,0,0]|_=>none
def zF0(p:Prg)(id:Id):A:=.tup [.agg (zI ((qI p.defs id).getD .zero)),bl ((qI p.defs id).isSome&&fA ((qI p.defs id).getD .zero))]
theorem zQk(p:Prg)(id:Id):my 69 [.agg (zT p),.agg (zG id)] [] (zF0 p id) []:=by
 have hP:=eP p;have hdf:=mY p id;unfold zF0;unfold dL at hdf;generalize (qI p.defs id).getD .zero=d at *
 generalize (qI p.defs id).isSome=b at *
 refine ml qEe [14] [] [] [.cell 4 31 true,.slot 5] Tryz.func69 (by kernel_rfl) ?_
 (conv in kH _ _ _=>cbv)
 simp[hP,zG];refine mu hdf (by simp[zT,zG]) ?_;simp[zI];refine⟨_,_,zK (l:=[(4,.ptr 0 0),(6,.rptr (zI d)),(7,bl b)]) (U':=[.box (kz0.map qZ)]) [2] 1 (by simp) (by simp) (by simp) (by simp[zI]),?_⟩;cases b
 .simp[zI];exact zA 0 (by simp[zI])
 .by_cases h0:d.kind=0
  .simp[zI,h0];exact zA 0 (by simp[zI,h0,fA])
  .by_cases h1:d.kind=1
   .simp[zI,h0,h1];exact zA 0 (by simp[zI,h1,fA])
   .simp[zI,h0,h1];exact zA 0 (by simp[zI,h0,h1,fA])
def o4(p:Prg)(id:Id)(vs:wH)(fuel:Int):A:=match qI p.defs id with
 |none=>.tup [.agg (zL vz),int 0,int 6]
 |some d=>if fA d=false then .tup [.agg (zL vz),int 0,int 6]else if vs.length≠d.slots.length then .tup [.agg (zL vz),int 0,int 1]
  else if gD p (d.slots.map Slt.typ) vs=false then .tup [.agg (zL vz),int 0,int 1]else zHv fuel (pR p d vs fuel)
theorem zKH{p:Prg}{hs:wO}(hf:Fit p hs)(id:Id)(vs:wH){gas fuel:Int}(hG:fuel=max gas 0)(hfu:fuel<=90000)(hz:∀v∈vs,qN v<=256/\bI v<=24) :
 my 29 [.agg (zT p),.agg (zG id),.sl vs.length (zS vs),int gas] [] (o4 p id vs fuel) []:=by
 have hP:=eP p;have hbo:=zQk p id;refine mq [] [.cell 8 3 true,.slot 9,.slot 10] Tryz.func29 (by kernel_rfl) ?_
 (conv in kq _ _=>cbv)
 simp[hP,zG];refine mu hbo (by simp[zT,zG,zF0]) ?_;cases hd:qI p.defs id with
 |none =>
  rw[show o4 p id vs fuel=.tup [.agg (zL vz),int 0,int 6] by simp[o4,hd]];simp[zF0,hd,zI];exact zA 0 (by simp[zL,j3,jE,qE])
 |some d =>
 have hdm:=(y6 hd).1;obtain⟨s1,s6,_,snd,sty⟩:=hf.slots d hdm;cases hb:fA d with
 |false =>
  rw[show o4 p id vs fuel=.tup [.agg (zL vz),int 0,int 6] by simp[o4,hd,hb]];simp[zF0,hd,hb,zI];exact zA 0 (by simp[zL,j3,jE,qE])
 |true =>
 simp[zF0,hd,hb,zI];by_cases hl:vs.length=d.slots.length
 .have hfit:=fun i (hi:i<d.slots.length)=>zGB p d.slots[i].typ (vs[i]'(by omega)) (hz _ (jA3 _)).1 (hz _ (jA3 _)).2
  simp[hl];intro hls;refine qM (S:=Nat) (fun i=>[(3,int gas),(4,.ptr 0 0),(6,.ptr 2 0),(8,.ptr 3 0),(11,.ptr 4 0),(32,.sl d.slots.length (jF d.slots)),(33,int d.slots.length),(34,int i)])
   (fun i=>[.box (zT p),.box (zG id),.box [.sl vs.length (zS vs)],.box [int 0,int 0,.nil],.box (zI d)]) (fun i=>i<=d.slots.length/\∀j (hj:j<i) (hj':j<d.slots.length),eV p d.slots[j].typ (vs[j]'(by omega))=true) (fun i=>d.slots.length-i) 0 ⟨by omega,fun j hj=>by omega⟩
   (mw [0,1,2,3,4] 0 (by rfl) (by simp[hP,zI,zG,hl])) ?_
  rintro i ⟨hi,hft⟩;by_cases hil:i<d.slots.length
  .have hiv:i<vs.length:=by omega
   have hdr:=jN hil;have hdv:=jY hiv;have hfi:=hfit i hil;cases hfv:eV p d.slots[i].typ vs[i]with
   |false =>
    rw[hfv]at hfi;have hfl:gD p (d.slots.map Slt.typ) vs=false:=by
     cases hq:gD p (d.slots.map Slt.typ) vs with
     |false=>rfl
     |true =>
      have:=vA hq i (by simpa using hil) hiv;rw[jAy,hfv]at this;cases this
    rw[show o4 p id vs fuel=.tup [.agg (zL vz),int 0,int 1] by simp[o4,hd,hb,hl,hfl]];simp[hP,hil,hiv,hdr,hdv,j4,zI];refine zZ hfi (by simp[hP,zB,zL]) (by simp) ?_;simp;exact zA 0 (by simp[zL,j3,jE,qE])
   |true =>
    rw[hfv]at hfi;simp[hP,hil,hiv,hdr,hdv,j4,zI];refine zZ hfi (by simp[hP,zB,zL]) (by simp) ?_;simp;refine zN (i+1) ⟨hil,fun j hj hj'=>?_⟩ (by omega) (mw [0,1,2,3,4] 0 (by rfl) (by simp[hP,zI,z6 hil hls]));by_cases hji:j=i
    .subst hji;exact hfv
    .exact hft j (by omega) hj'
  .have hie:i=d.slots.length:=by omega
   subst hie;have hfl:gD p (d.slots.map Slt.typ) vs=true:=zFH (by simpa using hl) fun j h1 h2=>by rw[jAy];exact hft j (by simpa using h1) (by simpa using h1)
   rw[show o4 p id vs fuel=zHv fuel (pR p d vs fuel) by simp[o4,hd,hb,hl,hfl]];have hty:TyL p (d.slots.map Slt.typ) vs:=TyL.of (by simpa using hl) fun j hj=>by rw[jAy];exact zMB hf (sty _ (jA3 _)) _ (hft j (by omega) (by omega))
   have hV:=EnvT.args hty fun v hv=>(hz v hv).1
   have hIh:=zM5 (F:=fuel) hf.bods (zN0 hf) (by omega) fuel.toNat (by omega);have hca:=zIu hIh d vs hl s6 (s:=⟨fuel,0,zL9 p d.slots [],[]⟩) rfl (fun _=>⟨_,_,hf.bods _ d hd hb,hV,zM4 snd vs hl⟩) ⟨by simp only;omega,by simp only;omega⟩;change RP _ _ _ _ _ (.agg (zL (pR p d vs fuel).1)) (pR p d vs fuel).2 at hca;have hsz:(pR p d vs fuel).2.fail=0->qN (pR p d vs fuel).1<=256:=fun h0=>by
    have he:pR p d vs fuel=bG p 1 fuel.toNat d.body (i5 d.slots vs) ⟨fuel,0,zL9 p d.slots []++[d.id],[]⟩:=by unfold pR eO;simp
    rw[he]at h0 ⊢;exact(hIh.snd _ _ _ _ _ (hf.bods _ d hd hb) hV h0).2
   generalize pR p d vs fuel=r at *
   have hdo:=zX0 (d:=d) (us:=vs) hG rfl hsz (zQn hca) (zQm hca);simp[hP];refine mr hdo [4,2] (by simp[zI,hP]) ?_;by_cases h0:r.2.fail=0
   all_goals
    simp[zHv,h0,zL];exact zA 0 (by simp)
 .rw[show o4 p id vs fuel=.tup [.agg (zL vz),int 0,int 1] by simp[o4,hd,hb,hl]];have hl':¬((vs.length:Int)=d.slots.length):=by omega
  simp[hl']
  intros
  exact zA 0 (by simp[zL,j3,jE,qE])
end Go.Proofs.YtdnelmeboihpkaaGreatDoor
namespace Go.Proofs.YtdnelmeboihpkaaGreatDoor
open Go.Abs
def SE(s s':XS):Prop:=s.fuel=s'.fuel/\s.fail=s'.fail
def EqF(r r':Val×XS):Prop:=SE r.2 r'.2/\(r.2.fail=0->r.1=r'.1)
theorem SE.rfl'(s:XS):SE s s:=⟨rfl,rfl⟩
theorem tU{s s':XS}(h:SE s s')(v:Val):EqF (v,s) (v,s'):=⟨h,fun _=>rfl⟩
section
variable{p:Prg}{f g:Evl}
theorem zHV(hf:oZ f)(h:∀e V s s',SE s s'->EqF (f e V s) (g e V s'))(V:wM):∀(l:wG) (s s':XS),SE s s'->SE (jP f V l s).2 (jP g V l s').2/\((jP f V l s).2.fail=0->(jP f V l s).1=(jP g V l s').1)
 |[],s,s',hs=>⟨hs,fun _=>rfl⟩
 |e::l,s,s',hs=>by have h1:=h e V s s' hs;have h2:=zHV hf h V l _ _ h1.1;refine⟨by simp only[jP];exact h2.1,fun h0=>?_⟩;have h3:=zMo hf h0;simp only[jP]at h0 ⊢;rw[<-h2.2 h0,h1.2 h3]
theorem zFI(hf:oZ f)(hg:oZ g)(h:∀e V s s',SE s s'->EqF (f e V s) (g e V s'))(V:wM)(i:Id)(b:Exp):∀(l:wH) (r r':Val×XS),EqF r r'->EqF (yR f V i b l r) (yR g V i b l r')
 |[],r,r',hr=>hr
 |x::l,r,r',hr=>by
  simp only[yR];refine zFI hf hg h V i b l _ _ ?_;by_cases h0:r.2.fail=0
  .rw[hr.2 h0];exact h _ _ _ _ hr.1
  .rw[hf _ _ _ h0,hg _ _ _ (by rw[<-hr.1.2];exact h0)];exact tU hr.1 _
variable{s s':XS}
theorem zS4{c c':Bool}{v v':Val}(hs:SE s s')(h:s.fail=0->v=v'):EqF (zf c s v,s) (zf c' s' v',s'):=by refine⟨hs,fun hf=>?_⟩;simp only at hf ⊢;rw[sT hf,sT (by rw[<-hs.2];exact hf),h hf]
theorem zBx(h:∀e V s s',SE s s'->EqF (f e V s) (g e V s'))(d:Dfn){vs vs':wH}(hs:SE s s')(hv:s.fail=0->vs=vs'):EqF (eO f d vs s) (eO g d vs' s'):=by
 unfold eO;by_cases hf:s.fail=0
 .rw[if_neg (by simp[hf]),if_neg (by simp[<-hs.2,hf]),hv hf];exact h _ _ _ _ hs
 .rw[if_pos hf,if_pos (by rw[<-hs.2];exact hf)];exact tU hs _
theorem zIc(hf:oZ f)(hg:oZ g)(h:∀e V s s',SE s s'->EqF (f e V s) (g e V s'))(e:Exp)(V:wM)(hs:SE s s'):EqF (bD f e V s) (bD g e V s'):=by
 unfold bD;have h0:=h (e.kids.headD .zero) V s s' hs;generalize f (e.kids.headD .zero) V s=r at *
 generalize g (e.kids.headD .zero) V s'=r' at *
 obtain⟨v,t⟩:=r;obtain⟨v',t'⟩:=r';by_cases hz:t.fail=0
 .have hz':t'.fail=0:=h0.1.2.symm.trans hz;have hv:v=v':=h0.2 hz;subst hv;simp only[hz,hz',ne_eq,not_true,if_false]
  repeat' split
  all_goals first
   |exact tU h0.1 _
   |exact h _ _ _ _ h0.1
   |exact zFI hf hg h _ _ _ _ _ _ (h _ _ _ _ h0.1)
 .rw[if_pos hz,if_pos (by simpa using fun e:t'.fail=0=>hz (h0.1.2.trans e))];exact tU h0.1 _
theorem zLW(hf:oZ f)(hg:oZ g)(h:∀e V s s',SE s s'->EqF (f e V s) (g e V s'))(a b:Nat)(e:Exp)(V:wM)(hs:SE s s'):EqF (jI p a f e V s) (jI p b g e V s'):=by
 unfold jI;obtain⟨h1,h2⟩:=zHV hf h V e.kids s s' hs;generalize jP f V e.kids s=r at *
 generalize jP g V e.kids s'=r' at *
 repeat' split
 all_goals first
  |exact tU hs _
  |exact zIc hf hg h _ _ hs
  |exact zBx h _ h1 h2
  |exact zS4 h1 fun hz=>by rw[h2 hz]
theorem zQv(a b:Nat){r r':Val×XS}(h:EqF r r'):EqF (zIy a r) (zIy b r'):=by
 unfold zIy;have e:SE (mG r) (mG r')/\((mG r).fail=0->r.1=r'.1):=by
  unfold mG;by_cases hf:r.2.fail=0
  .have hf':=h.1.2.symm.trans hf;rw[<-h.2 hf];by_cases hb:zCL r.1
   .rw[if_pos ⟨hf,hb⟩,if_pos ⟨hf',hb⟩];exact⟨⟨h.1.1,rfl⟩,fun _=>rfl⟩
   .rw[if_neg fun k=>hb k.2,if_neg fun k=>hb k.2];exact⟨h.1,fun _=>rfl⟩
  .rw[if_neg fun k=>hf k.1,if_neg fun k=>hf (h.1.2.trans k.1)];exact⟨h.1,h.2⟩
 exact zS4 e.1 e.2
theorem zBP(a b:Nat):∀(m:Nat) (e:Exp) (V:wM) (s s':XS),SE s s'->EqF (bG p a m e V s) (bG p b m e V s')
 | 0,e,V,s,s',hs=>by
  rw[bG,bG,hs.2];split
  .exact tU hs _
  .exact tU (s:={s with fail:=tP}) (s':={s' with fail:=tP}) ⟨hs.1,rfl⟩ _
 |m+1,e,V,s,s',hs=>by
  rw[bG,bG,hs.2,hs.1];split
  .exact tU hs _
  .split
   .exact⟨⟨rfl,rfl⟩,fun _=>rfl⟩
   .exact zQv a b (zLW (nF p a m) (nF p b m) (zBP a b m) a b e V ⟨by simp only[oI];rw[hs.1],hs.2⟩)
end
variable{p:Prg}{hs:wO}
theorem zSQ(hf:Fit p hs)(id:Id)(vs:wH)(gas:Int):o4 p id vs (max gas 0)=rM (y7 p id vs gas):=by
 unfold o4 y7;cases hd:qI p.defs id with
 |none=>rfl
 |some d =>
  have hk:=hf.kinds d (y6 hd).1;have hbb:fA d=zKs d.kind:=by
   have h6:d.kind=0\/d.kind=1\/d.kind=2\/d.kind=3\/d.kind=4\/d.kind=5:=by omega
   unfold fA zKs;rcases h6 with h|h|h|h|h|h<;>rw[h]<;>rfl
  simp only[hbb];by_cases h1:zKs d.kind=false
  .rw[if_pos h1,if_pos h1];rfl
  rw[if_neg h1,if_neg h1];by_cases h2:vs.length≠d.slots.length
  .rw[if_pos h2,if_pos h2];rfl
  rw[if_neg h2,if_neg h2];by_cases h3:gD p (d.slots.map Slt.typ) vs=false
  .rw[if_pos h3,if_pos h3];rfl
  rw[if_neg h3,if_neg h3];have hn:(max gas 0).toNat=gas.toNat:=by omega
  by_cases hg:0<=gas
  .have he:EqF (pR p d vs (max gas 0)) (s5 p d vs gas):=by unfold pR s5;rw[hn];exact zBx (zBP 1 2 gas.toNat) d ⟨by simp only;omega,rfl⟩ fun _=>rfl
   obtain⟨⟨e1,e2⟩,e3⟩:=he;unfold zHv;by_cases h0:(pR p d vs (max gas 0)).2.fail=0
   .rw[if_pos h0,if_neg (by simp[<-e2,h0])];simp only[rM];rw[e3 h0,e1,show max gas 0=gas by omega]
   .rw[if_neg h0,if_pos (by rw[<-e2];exact h0),e2];rfl
  .have hz:gas.toNat=0:=by omega
   have e1:(pR p d vs (max gas 0)).2.fail=tP:=by unfold pR eO;rw[hn,hz];simp[bG]
   have e2:(s5 p d vs gas).2.fail=tP:=by unfold s5 eO;rw[hz];simp[bG]
   unfold zHv;rw[if_neg (by rw[e1];decide),if_pos (by rw[e2];decide),e1,e2];rfl
theorem zLl{r:Val×XS}(h:(mG r).fail=0):¬zCL r.1/\r.2.fail=0:=by
 unfold mG at h;split at h
 .cases h
 .rename_i h';exact⟨fun hb=>h' ⟨h,hb⟩,h⟩
theorem zOB(p:Prg)(fl n:Nat)(e:Exp)(V:wM)(s:XS)(h:(bG p fl n e V s).2.fail=0):¬zCL (bG p fl n e V s).1:=by
 cases n with
 |zero =>
  rw[bG]at h;split at h
  .rename_i h';exact(h' h).elim
  .cases h
 |succ n =>
  rw[bG]at h⊢;split at h
  .rename_i h';exact(h' h).elim
  .rename_i h0;rw[if_neg h0];split at h
   .cases h
   .rename_i h1;rw[if_neg h1];have:=zLl (show (mG _).fail=0 from h);show ¬zCL (zf (fl==2) (mG _) _);rw[sT (show (mG _).fail=0 from h)];exact this.1
section
variable{p:Prg}{hs:wO}(hf:Fit p hs)
include hf
theorem zKa(id:Id)(vs:wH)(hz:∀v∈vs,qN v<=256/\bI v<=24)(fuel:Int) :
 (qN (y7 p id vs fuel).1<=256/\bI (y7 p id vs fuel).1<=24)/\0<=(y7 p id vs fuel).2.1/\(y7 p id vs fuel).2.1<=max fuel 0/\0<=(y7 p id vs fuel).2.2/\(y7 p id vs fuel).2.2<=100:=by
 have hvz:qN vz<=256/\bI vz<=24:=by decide
 unfold y7;split
 .exact⟨hvz,by simp only;omega⟩
 .rename_i d hd;by_cases h1:zKs d.kind=false
  .rw[if_pos h1];exact⟨hvz,by simp only;omega⟩
  rw[if_neg h1];by_cases h2:vs.length≠d.slots.length
  .rw[if_pos h2];exact⟨hvz,by simp only;omega⟩
  rw[if_neg h2];by_cases h3:gD p (d.slots.map Slt.typ) vs=false
  .rw[if_pos h3];exact⟨hvz,by simp only;omega⟩
  rw[if_neg h3];have hfl:=zUn p d vs fuel;unfold Fl at hfl;by_cases h0:(s5 p d vs fuel).2.fail=0
  .rw[if_neg (by simp[h0])];have hg:0<=fuel:=Int.not_lt.1 fun hn=>by
    have e2:(s5 p d vs fuel).2.fail=tP:=by unfold s5 eO;rw[show fuel.toNat=0 by omega];simp[bG]
    rw[h0]at e2;cases e2
   have he:EqF (pR p d vs fuel) (s5 p d vs fuel):=by unfold pR s5;exact zBx (zBP 1 2 fuel.toNat) d ⟨rfl,rfl⟩ fun _=>rfl
   have hc:=zRQ p d vs fuel;have hu:=zUd p d vs fuel hg;rw[he.1.1]at hc hu;obtain⟨_,_,_,snd,sty⟩:=hf.slots d (y6 hd).1;have hft:gD p (d.slots.map Slt.typ) vs=true:=by simpa using h3
   have hl:vs.length=d.slots.length:=by omega
   have hty:TyL p (d.slots.map Slt.typ) vs:=TyL.of (by simpa using hl) fun j hj=>by
    rw[jAy];refine zMB hf (sty _ (jA3 _)) _ ?_;have:=vA hft j (by simp;omega) (by omega)
    rwa[jAy]at this
   have hbB:fA d=true:=zNz (by simpa using h1);have hrun:s5 p d vs fuel=bG p 2 fuel.toNat d.body (i5 d.slots vs) ⟨fuel,0,[d.id],[]⟩:=by unfold s5 eO;simp
   have hsz:=zAR hf.bods 2 fuel.toNat d.body _ _ ⟨fuel,0,[d.id],[]⟩ d.res (hf.bods _ d hd hbB) (EnvT.args hty fun v hv=>(hz v hv).1) (by rw[<-hrun];exact h0);have hbig:=zOB p 2 fuel.toNat d.body (i5 d.slots vs) ⟨fuel,0,[d.id],[]⟩ (by rw[<-hrun];exact h0);rw[<-hrun]at hsz hbig;have hdp:bI (s5 p d vs fuel).1<=24:=by have:=zD0 _ (by omega:qN (s5 p d vs fuel).1<=100000000);unfold zCL at hbig;omega
   exact⟨⟨hsz.2,hdp⟩,by simp only;omega⟩
  .rw[if_pos h0];refine⟨hvz,?_⟩;simp only;omega
end
def jS(p:Prg):List Id->Val->Int->Val×Int×Int
 |[],v,_=>(v,0,0)
 |id::l,v,fuel=>if (y7 p id [v] fuel).2.2≠0 then (vz,0,(y7 p id [v] fuel).2.2)
  else if (jS p l (y7 p id [v] fuel).1 (fuel-(y7 p id [v] fuel).2.1)).2.2≠0 then (vz,0,(jS p l (y7 p id [v] fuel).1 (fuel-(y7 p id [v] fuel).2.1)).2.2)
  else ((jS p l (y7 p id [v] fuel).1 (fuel-(y7 p id [v] fuel).2.1)).1,(y7 p id [v] fuel).2.1+(jS p l (y7 p id [v] fuel).1 (fuel-(y7 p id [v] fuel).2.1)).2.1,0)
section
variable{p:Prg}{hs:wO}(hf:Fit p hs)
include hf
end
def zCN(p:Prg)(l:wF)(v:Val)(steps fuel:Int):Val×Int×Int :=
 if (jS p l v (fuel-steps)).2.2≠0 then (vz,0,(jS p l v (fuel-steps)).2.2)else ((jS p l v (fuel-steps)).1,steps+(jS p l v (fuel-steps)).2.1,0)
theorem zQS(p:Prg)(v:Val)(steps fuel:Int):zCN p [] v steps fuel=(v,steps,0):=by simp[zCN,jS]
variable{steps fuel:Int}
theorem zQR{id:Id}{l:wF}{v:Val}(h:(y7 p id [v] (fuel-steps)).2.2≠0):zCN p (id::l) v steps fuel=(vz,0,(y7 p id [v] (fuel-steps)).2.2):=by simp[zCN,jS,h]
theorem zOh{id:Id}{l:wF}{v:Val}(h:(y7 p id [v] (fuel-steps)).2.2=0) :
 zCN p (id::l) v steps fuel=zCN p l (y7 p id [v] (fuel-steps)).1 (steps+(y7 p id [v] (fuel-steps)).2.1) fuel:=by
 unfold zCN;rw[show fuel-(steps+(y7 p id [v] (fuel-steps)).2.1)=fuel-steps-(y7 p id [v] (fuel-steps)).2.1 by omega];simp only[jS,h,ne_eq,not_true,if_false];by_cases h2:(jS p l (y7 p id [v] (fuel-steps)).1 (fuel-steps-(y7 p id [v] (fuel-steps)).2.1)).2.2=0
 .simp[h2,Int.add_assoc]
 .simp[h2]
theorem zOi(p:Prg)(l:wF)(v:Val)(fuel:Int):zCN p l v 0 fuel=if (jS p l v fuel).2.2≠0 then (vz,0,(jS p l v fuel).2.2)else ((jS p l v fuel).1,(jS p l v fuel).2.1,0):=by simp[zCN]
theorem zKQ(p:Prg):∀(l:wF) (v:Val) (fuel:Int),(jS p l v fuel).2.2≠0->(jS p l v fuel).1=vz/\(jS p l v fuel).2.1=0
 |[],v,fuel,h=>(h rfl).elim
 |id::l,v,fuel,h=>by
  unfold jS at h⊢;split
  .exact⟨rfl,rfl⟩
  .rename_i h1;rw[if_neg h1]at h;split
   .exact⟨rfl,rfl⟩
   .rename_i h2;rw[if_neg h2]at h;exact(h rfl).elim
theorem zLc(p:Prg)(l:wF)(v:Val)(fuel:Int):zCN p l v 0 fuel=jS p l v fuel:=by
 rw[zOi];by_cases h:(jS p l v fuel).2.2=0
 .rw[if_neg (by simp[h])];exact Prod.ext rfl (Prod.ext rfl h.symm)
 .rw[if_pos h];have:=zKQ p l v fuel h;exact Prod.ext this.1.symm (Prod.ext this.2.symm rfl)
def xG(p:Prg)(l:wF)(v:Val)(fuel:Int):Val×Int×Int :=
 if l=[]then (v,0,0)
 else if zAX p l=false then (vz,0,1)
 else match yJ p (l.getD 0 .zero)with
  |some a=>if eV p a.1 v=false then (vz,0,1)else jS p l v fuel
  |none=>(vz,0,1)
def jZ(d:Dfn):Option Edg:=if d.kind=5 then (match d.slots with|[s]=>if s.typ.k=3/\d.res.k=3 then some ⟨d.id,s.typ.id,d.res.id⟩ else none|_=>none)else none
theorem o7{d:Dfn}{e:Edg}(h:jZ d=some e):e.id=d.id:=by
 unfold jZ at h;split at h
 .split at h
  .split at h
   .cases h;rfl
   .cases h
  .cases h
 .cases h
def yG(p:Prg):wF:=zRV ((p.defs.filter fun d=>(yJ p d.id).isSome).map (·.id))
def jV(p:Prg):wR:=(yG p).filterMap fun x=>(qI p.defs x).bind jZ
theorem zD7(hf:Fit p hs)(e:Edg):e∈jV p↔∃d∈p.defs,jZ d=some e:=by
 unfold jV yG;rw[jCs];constructor
 .rintro⟨x,_,h⟩;rw[jA7]at h;obtain⟨d,h1,h2⟩:=h;exact⟨d,(y6 h1).1,h2⟩
 .rintro⟨d,hd,he⟩;obtain⟨i,hi,rfl⟩:=jAn hd;have hfd:=rR hf.nd hi;refine⟨p.defs[i].id,?_,by rw[hfd];exact he⟩;rw[zEG,jAk];refine⟨p.defs[i],List.mem_filter.2 ⟨hd,?_⟩,rfl⟩;unfold yJ;rw[hfd];unfold jZ at he;simp only;split at he
  .rename_i hk;rw[if_pos hk];split at he
   .rename_i s hs;rw[hs];rfl
   .cases he
  .cases he
theorem oQ{p:Prg}:∀(l:wF),((l.filterMap fun x=>(qI p.defs x).bind jZ).map (·.id)).Sublist l
 |[]=>by simp
 |x::l=>by
  rw[List.filterMap_cons];cases h:(qI p.defs x).bind jZ with
  |none=>exact(oQ l).cons _
  |some e =>
   rw[jA7]at h;obtain⟨d,h1,h2⟩:=h;have:=o7 h2;rw[(y6 h1).2]at this;simp only[jAg,this];exact(oQ l).cons_cons _
theorem zNI(p:Prg):SS ((jV p).map (·.id)):=(zHA _).sublist (oQ _)
theorem zGR(hf:Fit p hs){S:wR}(h1:SS (S.map (·.id)))(h2:∀e,e∈S↔∃d∈p.defs,jZ d=some e):S=jV p:=by
 have hid:S.map (·.id)=(jV p).map (·.id):=h1.unique (zNI p) fun x=>by simp only[jAk,h2,zD7 hf]
 have hinj:∀a b:Edg,(∃d∈p.defs,jZ d=some a)->(∃d∈p.defs,jZ d=some b)->a.id=b.id->a=b:=by rintro a b ⟨d,hd,ha⟩ ⟨d',hd',hb⟩ e;rw[o7 ha,o7 hb]at e;obtain⟨i,hi,rfl⟩:=jAn hd;obtain⟨j,hj,rfl⟩:=jAn hd';have hi':=rR hf.nd hi;have hj':=rR hf.nd hj;rw[e,hj']at hi';rw[<-jB5 hi',hb]at ha;exact(jB5 ha).symm
 have key:∀(A B:wR),(∀e∈A,∃d∈p.defs,jZ d=some e)->(∀e∈B,∃d∈p.defs,jZ d=some e)->A.map (·.id)=B.map (·.id)->A=B:=by
  intro A;induction A with
  |nil=>intro B _ _ h;cases B with
   |nil=>rfl
   |cons b B=>simp at h
  |cons a A ih =>
   intro B hA hB h;cases B with
   |nil=>simp at h
   |cons b B =>
    simp only[jAg,jBd]at h;rw[hinj a b (hA a (by simp)) (hB b (by simp)) h.1,ih B (fun e he=>hA e (by simp[he])) (fun e he=>hB e (by simp[he])) h.2]
 exact key _ _ (fun e he=>(h2 e).1 he) (fun e he=>(zD7 hf e).1 he) hid
def v8(p:Prg)(x:Id):Option Edg:=match yJ p x with
 |some (a,b)=>if a.k=3/\b.k=3 then some ⟨x,a.id,b.id⟩ else none
 |none=>none
theorem zQo(p:Prg)(x:Id):(qI p.defs x).bind jZ=v8 p x:=by
 unfold v8 yJ;cases h:qI p.defs x with
 |none=>rfl
 |some d =>
  have hx:=(y6 h).2;simp only[Option.bind_some,jZ];split
  .split
   .rename_i s hs;simp only[hx,hs]
   .rename_i hs;split
    .rename_i hs';split at hs'
     .rename_i s e;exact(hs s e).elim
     .cases hs'
    .rfl
  .rfl
theorem zBB(p:Prg):jV p=(yG p).filterMap (v8 p):=by
 unfold jV
 congr 1
 funext x;exact zQo p x
theorem m9{α β γ : Type}(g : α->Option β)(f : β->List γ):∀l:List α,(l.filterMap g).flatMap f=l.flatMap fun x=>match g x with|some e=>f e|none=>[]
 |[]=>rfl
 |x::l=>by
  rw[List.filterMap_cons,jB9];cases h:g x with
  |none=>simp[m9 g f l]
  |some e=>simp[m9 g f l]
def oD(p:Prg)(to:Id)(n:Nat)(at_:Id)(met:wF)(x:Id):List wF:=match v8 p x with
 |some e=>if e.fro=at_/\e.to∉met then (yP (jV p) to n e.to (met++[e.to])).map (e.id::·)else []
 |none=>[]
theorem zKE(p:Prg)(to:Id)(n:Nat)(at_:Id)(met:wF)(h:at_≠to):yP (jV p) to (n+1) at_ met=(yG p).flatMap (oD p to n at_ met):=by
 conv=>lhs;unfold yP
 rw[if_neg h,zBB,m9];refine xV fun x _=>?_
 unfold oD;rw[<-zBB];cases v8 p x<;>rfl
def b7(p:Prg)(to:Id)(n:Nat)(at_:Id)(met:wF)(i:Nat):List wF:=(((yG p).take i).flatMap (oD p to n at_ met)).take 65
variable{i:Nat}
theorem zKS(p:Prg)(to:Id)(n:Nat)(at_:Id)(met:wF)(h:i<(yG p).length) :
 b7 p to n at_ met (i+1)=(b7 p to n at_ met i++(oD p to n at_ met (yG p)[i]).take 65).take 65:=by
 unfold b7;rw[jA8 h,jBw,List.flatMap_singleton,zSm];rw[List.take_append,List.take_append,List.take_take,Nat.min_self,jAq];by_cases hl:(((yG p).take i).flatMap (oD p to n at_ met)).length<=65
 .rw[Nat.min_eq_right hl]
 .rw[jAt (by omega),jBx,show 65-(((yG p).take i).flatMap (oD p to n at_ met)).length=0 by omega]
theorem zKR(p:Prg)(to:Id)(n:Nat)(at_:Id)(met:wF)(h:65<=(b7 p to n at_ met i).length)(hi:i<=(yG p).length):b7 p to n at_ met (yG p).length=b7 p to n at_ met i:=by
 unfold b7 at h⊢;rw[jAq]at h;have hs:yG p=(yG p).take i++(yG p).drop i:=(jC0 i _).symm;rw[jAr]
 conv=>lhs;rw[hs]
 rw[jBw,jBz (by omega)]
theorem zNT(p:Prg)(to:Id)(n:Nat)(at_:Id)(met:wF)(h:at_≠to):b7 p to n at_ met (yG p).length=(yP (jV p) to (n+1) at_ met).take 65:=by rw[zKE p to n at_ met h];unfold b7;rw[jAr]
def zOq(n:Nat):Nat:=[1,1,2,3,4,6,9,12].getD n 0
theorem zOr:∀r,r<=7->∀o,o<=r->o*zOq (r-o)<=zOq r:=by decide
theorem zDN:∀r,r<=7->1<=zOq r/\zOq r<=64:=by decide
def uE(L:wR)(old:wF):Nat:=(L.filter fun e=>decide (e.fro∉old)).length
theorem zDT(old:wF)(a:Id)(h:a∉old):∀L:wR,uE L old=uE L (old++[a])+(L.filter fun e=>decide (e.fro=a)).length
 |[]=>by simp[uE]
 |e::L=>by
  have ih:=zDT old a h L;unfold uE at ih ⊢;simp only[List.filter_cons];by_cases h1:e.fro=a
  .have e1:decide (e.fro∉old)=true:=decide_eq_true (by rw[h1];exact h);have e2:decide (e.fro∉old++[a])=false:=decide_eq_false (by simp[h1]);have e3:decide (e.fro=a)=true:=decide_eq_true h1;rw[e1,e2,e3];simp only[if_true,jAi,if_false,jAb];omega
  .have e3:decide (e.fro=a)=false:=decide_eq_false h1;by_cases h2:e.fro∈old
   .have e1:decide (e.fro∉old)=false:=decide_eq_false (by simp[h2]);have e2:decide (e.fro∉old++[a])=false:=decide_eq_false (by simp[h2]);rw[e1,e2,e3];simp only[jAi,if_false];exact ih
   .have e1:decide (e.fro∉old)=true:=decide_eq_true h2;have e2:decide (e.fro∉old++[a])=true:=decide_eq_true (by simp[h1,h2]);rw[e1,e2,e3];simp only[if_true,jAi,if_false,jAb];omega
theorem zI5{α β:Type}(f : α->List β)(q : α->Bool)(B:Nat):∀L:List α,(∀x∈L,(f x).length<=if q x then B else 0)->(L.flatMap f).length<=(L.filter q).length*B
 |[],_=>by simp
 |x::L,h=>by
  have ih:=zI5 f q B L fun y hy=>h y (by simp[hy])
  have hx:=h x (by simp);rw[jB9,jA5,List.filter_cons];cases hq:q x
  .rw[hq]at hx;simp only[jAi,if_false]at hx ⊢;omega
  .rw[hq]at hx;simp only[if_true]at hx ⊢;rw[jAb,jBv];omega
theorem zFA{L:wR}{to:Id}:∀(n:Nat) (at_:Id) (old:wF),at_∉old->uE L old<=7->(yP L to n at_ (old++[at_])).length<=zOq (uE L old)
 | 0,at_,old,_,h7=>by have:=zDN _ h7;unfold yP;split<;>simp<;>omega
 |n+1,at_,old,ha,h7=>by
  have hp:=zDN _ h7;unfold yP;split
  .simp;omega
  .have hst:=zDT old at_ ha L
   have hg:=zOr _ h7 (L.filter fun e=>decide (e.fro=at_)).length (by omega);have hsub:uE L old-(L.filter fun e=>decide (e.fro=at_)).length=uE L (old++[at_]):=by omega
   rw[hsub]at hg;refine jBu (zI5 _ (fun e=>decide (e.fro=at_)) (zOq (uE L (old++[at_]))) L fun e he=>?_) hg;split
   .rename_i hc;have:=zFA (L:=L) (to:=to) n e.to (old++[at_]) hc.2 (by omega)
    simpa[hc.1]using this
   .simp
theorem zOG(h:(jV p).length<=7)(fro to:Id)(n:Nat):(yP (jV p) to n fro [fro]).length<=64:=by
 have hl:uE (jV p) []<=7:=by have:=jCi (fun e:Edg=>decide (e.fro∉([]:wF))) (jV p);unfold uE;omega
 have:=zFA (L:=jV p) (to:=to) n fro [] (by simp) hl;have h2:=(zDN _ hl).2;simp only[jBm]at this;omega
theorem zTv(p:Prg)(l:wF)(v:Val)(fuel:Int):zCN p l v 0 fuel=jS p l v fuel:=zLc p l v fuel
theorem zFJ(hf:Fit p hs)(l:wF)(hl:l.length<=1000000)(v:Val)(hv:qN v<=256/\bI v<=24)(fuel:Int)(h0 : -90000<=fuel)(h1:fuel<=90000) :
 my 45 [.agg (zT p),.sl l.length (zP l),.agg (zL v),int fuel] [] (rM (jS p l v fuel)) []:=by
 have hP:=eP p;refine mq [] [.cell 8 3 true,.slot 9,.slot 10] Tryz.func45 (by kernel_rfl) ?_
 (conv in kq _ _=>cbv)
 simp[hP,zL];intro hlm;refine qM (S:=Nat×Val×Int) (fun s=>[(1,.sl l.length (zP l)),(3,int fuel),(4,.ptr 0 0),(6,.ptr 1 0),(8,.ptr 2 0),(11,int s.2.2),(17,.sl l.length (zP l)),(18,int l.length),(19,int s.1)]) (fun s=>[.box (zT p),.box (zL s.2.1),.box [int 0,int 0,.nil]])
  (fun s=>s.1<=l.length/\(qN s.2.1<=256/\bI s.2.1<=24)/\0<=s.2.2/\s.2.2<=max fuel 0/\jS p l v fuel=zCN p (l.drop s.1) s.2.1 s.2.2 fuel) (fun s=>l.length-s.1) (0,v,0) ⟨by simp,hv,by simp,by simp only;omega,by simp[zTv]⟩
  (mw [0,1,2] 0 (by rfl) (by simp[hP,zL])) ?_
 rintro⟨i,x,st⟩ ⟨hi,hx,hs0,hs1,ho⟩;simp only at hi hx hs0 hs1 ho;by_cases h:i<l.length
 .have hd:l.drop i=l[i]::l.drop (i+1):=jB0 h;have hw:=yK i (by omega);have hw2:=qA (fuel-st) (by omega);simp[hP,zL,h,yC h,hw2];have hcall:=zKH hf l[i] [x] (gas:=fuel-st) (fuel:=max (fuel-st) 0) rfl (by omega) (by simpa using hx);rw[zSQ hf]at hcall;refine mu hcall (by simp[hP,zG,zL,nX,rM]) ?_;have hsm:=zKa hf l[i] [x] (by simpa using hx) (fuel-st);rw[hd]at ho;by_cases he:(y7 p l[i] [x] (fuel-st)).2.2=0
  .rw[zOh he]at ho;simp[rM,zL,he];have hw3:IntKind.i64.wrap (st+(y7 p l[i] [x] (fuel-st)).2.1)=st+(y7 p l[i] [x] (fuel-st)).2.1:=IntWalk.i64_in _ (by omega);exact zN (i+1,(y7 p l[i] [x] (fuel-st)).1,st+(y7 p l[i] [x] (fuel-st)).2.1) ⟨h,hsm.1,by simp only;omega,by simp only;omega,ho⟩ (by simp only;omega) (mw [0,1,2] 0 (by rfl) (by simp[hP,zL,hw,hw3]))
  .rw[zQR he]at ho;simp[rM,zL,he];exact zA 0 (by simp[ho,rM,zL,vz,j3,jE,qE])
 .have hi':i=l.length:=by omega
  subst hi';rw[List.drop_length,zQS]at ho;simp[hP,zL];exact zA 0 (by simp[ho,rM,zL])
theorem zPG(hf:Fit p hs)(l:wF)(hl:l.length<=1000000)(v:Val)(hv:qN v<=256/\bI v<=24)(fuel:Int)(h0 : -90000<=fuel)(h1:fuel<=90000) :
 my 16 [.agg (zT p),.sl l.length (zP l),.agg (zL v),int fuel] [] (rM (xG p l v fuel)) []:=by
 have hP:=eP p;refine mq [] [.cell 8 3 true,.slot 9,.slot 10] Tryz.func16 (by kernel_rfl) ?_
 (conv in kq _ _=>cbv)
 cases hl0:l with
 |nil =>
  simp[hP,zL];exact zA 0 (by simp[xG,rM,zL])
 |cons y l' =>
  rw[<-hl0];have hne:l≠[]:=by rw[hl0];simp
  have hlen:¬((l.length:Int)=0):=by rw[hl0];simp;omega
  simp[hP,zL,hlen,hne];intro _;refine mu (zTa p l hl) (by simp[hP,zCs,zB]) ?_;by_cases hp:zAX p l=true
  .have hlead:∃a,yJ p (l.getD 0 .zero)=some a:=by
    have h1:pN p l 1=true:=zJ6 (List.length_pos_iff.2 hne) hp;simp only[pN,jC4,zCI]at h1;cases hc:yJ p (l.getD 0 .zero)with
    |none=>rw[hc]at h1;cases h1
    |some a=>exact⟨a,rfl⟩
   obtain⟨a,ha⟩:=hlead;have hfro:zQK p l=a.1:=by rw[zQK,ha];rfl
   have hal:xG p l v fuel=if eV p a.1 v=false then (vz,0,1)else jS p l v fuel:=by rw[xG,if_neg hne,if_neg (by rw[hp];decide),ha]
   simp[zCs,zA4,hp,hne,hfro,zB];refine mu (zGB p a.1 v hv.1 hv.2) (by simp[hP,zB,zL]) ?_;cases hfi:eV p a.1 v
   .simp;exact zA 0 (by simp[hal,hfi,rM,zL,vz,j3,jE,qE])
   .simp;refine mu (zFJ hf l hl v hv fuel h0 h1) (by simp[hP,zL,rM]) ?_;simp[rM,zL];exact zA 0 (by simp[hal,hfi,rM,zL])
  .have hp':zAX p l=false:=by simpa using hp
   have hal:xG p l v fuel=(vz,0,1):=by rw[xG,if_neg hne,if_pos hp']
   simp[zCs,zA4,hp',zB];exact zA 0 (by simp[hal,rM,zL,vz,j3,jE,qE])
def zVI:Nat->Option wD:=fun|4=>k_ [0,0,0,0,0,2,2004,1004,0,0]|_=>none
def bT(a:Option (Typ×Typ)):A:=.tup [.agg (zB (a.getD (.zero,.zero)).1),.agg (zB (a.getD (.zero,.zero)).2),bl a.isSome]
theorem zDS(p:Prg)(hL:p.defs.length<=1000000)(id:Id):my 13 [.agg (zT p),.agg (zG id)] [] (bT (yJ p id)) []:=by
 have hP:=eP p;have hdf:=pP p hL id;unfold dL at hdf;refine mn zVI [] [.cell 4 5 true,.cell 5 5 true,.slot 6] Tryz.func13 (by kernel_rfl) ?_
 (conv in zY _ _ _ _=>cbv)
 simp -implicitDefEqProofs [hP,zG];refine mu hdf (by simp[zT,zG]) ?_;cases hd:qI p.defs id with
 |none =>
  have hv:yJ p id=none:=by simp[yJ,hd]
  simp -implicitDefEqProofs [zI];exact zA 0 (by simp[bT,hv,zB,Typ.zero,Id.zero])
 |some d =>
  by_cases hk:d.kind=5
  .match hs:d.slots with
   |[s] =>
    have hv:yJ p id=some (s.typ,d.res):=by simp[yJ,hd,hk,hs]
    have hcs:jF [s]=j4 s:=by simp[jF]
    simp -implicitDefEqProofs [zI,hk,hs,hcs,j4];exact fun _=>zA 0 (by simp[bT,hv,zB])
   |[] =>
    have hv:yJ p id=none:=by simp[yJ,hd,hs]
    simp -implicitDefEqProofs [zI,hk,hs];exact zA 0 (by simp[bT,hv,zB,Typ.zero,Id.zero])
   |s::s'::l =>
    have hv:yJ p id=none:=by simp[yJ,hd,hs]
    have h1:¬((l.length:Int)+1+1=1):=by omega
    simp -implicitDefEqProofs [zI,hk,hs,h1]
    first|exact fun _=>zA 0 (by simp[bT,hv,zB,Typ.zero,Id.zero])|exact zA 0 (by simp[bT,hv,zB,Typ.zero,Id.zero])
  .have hv:yJ p id=none:=by simp[yJ,hd,hk]
   simp -implicitDefEqProofs [zI,hk];exact zA 0 (by simp[bT,hv,zB,Typ.zero,Id.zero])
@[simp]theorem qAV{rf g}(a:Option (Typ×Typ)):vw rf g (bT a)=bT a:=by cases a<;>simp[bT,zB]
@[simp]theorem qI2{rf g}(r:Val×Int×Int):vw rf g (rM r)=rM r:=by simp[rM,zL]
def bE(p:Prg)(id:Id):Bool:=match qI p.defs id with
 |some d=>decide (d.kind=0)||decide (d.kind=1)
 |none=>false
theorem zEA(p:Prg)(hL:p.defs.length<=1000000)(id:Id):my 54 [.agg (zT p),.agg (zG id)] [] (bl (bE p id)) []:=by
 have hP:=eP p;have hdf:=pP p hL id;unfold dL at hdf;refine mq [] [.slot 4] Tryz.func54 (by kernel_rfl) ?_
 (conv in kq _ _=>cbv)
 simp -implicitDefEqProofs [hP,zG];refine mu hdf (by simp[zT,zG]) ?_;cases hd:qI p.defs id with
 |none =>
  simp -implicitDefEqProofs [zI];exact zA 0 (by simp[bE,hd])
 |some d =>
  by_cases hk:d.kind=0
  all_goals
   simp -implicitDefEqProofs [zI,hk];exact zA 0 (by simp[bE,hd,hk])
theorem zG5(p:Prg)(id:Id):my 52 [.agg (zT p),.agg (zG id)] [] (bl (bE p id)) []:=by
 have hP:=eP p;have hdf:=mY p id;unfold dL at hdf;refine mq [] [.slot 4] Tryz.func52 (by kernel_rfl) ?_
 (conv in kq _ _=>cbv)
 simp -implicitDefEqProofs [hP,zG];refine mu hdf (by simp[zT,zG]) ?_;cases hd:qI p.defs id with
 |none =>
  simp -implicitDefEqProofs [zI];exact zA 0 (by simp[bE,hd])
 |some d =>
  by_cases hk:d.kind=0
  all_goals
   simp -implicitDefEqProofs [zI,hk];exact zA 0 (by simp[bE,hd,hk])
theorem zNC(x y:Id):my 147 [.agg (zG x),.agg (zG y)] [] (int (zB5 x y)) []:=by
 refine mq [] [.slot 4] Tryz.func147 (by kernel_rfl) ?_
 (conv in kq _ _=>cbv)
 simp[zG];refine zZ (gH x.a y.a) (by simp) (by simp) ?_;simp;refine zZ (gH x.b y.b) (by simp) (by simp) ?_;simp;refine zZ (gH x.c y.c) (by simp) (by simp) ?_;simp;refine zZ (zRD [bM x.a y.a,bM x.b y.b,bM x.c y.c]) (by simp) (by simp) ?_;simp;exact zA 0 (by simp[zB5])
def c6(e:Edg):wE:=[.lit (.int .i64 e.id.a),.lit (.int .i64 e.id.b),.lit (.int .i64 e.id.c),.lit (.int .i64 e.fro.a),.lit (.int .i64 e.fro.b),.lit (.int .i64 e.fro.c),.lit (.int .i64 e.to.a),.lit (.int .i64 e.to.b),.lit (.int .i64 e.to.c)]
def yO(l:wR):wE:=l.flatMap c6
theorem tQ(d:Edg):qP (c6 d):=qP.lit (qP.lit (qP.lit (qP.lit (qP.lit (qP.lit (qP.lit (qP.lit (qP.lit qP.nil))))))))
theorem vX(l:wR):qP (yO l):=cW tQ l
@[simp]theorem zTI(l:wR):jH (yO l)=yO l:=(vX l).1
@[simp]theorem zYT{rf g}(l:wR):vwL rf g (yO l)=yO l:=(vX l).2 _ _
@[simp]theorem zVo:yO []=[]:=rfl
theorem rE(x:Edg)(l:wR):yO (x::l)=c6 x++yO l:=rfl
theorem zDr(l l':wR):yO (l++l')=yO l++yO l':=by simp only[yO,jBw]
@[simp]theorem zVn(l:wR):(yO l).length=l.length*9:=by rw[yO,fF (k:=9) (fun _=>rfl)]
theorem dR{l:wR}(h:i<l.length):(yO l).drop (i*9)=c6 l[i]++yO (l.drop (i+1)):=by rw[yO,yO,fR (k:=9) (fun _=>rfl) h]
@[simp]theorem zZA(d:Edg):(c6 d).length=9:=rfl
@[simp]theorem zZ9(d:Edg):(c6 d).take 9=c6 d:=jAc (jA _)
@[simp]theorem zX1(d:Edg)(l:wE):(c6 d++l).take 9=c6 d:=by rw[jBz (by simp)];exact jAc (by simp)
@[simp]theorem zYi(d:Edg):jH (c6 d)=c6 d:=(tQ d).1
@[simp]theorem qGh(d:Edg) {rf g}:vwL rf g (c6 d)=c6 d:=(tQ d).2 _ _
@[simp]theorem zFy(e:Edg)(k:Nat):dK k (c6 e)=true:=by simp[c6]
@[simp]theorem zVh(l:wR)(k:Nat):dK k (yO l)=true:=by
 induction l with
 |nil=>rfl
 |cons e l ih=>rw[rE,tD,ih,zFy];rfl
theorem zK0(x y:Edg):my 146 [.agg (c6 x),.agg (c6 y)] [] (int (zB5 x.id y.id)) []:=by
 refine mq [] [.slot 4] Tryz.func146 (by kernel_rfl) ?_
 (conv in kq _ _=>cbv)
 simp[c6];refine mu (zNC x.id y.id) (by simp[zG]) ?_;simp;exact zA 0 (by simp)
def zUc:Go.Shelf.Ren:=⟨fun | 6=>145 | 15=>121 | 14=>172 | 28=>165 | 29=>166 | 20=>187 | 21=>188 | 22=>189 | 23=>190 | 24=>191 | 25=>192 | 26=>193 | 27=>194 | 46=>201 | 49=>202 | 50=>203 | 57=>209 | 47=>182 | 48=>183|n=>n,fun | 22=>149 | 24=>155 | 25=>202 | 3=>3 | 39=>181 | 0=>0 | 53=>222 | 55=>224 | 4=>4 | 46=>215 | 45=>214 | 50=>219 | 5=>5 | 9=>9 | 66=>241 | 70=>245 | 76=>256 | 77=>257|n=>n,fun n=>n⟩
theorem zMQ:Go.Proofs.SlLaysF0.n6 Tryz.prog zUc:={
 mixed:=by kernel_rfl,
 f6:=⟨Tryz.f145.name,by decide,Tryz.func145.trans (congrArg some (by kernel_rfl))⟩,
 f14:=⟨Tryz.f172.name,by decide,Tryz.func172.trans (congrArg some (by kernel_rfl))⟩,
 f15:=Tryz.func121.trans (congrArg some (by kernel_rfl)),
 f20:=⟨Tryz.f187.name,by decide,Tryz.func187.trans (congrArg some (by kernel_rfl))⟩,
 f21:=⟨Tryz.f188.name,by decide,Tryz.func188.trans (congrArg some (by kernel_rfl))⟩,
 f22:=⟨Tryz.f189.name,by decide,Tryz.func189.trans (congrArg some (by kernel_rfl))⟩,
 f23:=⟨Tryz.f190.name,by decide,Tryz.func190.trans (congrArg some (by kernel_rfl))⟩,
 f24:=⟨Tryz.f191.name,by decide,Tryz.func191.trans (congrArg some (by kernel_rfl))⟩,
 f25:=⟨Tryz.f192.name,by decide,Tryz.func192.trans (congrArg some (by kernel_rfl))⟩,
 f26:=⟨Tryz.f193.name,by decide,Tryz.func193.trans (congrArg some (by kernel_rfl))⟩,
 f27:=⟨Tryz.f194.name,by decide,Tryz.func194.trans (congrArg some (by kernel_rfl))⟩,
 f28:=Tryz.func165.trans (congrArg some (by kernel_rfl)),
 f29:=Tryz.func166.trans (congrArg some (by kernel_rfl)),
 f46:=⟨Tryz.f201.name,by decide,Tryz.func201.trans (congrArg some (by kernel_rfl))⟩,
 f47:=Tryz.func182.trans (congrArg some (by kernel_rfl)),
 f48:=Tryz.func183.trans (congrArg some (by kernel_rfl)),
 f49:=⟨Tryz.f202.name,by decide,Tryz.func202.trans (congrArg some (by kernel_rfl))⟩,
 f50:=⟨Tryz.f203.name,by decide,Tryz.func203.trans (congrArg some (by kernel_rfl))⟩,
 f57:=⟨Tryz.f209.name,by decide,Tryz.func209.trans (congrArg some (by kernel_rfl))⟩,
 t0:=Tryz.underlying0,
 a0:=Tryz.isAgg0,
 z0:=Tryz.sizeOf0,
 v0:=Tryz.zeroValue0,
 t3:=Tryz.underlying3,
 a3:=Tryz.isAgg3,
 z3:=Tryz.sizeOf3,
 v3:=Tryz.zeroValue3,
 t4:=Tryz.underlying4,
 a4:=Tryz.isAgg4,
 z4:=Tryz.sizeOf4,
 v4:=Tryz.zeroValue4,
 t5:=Tryz.underlying5,
 a5:=Tryz.isAgg5,
 z5:=Tryz.sizeOf5,
 v5:=Tryz.zeroValue5,
 t9:=Tryz.underlying9,
 a9:=Tryz.isAgg9,
 z9:=Tryz.sizeOf9,
 v9:=Tryz.zeroValue9,
 t22:=Tryz.underlying149,
 a22:=Tryz.isAgg149,
 z22:=Tryz.sizeOf149,
 v22:=Tryz.zeroValue149,
 t25:=Tryz.underlying202,
 a25:=Tryz.isAgg202,
 z25:=Tryz.sizeOf202,
 v25:=Tryz.zeroValue202,
 t39:=Tryz.underlying181,
 a39:=Tryz.isAgg181,
 z39:=Tryz.sizeOf181,
 v39:=Tryz.zeroValue181,
 t45:=Tryz.underlying214,
 a45:=Tryz.isAgg214,
 z45:=Tryz.sizeOf214,
 v45:=Tryz.zeroValue214,
 t46:=Tryz.underlying215,
 a46:=Tryz.isAgg215,
 z46:=Tryz.sizeOf215,
 v46:=Tryz.zeroValue215,
 t50:=Tryz.underlying219,
 a50:=Tryz.isAgg219,
 z50:=Tryz.sizeOf219,
 v50:=Tryz.zeroValue219,
 t53:=Tryz.underlying222,
 a53:=Tryz.isAgg222,
 z53:=Tryz.sizeOf222,
 v53:=Tryz.zeroValue222,
 t55:=Tryz.underlying224,
 a55:=Tryz.isAgg224,
 z55:=Tryz.sizeOf224,
 v55:=Tryz.zeroValue224,
 t66:=Tryz.underlying241,
 a66:=Tryz.isAgg241,
 z66:=Tryz.sizeOf241,
 v66:=Tryz.zeroValue241,
 t70:=Tryz.underlying245,
 a70:=Tryz.isAgg245,
 z70:=Tryz.sizeOf245,
 v70:=Tryz.zeroValue245,
 t76:=Tryz.underlying256,
 a76:=Tryz.isAgg256,
 z76:=Tryz.sizeOf256,
 v76:=Tryz.zeroValue256,
 t77:=Tryz.underlying257,
 a77:=Tryz.isAgg257,
 z77:=Tryz.sizeOf257,
 v77:=Tryz.zeroValue257}
theorem zTb:∀args w,(callFunc 146 args).run Tryz.prog w=.ok (.enter 146 args) w:=enters_of Tryz.func146 (by kernel_rfl) rfl
def zPC(E:wR):Prop:=∀a∈E,∀b∈E,a.id=b.id->a=b
abbrev zHM(E:wR):={e:Edg // e∈E}
variable{E:wR}
def zNB(a b:zHM E):Int:=zB5 a.1.id b.1.id
theorem zDV(h:zPC E):Ord (zNB (E:=E)) where
 irrefl x:=nD.irrefl _
 trans x y z:=nD.trans _ _ _
 ntrans x y z:=nD.ntrans _ _ _
 anti x y a b:=Subtype.ext (h _ x.2 _ y.2 (nD.anti _ _ a b))
theorem zYD(h:zPC E):zGF Tryz.prog 145 146 (fun e:zHM E=>c6 e.1) zNB :=
 zSg (k:=9) (fun _=>rfl) (zDV h) (fun a b=>zK0 a.1 b.1) fun α _ enc hk h1 cf hO blk off cap d w hcmp hH hblk hsz =>
  Go.Proofs.AnyQ.slices_SortFunc zMQ 9 Tryz.isAgg155 Tryz.sizeOf155 enc hk h1 cf hO 146 #[] blk off cap d w zTb hcmp hH hblk hsz
theorem qFa:∀(p:Option Addr) (cap:Nat) (fv:Value) (w:World),Calls Tryz.prog 145 #[.slice p 0 cap,fv] w fun e w'=>e=.returned (.tuple #[])/\w'=w :=
 fun p cap fv w=>Go.Proofs.AnyF.slices_SortFunc_none zMQ p cap fv w
def zEL(E:wR):wR:=(oH (zNB (E:=E)) (E.attach)).map (·.1)
theorem zI7(l:List (zHM E)):l.flatMap (fun e=>c6 e.1)=yO (l.map (·.1)):=by
 induction l with
 |nil=>rfl
 |cons e l ih=>rw[jB9,ih,jAg,rE]
theorem zSe(h:zPC E)(hmx:E.length<4611686018427387904):my 145 [.row 0 E.length,.clo 146 [] []] [.row false 155 9 E.length (yO E)] (.tup []) [.row false 155 9 E.length (yO (zEL E))]:=by have:=zJV (sz:=9) (by omega) (fun _=>rfl) (fun b:zHM E=>zFy b.1 0) (zDV h) 155 (zYD h) qFa E.attach (by simpa using hmx);rw[zI7,zI7,List.length_attach]at this;rw[show (E.attach.map (·.1))=E from List.attach_map_subtype_val E]at this;exact this
theorem fL(E:wR):(zEL E).Perm E:=by have h:=(List.mergeSort_perm E.attach fun x y=>!decide (zNB y x<0)).map (·.1);rw[show (E.attach.map (·.1))=E from List.attach_map_subtype_val E]at h;exact h
theorem zSf(h:zPC E)(hn:E.Nodup):SS ((zEL E).map (·.id)):=by
 have ho:=zDV h;have hs:=List.pairwise_mergeSort (le:=fun x y:zHM E=>!decide (zNB y x<0)) (fun a b c h1 h2=>by simp only[jBi,decide_eq_false_iff_not]at *;exact ho.ntrans c b a h2 h1)
  (fun a b=>by
   simp only[jB4,jBi,decide_eq_false_iff_not];by_cases h:zNB b a<0
   .exact .inr fun h'=>ho.irrefl _ (ho.trans _ _ _ h h')
   .exact .inl h) E.attach
 have hnd:(zEL E).Nodup:=(fL E).nodup_iff.2 hn;unfold SS;rw[jCq];have h1:(zEL E).Pairwise fun a b=>¬zB5 b.id a.id<0:=by
  unfold zEL;rw[jCq];exact hs.imp fun hab=>by simp only[jBi]at hab;exact of_decide_eq_false hab
 have h2:=List.Pairwise.and h1 hnd;have h3:=List.Pairwise.and_mem.1 h2;exact h3.imp fun {a b} ⟨ha,hb,hc,hne⟩=>by
  cases hl:bP a.id b.id with
  |true=>rfl
  |false =>
   rw[o5]at hc;have hba:bP b.id a.id=false:=by simpa using hc
   exact(hne (h a ((fL E).mem_iff.1 ha) b ((fL E).mem_iff.1 hb) (nC hl hba))).elim
def fY(p:Prg):wR:=p.defs.filterMap jZ
theorem zD5(hf:Fit p hs):zPC (fY p)/\(fY p).Nodup:=by
 have hnd:=hf.nd;have key:∀(l:wP),l.Pairwise (fun a b=>a.id≠b.id)->((l.filterMap jZ).map (·.id)).Nodup:=by
  intro l;induction l with
  |nil=>intro _;simp
  |cons d l ih =>
   intro h;have h':=jBh.1 h;rw[List.filterMap_cons];cases he:jZ d with
   |none=>exact ih h'.2
   |some e =>
    simp only[jAg,jD3];refine⟨fun hm=>?_,ih h'.2⟩;obtain⟨e',he',hid⟩:=jAk.1 hm;obtain⟨d',hd',hde⟩:=jCs.1 he';rw[o7 he,o7 hde]at hid;exact h'.1 d' hd' hid.symm
 have hk:=key _ hnd;constructor
 .intro a ha b hb hab;obtain⟨i,hi,rfl⟩:=jAn ha;obtain⟨j,hj,rfl⟩:=jAn hb;have hab':((fY p).map (·.id))[i]'(by simpa using hi)=((fY p).map (·.id))[j]'(by simpa using hj):=by simpa using hab
  have hij:=(List.getElem_inj hk).1 hab';subst hij;rfl
 .exact List.Pairwise.of_map (·.id) (fun a b h e=>h (by rw[e])) hk
theorem lR(hf:Fit p hs):zEL (fY p)=jV p:=by
 obtain⟨h1,h2⟩:=zD5 hf;refine zGR hf (zSf h1 h2) fun e=>?_
 rw[(fL _).mem_iff];unfold fY;rw[jCs]
theorem zQp(hf:Fit p hs):my 98 [.agg (zT p)] [] (.sl (jV p).length (yO (jV p))) []:=by
 have hP:=eP p;have hL:=hf.len8;refine mq [] [.slot 2] Tryz.func98 (by kernel_rfl) ?_
 (conv in kq _ _=>cbv)
 simp[hP];intro hlm;have hlen:∀i,((p.defs.take i).filterMap jZ).length<=100:=fun i=>by have:=jDf jZ (p.defs.take i);rw[jAq]at this;omega
 refine qM (S:=Nat) (fun i=>[(3,.row 1 ((p.defs.take i).filterMap jZ).length),(7,.sl p.defs.length (z7 p.defs)),(8,int p.defs.length),(9,int i)]) (fun i=>[.box (zT p),.row false 155 9 ((p.defs.take i).filterMap jZ).length (yO ((p.defs.take i).filterMap jZ))])
  (fun i=>i<=p.defs.length) (fun i=>p.defs.length-i) 0 (by simp)
  ((jW (t:=3) (by simp) 155 9).trans (mw [0,1] 0 (by rfl) (by simp[hP]))) ?_
 intro i hi;have hln:=hlen i;by_cases h:i<p.defs.length
 .have hw:=yK i (by omega);have hts:p.defs.take (i+1)=p.defs.take i++[p.defs[i]]:=jA8 h;generalize hE:(p.defs.take i).filterMap jZ=E at *
  have hE':(p.defs.take (i+1)).filterMap jZ=E++(jZ p.defs[i]).toList:=by rw[hts,List.filterMap_append,hE];cases h:jZ p.defs[i]<;>simp[List.filterMap_cons,h]
  simp[hP,h,j6 h];generalize hd:p.defs[i]=d at *
  by_cases hk:d.kind=5
  .match hsl:d.slots with
   |[s] =>
    have hcs:jF [s]=j4 s:=by simp[jF]
    by_cases h3:s.typ.k=3
    .by_cases h4:d.res.k=3
     .have hed:jZ d=some ⟨d.id,s.typ.id,d.res.id⟩:=by simp[jZ,hk,hsl,h3,h4]
      rw[hed]at hE';simp[zI,hk,hsl,hcs,j4,h3,h4];exact fun _=>⟨⟨by simp[maxLen];omega,by omega⟩,zN (i+1) h (by omega) (mw [0,1] 0 (by rfl) (by simp[hP,hE',zDr,rE,c6,hw]))⟩
     .have hed:jZ d=none:=by simp[jZ,hk,hsl,h4]
      rw[hed]at hE';simp[zI,hk,hsl,hcs,j4,h3,h4]
      first|exact fun _=>zN (i+1) h (by omega) (mw [0,1] 0 (by rfl) (by simp[hP,hE',hw]))|exact zN (i+1) h (by omega) (mw [0,1] 0 (by rfl) (by simp[hP,hE',hw]))
    .have hed:jZ d=none:=by simp[jZ,hk,hsl,h3]
     rw[hed]at hE';simp[zI,hk,hsl,hcs,j4,h3]
     first|exact fun _=>zN (i+1) h (by omega) (mw [0,1] 0 (by rfl) (by simp[hP,hE',hw]))|exact zN (i+1) h (by omega) (mw [0,1] 0 (by rfl) (by simp[hP,hE',hw]))
   |[] =>
    have hed:jZ d=none:=by simp[jZ,hsl]
    rw[hed]at hE';simp[zI,hk,hsl]
    first|exact fun _=>zN (i+1) h (by omega) (mw [0,1] 0 (by rfl) (by simp[hP,hE',hw]))|exact zN (i+1) h (by omega) (mw [0,1] 0 (by rfl) (by simp[hP,hE',hw]))
   |s::s'::l =>
    have hed:jZ d=none:=by simp[jZ,hsl]
    rw[hed]at hE';have h1:¬((l.length:Int)+1+1=1):=by omega
    simp[zI,hk,hsl,h1]
    first|exact fun _=>zN (i+1) h (by omega) (mw [0,1] 0 (by rfl) (by simp[hP,hE',hw]))|exact zN (i+1) h (by omega) (mw [0,1] 0 (by rfl) (by simp[hP,hE',hw]))
  .have hed:jZ d=none:=by simp[jZ,hk]
   rw[hed]at hE';simp[zI,hk];exact zN (i+1) h (by omega) (mw [0,1] 0 (by rfl) (by simp[hP,hE',hw]))
 .have hi':i=p.defs.length:=by omega
  subst hi';have hE:(p.defs.take p.defs.length).filterMap jZ=fY p:=by rw[jAr];rfl
  rw[hE];have hle:(fY p).length<=100:=by have:=jDf jZ p.defs;unfold fY;omega
  obtain⟨g1,g2⟩:=zD5 hf;simp[hP];refine mr (zSe g1 (by omega)) [1] (by simp) ?_;simp[hP];rw[lR hf,show (fY p).length=(jV p).length by rw[<-lR hf];exact(fL _).length_eq.symm];exact zA 1 (by simp)
end Go.Proofs.YtdnelmeboihpkaaGreatDoor
namespace Go.Proofs.YtdnelmeboihpkaaGreatDoor
open Go.Abs
def mrk(l:wF):List (wB×A):=l.map fun x=>(xZ x,.lit (.bool true))
theorem zEd{x y:Id}:xZ x=xZ y↔x=y:=by simp[xZ,Id.eq_iff]
theorem zFF(x:Id):∀l:wF,eU (xZ x) (mrk l)=if x∈l then some (.lit (.bool true))else none
 |[]=>rfl
 |y::l=>by
  have ih:=zFF x l;simp only[mrk,jAg,eU]at ih ⊢;by_cases h:y=x
  .subst h;simp
  .rw[if_neg fun e=>h (zEd.1 e),ih];simp[Ne.symm h]
theorem zEw(x:Id):∀l:wF,x∉l->putI (xZ x) (.lit (.bool true)) (mrk l)=mrk (l++[x])
 |[],_=>rfl
 |y::l,h=>by simp only[jA1,not_or]at h;have ih:=zEw x l h.2;simp only[mrk,jAg,putI,jBa]at ih ⊢;rw[if_neg fun e=>h.1 (zEd.1 e).symm,ih]
theorem zIr(x:Id):∀l:wF,x∉l->zB7 (xZ x) (mrk (l++[x]))=mrk l
 |[],_=>by simp[mrk,zB7]
 |y::l,h=>by simp only[jA1,not_or]at h;have ih:=zIr x l h.2;simp only[mrk,jAg,zB7,jBa]at ih ⊢;rw[if_neg fun e=>h.1 (zEd.1 e).symm,ih]
theorem zDM(x:Id)(l:wF):rX (Value.bool false) false (eU [x.a,x.b,x.c] (mrk l))=.lit (.bool (decide (x∈l))):=by have hf:=zFF x l;simp only[xZ]at hf;rw[hf];by_cases h:x∈l<;>simp[rX,h,sC,qZ]
@[simp]theorem qLl{rf g}(l:wF):(mrk l).map (fun p=>(p.1,vw rf g p.2))=mrk l:=by unfold mrk;rw[jCg];exact jC3 fun x _=>by simp
theorem zDf{marked:wF}{x:Id}:∀(l:wR) (M:wF),(oK marked x l M).length<=M.length+l.length
 |[],M=>by simp[oK]
 |e::l,M=>by
  simp only[oK,jAb];split
  .have:=zDf (marked:=marked) (x:=x) l (M++[e.to]);simp only[jA5,jAx]at this;omega
  .have:=zDf (marked:=marked) (x:=x) l M;omega
def zU7:K:=G [kO 5 1,kO 6 2,kMb 8 false] (G [⟨none,.mop (some 14) (.mk 3) []⟩,J 15 5 3,⟨none,.mop none (.set 3) [(kt 14),(kt 15),(.const (.bool true))]⟩,M 16 14,M 9 16] (G [J 17 5 3,⟨none,.brow (some 18) 31 3 1 [ki,ki,ki] [(0,3,(kt 17))]⟩,M 10 18] (Z (K.block 0 (K.loop (Z (G [M 19 10,kN 20 19,kBi 21 20 0 .gtr] (Y 21 ks (K.exit 0))) (K.block 1 (G [M 22 10,kXi 23 22 3 0,J 24 23 3,kZ 11 [ki,ki,ki],S 11 24 3] (G [M 25 10,⟨none,.rslc (some 26) (kt 25) 3 (some (kc 1)) none⟩,M 10 26] (Z (G [J 27 11 3,J 28 6 3,⟨none,.eqs (some 29) false [.i,.i,.i] (kt 27) (kt 28)⟩] (Y 29 (G [kMb 8 true] kr) ks)) (G [M 30 0,kN 31 30,kMi 32 0] (K.block 2 (K.loop (G [kB 33 32 31 .lss] (Z (Y 33 ks (K.exit 2)) (Z (K.block 3 (G [kX 34 30 32 9,J 35 34 9,kZ 13 [ki,ki,ki,ki,ki,ki,ki,ki,ki],S 13 35 9] (G [D 36 13 3,J 37 36 3,J 38 11 3,⟨none,.eqs (some 39) false [.i,.i,.i] (kt 37) (kt 38)⟩,M 40 39,T 40 true (M 41 9),T 40 true (D 42 13 6),T 40 true (J 43 42 3),⟨some (40,true),.mop (some 44) (.get 3 (.bool false) false) [(kt 41),(kt 43)]⟩,T 40 true (kR 45 44),kPf 46 40 45,M 47 46,T 47 true (M 48 3),T 47 true (D 49 13 6),T 47 true (J 50 49 3),⟨some (47,true),.mop (some 51) (.get 3 (.bool false) false) [(kt 48),(kt 50)]⟩,T 47 true (kR 52 51),kPf 53 47 52] (Y 53 (G [M 54 9,D 55 13 6,J 56 55 3,⟨none,.mop none (.set 3) [(kt 54),(kt 56),(.const (.bool true))]⟩] (K.ops [M 57 10,D 58 13 6,J 59 58 3,kd 60 31 3 1 [ki,ki,ki] [(0,3,(kt 59))],⟨none,.apq (some 61) 31 3 24 (kt 57) (kt 60)⟩,M 10 61])) ks)))) (K.ops [kBi 62 32 1 .add,
 M 32 62])))))))))))))) (G [kMb 8 false] kr))))
theorem qCB:ky Tryz.f101 zU7:=m_ (by kernel_rfl)
open Classical in
theorem zLA(L:wR)(hL:L.length<=1000)(fro to:Id)(marked:wF)(fr:Bool) :
 my 101 [.sl L.length (yO L),.agg (zG fro),.agg (zG to),.map 0] [.mp fr 3 (mrk marked)] (bl (decide (Rchs L to marked fro))) [.mp fr 3 (mrk marked)]:=by
 refine zJ Tryz.func101 rfl qCB (rs:=[.slot 8]) (by kernel_rfl) ?_;unfold zU7;have hm1:putI [fro.a,fro.b,fro.c] (.lit (.bool true)) []=mrk [fro]:=rfl;simp -implicitDefEqProofs [zG,hm1];refine qM (S:=wF×wF×wF) (fun s=>[(0,.sl L.length (yO L)),(3,.map 0),(5,.ptr 1 0),(6,.ptr 2 0),(8,bl false),(9,.map 3),(10,.win 4 (s.1.length+s.2.2.length) (s.1.length*3) s.2.2.length 3)])
  (fun s=>[.mp fr 3 (mrk marked),.box (zG fro),.box (zG to),.mp true 3 (mrk (s.2.1++s.2.2)),.row false 31 3 (s.1.length+s.2.2.length) (zP (s.1++s.2.2))])
  (fun s=>Bfs L to marked fro (s.2.1++s.2.2) s.2.1.length/\s.1.length<=s.2.1.length) (fun s=>L.length+1-s.2.1.length) ([],[],[fro]) ⟨Bfs.start L to marked fro,by simp⟩ ?_ ?_
 .refine(zS0 (t:=10) (l:=4) (m:=1) (sz:=3) (by simp) rfl).trans (mw [0,1,2,3,4] 0 (by rfl) (by simp[zG]))
 rintro⟨junk,dn,live⟩ ⟨hb,hj⟩;simp only at hb hj;have hM:=hb.len;rw[jA5]at hM
 match hlive:live with
 |[] =>
  have hno:=hb.no (by simp);simp -implicitDefEqProofs;exact mv [0] 0 (by rfl) (by simp[hno])
 |x::rest =>
  have hpos:(0:Int)<(rest.length:Int)+1:=by omega
  have hlt:junk.length*3+3<=(junk.length+(rest.length+1))*3:=by omega
  have hk:dn.length<(dn++x::rest).length:=by simp
  have hx:(dn++x::rest)[dn.length]=x:=by simp
  have hdr:(zP (junk++x::rest)).drop (junk.length*3)=zG x++zP rest:=by rw[rF,List.drop_left,fC];rfl
  simp only[jAb]at hM;by_cases hto:x=to
  .have hyes:=hb.yes hk (hx.trans hto);subst hto;simp -implicitDefEqProofs [hpos,hdr,zG,hlt];exact⟨by omega,mv [0] 0 (by rfl) (by simp[hyes])⟩
  .have hnx:=hb.next hk (by rw[hx];exact hto);rw[hx]at hnx;simp -implicitDefEqProofs [hpos,hdr,zG,hlt,hto];refine⟨by omega,fun _=>?_⟩;have hsh:junk.length+1+rest.length=junk.length+(rest.length+1):=by omega
   refine qM (S:=Nat×wF×wF) (fun s=>[(0,.sl L.length (yO L)),(3,.map 0),(5,.ptr 1 0),(6,.ptr 2 0),(8,bl false),(9,.map 3),(10,.win 4 (s.2.1.length+s.2.2.length) (s.2.1.length*3) s.2.2.length 3),(11,.ptr 5 0),(30,.sl L.length (yO L)),(31,int L.length),(32,int s.1)])
    (fun s=>[.mp fr 3 (mrk marked),.box (zG fro),.box (zG to),.mp true 3 (mrk (dn++x::s.2.2)),.row false 31 3 (s.2.1.length+s.2.2.length) (zP (s.2.1++s.2.2)),.box (zG x)])
    (fun s=>s.1<=L.length/\oK marked x (L.take s.1) (dn++x::rest)=dn++x::s.2.2/\s.2.1.length<=dn.length+1) (fun s=>L.length-s.1) (0,junk++[x],rest) ⟨by simp,by simp[oK],by simp;omega⟩
    (mw [0,1,2,3,4,5] 0 (by rfl) (by simp[zG,hsh,jB1])) ?_
   rintro⟨j,jk,lv⟩ ⟨hjl,hN,hjk⟩;simp only at hjl hN hjk;have hlen:=zDf (marked:=marked) (x:=x) (L.take j) (dn++x::rest);rw[hN]at hlen;simp only[jA5,jAb,jAq]at hlen;by_cases h:j<L.length
   .have hw:=yK j (by omega);have hsn:=zFw marked x L[j] (L.take j) (dn++x::rest);rw[<-jA8 h,hN]at hsn;have hg1:=zDM L[j].to (dn++x::lv);have hg2:=zDM L[j].to marked;have hput:=zEw L[j].to (dn++x::lv);have hMj:dn++x::(lv++[L[j].to])=dn++x::lv++[L[j].to]:=by simp
    have hcs:zP (lv++[L[j].to])=zP lv++zG L[j].to:=by rw[j9];rfl
    have hdl:(zP (jk++lv)).drop (jk.length*3)=zP lv:=by rw[rF,List.drop_left]
    simp only[xZ]at hput;generalize hM0:dn++x::lv=Mj at *
    by_cases c1:L[j].fro=x
    .by_cases c2:L[j].to∈Mj
     .rw[if_neg (by simp[c2])]at hsn;simp -implicitDefEqProofs [h,dR h,c6,zG,c1,hg1,c2];exact zN (j+1,jk,lv) ⟨h,by rw[hsn,hM0],hjk⟩ (by simp only;omega) (mw [0,1,2,3,4,5] 0 (by rfl) (by simp[zG,hM0,hw]))
     .by_cases c3:L[j].to∈marked
      .rw[if_neg (by simp[c3])]at hsn;simp -implicitDefEqProofs [h,dR h,c6,zG,c1,hg1,c2,hg2,c3];exact zN (j+1,jk,lv) ⟨h,by rw[hsn,hM0],hjk⟩ (by simp only;omega) (mw [0,1,2,3,4,5] 0 (by rfl) (by simp[zG,hM0,hw]))
      .rw[if_pos ⟨c1,c2,c3⟩]at hsn;simp -implicitDefEqProofs [h,dR h,c6,zG,c1,hg1,c2,hg2,c3,hput c2];refine⟨?_,?_,?_⟩
       .exact⟨rfl,by omega,rfl,rfl,rfl,rfl,by omega,by simp[maxLen];omega,by omega⟩
       .exact zN (j+1,jk,lv++[L[j].to]) ⟨h,by rw[hsn,hMj],hjk⟩ (by simp only;omega) (mw [0,1,2,3,4,5] 0 (by rfl) (by simp[zG,hMj,j9,jBp,hw]))
       .exact zN (j+1,[],lv++[L[j].to]) ⟨h,by rw[hsn,hMj],by simp⟩ (by simp only;omega) (mw [0,1,2,3,7,5] 0 (by rfl) (by simp[zG,hMj,hdl,j9,hw]))
    .rw[if_neg (by simp[c1])]at hsn;simp -implicitDefEqProofs [h,dR h,c6,zG,c1];exact zN (j+1,jk,lv) ⟨h,by rw[hsn,hM0],hjk⟩ (by simp only;omega) (mw [0,1,2,3,4,5] 0 (by rfl) (by simp[zG,hM0,hw]))
   .have hjl':j=L.length:=by omega
    subst hjl';rw[jAr]at hN;rw[hN]at hnx;simp -implicitDefEqProofs;exact zN (jk,dn++[x],lv) ⟨by simpa using hnx,by simpa using hjk⟩ (by simp only[jA5,jAx];omega) (mw [0,1,2,3,4] 0 (by rfl) (by simp[zG]))
end Go.Proofs.YtdnelmeboihpkaaGreatDoor
namespace Go.Abs
section
variable{P:Program}{env:Env}{d:wC} {U:St}
theorem zMz{K:wJ}{f:FuncId}{args args':wE}{r:A}{s0 s1:St}(h:Ret P f args s0 r (s0++s1))(js:wA)(hjs:js.Nodup)(hlen:s0.length=js.length)(ho:yX U jX (qH js) js s0)(ha:cZ js args' args)
 (hput:qS U js (s0.map (bX js U.length)) = U)(hq:K (env.put d (ren js U.length r)) (U++s1.map (bX js U.length))):zBn P U d K f args' env :=
 ⟨_,_,aU.append _ _,b6 h js hjs ho ha ⟨rfl,by
  have:=zAb (js:=js) (ks:=[]) (s:=U) (a:=s0.map (bX js U.length)) (b:=s1.map (bX js U.length)) (by simpa using hlen);rw[jB8,hput]at this;rw[jBl,this,qS]⟩,hq⟩
end
end Go.Abs
namespace Go.Proofs.YtdnelmeboihpkaaGreatDoor
open Go.Abs
theorem zIp(l:wF)(h:l≠[])(hb:l.length<=1000000):my 100 [.row 0 l.length] [.row false 31 3 l.length (zP l)] (.row 1 l.length) ([.row false 31 3 l.length (zP l)]++[.row false 31 3 l.length (zP l)]):=by
 refine zJ Tryz.func100 rfl zPN (rs:=[.slot 2]) (by kernel_rfl) ?_;unfold zKh;have h0:l.length≠0:=by simpa using h
 simp[h,h0,zOy];refine⟨⟨by simp[maxLen];omega,by omega⟩,?_⟩;exact mv [0,1] 0 (by rfl) (by simp)
theorem zGJ:my 100 [.row 0 0] [.row false 31 3 0 []] (.sl 0 []) ([.row false 31 3 0 []]++[]):=by refine zJ Tryz.func100 rfl zPN (rs:=[.slot 2]) (by kernel_rfl) ?_;unfold zKh;simp[zOy];exact⟨mv [0] 0 (by rfl) (by simp),mv [0] 0 (by rfl) (by simp)⟩
@[simp]theorem zDn:∀(l:wF) (k:Nat),dK k (zP l)=true
 |[],_=>rfl
 |d::l,k=>by rw[fC];simp[zDn l k]
def xD(L:wR)(to:Id)(n:Nat)(at_:Id)(met:wF)(e:Edg):List wF:=if e.fro=at_/\e.to∉met then (yP L to n e.to (met++[e.to])).map (e.id::·)else []
variable{to:Id}{met:wF}
theorem zKG{L:wR}{n:Nat}{at_:Id}(h:at_≠to)(hn:o9 L met<=n):yP L to n at_ met=L.flatMap (xD L to (n-1) at_ met):=by
 cases n with
 |zero =>
  unfold yP;rw[if_neg h];symm;rw[List.flatMap_eq_nil_iff];intro e he;unfold xD;rw[if_neg];rintro⟨_,h'⟩;have:=gE he h';omega
 |succ n =>
  unfold yP;rw[if_neg h];rfl
theorem zOF{L:wR}{n:Nat}{at_:Id}{e:Edg}(he:e∈L)(hn:o9 L met<=n)(h:e.fro≠at_\/e.to∈met\/¬Rchs L to met e.to):xD L to (n-1) at_ met e=[]:=by
 unfold xD;by_cases hc:e.fro=at_/\e.to∉met
 .rw[if_pos hc];rcases h with h|h|h
  .exact(h hc.1).elim
  .exact(hc.2 h).elim
  .have hlt:=gE he hc.2;have:=zDB (n-1) e.to (met++[e.to]) (L:=L) (to:=to) (by omega);rw[List.map_eq_nil_iff];refine Decidable.byContradiction fun h0=>h ?_
   exact(this.1 h0).mono fun x hx=>jBj _ hx
 .rw[if_neg hc]
def zUA:K:=K.wk (G [kO 7 0,kMb 8 false] (Z (G [J 12 7 3,J 13 1 3,⟨none,.eqs (some 14) false [.i,.i,.i] (kt 12) (kt 13)⟩] (Y 14 (Z (K.dops [(0,1,L 15 2 1),(1,1,L 16 3 1),(2,3,kC 17 100 [(kt 16)]),(3,4,⟨none,.call (some 18) (kt 15) [(kt 17)]⟩),(4,0,M 8 18)]) kr) ks)) (Z (G [L 19 4 1,kN 20 19,kMi 21 0] (K.block 0 (K.loop (G [kB 22 21 20 .lss] (Z (Y 22 ks (K.exit 0)) (Z (K.block 1 (G [kX 23 19 21 9,J 24 23 9,kZ 10 [ki,ki,ki,ki,ki,ki,ki,ki,ki],S 10 24 9] (Z (G [D 25 10 3,J 26 25 3,J 27 7 3,⟨none,.eqs (some 28) true [.i,.i,.i] (kt 26) (kt 27)⟩,M 29 28,T 29 false (L 30 5 1),T 29 false (D 31 10 6),T 29 false (J 32 31 3),⟨some (29,false),.mop (some 33) (.get 3 (.bool false) false) [(kt 30),(kt 32)]⟩,kPt 34 29 33,M 35 34,T 35 false (L 36 4 1),T 35 false (D 37 10 6),T 35 false (J 38 37 3),T 35 false (J 39 1 3),T 35 false (L 40 5 1),T 35 false (kC 41 101 [(kt 36),(kt 38),(kt 39),(kt 40)]),T 35 false (kR 42 41),kPt 43 35 42] (Y 43 (K.exit 1) ks)) (G [L 44 5 1,D 45 10 6,J 46 45 3,⟨none,.mop none (.set 3) [(kt 44),(kt 46),(.const (.bool true))]⟩] (G [L 47 3 1,D 48 10 0,J 49 48 3,kd 50 31 3 1 [ki,ki,ki] [(0,3,(kt 49))],kP 51 31 3 24 47 50,S 3 51 1] (G [L 52 6 1,D 53 10 6,J 54 53 3,⟨none,.call (some 55) (kt 52) [(kt 54)]⟩,M 11 55] (G [L 56 3 1,L 57 3 1,kN 58 57,kBi 59 58 1 .sub,⟨none,.shr (some 60) (kt 56) 3 (kt 59)⟩,S 3 60 1] (G [L 61 5 1,D 62 10 6,J 63 62 3,⟨none,.mop none (.del 3) [(kt 61),(kt 63)]⟩] (G [M 64 11,kR 65 64] (Y 65 (G [kMb 8 false] kr) ks)))))))))) (K.ops [kBi 66 21 1 .add,
 M 21 66]))))))) (G [kMb 8 true] kr))))
def qEd:Nat->Option wD:=fun|2=>k_ [1,1,3,4,0]|_=>none
theorem qCE:kx Tryz.f99 qEd zUA:=mz (by kernel_rfl)
@[simp]theorem zSP:zC Tryz.prog 99=true:=by kernel_rfl
def mL(b m:Nat)(L:wR)(to:Id)(fr:Bool)(met:wF)(l n:Nat):St :=
 [.box [yv b],.box [.sl L.length (yO L)],.mp fr 3 (mrk met),.box [.map (m+2)],.box [.row (m+l) n],.box [.clo 99 [] [.rptr (zG to),.ptr m 0,.ptr (m+4) 0,.ptr (m+1) 0,.ptr (m+3) 0,.ptr (m+5) 0]]]
def zFv(b m:Nat)(L:wR)(to:Id)(fr:Bool)(met path:wF):St:=mL b m L to fr met 6 path.length++[AObj.row false 31 3 path.length (zP path)]
def zCT(b m:Nat)(L:wR)(to:Id)(met path:wF):St:=mL b m L to false met 7 path.length++[AObj.dead,AObj.row false 31 3 path.length (zP path)]
theorem zSz{n0 b m:Nat}{L:wR}{fr:Bool}{path:wF}{S:St}(hS:S.length=m){env:Env}:bQ n0 env (S++zCT b m L to met path) env (S++zFv b m L to fr met path):=by
 have h1:=zUr (n0:=n0) (env:=env) (U:=S++zFv b m L to fr met path) (j:=m+4) (o:=0) (l:=m+6) (n:=path.length) (sz:=3) (e:=31) (ds:=[.row (m+6) path.length]) (cs:=zP path)
  (by rw[aD hS];rfl) rfl (by rw[aD hS];rfl)
 have e1:((S++zFv b m L to fr met path).set (m+6) .dead).set (m+4) (.box ([A.row (m+6) path.length].set 0 (.row (S++zFv b m L to fr met path).length path.length)))++[AObj.row false 31 3 path.length (zP path)] =
  S++(mL b m L to fr met 7 path.length++[AObj.dead,AObj.row false 31 3 path.length (zP path)]):=by
  rw[cG hS,cG hS,jAp,jA5,hS];simp[zFv,mL]
 rw[e1]at h1;have h2:=zET (n0:=n0) (env:=env) (U:=S++(mL b m L to fr met 7 path.length++[AObj.dead,AObj.row false 31 3 path.length (zP path)])) (l:=m+2) (nk:=3) (fr:=fr) (es:=mrk met) (by rw[aD hS];rfl);have e2:(S++(mL b m L to fr met 7 path.length++[AObj.dead,AObj.row false 31 3 path.length (zP path)])).set (m+2) (.mp false 3 (mrk met))=S++zCT b m L to met path:=by rw[cG hS];simp[zCT,mL]
 rw[e2]at h2;exact h1.trans h2
def zDc(m:Nat)(at_ to:Id):wE:=[.agg (zG at_),.rptr (zG to),.ptr m 0,.ptr (m+4) 0,.ptr (m+1) 0,.ptr (m+3) 0,.ptr (m+5) 0]
theorem zOO{L:wR}(hL:L.length<=1000)(to:Id)(b m:Nat)(T:Nat->St)(X:List wE)(hT:∀i,i<=X.length->Cl m (T i))
 (hY:∀i (h:i<X.length),gZ Tryz.prog b X[i] (T i) fun o τ=>o=.ret (.lit (.bool true))/\τ = T (i+1)) :
 ∀(n:Nat) (at_:Id) (met path:wF) (fr:Bool) (i:Nat),o9 L met<=n->path.length+n<=2000->i+(yP L to n at_ met).length<=X.length ->
  (∀q (hq:q<(yP L to n at_ met).length) (h:i+q<X.length),X[i+q]=[.sl (path++(yP L to n at_ met)[q]).length (zP (path++(yP L to n at_ met)[q]))]) ->
  my 99 (zDc m at_ to) (T i++zFv b m L to fr met path) (bl true) (T (i+(yP L to n at_ met).length)++zCT b m L to met path):=by
 intro n;induction n using Nat.strongRecOn with
 |ind n ih =>
 intro at_ met path fr i hn hpn hi hX
 have hTi:=hT i (by omega);have hTe:=hT (i+(yP L to n at_ met).length) hi;have hlen0:(T i++zFv b m L to fr met path).length=m+7:=by rw[jA5,hTi.1];simp[zFv,mL]
 refine zO Tryz.func99 rfl qCE (rs:=[.slot 8]) (by kernel_rfl) ?_;unfold zUA;rw[zZg,hlen0];rw[zZh];refine⟨_,_,zSz hTi.1,?_⟩;unfold zDc;simp[zCT,mL,hTi.1,aD hTi.1,aN hTi.1,zG];by_cases hat:at_=to
 .have hE:yP L to n at_ met=[[]]:=by subst hat;cases n<;>simp[yP]
  subst hat;rw[hE]at hX hTe hi;simp only[jAx]at hX hTe hi;have hyi:=hY i (by omega);have hXi:=hX 0 (by omega) (by omega);simp only[jC6,jCl,jB8]at hXi;rw[hXi]at hyi;rw[hE,jAx];simp[hTi.1,aD hTi.1,aN hTi.1,zAv];by_cases hp:path=[]
  .subst hp;refine zMz zGJ [m+7] (by simp) rfl (by simp[aD hTi.1]) (by simp) (by simp[cG hTi.1]) ?_;simp[hTi.1,aD hTi.1,aN hTi.1];refine⟨_,_,zBy hTi hTe hyi (by simp) ⟨rfl,rfl⟩,?_⟩;exact zCc (own':=zCT b m L at_ met []) hTe rfl [0,1,2,3,4,5,6,7] 0 (by decide) (by decide) (by simp[zCT,mL,zG]) (by simp)
  .refine zMz (zIp path hp (by omega)) [m+7] (by simp) rfl (by simp[aD hTi.1]) (by simp) (by simp[cG hTi.1]) ?_;simp[hTi.1,aD hTi.1,aN hTi.1];refine exY (k:=9) rfl hTi hTe (zDn path 0) hyi ?_;simp;exact zCc (own':=zCT b m L at_ met path) hTe rfl [0,1,2,3,4,5,6,7] 0 (by decide) (by decide) (by simp[zCT,mL,zG]) (by simp)
 .have hE:=zKG (L:=L) (n:=n) (met:=met) hat hn;generalize hEE:yP L to n at_ met=E at *
  have hspl:∀j,E=(L.take j).flatMap (xD L to (n-1) at_ met)++(L.drop j).flatMap (xD L to (n-1) at_ met):=fun j=>by rw[<-jBw,jC0];exact hE
  obtain⟨cnt,hcd⟩:∃cnt:Nat->Nat,∀j,cnt j=((L.take j).flatMap (xD L to (n-1) at_ met)).length:=⟨_,fun _=>rfl⟩;have hcnt:∀j,cnt j<=E.length:=fun j=>by rw[hcd,hspl j,jA5];omega
  have hc0:cnt 0=0:=by rw[hcd];simp
  have hcL:cnt L.length=E.length:=by rw[hcd,jAr,hE]
  simp[hTi.1,aD hTi.1,aN hTi.1,hat];intro hlm;refine qM (S:=Nat) (fun j=>[(1,.rptr (zG to)),(2,.ptr m 0),(3,.ptr (m+4) 0),(4,.ptr (m+1) 0),(5,.ptr (m+3) 0),(6,.ptr (m+5) 0),(7,.ptr (m+8) 0),(19,.sl L.length (yO L)),(20,int L.length),(21,int j)])
   (fun j=>T (i+cnt j)++(mL b m L to false met 7 path.length++[AObj.dead,AObj.row false 31 3 path.length (zP path),AObj.box (zG at_)]))
   (fun j=>j<=L.length) (fun j=>L.length-j) 0 (by simp) ?_ ?_
  .rw[hc0];exact zG0 hTi rfl [0,1,2,3,4,5,6,7,8] 0 (by decide) (by decide) (by simp[mL,zG]) (by simp[zG])
  intro j hj;have hTj:=hT (i+cnt j) (by have:=hcnt j;omega);by_cases h:j<L.length
  .have hw:=yK j (by omega);have hel:L[j]∈L:=jA3 h;have hsucc:cnt (j+1)=cnt j+(xD L to (n-1) at_ met L[j]).length:=by rw[hcd,hcd,jA8 h,jBw,List.flatMap_singleton,jA5]
   have hle:=hcnt (j+1);have hg:=zDM L[j].to met;have hnone:=zOF (L:=L) (to:=to) (at_:=at_) (met:=met) hel hn;by_cases c1:L[j].fro=at_
   .by_cases c2:L[j].to∈met
    .rw[hnone (.inr (.inl c2)),jBc,jC6]at hsucc;simp[mL,hTj.1,aD hTj.1,aN hTj.1,cG hTj.1,h,dR h,c6,zG,c1,c2,hg];refine zN (j+1) h (by omega) ?_;rw[hsucc];exact zG0 hTj rfl [0,1,2,3,4,5,6,7,8] 0 (by decide) (by decide) (by simp[mL,zG]) (by simp[zG,hw])
    .simp[mL,hTj.1,aD hTj.1,aN hTj.1,cG hTj.1,h,dR h,c6,zG,c1,c2,hg];refine zU (zLA L hL L[j].to to met false) [m+2] (by simp) (by simp[aD hTj.1]) (by simp[zG]) ?_;simp[hTj.1,aD hTj.1,aN hTj.1,cG hTj.1];by_cases c3:Rchs L to met L[j].to
     .have hlt:=gE hel c2;have hpe:xD L to (n-1) at_ met L[j]=(yP L to (n-1) L[j].to (met++[L[j].to])).map (L[j].id::·):=by rw[xD,if_pos ⟨c1,c2⟩]
      have hput:=zEw L[j].to met c2;have hdel:=zIr L[j].to met c2;simp only[xZ]at hput hdel;rw[hpe,jAd]at hsucc;have hsucc':i+cnt (j+1)=i+cnt j+(yP L to (n-1) L[j].to (met++[L[j].to])).length:=by omega
      have hcall:=ih (n-1) (by omega) L[j].to (met++[L[j].to]) (path++[L[j].id]) false (i+cnt j) (by omega) (by simp;omega) (by omega) (fun q hq hqx=>by
       have h2:cnt j+q<E.length:=by omega
       have:=hX (cnt j+q) h2 (by omega);have hEq:E[cnt j+q]=L[j].id::(yP L to (n-1) L[j].to (met++[L[j].to]))[q]:=by
        have h3:E[cnt j+q]?=some (L[j].id::(yP L to (n-1) L[j].to (met++[L[j].to]))[q]):=by rw[hspl j,jAw (by rw[<-hcd];omega),<-hcd,Nat.add_sub_cancel_left,jB0 h,jB9,hpe,jAj (by simpa using hq),jC,jA0 hq];rfl
        rw[jA0 h2]at h3;exact jB5 h3
       rw[hEq]at this
       simpa[jBp]using this)
      have hT1:=hT (i+cnt j+(yP L to (n-1) L[j].to (met++[L[j].to])).length) (by omega);simp[hTj.1,aD hTj.1,aN hTj.1,cG hTj.1,c3,hput];refine⟨⟨by simp[maxLen];omega,by omega⟩,?_⟩;have hcs:zP (path++[L[j].id])=zP path++[.lit (.int .i64 L[j].id.a),.lit (.int .i64 L[j].id.b),.lit (.int .i64 L[j].id.c)]:=by rw[j9];rfl
      have htk:(zP path++[A.lit (.int .i64 L[j].id.a),.lit (.int .i64 L[j].id.b),.lit (.int .i64 L[j].id.c)]).take (path.length*3)=zP path:=by rw[jBz (by simp)];exact jAc (by simp)
      refine zPV hTj hT1 hcall [0,1,2,3,4,5,7] (by decide) (by simp[zFv,mL,zG,hcs]) (by simp[zDc,zG]) ?_;have hwp:IntKind.i64.wrap (path.length:Int)=path.length:=IntWalk.i64_in _ (by omega);simp[zCT,mL,zG,hcs,hT1.1,aD hT1.1,aN hT1.1,cG hT1.1,hdel,hwp,htk];refine⟨by omega,?_⟩;refine zN (j+1) h (by omega) ?_;rw[hsucc'];exact zG0 hT1 rfl [0,1,2,3,4,5,6,11,8] 0 (by decide) (by decide) (by simp[mL,zG]) (by simp[zG,hw])
     .rw[hnone (.inr (.inr c3)),jBc,jC6]at hsucc;simp[c3];refine zN (j+1) h (by omega) ?_;rw[hsucc];exact zG0 hTj rfl [0,1,2,3,4,5,6,7,8] 0 (by decide) (by decide) (by simp[mL,zG]) (by simp[zG,hw])
   .rw[hnone (.inl c1),jBc,jC6]at hsucc;simp[mL,hTj.1,aD hTj.1,aN hTj.1,cG hTj.1,h,dR h,c6,zG,c1];refine zN (j+1) h (by omega) ?_;rw[hsucc];exact zG0 hTj rfl [0,1,2,3,4,5,6,7,8] 0 (by decide) (by decide) (by simp[mL,zG]) (by simp[zG,hw])
  .have hj':j=L.length:=by omega
   subst hj';rw[hcL]at hTj ⊢;simp[hTj.1,aD hTj.1,aN hTj.1];exact zCc (own':=zCT b m L to met path) hTe rfl [0,1,2,3,4,5,6,7] 0 (by decide) (by decide) (by simp[zCT,mL,zG]) (by simp)
end Go.Proofs.YtdnelmeboihpkaaGreatDoor
