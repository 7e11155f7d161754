/- trace.Call. -/
import Derived.Test.YtolkhapmieigcaaGreatDoorX17
set_option linter.unusedVariables false
set_option maxHeartbeats 8000000
set_option maxRecDepth 100000
set_option linter.unusedSimpArgs false
open Go.Proofs.Tryz
namespace Go.Proofs.YtolkhapmieigcaaGreatDoor
open Go.Abs
structure Res where
 v:Val
 ds:List Id
 ns:List Id
 e:Int
def oN(r:Res):A:=.tup [.agg (zN r.v),.agg [.sl r.ds.length (zY r.ds),.sl r.ns.length (zY r.ns)],int r.e]
def zFw(r:Val×XS):Res:=⟨if r.2.fail=0 then r.1 else vz,aT r.2.ds,aT r.2.ns,r.2.fail⟩
def eM(p:Prg)(d:Dfn)(vs:wI)(fuel:Int):Val×XS:=bU (bC p 1 fuel.toNat) d vs ⟨fuel,0,cS p d.slots [],[]⟩
def j8(p:Prg)(id:Id)(vs:wI)(fuel:Int):Res:=match qG p.defs id with
 |none=>⟨vz,[],[],6⟩
 |some d=>if dU d.kind=false then ⟨vz,[],[],6⟩ else if vs.length≠d.slots.length then ⟨vz,[],[],1⟩
  else if aM p (d.slots.map Slt.typ) vs=false then ⟨vz,[],[],1⟩ else zFw (eM p d vs fuel)
theorem zCY{P:Prg}:∀{ts:wT} {vs:wI},vs.length=ts.length->(∀(j:Nat) (h1:j<ts.length) (h2:j<vs.length),cE P ts[j] vs[j]=true)->aM P ts vs=true
 |[],[],_,_=>rfl
 |t::ts,v::vs,hl,h=>by rw[aM,jA8];exact⟨h 0 (by simp) (by simp),zCY (by simpa using hl) fun j h1 h2=>h (j+1) (by simpa using h1) (by simpa using h2)⟩
 |[],v::vs,hl,_=>by simp at hl
 |t::ts,[],hl,_=>by simp at hl
def zRi:K:=(Z (K.dops [(0,0,J 87 20 3),(1,0,D 88 13 0),(2,0,L 89 88 1),(3,1,kC 90 61 [(kt 89)]),(4,0,D 91 13 1),(5,0,L 92 91 1),(6,1,kC 93 61 [(kt 92)]),(7,0,kb 94 [kl,kl] [(0,1,(kt 90)),(1,1,(kt 93))]),(8,0,M 95 16),(9,0,kU 96 95),(10,2,D 97 96 3),(11,2004,L 98 97 1),(12,1004,S 8 87 3),(13,1004,S 9 94 2),(14,0,M 10 98)]) kr)
def qDx:K:=G [kO 4 0,kO 5 1,kZ 8 [ki,ki,kl],kZ 9 [kl,kl],kMi 10 0] (G [J 22 4 2,J 23 5 3,kC 24 70 [(kt 22),(kt 23)],M 21 24,kE 25 21 0,kE 26 21 1,kZ 11 kz0,S 11 25 31,M 12 26] (Z (G [M 27 12,kR 28 27,M 29 28,T 29 false (J 30 11 31),T 29 false (kC 31 101 [(kt 30)]),T 29 false (kR 32 31),kPt 33 29 32] (Y 33 (G [kb 34 [ki,ki,kl] [],kb 35 [kl,kl] [],S 8 34 3,S 9 35 2,kMi 10 6] kr) ks)) (Z (G [M 36 2,kN 37 36,D 38 11 8,L 39 38 1,kN 40 39,kQ 41 37 40 true] (Y 41 (G [kb 42 [ki,ki,kl] [],kb 43 [kl,kl] [],S 8 42 3,S 9 43 2,kMi 10 1] kr) ks)) (G [kZ 13 [kl,kl]] (G [⟨none,.mop (some 44) (.mk 3) []⟩,kZ 14 [(.map none)],S 14 44 1] (G [⟨none,.clo (some 45) 102 [] [(kt 13),(kt 14)]⟩,M 15 45] (G [J 46 4 2,M 47 3,M 48 15,kb 49 [kl,kl,ki,ki,.nilFunc] [(0,2,(kt 46)),(2,1,(kt 47)),(4,1,(kt 48))],kO 50 49,M 16 50] (G [⟨none,.mop (some 51) (.mk 3) []⟩,M 17 51] (Z (G [D 52 11 8,L 53 52 1,kN 54 53,kMi 55 0] (K.block 0 (K.loop (G [kB 56 55 54 .lss] (Z (Y 56 ks (K.exit 0)) (Z (K.block 1 (G [M 57 55,kX 58 53 55 11,J 59 58 11,kZ 19 kz5,M 18 57,S 19 59 11] (Z (Z (K.dops [(0,0,J 60 4 2),(1,0,D 61 19 4),(2,0,J 62 61 5),(3,0,M 63 2),(4,0,M 64 18),(5,0,kX 65 63 64 3),(6,0,J 66 65 3),(7,0,kC 67 77 [(kt 60),(kt 62),(kt 66)]),(8,0,kR 68 67)]) (Y 68 (G [kb 69 [ki,ki,kl] [],kb 70 [kl,kl] [],S 8 69 3,S 9 70 2,kMi 10 1] kr) ks)) (K.ops [M 71 16,D 72 19 4,J 73 72 5,M 74 17,kC 75 103 [(kt 71),(kt 73),(kt 74)]])))) (K.ops [kBi 76 55 1 .add,M 55 76]))))))) (G [M 77 16,J 78 11 31,
 M 79 2,kC 80 104 [(kt 77),(kt 78),(kt 79)],kZ 20 [ki,ki,kl],S 20 80 3] (Z (G [M 81 16,kU 82 81,D 83 82 3,L 84 83 1,kQi 85 84 0 true] (Y 85 (K.ops [kb 86 [ki,ki,kl] [],S 20 86 3]) ks)) (K.wk zRi))))))))))))
def qNO:Nat->Option wE:=fun|21=>k_ [0,0,0,1,0,0,1,0,0,0,2,2004,1004,1004,0]|_=>none
theorem qL8:kx f45 qNO qDx:=mz (by kernel_rfl)
theorem zHs(p:Prg)(d:Dfn)(v:Val)(y:A)(fuel fail:Int)(ds ns:wG)(h1:ds.length<=1000000)(h2:ns.length<=1000000) :
 wpK prog 0 zRi (fin [RS.cell 8 3 true,RS.cell 9 2 true,RS.slot 10] (sP 0 (oN ⟨v,aT ds,aT ns,fail⟩) []))
  (jO [(8,.ptr 0 0),(9,.ptr 1 0),(13,.ptr 5 0),(16,.ptr 4 0),(20,.ptr 6 0)])
  [.box [int 0,int 0,.nil],.box [.nil,.nil],.box (zI p),.box (zJ d),.box (zI p++[int fuel,int fail,.clo 102 [] [.ptr 5 0,y]]),.box [.sl ds.length (zY ds),.sl ns.length (zY ns)],.box (zN v)]:=by
 have hP:=eP p;unfold zRi;simp[hP,zN];refine aI (zBo ds (jAz h1 (by decide))) (by simp) (by simp) ?_;simp;refine aI (zBo ns (jAz h2 (by decide))) (by simp) (by simp) ?_;simp
 first
  |exact⟨by simp[dD],by simp[dD,pP],by simp[dD,pP],zB 0 (by simp[oN,zN])⟩
  |exact zB 0 (by simp[oN,zN])
theorem rN{d:Dfn}(h:dU d.kind=true):dG d=true:=by simp[dU]at h;simp[dG];omega
variable{p:Prg}{hs:wQ}
theorem zHp(hf:Fit p hs):zRt p:=fun d hd=>⟨(hf.slots d hd).2.1,(hf.slots d hd).2.2.2.1⟩
theorem zTA(hf:Fit p hs)(id:Id)(vs:wI)(fuel:Int)(hfu:fuel<=90000)(hz:∀v∈vs,qY v<=256/\eW v<=24) :
 my 45 [.agg (zI p),.agg (zS id),.sl vs.length (zT vs),int fuel] [] (oN (j8 p id vs fuel)) []:=by
 have hP:=eP p;refine zK func45 rfl qL8 (rs:=[.cell 8 3 true,.cell 9 2 true,.slot 10]) (by kernel_rfl) ?_;unfold qDx;simp[hP,zS];refine mu (lO p id) (by simp[zI,zS,dI]) ?_;cases hd:qG p.defs id with
 |none =>
  rw[show j8 p id vs fuel=⟨vz,[],[],6⟩ by simp[j8,hd]];simp[dI,hd,zJ];exact zB 0 (by simp[oN,zN,qT,qJ,zX])
 |some d =>
 have hdm:=(yD hd).1;obtain⟨s1,s6,_,snd,sty⟩:=hf.slots d hdm;simp[dI,hd,zJ];refine mu (xV d) (by simp[zJ]) ?_;cases hb:dU d.kind with
 |false =>
  rw[show j8 p id vs fuel=⟨vz,[],[],6⟩ by simp[j8,hd,hb]];simp;exact zB 0 (by simp[oN,zN,qT,qJ,zX])
 |true =>
 by_cases hl:vs.length=d.slots.length
 .have hfit:=fun i (hi:i<d.slots.length)=>zIv p d.slots[i].typ (vs[i]'(by omega)) (hz _ (jA0 _)).1 (hz _ (jA0 _)).2
  have hgo:∀s:XS,s.ns=[]->∀i (hi:i<d.slots.length),zB2 p s 10 d.slots[i].typ:=fun s hs0 i hi=>zLi hf s hs0 (sty _ (jA0 hi)) 10 (by omega)
  have hrl:∀i,i<=d.slots.length->RL p (cS p (d.slots.take i) []):=by
   intro i hi;induction i with
   |zero=>exact⟨by simp[cS],by simp[cS]⟩
   |succ i ih =>
    have:=x9 (fun L (s:Slt)=>yG p 10 s.typ L) [] (l:=d.slots) (i:=i) (by omega);unfold cS at ih ⊢;rw[this];exact((hgo ⟨0,0,[],[]⟩ rfl i (by omega)) _ (ih (by omega))).1
  obtain⟨S,hS⟩:∃S:XS,S=⟨fuel,0,[],[]⟩:=⟨_,rfl⟩;have hS0:S.ns=[]:=by rw[hS]
  have hSf:S.fuel=fuel:=by rw[hS]
  have hSe:S.fail=0:=by rw[hS]
  simp[hl];intro hls;refine qI (S:=Nat) (fun i=>[(2,.sl vs.length (zT vs)),(4,.ptr 7 0),(8,.ptr 8 0),(9,.ptr 9 0),(10,int 0),(11,.ptr 10 0),(13,.ptr 1 0),(16,.ptr 0 0),(17,.map 6),(53,.sl d.slots.length (qP d.slots)),(54,int d.slots.length),(55,int i)])
   (fun i=>rS p S (cS p (d.slots.take i) [])++[.box (zI p),.box [int 0,int 0,.nil],.box [.nil,.nil],.box (zJ d)]) (fun i=>i<=d.slots.length/\∀j (hj:j<i) (hj':j<d.slots.length),cE p d.slots[j].typ (vs[j]'(by omega))=true) (fun i=>d.slots.length-i) 0 ⟨by omega,fun j hj=>by omega⟩
   (((yN (l:=5) (o:=0) rfl rfl 32 3).trans (yN (l:=5) (o:=1) rfl rfl 32 3)).trans (mw [8,5,7,10,11,6,9,0,2,3,4] 0 (by rfl) (by simp[rS,tS,hP,hS,cS,ddL,zCf,zJ,hl]))) ?_
  rintro i ⟨hi,hft⟩;by_cases hil:i<d.slots.length
  .have hiv:i<vs.length:=by omega
   have hdr:=qW hil;have hdv:=jE hiv;have hfi:=hfit i hil;obtain⟨_,hro⟩:=hgo S hS0 i hil _ (hrl i (by omega));have hst:=x9 (fun L (s:Slt)=>yG p 10 s.typ L) [] hil;change cS p (d.slots.take (i+1)) []=yG p 10 d.slots[i].typ (cS p (d.slots.take i) [])at hst;generalize cS p (d.slots.take i) []=L at hro hst ⊢;have hd0:ddL S.ns=[]:=by rw[hS0];rfl
   cases hfv:cE p d.slots[i].typ vs[i]with
   |false =>
    rw[hfv]at hfi;have hfl:aM p (d.slots.map Slt.typ) vs=false:=by
     cases hq:aM p (d.slots.map Slt.typ) vs with
     |false=>rfl
     |true =>
      have:=x7 hq i (by simpa using hil) hiv;rw[jB,hfv]at this;cases this
    have hx:j8 p id vs fuel=⟨vz,[],[],1⟩:=by simp[j8,hd,hb,hl,hfl]
    rw[hx];simp[rS,tS,hP,hSf,hSe,hd0,hil,hiv,hdr,hdv,aF];refine qC hfi (by simp[hP,zF,zN]) (by simp) ?_;simp;exact zB 0 (by simp[oN,zN,qT,qJ,zX])
   |true =>
    rw[hfv]at hfi;simp[rS,tS,hP,hSf,hSe,hd0,hil,hiv,hdr,hdv,aF];refine qC hfi (by simp[hP,zF,zN]) (by simp) ?_;simp;refine mr hro [0,1,2,3,4,5,6] (by simp[rS,tS,hP,hSf,hSe,hd0,zF]) ?_;simp[rS,tS,hP,hSf,hSe,hd0];refine zO (i+1) ⟨hil,fun j hj hj'=>?_⟩ (by omega) (mw [0,1,2,3,4,5,6,7,8,9,10] 0 (by rfl) (by simp[rS,tS,hP,hSf,hSe,hd0,hst,zZ hil hls]));by_cases hji:j=i
    .subst hji;exact hfv
    .exact hft j (by omega) hj'
  .have hie:i=d.slots.length:=by omega
   subst hie;have hfl:aM p (d.slots.map Slt.typ) vs=true:=zCY (by simpa using hl) fun j h1 h2=>by rw[jB];exact hft j (by simpa using h1) (by simpa using h1)
   have hx:j8 p id vs fuel=zFw (eM p d vs fuel):=by simp[j8,hd,hb,hl,hfl]
   rw[hx];have htk:d.slots.take d.slots.length=d.slots:=jAs;have hL8:=(hrl d.slots.length (jA _)).len hf;rw[htk]at hL8 ⊢;have hty:TyL p (d.slots.map Slt.typ) vs:=TyL.of (by simpa using hl) fun j hj=>by rw[jB];exact zOg hf (sty _ (jA0 _)) _ (hft j (by omega) (by omega))
   have hbB:dG d=true:=rN hb;have hBd:Bd 100000 fuel.toNat ⟨fuel,0,cS p d.slots [],[]⟩:=⟨by simp;omega,by simp only;omega,by simp only;omega,fun _=>by simp only;omega⟩;have hIh:=zLC (c:=100000) hf.bods (zHp hf) (by omega) fuel.toNat;have hbo:=zNQ hIh (by omega) d vs (fun _=>hl) snd s6 (fun _ _=>⟨_,_,hf.bods _ d hd hbB,EnvT.args hty fun v hv=>(hz v hv).1,zE4 snd vs hl⟩) hBd;have hrB:=zFa hIh.bd d vs _ hBd;change my 104 _ _ (.agg (zN (eM p d vs fuel).1)) (tS p (eM p d vs fuel).2)at hbo;change Bd 100000 fuel.toNat (eM p d vs fuel).2 at hrB;generalize eM p d vs fuel=r at *
   obtain⟨v,s⟩:=r;simp only at *
   have hd0:ddL S.ns=[]:=by rw[hS0];rfl
   have r1:=hrB.ds;have r2:=hrB.ns;have r3:=zII s.ns;generalize cS p d.slots []=L at *
   simp[rS,tS,hP,hSf,hSe,hd0,zJ];refine mr hbo [0,1,2,3,4,5] (by simp[tS,hP,ddL,zCf,zJ]) ?_;simp[tS,hP,zN];by_cases h0:s.fail=0
   .have he:zFw (v,s)=⟨v,aT s.ds,aT (ddL s.ns),s.fail⟩:=by rw[zOJ];simp[zFw,h0]
    rw[he];simp[h0];have hr:=zHs p d v (.rptr [.any]) s.fuel s.fail s.ds (ddL s.ns) (by omega) (by omega);rw[h0]at hr;exact⟨_,_,mw [8,9,7,10,0,1,11] 1 (by rfl) (by simp[hP,zJ,zN]),hr⟩
   .have he:zFw (v,s)=⟨vz,aT s.ds,aT (ddL s.ns),s.fail⟩:=by rw[zOJ];simp[zFw,h0]
    rw[he];simp[h0];exact⟨_,_,mw [8,9,7,10,0,1,11] 1 (by rfl) (by simp[hP,zJ,zN,qT,qJ,zX]),zHs p d vz (.rptr [.any]) s.fuel s.fail s.ds (ddL s.ns) (by omega) (by omega)⟩
 .rw[show j8 p id vs fuel=⟨vz,[],[],1⟩ by simp[j8,hd,hb,hl]];have hl':¬((vs.length:Int)=d.slots.length):=by omega
  simp[hl']
  intros
  exact zB 0 (by simp[oN,zN,qT,qJ,zX])
def uS(p:Prg)(F:Int)(s:XS):St:=[.box (zI p++[int F,int (F-s.fuel),int s.fail])]
@[simp]theorem qNt:zA prog 226=true:=by kernel_rfl
section
variable{p:Prg}{F:Int}{c:Nat}{m:Int}{ev:Evl}{e:Exp}{V:wP}{s:XS}
@[simp]theorem qNm:zA prog 233=true:=by kernel_rfl
end
section
variable{p:Prg}{c:Nat}{m:Int}{ev:Evl}{e:Exp}{V:wP}{s:XS}
@[simp]theorem qNB:zA prog 210=true:=by kernel_rfl
section
variable{A:wI×XS}(hA:my 228 [.ptr 0 0,.sl e.kids.length (qM e.kids),.sl V.length (mE V)] (xS p s) (.sl A.1.length (zT A.1)) (xS p A.2))
include hA
end
end
structure RS(p:Prg)(L:List Id):Prop where
 ss:SS L
 sub:∀x∈L,x∈p.defs.map Dfn.id
section
variable{p:Prg}{F m:Int}{ev:Evl}{B:wJ}{e:Exp}{V:wP}{v:Val}{s:XS}
def qFF:Nat->Option wE:=fun|10=>k_ [0,2,0,0,0,0,10,10,0] | 12=>k_ [2,2,0,0,0,0,10,0,0] | 16=>k_ [2,2,0,0,0,0,10,0,0] | 19=>k_ [0,2,0,0,0,0,0,0,0,10,10,0]|_=>none
noncomputable def uP:{k:K//K.chg [43,53,71,87] [] (zV prog f194 qFF [(9,[2,3,4,5,6])])=k}:=⟨_,by conv=>lhs;cbv⟩
theorem u4:kx f194 qFF uP.1:=mz (by kernel_rfl)
abbrev VaE(p:Prg)(F:Int)(e:Exp)(V:wP)(s:XS)(r:Val×XS):Prop:=RP 194 [.ptr 0 0,.agg (zG e),scE V] p F s (.agg (zN r.1)) r.2
abbrev AlE(p:Prg)(F:Int)(e:Exp)(V:wP)(s:XS)(r:wI×XS):Prop:=RP 219 [.ptr 0 0,.sl e.kids.length (qM e.kids),scE V] p F s (.sl e.kids.length (zT r.1)) r.2
@[simp]theorem qBf{U:St}:oW 2 U = []:=rfl
theorem zUE(hs:s.fail=0)(hk:e.k=0):VaE p F e V s (.mk 0 e.n [],s):=by
 have hP:=eP p;refine⟨fun _=>?_,fun hf=>(hf hs).elim⟩;refine zK func194 rfl u4 (rs:=[.cell 6 3 true]) (by kernel_rfl) ?_
 simp only[uP]
 simp[eS,hP,zG,hk];exact mv [0] 0 (by rfl) (by simp[zN,qT,qJ,zX])
theorem zSi(hs:s.fail=0)(hk:e.k=1)(hn:e.n=0\/e.n=1):VaE p F e V s (.mk 1 e.n [],s):=by
 have hP:=eP p;have ht:gA (decide (¬e.n=0))=.mk 1 e.n []:=by rcases hn with h|h<;>rw[h]<;>rfl
 refine⟨fun _=>?_,fun hf=>(hf hs).elim⟩;have hb:=fF (decide (¬e.n=0));rw[ht]at hb;refine zK func194 rfl u4 (rs:=[.cell 6 3 true]) (by kernel_rfl) ?_
 simp only[uP]
 simp[eS,hP,zG,hk];refine mu hb (by simp[zN]) ?_;simp[eS,hP,zN];exact mv [0] 0 (by rfl) (by simp[zN,qT,qJ,zX])
theorem zUG(hs:s.fail=0)(hk:e.k=2):VaE p F e V s (rT V e.ref e.n,s):=by
 have hP:=eP p;have hfi:=zRZ V.reverse e.ref e.n;have hfe:zDU V.reverse e.ref e.n=rT V e.ref e.n:=rfl;rw[hfe]at hfi;generalize rT V e.ref e.n=v at *
 refine⟨fun _=>?_,fun hf=>(hf hs).elim⟩;refine zK func194 rfl u4 (rs:=[.cell 6 3 true]) (by kernel_rfl) ?_
 simp only[uP]
 simp[eS,hP,zG,hk];refine mu hfi (by simp[zS,zN]) ?_;simp[eS,hP,zN];exact mv [0] 0 (by rfl) (by simp[zN,qT,qJ,zX])
variable{r:Val×XS}
theorem zZc{a:Exp}{ks:wH}(hk:e.k=5\/e.k=6\/e.k=8\/e.k=10\/e.k=12)(hks:e.kids=a::ks){r1:Val×XS}(ha:zGM p F a V s r1)(hb:r1.2.fail=0->BrE p F e V r1.1 r1.2 r)(hx:r1.2.fail≠0->r.2=r1.2):VaE p F e V s r:=by
 have hP:=eP p;have hk0:¬e.k=0:=by omega
 have hk1:¬e.k=1:=by omega
 have hk2:¬e.k=2:=by omega
 have hk3:¬e.k=3:=by omega
 have hk4:¬e.k=4:=by omega
 have hk7:¬e.k=7:=by omega
 have hk9:¬e.k=9:=by omega
 have hk11:¬e.k=11:=by omega
 have h15:=zL a ks;by_cases h1:r1.2.fail=0
 .have hb:=hb h1;have ha:=ha.ret h1;constructor
  .intro hf;refine zK func194 rfl u4 (rs:=[.cell 6 3 true]) (by kernel_rfl) ?_
   simp only[uP]
   simp[eS,hP,zG,hk0,hk1,hk2,hk3,hk4,hk7,hk9,hk11];refine⟨_,_,zM (l:=[(0,.ptr 0 0),(2,scE V),(4,.rptr [int e.id.a,int e.id.b,int e.id.c,int e.k,int e.n,int e.ref.a,int e.ref.b,int e.ref.c,int e.typ.k,int e.typ.id.a,int e.typ.id.b,int e.typ.id.c,.sl e.typ.kids.length (jM e.typ.kids),.sl e.kids.length (qM e.kids),.sl e.names.length (yJ e.names)]),(6,.ptr 1 0)]) (U':=eS p F s++[.box [int 0,int 0,.nil]]) [0,2] 1 (by decide) (by simp) (by simp[eS,hP]) (by simp[eS,hP,zG]),?_⟩;simp[eS,hP,zG,hks,h15];refine gX ha [0] (by decide) (by simp[eS,hP]) (by simp[zG]) ?_;simp[eS,hP,zN];refine gX (hb.ret hf) [0] (by decide) (by simp[eS,hP]) (by simp[zG,zN,hks,h15]) ?_;simp[eS,hP,zN];exact mv [0] 0 (by rfl) (by simp[zN,qT,qJ,zX])
  .intro hf;refine aZ func194 rfl u4 (rs:=[.cell 6 3 true]) (by kernel_rfl) ?_
   simp only[uP];unfold wpF
   simp[eS,hP,zG,hk0,hk1,hk2,hk3,hk4,hk7,hk9,hk11];refine⟨_,_,zM (l:=[(0,.ptr 0 0),(2,scE V),(4,.rptr [int e.id.a,int e.id.b,int e.id.c,int e.k,int e.n,int e.ref.a,int e.ref.b,int e.ref.c,int e.typ.k,int e.typ.id.a,int e.typ.id.b,int e.typ.id.c,.sl e.typ.kids.length (jM e.typ.kids),.sl e.kids.length (qM e.kids),.sl e.names.length (yJ e.names)]),(6,.ptr 1 0)]) (U':=eS p F s++[.box [int 0,int 0,.nil]]) [0,2] 1 (by decide) (by simp) (by simp[eS,hP]) (by simp[eS,hP,zG]),?_⟩;simp[eS,hP,zG,hks,h15];refine gX ha [0] (by decide) (by simp[eS,hP]) (by simp[zG]) ?_;simp[eS,hP,zN];refine nK (hb.pan hf) [0] (by decide) (by simp[eS,hP]) (by simp[zG,zN,hks,h15]) fun τ=>?_
   simp
 .unfold VaE;rw[hx h1];refine⟨fun hf=>(h1 hf).elim,fun hf=>?_⟩;refine aZ func194 rfl u4 (rs:=[.cell 6 3 true]) (by kernel_rfl) ?_
  simp only[uP];unfold wpF
  simp[eS,hP,zG,hk0,hk1,hk2,hk3,hk4,hk7,hk9,hk11];refine⟨_,_,zM (l:=[(0,.ptr 0 0),(2,scE V),(4,.rptr [int e.id.a,int e.id.b,int e.id.c,int e.k,int e.n,int e.ref.a,int e.ref.b,int e.ref.c,int e.typ.k,int e.typ.id.a,int e.typ.id.b,int e.typ.id.c,.sl e.typ.kids.length (jM e.typ.kids),.sl e.kids.length (qM e.kids),.sl e.names.length (yJ e.names)]),(6,.ptr 1 0)]) (U':=eS p F s++[.box [int 0,int 0,.nil]]) [0,2] 1 (by decide) (by simp) (by simp[eS,hP]) (by simp[eS,hP,zG]),?_⟩;simp[eS,hP,zG,hks,h15];refine nK (ha.pan hf) [0] (by decide) (by simp[eS,hP]) (by simp[zG]) fun τ=>?_
  simp
variable{vs:wI}{s1:XS}
theorem zUF(hk:e.k=7)(hl:vs.length=e.kids.length)(ha:AlE p F e V s (vs,s1)):VaE p F e V s (.mk 2 0 vs,s1):=by
 have hP:=eP p;constructor
 .intro hf;refine zK func194 rfl u4 (rs:=[.cell 6 3 true]) (by kernel_rfl) ?_
  simp only[uP]
  simp[eS,hP,zG,hk];refine mr (ha.ret hf) [0] (by simp[eS,hP]) ?_;simp[eS,hP,zN];exact mv [0] 0 (by rfl) (by simp[zN,qT,qJ,zX,hl])
 .intro hf;refine aZ func194 rfl u4 (rs:=[.cell 6 3 true]) (by kernel_rfl) ?_
  simp only[uP];unfold wpF
  simp[eS,hP,zG,hk];refine zB9 (ha.pan hf) [0] (by decide) (by simp[eS,hP]) (by simp) fun τ=>?_
  simp
theorem zSl(hk:e.k=11)(hl:vs.length=e.kids.length)(ha:AlE p F e V s (vs,s1)):VaE p F e V s (.mk 4 0 vs,s1):=by
 have hP:=eP p;constructor
 .intro hf;refine zK func194 rfl u4 (rs:=[.cell 6 3 true]) (by kernel_rfl) ?_
  simp only[uP]
  simp[eS,hP,zG,hk];refine mr (ha.ret hf) [0] (by simp[eS,hP]) ?_;simp[eS,hP,zN];exact mv [0] 0 (by rfl) (by simp[zN,qT,qJ,zX,hl])
 .intro hf;refine aZ func194 rfl u4 (rs:=[.cell 6 3 true]) (by kernel_rfl) ?_
  simp only[uP];unfold wpF
  simp[eS,hP,zG,hk];refine zB9 (ha.pan hf) [0] (by decide) (by simp[eS,hP]) (by simp) fun τ=>?_
  simp
theorem zSk(hk:e.k=9)(hl:vs.length=e.kids.length)(ha:AlE p F e V s (vs,s1)):VaE p F e V s (.mk 3 e.n vs,s1):=by
 have hP:=eP p;constructor
 .intro hf;refine zK func194 rfl u4 (rs:=[.cell 6 3 true]) (by kernel_rfl) ?_
  simp only[uP]
  simp[eS,hP,zG,hk];refine⟨_,_,zM (l:=[(0,.ptr 0 0),(2,scE V),(4,.rptr [int e.id.a,int e.id.b,int e.id.c,int e.k,int e.n,int e.ref.a,int e.ref.b,int e.ref.c,int e.typ.k,int e.typ.id.a,int e.typ.id.b,int e.typ.id.c,.sl e.typ.kids.length (jM e.typ.kids),.sl e.kids.length (qM e.kids),.sl e.names.length (yJ e.names)]),(6,.ptr 1 0)]) (U':=eS p F s++[.box [int 0,int 0,.nil]]) [0,2] 1 (by decide) (by simp) (by simp[eS,hP]) (by simp[eS,hP,zG,hk]),?_⟩;simp[eS,hP,zG,hk];refine gX (ha.ret hf) [0] (by decide) (by simp[eS,hP]) (by simp) ?_;simp[eS,hP,zN];exact mv [0] 0 (by rfl) (by simp[zN,qT,qJ,zX,hl])
 .intro hf;refine aZ func194 rfl u4 (rs:=[.cell 6 3 true]) (by kernel_rfl) ?_
  simp only[uP];unfold wpF
  simp[eS,hP,zG,hk];refine⟨_,_,zM (l:=[(0,.ptr 0 0),(2,scE V),(4,.rptr [int e.id.a,int e.id.b,int e.id.c,int e.k,int e.n,int e.ref.a,int e.ref.b,int e.ref.c,int e.typ.k,int e.typ.id.a,int e.typ.id.b,int e.typ.id.c,.sl e.typ.kids.length (jM e.typ.kids),.sl e.kids.length (qM e.kids),.sl e.names.length (yJ e.names)]),(6,.ptr 1 0)]) (U':=eS p F s++[.box [int 0,int 0,.nil]]) [0,2] 1 (by decide) (by simp) (by simp[eS,hP]) (by simp[eS,hP,zG,hk]),?_⟩;simp[eS,hP,zG,hk];refine nK (ha.pan hf) [0] (by decide) (by simp[eS,hP]) (by simp) fun τ=>?_
  simp
theorem zZd{ts:wT}{t:Typ}(hk:e.k=4)(ho:s1.fail=0->OpT e.n ts t/\TyL p ts vs/\∀v∈vs,qY v<=256)(hl:vs.length=e.kids.length)(ha:AlE p F e V s (vs,s1)):VaE p F e V s (opV e.n vs,s1):=by
 have hP:=eP p;constructor
 .intro hf;obtain⟨ho,hv,hs⟩:=ho hf;have hop:=zSe ho hv hs;generalize opV e.n vs=r at *
  refine zK func194 rfl u4 (rs:=[.cell 6 3 true]) (by kernel_rfl) ?_
  simp only[uP]
  simp[eS,hP,zG,hk];refine⟨_,_,zM (l:=[(0,.ptr 0 0),(2,scE V),(4,.rptr [int e.id.a,int e.id.b,int e.id.c,int e.k,int e.n,int e.ref.a,int e.ref.b,int e.ref.c,int e.typ.k,int e.typ.id.a,int e.typ.id.b,int e.typ.id.c,.sl e.typ.kids.length (jM e.typ.kids),.sl e.kids.length (qM e.kids),.sl e.names.length (yJ e.names)]),(6,.ptr 1 0)]) (U':=eS p F s++[.box [int 0,int 0,.nil]]) [0,2] 1 (by decide) (by simp) (by simp[eS,hP]) (by simp[eS,hP,zG,hk]),?_⟩;simp[eS,hP,zG,hk];refine gX (ha.ret hf) [0] (by decide) (by simp[eS,hP]) (by simp) ?_;simp[eS,hP];refine qC hop (by simp[hl]) (by simp[zN]) ?_;simp[eS,hP,zN];exact mv [0] 0 (by rfl) (by simp[zN,qT,qJ,zX])
 .intro hf;refine aZ func194 rfl u4 (rs:=[.cell 6 3 true]) (by kernel_rfl) ?_
  simp only[uP];unfold wpF
  simp[eS,hP,zG,hk];refine⟨_,_,zM (l:=[(0,.ptr 0 0),(2,scE V),(4,.rptr [int e.id.a,int e.id.b,int e.id.c,int e.k,int e.n,int e.ref.a,int e.ref.b,int e.ref.c,int e.typ.k,int e.typ.id.a,int e.typ.id.b,int e.typ.id.c,.sl e.typ.kids.length (jM e.typ.kids),.sl e.kids.length (qM e.kids),.sl e.names.length (yJ e.names)]),(6,.ptr 1 0)]) (U':=eS p F s++[.box [int 0,int 0,.nil]]) [0,2] 1 (by decide) (by simp) (by simp[eS,hP]) (by simp[eS,hP,zG,hk]),?_⟩;simp[eS,hP,zG,hk];refine nK (ha.pan hf) [0] (by decide) (by simp[eS,hP]) (by simp) fun τ=>?_
  simp
theorem zSj{d:Dfn}(hk:e.k=3)(hd:qG p.defs e.ref=some d)(hl:vs.length=e.kids.length)(ha:AlE p F e V s (vs,s1))
 (hb:s1.fail=0->RP 80 [.ptr 0 0,.agg (zJ d),.sl vs.length (zT vs)] p F s1 (.agg (zN r.1)) r.2)(hx:s1.fail≠0->r.2=s1):VaE p F e V s r:=by
 have hP:=eP p;by_cases h1:s1.fail=0
 .have hb:=hb h1;have ha:=ha.ret h1;rw[hl]at hb;constructor
  .intro hf;refine zK func194 rfl u4 (rs:=[.cell 6 3 true]) (by kernel_rfl) ?_
   simp only[uP]
   simp[eS,hP,zG,hk];refine aI (lO p e.ref) (by simp[zI,zS]) (by simp[dI]) ?_;simp[dI,hd,zJ];refine⟨_,_,zM (l:=[(0,.ptr 0 0),(2,scE V),(4,.rptr [int e.id.a,int e.id.b,int e.id.c,int e.k,int e.n,int e.ref.a,int e.ref.b,int e.ref.c,int e.typ.k,int e.typ.id.a,int e.typ.id.b,int e.typ.id.c,.sl e.typ.kids.length (jM e.typ.kids),.sl e.kids.length (qM e.kids),.sl e.names.length (yJ e.names)]),(6,.ptr 1 0),(7,.rptr (zJ d))]) (U':=eS p F s++[.box [int 0,int 0,.nil]]) [0,2] 1 (by decide) (by simp) (by simp[eS,hP]) (by simp[eS,hP,zG,zJ,hk]),?_⟩;simp[eS,hP,zG,zJ,hk];refine gX ha [0] (by decide) (by simp[eS,hP]) (by simp) ?_;simp[eS,hP];refine gX (hb.ret hf) [0] (by decide) (by simp[eS,hP]) (by simp[zJ]) ?_;simp[eS,hP,zN];exact mv [0] 0 (by rfl) (by simp[zN,qT,qJ,zX])
  .intro hf;refine aZ func194 rfl u4 (rs:=[.cell 6 3 true]) (by kernel_rfl) ?_
   simp only[uP];unfold wpF
   simp[eS,hP,zG,hk];refine aI (lO p e.ref) (by simp[zI,zS]) (by simp[dI]) ?_;simp[dI,hd,zJ];refine⟨_,_,zM (l:=[(0,.ptr 0 0),(2,scE V),(4,.rptr [int e.id.a,int e.id.b,int e.id.c,int e.k,int e.n,int e.ref.a,int e.ref.b,int e.ref.c,int e.typ.k,int e.typ.id.a,int e.typ.id.b,int e.typ.id.c,.sl e.typ.kids.length (jM e.typ.kids),.sl e.kids.length (qM e.kids),.sl e.names.length (yJ e.names)]),(6,.ptr 1 0),(7,.rptr (zJ d))]) (U':=eS p F s++[.box [int 0,int 0,.nil]]) [0,2] 1 (by decide) (by simp) (by simp[eS,hP]) (by simp[eS,hP,zG,zJ,hk]),?_⟩;simp[eS,hP,zG,zJ,hk];refine gX ha [0] (by decide) (by simp[eS,hP]) (by simp) ?_;simp[eS,hP];refine nK (hb.pan hf) [0] (by decide) (by simp[eS,hP]) (by simp[zJ]) fun τ=>?_
   simp
 .unfold VaE;rw[hx h1];refine⟨fun hf=>(h1 hf).elim,fun hf=>?_⟩;refine aZ func194 rfl u4 (rs:=[.cell 6 3 true]) (by kernel_rfl) ?_
  simp only[uP];unfold wpF
  simp[eS,hP,zG,hk];refine aI (lO p e.ref) (by simp[zI,zS]) (by simp[dI]) ?_;simp[dI,hd,zJ];refine⟨_,_,zM (l:=[(0,.ptr 0 0),(2,scE V),(4,.rptr [int e.id.a,int e.id.b,int e.id.c,int e.k,int e.n,int e.ref.a,int e.ref.b,int e.ref.c,int e.typ.k,int e.typ.id.a,int e.typ.id.b,int e.typ.id.c,.sl e.typ.kids.length (jM e.typ.kids),.sl e.kids.length (qM e.kids),.sl e.names.length (yJ e.names)]),(6,.ptr 1 0),(7,.rptr (zJ d))]) (U':=eS p F s++[.box [int 0,int 0,.nil]]) [0,2] 1 (by decide) (by simp) (by simp[eS,hP]) (by simp[eS,hP,zG,zJ,hk]),?_⟩;simp[eS,hP,zG,zJ,hk];refine nK (ha.pan hf) [0] (by decide) (by simp[eS,hP]) (by simp) fun τ=>?_
  simp
end
def qFP:Nat->Option wE:=fun|8=>some [(0,1),(1,0),(3,1),(4,0),(2,3),(5,0),(6,4),(7,0)]|_=>none
@[simp]theorem zI7:zA prog 139=true:=by kernel_rfl
mutual
theorem zPb:∀(v:Val) (k:Nat),(zAz v).bnd k=true
 | .mk a n l,k=>by simp only[zAz,A.bnd];exact zAH l k
theorem zAH:∀(l:wI) (k:Nat),cY k (zT l)=true
 |[],k=>by simp
 |v::l,k=>by have h:=zPb v k;rw[zJV]at h;simp only[A.bnd]at h;simp[h,zAH l k]
end
attribute [simp] zAH
def jG(l:List wI):wF:=l.map fun vs=>.sl vs.length (zT vs)
@[simp]theorem zMo(l:List wI):(jG l).length=l.length:=by simp[jG]
@[simp]theorem zYO:jG []=[]:=rfl
@[simp]theorem zWR(v:wI)(l:List wI):jG (v::l)=.sl v.length (zT v)::jG l:=rfl
@[simp]theorem rA(a b:List wI):jG (a++b)=jG a++jG b:=by simp[jG]
theorem sV:∀(l:List wI),j4 (jG l)
 |[]=>j4.nil
 |v::l=>j4.sl (eV v) (sV l)
@[simp]theorem zXy(l:List wI):jV (jG l)=jG l:=(sV l).1
@[simp]theorem qCp{rf g}(l:List wI):vwL rf g (jG l)=jG l:=(sV l).2 _ _
@[simp]theorem zLZ:∀(l:List wI) (k:Nat),cY k (jG l)=true
 |[],k=>by simp
 |v::l,k=>by simp[zLZ l k]
variable{l:List wI}
theorem zDN{i:Nat}(h:i<l.length):(jG l).drop i=.sl l[i].length (zT l[i])::jG (l.drop (i+1)):=by rw[jG,<-List.map_drop,jB6 h];rfl
theorem zPm:my 140 [.nil] [] .nil []:=by
 refine mq [] [.slot 2] func140 (by kernel_rfl) ?_
 (conv in kq _ _=>cbv)
 simp -implicitDefEqProofs;exact zB 0 (by simp)
theorem zRL(l:wI)(h:l≠[])(hb:l.length*40<=140737488355328)(hm:l.length<=maxLen):my 140 [.sl l.length (zT l)] [] (.row 0 l.length) [.row false 84 3 l.length (zT l)]:=by
 refine mq [] [.slot 2] func140 (by kernel_rfl) ?_
 (conv in kq _ _=>cbv)
 simp -implicitDefEqProofs [h];refine⟨⟨hm,hb⟩,?_⟩;exact mv [0] 0 (by rfl) (by simp)
theorem zAq(l:List wI):my 74 [.sl l.length (jG l)] [] (.clo 139 [] [.rptr [.sl l.length (jG l)]]) []:=by
 refine mq [] [.slot 2] func74 (by kernel_rfl) ?_
 (conv in kq _ _=>cbv)
 simp -implicitDefEqProofs;exact zB 1 (by simp)
def gW(l:wI):A:=if l=[]then .nil else .sl l.length (zT l)
@[simp]theorem zTB:gW []=.nil:=rfl
theorem zIs{l:wI}(h:l≠[]):gW l=.sl l.length (zT l):=by simp[gW,h]
@[simp]theorem qDY(l:wI)(k:Nat):(gW l).bnd k=true:=by unfold gW;split<;>simp
@[simp]theorem zUr(l:wI):cellsOf (gW l)=some [gW l]:=by unfold gW;split<;>simp
@[simp]theorem qK0{rf g}(l:wI):vw rf g (gW l)=gW l:=by unfold gW;split<;>simp
@[simp]theorem qB7(l:wI):nrm0 (gW l)=.sl l.length (zT l):=by unfold gW;split<;>simp_all
def eG(acc:List wI)(last:wI):List wI:=acc.flatMap fun h=>last.map fun x=>h++[x]
def yI(l:List wI):List wI:=l.foldl eG [[]]
@[simp]theorem zQr:yI []=[[]]:=rfl
theorem zBi(l:List wI)(last:wI):yI (l++[last])=eG (yI l) last:=by simp[yI]
theorem zHZ:∀(l:List wI) (acc:List wI) (n:Nat),(∀t∈acc,t.length=n)->∀t∈l.foldl eG acc,t.length=n+l.length
 |[],acc,n,h,t,ht=>by simpa using h t ht
 |a::l,acc,n,h,t,ht=>by
  have:=zHZ l (eG acc a) (n+1) (fun s hs=>by simp only[eG,List.mem_flatMap,jA9]at hs;obtain⟨u,hu,x,_,rfl⟩:=hs;simp[h u hu]) t ht
  simp only[jAc];omega
theorem zHY{t:wI}(h:t∈yI l):t.length=l.length:=by have:=zHZ l [[]] 0 (by simp) t h;omega
theorem gL(acc:List wI)(last:wI):(eG acc last).length=acc.length*last.length:=by
 induction acc with
 |nil=>simp[eG]
 |cons a acc ih =>
  have e:eG (a::acc) last=last.map (fun x=>a++[x])++eG acc last:=by simp[eG]
  rw[e];simp[ih,jBq,jCl]
theorem zQ5{acc:List wI}{last:wI}{i j:Nat}(hi:i<acc.length)(hj:j<last.length):(eG acc last)[i*last.length+j]?=some (acc[i]++[last[j]]):=by
 induction acc generalizing i with
 |nil=>simp at hi
 |cons a acc ih =>
  have e:eG (a::acc) last=last.map (fun x=>a++[x])++eG acc last:=by simp[eG]
  rw[e];cases i with
  |zero=>rw[jAp (by simpa using hj)];simp[hj]
  |succ i =>
   have hi':i<acc.length:=by simpa using hi
   rw[jB9 (by simp[jBq])];have:(i+1)*last.length+j-(last.map fun x=>a++[x]).length=i*last.length+j:=by simp[jBq];omega
   rw[this,ih hi'];rfl
theorem zIY:∀(n:Nat) (l:List wI),l.length=n->n<=1000000->zJA prog 139 [] [.rptr [.sl l.length (jG l)]] ((yI l).map fun t=>[gW t]):=by
 intro n;induction n with
 |zero =>
  intro l hl _;have hl0:l=[]:=jBx hl;subst hl0;refine zEd fun b m T hT hY=>?_
  simp only[zQr,jAd,jBm,jAc,jB4,zTB]at hT hY ⊢;have h0:=hT 0 (by simp);have h1:=hT 1 (by simp);refine mn qFP [] [] func139 (by kernel_rfl) ?_
  (conv in zV _ _ _ _=>cbv)
  simp -implicitDefEqProofs [h0.1,vP h0.1];refine zHr h0 h1 (hY 0 (by simp)) (by simp) ?_;simp -implicitDefEqProofs;exact zOD h1 (by simp)
 |succ n ih =>
  intro l hl hn;obtain⟨l',last,rfl⟩:∃l' last,l=l'++[last]:=⟨l.dropLast,l.getLast (by intro h;simp[h]at hl),by rw[List.dropLast_concat_getLast]⟩;have hl':l'.length=n:=by simpa using hl
  refine zEd fun b m T hT hY=>?_
  have hXl:((yI (l'++[last])).map fun t=>[gW t]).length=(yI l').length*last.length:=by rw[jAb,zBi,gL]
  rw[hXl]at hT ⊢;have h0:=hT 0 (jB0 _);refine mn qFP [] [] func139 (by kernel_rfl) ?_
  (conv in zV _ _ _ _=>cbv)
  have hw:IntKind.i64.wrap (l'.length:Int)=l'.length:=zTQ (by simp[maxLen];omega);have hne:¬((l'.length:Int)+1=0):=by omega
  simp -implicitDefEqProofs [h0.1,vP h0.1,hw,hne];intro hmx;refine⟨by omega,?_⟩;refine mu (zAq l') (by simp) ?_;simp -implicitDefEqProofs;have hCl:∀j,j<=(yI l').length*last.length->Cl (m+1) (T j++[.box [yv b]]):=fun j hj=>(hT j hj).app rfl (by simp)
  have hbd:∀i,i<=(yI l').length->i*last.length<=(yI l').length*last.length:=fun i hi=>jBl _ hi
  refine⟨[(1,.rptr [.sl (l'.length+1) (jG l'++[.sl last.length (zT last)])]),(2,.ptr m 0),(16,.clo 139 [] [.rptr [.sl l'.length (jG l')]])],m+1,(yI l').map (fun t=>[gW t]),fun j=>T (j*last.length)++[.box [yv b]],139,[],
   [.rptr [.sl l'.length (jG l')]],by simp,zI7,ih l' hl' (by omega),?_,by omega,?_,by simp,by simp,?_,?_⟩
  .simp only[Nat.zero_mul];exact zAM (τ:=[]) (by simp) (by simp[h0.1]) (by simp) (by simp[h0.1]) (by rw[(hCl 0 (jB0 _)).1];exact(hCl 0 (jB0 _)).2)
  .intro i hi;exact hCl _ (hbd i (by simpa using hi))
  .intro i hi b' M r r';simp only[jAb]at hi;have hd:(jG l'++[A.sl last.length (zT last)]).drop l'.length=[A.sl last.length (zT last)]:=by rw[<-zMo l'];simp
   simp -implicitDefEqProofs [hw,hd];intro _;refine⟨by omega,?_⟩;intro hlm;have hCl2:∀j r,i*last.length+j<=(yI l').length*last.length->Cl (m+2) (T (i*last.length+j)++[.box [yv b],AObj.lp b' r M
    [(1,A.rptr [A.sl (l'.length+1) (jG l'++[A.sl last.length (zT last)])]),(2,A.ptr m 0),
     (16,A.clo 139 [] [A.rptr [A.sl l'.length (jG l')]])]]):=fun j r hj=>(hT _ hj).app rfl (by simp)
   have hij:∀j,j<=last.length->i*last.length+j<=(yI l').length*last.length:=fun j hj=>by have:=jBl last.length (Nat.succ_le_of_lt hi);rw[jBq]at this;omega
   have hTi:(T (i*last.length)).length=m:=(hT _ (hij 0 (jB0 _))).1;refine qI (S:=Nat) (fun j=>[(2,.ptr m 0),(3,gW (yI l')[i]),(23,.sl last.length (zT last)),(24,int last.length),(25,int j)]) (fun j=>T (i*last.length+j)++[.box [yv b],AObj.lp b' r' M
    [(1,A.rptr [A.sl (l'.length+1) (jG l'++[A.sl last.length (zT last)])]),(2,A.ptr m 0),
     (16,A.clo 139 [] [A.rptr [A.sl l'.length (jG l')]])]]) (fun j=>j<=last.length) (fun j=>last.length-j) 0 (by simp)
    (zAM (τ:=[]) (by simp) (by simp[hTi]) (by simp) (by simp[hTi]) (by rw[(hCl2 0 r' (hij 0 (jB0 _))).1];exact(hCl2 0 r' (hij 0 (jB0 _))).2)) ?_
   intro j hj;simp -implicitDefEqProofs;refine jI (fun h=>?_) (fun h=>?_)<;>simp at h
   .have hTj:=hT _ (hij j hj);simp -implicitDefEqProofs [h,jE h,hTj.1,vP hTj.1,zE8 hTj.1,zED hTj.1,zGw hTj.1,zI3];have hgl:i*last.length+j<(eG (yI l') last).length:=by rw[gL];have:=hij (j+1) h;omega
    have hge:(eG (yI l') last)[i*last.length+j]=(yI l')[i]++[last[j]]:=by
     have:=zQ5 hi h;rw[jA2 hgl]at this
     simpa using this
    have hTj1:=hT (i*last.length+(j+1)) (hij (j+1) h);have hyj:lG prog b [.sl ((yI l')[i].length+1) (zT ((yI l')[i]++[last[j]]))] (T (i*last.length+j)) fun o τ=>o=.ret (.lit (.bool true))/\τ = T (i*last.length+(j+1)):=by
     have:=hY (i*last.length+j) (by simpa[zBi]using hgl);simp only[zBi,jB,hge]at this;rw[zIs (by simp)]at this
     simpa[jBb]using this
    have hlen:(yI l')[i].length=n:=by rw[zHY (jA0 hi),hl']
    by_cases hh:(yI l')[i]=[]
    .refine zE3 zPm (by simp[hh]) ?_;simp -implicitDefEqProofs [hTj.1,vP hTj.1,zE8 hTj.1,zED hTj.1,zGw hTj.1];refine⟨by simp[maxLen],?_⟩;simp only[hh,jB4,jB1,jBk,u9,zFf]at hyj;refine exY (k:=3) rfl hTj hTj1 (by simp) hyj ?_;simp -implicitDefEqProofs;refine zO (j+1) h (by omega) (zAM (τ:=[.box (zN last[j]),.row true 84 3 1 (zN last[j])]) (by simp[zN]) (by simp[hTj1.1]) (by simp[hh,zZ h hlm]) (by simp[hTj1.1]) (by rw[(hCl2 (j+1) r' (hij (j+1) h)).1];exact(hCl2 (j+1) r' (hij (j+1) h)).2))
    .refine zE3 (zRL _ hh (by omega) (by simp[maxLen];omega)) (by simp[zIs hh]) ?_;simp -implicitDefEqProofs [hTj.1,vP hTj.1,zE8 hTj.1,zED hTj.1,zGw hTj.1];refine⟨by simp[maxLen];omega,?_⟩;simp only[b7,u9,zFf]at hyj;refine exY (k:=3) rfl hTj hTj1 (by simp) hyj ?_;simp -implicitDefEqProofs;refine zO (j+1) h (by omega) (zAM (τ:=[.box (zN last[j]),.row true 84 3 ((yI l')[i].length+1) (zT (yI l')[i]++zN last[j])]) (by simp[zN]) (by simp[hTj1.1]) (by simp[zZ h hlm]) (by simp[hTj1.1]) (by rw[(hCl2 (j+1) r' (hij (j+1) h)).1];exact(hCl2 (j+1) r' (hij (j+1) h)).2))
   .have:j=last.length:=by omega
    subst this;simp -implicitDefEqProofs;exact Wk.here (by rw[jBq])
  .simp -implicitDefEqProofs;exact zOD (hT _ (jA _)) (by simp)
theorem zHn:∀{cs:wF} {k:Nat} (n:Nat),cY k cs=true->cY k (cs.take n)=true
 |[],_,_,_=>by simp
 |c::cs,k,0,_=>rfl
 |c::cs,k,n+1,h=>by simp only[cY,jA8]at h;simp[h.1,zHn n h.2]
theorem zHU:∀(X:List wI),jV (X.map gW)=jG X
 |[]=>by simp
 |t::X=>by simp[zHU X]
@[simp]theorem zR6:∀(X:List wI) (k:Nat),cY k (X.map gW)=true
 |[],k=>rfl
 |t::X,k=>by simp[zR6 X k]
@[simp]theorem zVS{rf g}:∀(X:List wI),vwL rf g (X.map gW)=X.map gW
 |[]=>by simp
 |t::X=>by simp[zVS X]
theorem zI1(g:FuncId)(first cap:wF)(hg:zA prog g=true)(hf:cY 0 first=true)(hcp:cY 0 cap=true)(X:List wI)(hX:zJA prog g first cap (X.map fun t=>[gW t]))(hm:X.length<=maxLen)(hb:X.length*24<=140737488355328) :
 my 138 [.nil,.clo g first cap] [] (.row 0 X.length) [.row false 82 1 X.length (jG X)]:=by
 have hf':∀k,cY k first=true:=fun k=>cU (jB0 k) _ hf
 have hc':∀k,cY k cap=true:=fun k=>cU (jB0 k) _ hcp
 refine mq [] [.slot 4] func138 (by kernel_rfl) ?_
 (conv in kq _ _=>cbv)
 simp -implicitDefEqProofs;refine⟨[(2,.ptr 0 0),(6,.clo g first cap)],2,X.map (fun t=>[gW t]),fun j=>[.box [.row 1 j],.row false 82 1 j ((X.map gW).take j)],g,first,cap,by simp,hg,hX,?_,by omega,?_,by simp[hf',hc'],by simp,?_,?_⟩
 .exact(yN (l:=0) (o:=0) rfl rfl 82 1).trans (zAM (τ:=[]) (by simp) (by simp) (by simp) (by simp[hf',hc']) (by simp))
 .intro i hi;simp[zHn]
 .intro i hi b' M r r';simp only[jAb]at hi;have htk:(X.map gW).take (i+1)=(X.map gW).take i++[gW X[i]]:=by rw[jA7 (by simpa using hi)];simp
  simp -implicitDefEqProofs;exact⟨⟨by omega,by omega⟩,Wk.here (by rw[htk])⟩
 .have htk:(X.map gW).take X.length=X.map gW:=jAl (by simp);simp -implicitDefEqProofs [htk];exact mv [1] 0 (by rfl) (by simp[zHU])
theorem zMr(g:FuncId)(first cap:wF)(hg:zA prog g=true)(hf:cY 0 first=true)(hcp:cY 0 cap=true)(X:List wI)(hX:zJA prog g first cap (X.map fun t=>[gW t]))(hm:X.length<=maxLen)(hb:X.length*24<=140737488355328) :
 my 73 [.clo g first cap] [] (.row 0 X.length) [.row false 82 1 X.length (jG X)]:=by
 refine mq [] [.slot 2] func73 (by kernel_rfl) ?_
 (conv in kq _ _=>cbv)
 simp -implicitDefEqProofs;refine zU (zI1 g first cap hg hf hcp X hX hm hb) [] (by simp) (by simp) ⟨.inl (by simp),.inl (zD4 (k:=0) (fun l hl=>by omega) (.clo g first cap) (by simp[hf,hcp])).symm,trivial⟩ ?_;simp -implicitDefEqProofs;exact mv [0] 0 (by rfl) (by simp)
mutual
def iB(g:ByteArray->ByteArray):Exp->Exp
 | .mk i k n r t ks ns=>.mk i k n r t (zHQ g ks) (ns.map g)
def zHQ(g:ByteArray->ByteArray):List Exp->wH
 |[]=>[]
 |e::l=>iB g e::zHQ g l
end
theorem zHR(g:ByteArray->ByteArray):∀l:wH,zHQ g l=l.map (iB g)
 |[]=>rfl
 |e::l=>by simp only[zHQ,jAd,zHR g l]
mutual
theorem zOw:∀e:Exp,iB (fun x=>x) e=e
 | .mk i k n r t ks ns=>by simp only[iB,zKM ks,List.map_id']
theorem zKM:∀l:wH,zHQ (fun x=>x) l=l
 |[]=>rfl
 |e::l=>by simp only[zHQ,zOw e,zKM l]
end
inductive AlG{α:Type}(R : α->α->Prop):List α->List α->Prop
 |nil:AlG R [] []
 |cons {a b : α} {l m:List α} (h:R a b) (t:AlG R l m):AlG R (a::l) (b::m)
section
variable{α:Type}{R : α->α->Prop}
variable{l m:List α}
theorem AlG.len(h:AlG R l m):m.length=l.length:=by
 induction h with
 |nil=>rfl
 |cons _ _ ih=>simp[ih]
theorem AlG.append{l' m':List α}(h:AlG R l m)(h':AlG R l' m'):AlG R (l++l') (m++m'):=by
 induction h with
 |nil=>exact h'
 |cons h _ ih=>exact .cons h ih
theorem AlG.map{β:Type}{f g : α->β}(hf:∀a b,R a b->g b=f a)(h:AlG R l m):m.map g=l.map f:=by
 induction h with
 |nil=>rfl
 |cons h _ ih=>simp only[jAd,ih,hf _ _ h]
theorem AlG.get(h:AlG R l m):∀(i:Nat) (h1:i<l.length) (h2:i<m.length),R l[i] m[i]:=by
 induction h with
 |nil=>intro i h1;simp at h1
 |cons h _ ih =>
  intro i h1 h2;cases i with
  |zero=>exact h
  |succ i=>exact ih i (by simpa using h1) (by simpa using h2)
theorem AlG.mem(h:AlG R l m){b : α}(hb:b∈m):∃a∈l,R a b:=by obtain⟨i,hi,rfl⟩:=jAe hb;exact⟨_,jA0 (by rw[<-h.len];exact hi),h.get i _ hi⟩
theorem AlG.pair{S : α->α->Prop}(hS:∀a b a' b',R a b->R a' b'->S a a'->S b b')(h:AlG R l m)(hp:l.Pairwise S):m.Pairwise S:=by rw[jC0]at hp ⊢;intro i j hi hj hij;exact hS _ _ _ _ (h.get i (by rw[<-h.len];exact hi) hi) (h.get j (by rw[<-h.len];exact hj) hj) (hp i j _ _ hij)
theorem AlG.find{idf : α->Id}(hR:∀a b,R a b->idf b=idf a)(h:AlG R l m)(x:Id) :
 (aH idf l x=none/\aH idf m x=none)\/∃a b,aH idf l x=some a/\aH idf m x=some b/\R a b:=by
 induction h with
 |nil=>exact .inl ⟨rfl,rfl⟩
 | @cons a b l m h t ih =>
  have e:=hR a b h;simp only[aH,jC4,e];by_cases hx:idf a=x
  .exact .inr ⟨a,b,by simp[hx],by simp[hx],h⟩
  .simp only[hx,decide_false];exact ih
theorem AlG.mapIdx{f:Nat->α->α}(hf:∀i a,R a (f i a)):∀(l:List α),AlG R l (l.mapIdx f)
 |[]=>.nil
 |a::l=>by rw[List.mapIdx_cons];exact .cons (hf 0 a) (AlG.mapIdx (f:=fun i=>f (i+1)) (fun i a=>hf (i+1) a) l)
end
structure SameSG(s s':Slt):Prop where
 id:s'.id=s.id
 typ:s'.typ=s.typ
 most:s'.most=s.most
def zEL(e e':Exp):Prop:=∃t,e'=iB t e
structure SameD0G(d d':Dfn):Prop where
 id:d'.id=d.id
 kind:d'.kind=d.kind
 slots:AlG SameSG d.slots d'.slots
 res:d'.res=d.res
structure SameDG(d d':Dfn):Prop extends SameD0G d d' where
 body:zEL d.body d'.body
abbrev zAD(p q:Prg):Prop:=AlG SameD0G p.defs q.defs
abbrev fH(p q:Prg):Prop:=AlG SameDG p.defs q.defs
theorem AlG.imp{α:Type}{R S : α->α->Prop}(h:∀a b,R a b->S a b){l m:List α}(hl:AlG R l m):AlG S l m:=by
 induction hl with
 |nil=>exact .nil
 |cons h1 _ ih=>exact .cons (h _ _ h1) ih
variable{q:Prg}
theorem fH.to0(h:fH p q):zAD p q:=AlG.imp (fun _ _ h=>h.toSameD0G) h
theorem bB(t:ByteArray->ByteArray)(i:Id)(k n:Int)(r:Id)(u:Typ)(ks:wH)(ns:List ByteArray):iB t (.mk i k n r u ks ns)=.mk i k n r u (ks.map (iB t)) (ns.map t):=by rw[iB,zHR]
theorem zCh(t:ByteArray->ByteArray)(e:Exp):(iB t e).id=e.id:=by cases e;rw[bB];rfl
theorem zNa(t:ByteArray->ByteArray)(e:Exp):(iB t e).k=e.k:=by cases e;rw[bB];rfl
theorem zNb(t:ByteArray->ByteArray)(e:Exp):(iB t e).n=e.n:=by cases e;rw[bB];rfl
theorem zKO(t:ByteArray->ByteArray)(e:Exp):(iB t e).ref=e.ref:=by cases e;rw[bB];rfl
theorem zSQ(t:ByteArray->ByteArray)(e:Exp):(iB t e).typ=e.typ:=by cases e;rw[bB];rfl
theorem zDj(t:ByteArray->ByteArray)(e:Exp):(iB t e).kids=e.kids.map (iB t):=by cases e;rw[bB];rfl
theorem zDk(t:ByteArray->ByteArray):iB t .zero=.zero:=by simp[Exp.zero,bB]
theorem zQf(t:ByteArray->ByteArray):∀l:wH,(l.map (iB t)).headD .zero=iB t (l.headD .zero)
 |[]=>(zDk t).symm
 |_::_=>rfl
theorem zKN(t:ByteArray->ByteArray):∀(l:wH) (i:Nat),(l.map (iB t)).getD i .zero=iB t (l.getD i .zero)
 |[],i=>by simp[zDk]
 |_::_,0=>rfl
 |_::l,i+1=>by simpa using zKN t l i
theorem zNu{a b:Slt}(h:SameSG a b):gU a b=true:=by simp[gU,h.id,h.typ,h.most,lW]
theorem zRw{α:Type}{R : α->α->Prop}{same : α->α->Bool}(hs:∀a b,R a b->same a b=true){l m:List α}(h:AlG R l m):bM same l m=true:=by
 induction h with
 |nil=>rfl
 |cons h _ ih=>simp only[bM,hs _ _ h,ih,Bool.and_self]
theorem zLr{a b:Dfn}(h:SameDG a b):yQ a b=true:=by
 obtain⟨t,ht⟩:=h.body;have hb:b.body.id=a.body.id:=by rw[ht,zCh]
 simp[yQ,h.kind,h.res,hb,lW,zRw (fun _ _=>zNu) h.slots]
theorem zHj{same:Exp->Exp->Bool}{f:Exp->Exp}(hs:∀a,same a (f a)=true):∀l:wH,bM same l (l.map f)=true
 |[]=>rfl
 |a::l=>by simp only[jAd,bM,hs a,zHj hs l,Bool.and_self]
theorem zLt{a b:Exp}(h:zEL a b):cH a b=true:=by obtain⟨t,rfl⟩:=h;simp[cH,zNa,zNb,zKO,zSQ,zDj,lW,zHj (same:=uN) (f:=iB t) (fun a=>by simp[uN,zCh])]
mutual
theorem zEX(t:ByteArray->ByteArray):∀e:Exp,AlG zEL (y7 e) (y7 (iB t e))
 | .mk i k n r u ks ns=>by rw[bB,y7,y7];exact .cons ⟨t,(bB t i k n r u ks ns).symm⟩ (zDD t ks)
theorem zDD(t:ByteArray->ByteArray):∀l:wH,AlG zEL (yU l) (yU (l.map (iB t)))
 |[]=>.nil
 |e::l=>by rw[jAd,yU,yU];exact(zEX t e).append (zDD t l)
end
theorem zJf{l m:wS}(h:AlG SameDG l m):AlG zEL (yE l) (yE m):=by
 induction h with
 |nil=>exact .nil
 | @cons a b l m h _ ih =>
  have e:∀(x:Dfn) (L:wS),yE (x::L)=(if dU x.kind then y7 x.body else [])++yE L:=fun _ _=>rfl
  rw[e,e,h.kind];refine AlG.append ?_ ih;obtain⟨t,ht⟩:=h.body;by_cases hb:dU a.kind=true
  .rw[if_pos hb,if_pos hb,ht];exact zEX t a.body
  .rw[if_neg hb,if_neg hb];exact .nil
theorem zLc{α:Type}{idf : α->Id}{same : α->α->Bool}{R : α->α->Prop}(hi:∀a b,R a b->idf b=idf a)(hs:∀a b,R a b->same a b=true)(hc:∀a b,same a b=same b a){P Q:List α}(h:AlG R P Q)(x:Id) :
 x∉zAw idf same P Q/\x∉zAw idf same Q P:=by
 rcases h.find hi x with ⟨h1,h2⟩|⟨a,b,h1,h2,hR⟩
 .constructor<;>intro hx<;>rw[gT]at hx<;>obtain⟨c,hc',_⟩:=hx
  .rw[h1]at hc';cases hc'
  .rw[h2]at hc';cases hc'
 .constructor<;>intro hx<;>rw[gT]at hx<;>obtain⟨c,hc',hn⟩:=hx
  .rw[h1]at hc';cases hc';have:=hn b h2;rw[hs _ _ hR]at this;cases this
  .rw[h2]at hc';cases hc';have:=hn a h1;rw[hc,hs _ _ hR]at this;cases this
theorem zMp{p q:wS}(h:AlG SameDG p q):nJ p q=[]/\nJ q p=[]:=by
 have h1:=zLc (idf:=Dfn.id) (same:=yQ) (fun _ _ h=>h.id) (fun _ _=>zLr) pU h;have h2:=zLc (idf:=Exp.id) (same:=cH) (fun _ _ ⟨t,ht⟩=>by rw[ht,zCh]) (fun _ _=>zLt) zEs (zJf h);have key:∀(L:wG),(∀x,x∉L)->L=[]:=fun L hL=>by
  cases L with
  |nil=>rfl
  |cons x L=>exact(hL x (by simp)).elim
 constructor
 .refine key _ fun x hx=>?_
  rw[<-sX,yX,zEg]at hx;simp only[jA6]at hx;rcases hx with (hx|hx)|(hx|hx)
  .exact(h1 x).1 hx
  .exact(h2 x).1 hx
  .exact(h1 x).2 hx
  .exact(h2 x).2 hx
 .refine key _ fun x hx=>?_
  rw[<-sX,yX,zEg]at hx;simp only[jA6]at hx;rcases hx with (hx|hx)|(hx|hx)
  .exact(h1 x).2 hx
  .exact(h2 x).2 hx
  .exact(h1 x).1 hx
  .exact(h2 x).1 hx
section
variable{p q:Prg}(hA:fH p q)
include hA
theorem mP(r:Id):(qG p.defs r=none/\qG q.defs r=none)\/∃d d',qG p.defs r=some d/\qG q.defs r=some d'/\SameDG d d' :=
 AlG.find (idf:=Dfn.id) (fun _ _ h=>h.id) hA r
theorem zPp(r:Id):SameDG (dfn p r) (dfn q r):=by
 unfold dfn;rcases mP hA r with ⟨h1,h2⟩|⟨d,d',h1,h2,h⟩
 .rw[h1,h2];exact⟨⟨rfl,rfl,.nil,rfl⟩,⟨fun x=>x,(zDk _).symm⟩⟩
 .rw[h1,h2];exact h
end
section
variable{p q:Prg}(hA:zAD p q)
include hA
theorem zBP(r:Id):(qG p.defs r=none/\qG q.defs r=none)\/∃d d',qG p.defs r=some d/\qG q.defs r=some d'/\SameD0G d d' :=
 AlG.find (idf:=Dfn.id) (fun _ _ h=>h.id) hA r
theorem sZ(r:Id):SameD0G (dfn p r) (dfn q r):=by
 unfold dfn;rcases zBP hA r with ⟨h1,h2⟩|⟨d,d',h1,h2,h⟩
 .rw[h1,h2];exact⟨rfl,rfl,.nil,rfl⟩
 .rw[h1,h2];exact h
theorem uF:∀(n:Nat) (t:Typ),y5 q n t=y5 p n t
 | 0,t=>rfl
 |n+1,t=>by
  have hk:mX (qG q.defs t.id)=mX (qG p.defs t.id):=by
   rcases zBP hA t.id with ⟨h1,h2⟩|⟨d,d',h1,h2,h⟩
   .rw[h1,h2]
   .rw[h1,h2];simp[mX,h.kind]
  have ih:=uF n;simp only[y5,hk,ih]
end
mutual
theorem vN{p q:Prg}(hA:zAD p q):∀(v:Val) (t:Typ),cE q t v=cE p t v
 | .mk k n l,t=>by
  have hd:=sZ hA t.id;have hv:cI q t=cI p t:=uF hA 24 t;have hm:(dfn q t.id).slots.map Slt.typ=(dfn p t.id).slots.map Slt.typ:=hd.slots.map fun _ _ h=>h.typ
  rw[cE,cE,hv,hd.kind,hd.slots.len,hm,zDV hA l,zKp hA l,pO hA l]
theorem zDV{p q:Prg}(hA:zAD p q):∀(l:wI) (t:Typ),mQ q t l=mQ p t l
 |[],t=>by rw[mQ,mQ]
 |v::l,t=>by rw[mQ,mQ,vN hA v,zDV hA l]
theorem zKp{p q:Prg}(hA:zAD p q):∀(l:wI) (o:Option Typ),fQ q o l=fQ p o l
 |[],none=>by rw[fQ,fQ]<;>simp
 |[],some t=>by rw[fQ,fQ]<;>simp
 |v::l,none=>by rw[fQ,fQ]<;>simp
 |v::l,some t=>by rw[fQ,fQ,vN hA v]
theorem pO{p q:Prg}(hA:zAD p q):∀(l:wI) (ts:wT),aM q ts l=aM p ts l
 |[],[]=>by rw[aM,aM]<;>simp
 |[],t::ts=>by rw[aM,aM]<;>simp
 |v::l,[]=>by rw[aM,aM]<;>simp
 |v::l,t::ts=>by rw[aM,aM,vN hA v,pO hA l]
end
section
variable{p q:Prg}(hA:zAD p q)
include hA
variable{l m:List Slt}
omit hA in
theorem zH5{f g:List Id->Typ->wG}(hf:∀L t,g L t=f L t)(h:AlG SameSG l m):∀L:wG,m.foldl (fun L s=>g L s.typ) L=l.foldl (fun L s=>f L s.typ) L:=by
 induction h with
 |nil=>intro L;rfl
 |cons h _ ih=>intro L;rw[jAw,jAw,h.typ,hf,ih]
theorem zCq:∀(n:Nat) (t:Typ) (L:wG),yG q n t L=yG p n t L
 | 0,t,L=>rfl
 |n+1,t,L=>by
  have ih:=zCq n;have hk:(fun(L:wG) k=>yG q n k L)=fun L k=>yG p n k L:=by funext L k;exact ih k L
  have hs:=zH5 (f:=fun L t=>yG p n t L) (g:=fun L t=>yG q n t L) (fun L t=>ih t L) (sZ hA t.id).slots;simp only[yG,hk,hs]
theorem zCp(h:AlG SameSG l m)(L:wG):cS q m L=cS p l L :=
 zH5 (f:=fun L t=>yG p 10 t L) (g:=fun L t=>yG q 10 t L) (fun L t=>zCq hA 10 t L) h L
end
section
variable{ev ev':Evl}(hE:∀t e V s,ev' (iB t e) V s=ev e V s)
include hE
theorem zHk(t:ByteArray->ByteArray)(V:wP):∀(l:wH) (s:XS),qQ ev' V (l.map (iB t)) s=qQ ev V l s
 |[],s=>rfl
 |e::l,s=>by simp only[jAd,qQ,hE,zHk t V l]
theorem zF6(t:ByteArray->ByteArray)(V:wP)(i:Id)(b:Exp):∀(l:wI) (r:Val×XS),j5 ev' V i (iB t b) l r=j5 ev V i b l r
 |[],r=>rfl
 |x::l,r=>by simp only[j5,hE,zF6 t V i b l]
omit hE in
theorem zM0{l m:List Slt}(h:AlG SameSG l m):∀vs:wI,fK m vs=fK l vs:=by
 induction h with
 |nil=>intro vs;rfl
 |cons h _ ih =>
  intro vs;cases vs with
  |nil=>rfl
  |cons v vs =>
   have:=ih vs;simp only[fK,List.zipWith_cons_cons,h.id]at this ⊢;rw[this]
theorem zAI{d d':Dfn}(h:SameDG d d')(vs:wI)(s:XS):bU ev' d' vs s=bU ev d vs s:=by obtain⟨t,ht⟩:=h.body;simp only[bU,ht,hE,h.id,zM0 h.slots]
theorem zI4(t:ByteArray->ByteArray)(e:Exp)(V:wP)(s:XS):jK ev' (iB t e) V s=jK ev e V s:=by simp only[jK,zNa,zDj,zQf,zKN,zCh,zNb,hE,zF6 hE]
theorem zLK{p q:Prg}(hA:fH p q)(fl:Nat)(t:ByteArray->ByteArray)(e:Exp)(V:wP)(s:XS):qH q fl ev' (iB t e) V s=qH p fl ev e V s:=by simp only[qH,zNa,zDj,zNb,zKO,zI4 hE,zHk hE,zAI hE (zPp hA e.ref)]
end
theorem zBg{p q:Prg}(hA:fH p q)(fl:Nat):∀(m:Nat) (t:ByteArray->ByteArray) (e:Exp) (V:wP) (s:XS),bC q fl m (iB t e) V s=bC p fl m e V s
 | 0,t,e,V,s=>rfl
 |m+1,t,e,V,s=>by
  have ht:fE (iB t e) s=fE e s:=by simp only[fE,zCh]
  simp only[bC,ht,zLK (zBg hA fl m) hA]
theorem zDG(hA:fH p q)(id:Id)(vs:wI)(fuel:Int):j8 q id vs fuel=j8 p id vs fuel:=by
 unfold j8;rcases mP hA id with ⟨h1,h2⟩|⟨d,d',h1,h2,h⟩
 .rw[h1,h2]
 .rw[h1,h2];have hm:d'.slots.map Slt.typ=d.slots.map Slt.typ:=h.slots.map fun _ _ h=>h.typ
  simp only[h.kind,h.slots.len,hm,pO hA.to0,eM,zCp hA.to0 h.slots,zAI (zBg hA 1 fuel.toNat) h]
theorem zSv{α β:Type}{R : α->α->Prop}{f : α->β}(hf:∀a b,R a b->f b=f a){l m:List α}(h:AlG R l m)(i:Nat)(h1:i<l.length)(h2:i<m.length):f m[i]=f l[i]:=hf _ _ (h.get i h1 h2)
theorem zTZ(hA:fH p q)(t:ByteArray->ByteArray){env:wJ}{e:Exp}{u:Typ}(h:WE p env e u):WE q env (iB t e) u:=by
 have key:∀{r:Id} {d:Dfn},qG p.defs r=some d->∃d',qG q.defs r=some d'/\SameDG d d':=fun {r d} hd=>by
  rcases mP hA r with ⟨h1,_⟩|⟨a,b,h1,h2,h⟩
  .rw[h1]at hd;cases hd
  .rw[h1]at hd;cases hd;exact⟨b,h2,h⟩
 induction h with
 |int env i n r u ns h1 h2=>rw[bB];exact .int _ _ _ _ _ _ h1 h2
 |bool env i n r u ns h=>rw[bB];exact .bool _ _ _ _ _ _ h
 |var env i n r u ns t h=>rw[bB];exact .var _ _ _ _ _ _ _ h
 |call env i n r u ks ns hn d hd hk hl hw ih =>
  obtain⟨d',hd',hs⟩:=key hd;have hm:d'.slots.map Slt.typ=d.slots.map Slt.typ:=hs.slots.map fun _ _ h=>h.typ
  rw[bB,<-hs.res];refine .call _ _ _ _ _ _ _ (by simpa using hn) d' hd' (hs.kind.trans hk) (by rw[hm];simpa using hl) fun j hj=>?_
  have hj':j<ks.length:=by simpa using hj
  have:=ih j hj'
  simpa[hm]using this
 |op env i n r u ks ns hn ts t ho hl hw ih =>
  rw[bB];refine .op _ _ _ _ _ _ _ (by simpa using hn) ts t ho (by simpa using hl) fun j hj=>?_
  have hj':j<ks.length:=by simpa using hj
  simpa using ih j hj'
 |ite env i n r u a b c ns t ha hb hc i1 i2 i3=>rw[bB];exact .ite _ _ _ _ _ _ _ _ _ _ i1 i2 i3
 |lets env i n r u a b ns v t hf ha hb i1 i2=>rw[bB];exact .lets _ _ _ _ _ _ _ _ _ _ hf i1 i2
 |record env i n r u ks ns hn d hd hk hl hw ih =>
  obtain⟨d',hd',hs⟩:=key hd;have hm:d'.slots.map Slt.typ=d.slots.map Slt.typ:=hs.slots.map fun _ _ h=>h.typ
  rw[bB];refine .record _ _ _ _ _ _ _ (by simpa using hn) d' hd' (hs.kind.trans hk) (by rw[hm];simpa using hl) fun j hj=>?_
  have hj':j<ks.length:=by simpa using hj
  simpa[hm]using ih j hj'
 |field env i r u a ns d j hd hk hj ha ih =>
  obtain⟨d',hd',hs⟩:=key hd;have hj':j<d'.slots.length:=by rw[hs.slots.len];exact hj
  rw[bB,<-zSv (f:=Slt.typ) (fun _ _ h=>h.typ) hs.slots j hj hj'];exact .field _ _ _ _ _ _ d' j hd' (hs.kind.trans hk) hj' ih
 |case env i r u a ns d j hd hk hj ha ih =>
  obtain⟨d',hd',hs⟩:=key hd;have hj':j<d'.slots.length:=by rw[hs.slots.len];exact hj
  rw[bB];refine .case _ _ _ _ _ _ d' j hd' (hs.kind.trans hk) hj' ?_;rw[zSv (f:=Slt.typ) (fun _ _ h=>h.typ) hs.slots j hj hj'];exact ih
 |mtch env i n r u a ks ns d t hf hd hk hl ha hw i1 ih =>
  obtain⟨d',hd',hs⟩:=key hd;rw[bB];refine .mtch _ _ _ _ _ _ _ _ d' _ hf hd' (hs.kind.trans hk) (by rw[jAb,hs.slots.len];exact hl) i1 fun j hj=>?_
  have hj':j<ks.length:=by simpa using hj
  have hjd:j<d.slots.length:=hl▸hj';have hjd':j<d'.slots.length:=by rw[hs.slots.len];exact hjd
  have:=ih j hj';rw[<-zSv (f:=Slt.typ) (fun _ _ h=>h.typ) hs.slots j hjd hjd']at this
  simpa using this
 |list env i n r u ks ns t hn hw ih =>
  rw[bB];refine .list _ _ _ _ _ _ _ _ (by simpa using hn) fun j hj=>?_
  have hj':j<ks.length:=by simpa using hj
  simpa using ih j hj'
 |fold env i n r u l s b ns v t hf hl hs hb i1 i2 i3=>rw[bB];exact .fold _ _ _ _ _ _ _ _ _ _ _ hf i1 i2 i3
theorem zLU{hs':wQ}(hl:hs'.length=hs.length)(h1:∀(k:Nat)(a:k<hs.length)(b:k<hs'.length),hs'[k].id=hs[k].id/\hs'[k].kind=hs[k].kind/\AlG SameSG hs[k].slots hs'[k].slots){r:Nat}{t:Typ}(h:TyOk hs r t):TyOk hs' r t:=by
 induction h with
 |int r=>exact .int _
 |bool r=>exact .bool _
 |list r t _ ih=>exact .list _ _ ih
 |dfn r k h n1 h2 h3 h4 ih =>
  have h':k<hs'.length:=by omega
  obtain⟨a1,a2,a3⟩:=h1 k h h';rw[<-a1];refine .dfn r k h' (fun j hj=>?_) (by rw[a2,a3.len];exact h2) (by rw[a3.len];exact h3) fun s hs=>?_
  .rw[a1,(h1 j (by omega) (by omega)).1];exact n1 j hj
  .obtain⟨s0,hs0,hS⟩:=a3.mem hs;rw[hS.typ];exact ih s0 hs0
theorem zM1{d d':Dfn}(h:SameDG d d'):cN d'=cN d:=h.slots.map fun a b h=>by rw[h.id,h.typ]
theorem Fit.sameG(hA:fH p q)(h:Fit p hs):Fit q (q.defs.map Dfn.hd):=by
 have hl:=hA.len;have hhs:hs=p.defs.map Dfn.hd:=h.heads.symm;have hT:∀{r:Nat} {t:Typ},TyOk hs r t->TyOk (q.defs.map Dfn.hd) r t:=fun ht=>by
  refine zLU (by rw[hhs];simp[hl]) (fun k a b=>?_) ht;have a':k<p.defs.length:=by rw[hhs]at a;simpa using a
  have b':k<q.defs.length:=by simpa using b
  have e1:hs[k]=p.defs[k].hd:=by simp[hhs]
  have e2:(q.defs.map Dfn.hd)[k]=q.defs[k].hd:=by simp
  rw[e1,e2];have hk:=hA.get k a' b';exact⟨hk.id,hk.kind,hk.slots⟩
 refine⟨rfl,by rw[hl];exact h.len8,hA.pair (fun a b a' b' r1 r2 hne=>by rw[r1.id,r2.id];exact hne) h.nd,fun d hd=>?_,fun d hd=>?_,fun r d hd hb=>?_⟩
 .obtain⟨a,ha,hS⟩:=hA.mem hd;obtain⟨s1,s2,s3,s4,s5⟩:=h.slots a ha;rw[hS.slots.len,hS.kind];refine⟨s1,s2,s3,hS.slots.pair (fun a b a' b' r1 r2 hne=>by rw[r1.id,r2.id];exact hne) s4,fun s hs=>?_⟩;obtain⟨s0,hs0,hs'⟩:=hS.slots.mem hs;have:=hT (s5 s0 hs0);rw[hs'.typ];exact this
 .obtain⟨a,ha,hS⟩:=hA.mem hd;rw[hS.kind];exact h.kinds a ha
 .rcases mP hA r with ⟨_,h2⟩|⟨a,b,h1,h2,hS⟩
  .rw[h2]at hd;cases hd
  .rw[h2]at hd;cases hd;obtain⟨t,ht⟩:=hS.body;rw[zM1 hS,ht,hS.res];refine zTZ hA t (h.bods r a h1 ?_)
   simpa[dG,hS.kind]using hb
def zGk(s:Slt):Slt:={s with name:=s.name++⟨#[122]⟩}
def lU(d:Dfn):Dfn:={d with name:=d.name++⟨#[122]⟩,place:=w64 (d.place+3),lay:=[],slots:=d.slots.map zGk}
def bP(p:Prg):Prg:=⟨p.mods,p.defs.map lU⟩
theorem AlG.of_map{α:Type}{R : α->α->Prop}{f : α->α}(h:∀a,R a (f a)):∀l:List α,AlG R l (l.map f)
 |[]=>.nil
 |a::l=>.cons (h a) (AlG.of_map h l)
theorem lT(p:Prg):fH p (bP p):=AlG.of_map (fun d=>⟨⟨rfl,rfl,AlG.of_map (fun _=>⟨rfl,rfl,rfl⟩) _,rfl⟩,⟨fun x=>x,(zOw _).symm⟩⟩) _
section
variable{p:Prg}{F:Int}{c:Nat}{m:Int}{ev:Evl}{e:Exp}{V:wP}{s:XS}
@[simp]theorem qNq:zA prog 226=true:=by kernel_rfl
section
variable{A:wI×XS}(hA:my 233 [.ptr 0 0,.sl e.kids.length (qM e.kids),.sl V.length (mE V)] (uS p F s) (.sl A.1.length (zT A.1)) (uS p F A.2))
include hA
end
end
section
variable{p:Prg}{c:Nat}{m:Int}{ev:Evl}{e:Exp}{V:wP}{s:XS}
end
inductive Al{α:Type}(R : α->α->Prop):List α->List α->Prop
 |nil:Al R [] []
 |cons {a b : α} {l m:List α} (h:R a b) (t:Al R l m):Al R (a::l) (b::m)
section
variable{α:Type}{R : α->α->Prop}
variable{l m:List α}
theorem Al.len(h:Al R l m):m.length=l.length:=by
 induction h with
 |nil=>rfl
 |cons _ _ ih=>simp[ih]
theorem Al.map{β:Type}{f g : α->β}(hf:∀a b,R a b->g b=f a)(h:Al R l m):m.map g=l.map f:=by
 induction h with
 |nil=>rfl
 |cons h _ ih=>simp only[jAd,ih,hf _ _ h]
theorem Al.get(h:Al R l m):∀(i:Nat) (h1:i<l.length) (h2:i<m.length),R l[i] m[i]:=by
 induction h with
 |nil=>intro i h1;simp at h1
 |cons h _ ih =>
  intro i h1 h2;cases i with
  |zero=>exact h
  |succ i=>exact ih i (by simpa using h1) (by simpa using h2)
theorem Al.mem(h:Al R l m){b : α}(hb:b∈m):∃a∈l,R a b:=by obtain⟨i,hi,rfl⟩:=jAe hb;exact⟨_,jA0 (by rw[<-h.len];exact hi),h.get i _ hi⟩
theorem Al.pair{S : α->α->Prop}(hS:∀a b a' b',R a b->R a' b'->S a a'->S b b')(h:Al R l m)(hp:l.Pairwise S):m.Pairwise S:=by rw[jC0]at hp ⊢;intro i j hi hj hij;exact hS _ _ _ _ (h.get i (by rw[<-h.len];exact hi) hi) (h.get j (by rw[<-h.len];exact hj) hj) (hp i j _ _ hij)
theorem Al.find{idf : α->Id}(hR:∀a b,R a b->idf b=idf a)(h:Al R l m)(x:Id) :
 (aH idf l x=none/\aH idf m x=none)\/∃a b,aH idf l x=some a/\aH idf m x=some b/\R a b:=by
 induction h with
 |nil=>exact .inl ⟨rfl,rfl⟩
 | @cons a b l m h t ih =>
  have e:=hR a b h;simp only[aH,jC4,e];by_cases hx:idf a=x
  .exact .inr ⟨a,b,by simp[hx],by simp[hx],h⟩
  .simp only[hx,decide_false];exact ih
end
structure SameS(s s':Slt):Prop where
 id:s'.id=s.id
 typ:s'.typ=s.typ
 most:s'.most=s.most
def qDE(e e':Exp):Prop:=∃t,e'=zVu t e
structure SameD0(d d':Dfn):Prop where
 id:d'.id=d.id
 kind:d'.kind=d.kind
 slots:Al SameS d.slots d'.slots
 res:d'.res=d.res
structure SameD(d d':Dfn):Prop extends SameD0 d d' where
 body:qDE d.body d'.body
abbrev zEM(p q:Prg):Prop:=Al SameD0 p.defs q.defs
abbrev qDF(p q:Prg):Prop:=Al SameD p.defs q.defs
theorem Al.imp{α:Type}{R S : α->α->Prop}(h:∀a b,R a b->S a b){l m:List α}(hl:Al R l m):Al S l m:=by
 induction hl with
 |nil=>exact .nil
 |cons h1 _ ih=>exact .cons (h _ _ h1) ih
section
variable{p q:Prg}(hA:qDF p q)
include hA
end
section
variable{p q:Prg}(hA:zEM p q)
include hA
theorem zDT(r:Id):(qG p.defs r=none/\qG q.defs r=none)\/∃d d',qG p.defs r=some d/\qG q.defs r=some d'/\SameD0 d d' :=
 Al.find (idf:=Dfn.id) (fun _ _ h=>h.id) hA r
theorem xY(r:Id):SameD0 (dfn p r) (dfn q r):=by
 unfold dfn;rcases zDT hA r with ⟨h1,h2⟩|⟨d,d',h1,h2,h⟩
 .rw[h1,h2];exact⟨rfl,rfl,.nil,rfl⟩
 .rw[h1,h2];exact h
theorem xM:∀(n:Nat) (t:Typ),y5 q n t=y5 p n t
 | 0,t=>rfl
 |n+1,t=>by
  have hk:mX (qG q.defs t.id)=mX (qG p.defs t.id):=by
   rcases zDT hA t.id with ⟨h1,h2⟩|⟨d,d',h1,h2,h⟩
   .rw[h1,h2]
   .rw[h1,h2];simp[mX,h.kind]
  have ih:=xM n;simp only[y5,hk,ih]
end
mutual
theorem zBa{p q:Prg}(hA:zEM p q):∀(v:Val) (t:Typ),cE q t v=cE p t v
 | .mk k n l,t=>by
  have hd:=xY hA t.id;have hv:cI q t=cI p t:=xM hA 24 t;have hm:(dfn q t.id).slots.map Slt.typ=(dfn p t.id).slots.map Slt.typ:=hd.slots.map fun _ _ h=>h.typ
  rw[cE,cE,hv,hd.kind,hd.slots.len,hm,zF1 hA l,zM6 hA l,zAZ hA l]
theorem zF1{p q:Prg}(hA:zEM p q):∀(l:wI) (t:Typ),mQ q t l=mQ p t l
 |[],t=>by rw[mQ,mQ]
 |v::l,t=>by rw[mQ,mQ,zBa hA v,zF1 hA l]
theorem zM6{p q:Prg}(hA:zEM p q):∀(l:wI) (o:Option Typ),fQ q o l=fQ p o l
 |[],none=>by rw[fQ,fQ]<;>simp
 |[],some t=>by rw[fQ,fQ]<;>simp
 |v::l,none=>by rw[fQ,fQ]<;>simp
 |v::l,some t=>by rw[fQ,fQ,zBa hA v]
theorem zAZ{p q:Prg}(hA:zEM p q):∀(l:wI) (ts:wT),aM q ts l=aM p ts l
 |[],[]=>by rw[aM,aM]<;>simp
 |[],t::ts=>by rw[aM,aM]<;>simp
 |v::l,[]=>by rw[aM,aM]<;>simp
 |v::l,t::ts=>by rw[aM,aM,zBa hA v,zAZ hA l]
end
section
variable{p q:Prg}(hA:zEM p q)
include hA
variable{l m:List Slt}
omit hA in
theorem zKs{f g:List Id->Typ->wG}(hf:∀L t,g L t=f L t)(h:Al SameS l m):∀L:wG,m.foldl (fun L s=>g L s.typ) L=l.foldl (fun L s=>f L s.typ) L:=by
 induction h with
 |nil=>intro L;rfl
 |cons h _ ih=>intro L;rw[jAw,jAw,h.typ,hf,ih]
theorem zEm:∀(n:Nat) (t:Typ) (L:wG),yG q n t L=yG p n t L
 | 0,t,L=>rfl
 |n+1,t,L=>by
  have ih:=zEm n;have hk:(fun(L:wG) k=>yG q n k L)=fun L k=>yG p n k L:=by funext L k;exact ih k L
  have hs:=zKs (f:=fun L t=>yG p n t L) (g:=fun L t=>yG q n t L) (fun L t=>ih t L) (xY hA t.id).slots;simp only[yG,hk,hs]
theorem zLh(h:Al SameS l m)(L:wG):cS q m L=cS p l L :=
 zKs (f:=fun L t=>yG p 10 t L) (g:=fun L t=>yG q 10 t L) (fun L t=>zEm hA 10 t L) h L
end
section
variable{ev ev':Evl}(hE:∀t e V s,ev' (zVu t e) V s=ev e V s)
include hE
end
def nC(s' s:XS):Prop:=(∀x∈s'.ds,x∈s.ds)/\∀x∈s'.ns,x∈s.ns
theorem nC.rfl'(s:XS):nC s s:=⟨fun _ h=>h,fun _ h=>h⟩
theorem nC.trans{a b c:XS}(h:nC a b)(k:nC b c):nC a c:=⟨fun x hx=>k.1 x (h.1 x hx),fun x hx=>k.2 x (h.2 x hx)⟩
theorem zG3(s:XS):InvX (nC s) :=
 ⟨fun e t h _=>⟨h.1,fun x hx=>jBr _ (h.2 x hx)⟩,fun d t h=>⟨fun x hx=>jBr _ (h.1 x hx),h.2⟩,fun x t h=>h⟩
def Grow(ev:Evl):Prop:=∀e V s,nC s (ev e V s).2
theorem zKS(p:Prg)(fl n:Nat):Grow (bC p fl n):=fun e V s=>oD (zG3 s) fl n e V s (nC.rfl' s)
section
variable{p:Prg}{k:Int}{ev ev':Evl}
theorem Grow.all(hg:Grow ev)(V:wP)(l:wH)(s:XS):nC s (qQ ev V l s).2:=uY (I:=nC s) (fun e V t ht=>ht.trans (hg e V t)) V l s (nC.rfl' s)
theorem Grow.fold(hg:Grow ev)(V:wP)(i:Id)(b:Exp)(l:wI)(r:Val×XS):nC r.2 (j5 ev V i b l r).2:=x8 (I:=nC r.2) (fun e V t ht=>ht.trans (hg e V t)) V i b l r (nC.rfl' r.2)
theorem Grow.body(hg:Grow ev)(d:Dfn)(vs:wI)(s:XS):nC s (bU ev d vs s).2:=zCD (I:=nC s) (zG3 s) (fun e V t ht=>ht.trans (hg e V t)) d vs s (nC.rfl' s)
end
theorem zNV(C:Int):InvX (fun s=>s.ns.length+s.fuel=C) :=
 ⟨fun e s h hf=>by unfold fE;simp only[jA4,jAn];have:(s.ns.length:Int)+s.fuel=C:=h;omega,fun d s h=>h,fun x s h=>h⟩
theorem zTm(p:Prg)(d:Dfn)(vs:wI)(fuel:Int):((eM p d vs fuel).2.ns.length:Int)+(eM p d vs fuel).2.fuel=fuel :=
 zCD (zNV fuel) (oD (zNV fuel) 1 _) d vs _ (by simp)
theorem RP.congr{f:FuncId}{args:wF}{F:Int}{s s':XS}{r r':A}(h:RP f args p F s r s')(hr:s'.fail=0->r=r'):RP f args p F s r' s' :=
 ⟨fun hf=>by rw[<-hr hf];exact h.ret hf,h.pan⟩
section
variable{p:Prg}{F m:Int}{ev:Evl}{B:wJ}{e:Exp}{t:Typ}{V:wP}{s:XS}
noncomputable def zQM:{k:K//zV prog f151 z7 []=k}:=⟨_,by conv=>lhs;cbv⟩
theorem zUl:ky f151 zQM.1:=m_ (by kernel_rfl)
theorem zH0(hu:s.fuel<=0):zGM p F e V s (vz,{s with fail:=zFr}):=by
 have hP:=eP p;refine⟨fun hf=>absurd (show zFr=0 from hf) (by decide),fun _=>?_⟩;have hc:F<=F-s.fuel:=by omega
 refine sA func151 rfl zUl (rs:=[.cell 6 3 true]) (by kernel_rfl) ?_
 simp only[zQM];unfold wpF
 simp[eS,hP,zG,hc]
theorem zSc{r:Val×XS}(hF:F<=1000000)(hs:s.fail=0)(hu:¬s.fuel<=0)(hB:Fu F s)(hv:VaE p F e V (fE e s) r):zGM p F e V s (zKg 1 r):=by
 have hP:=eP p;obtain⟨b1,b2⟩:=hB;have hc:¬F<=F-s.fuel:=by omega
 have hw:IntKind.i64.wrap (F-s.fuel+1)=F-(s.fuel-1):=by rw[IntWalk.i64_in _ (by omega)];omega
 have he:zKg 1 r=(r.1,lP r):=by simp[zKg,zf]
 have ht:(fE e s).fuel=s.fuel-1:=rfl;rw[he];by_cases h0:r.2.fail=0
 .have hv:=hv.ret h0;by_cases hbig:zLX r.1
  .have hl:lP r={r.2 with fail:=vG}:=by unfold lP;rw[if_pos ⟨h0,hbig⟩]
   rw[hl];refine⟨fun hf=>absurd (show vG=0 from hf) (by decide),fun _=>?_⟩;refine sA func151 rfl zUl (rs:=[.cell 6 3 true]) (by kernel_rfl) ?_
   simp only[zQM];unfold wpF
   simp[eS,hP,zG,hc,hw];refine mr hv [0] (by simp[eS,hP,ht,zG]) ?_;simp[eS,hP,zN];refine mu (zEE r.1) (by simp[zN]) ?_;by_cases h1:256<uO r.1
   .simp[h1]
   .have h2:24<mW r.1:=hbig.resolve_left h1;simp[h1];refine mu (zCT r.1) (by simp[zN]) ?_;simp[h2]
  .have hl:lP r=r.2:=by unfold lP;rw[if_neg fun h=>hbig h.2]
   have h1:¬256<uO r.1:=fun h=>hbig (.inl h)
   have h2:¬24<mW r.1:=fun h=>hbig (.inr h)
   rw[hl];refine⟨fun _=>?_,fun hf=>(hf h0).elim⟩;refine zH func151 rfl zUl (rs:=[.cell 6 3 true]) (by kernel_rfl) ?_
   simp only[zQM]
   simp[eS,hP,zG,hc,hw];refine mr hv [0] (by simp[eS,hP,ht,zG]) ?_;simp[eS,hP,zN];refine mu (zEE r.1) (by simp[zN]) ?_;simp[h1];refine mu (zCT r.1) (by simp[zN]) ?_;simp[h2];exact mv [0] 0 (by rfl) (by simp[zN])
 .have hl:lP r=r.2:=by unfold lP;rw[if_neg fun h=>h0 h.1]
  rw[hl];refine⟨fun hf=>(h0 hf).elim,fun _=>?_⟩;refine sA func151 rfl zUl (rs:=[.cell 6 3 true]) (by kernel_rfl) ?_
  simp only[zQM];unfold wpF
  simp[eS,hP,zG,hc,hw];refine zB9 (hv.pan h0) [0] (by decide) (by simp[eS,hP,ht]) (by simp[zG]) fun τ=>?_
  simp
theorem zFs(h:IhE p F m ev){a:Exp}{ks:wH}{u:Typ}(hk:e.k=5\/e.k=6\/e.k=8\/e.k=10\/e.k=12)(hks:e.kids=a::ks)(ha:WE p B a u)(hV:EnvT p B V)(hN:NdV V)(hs:s.fail=0)(hB:Fu m s)
 (hb:∀v s1,s1.fail=0->Fu m s1->TyV p u v/\qY v<=256->BrE p F e V v s1 (cK ev e V v s1)):VaE p F e V s (jK ev e V s):=by
 have hh:e.kids.headD .zero=a:=by rw[hks];rfl
 refine zZc hk hks (h.ok a V s hs (.of ha hV hN) hB) (fun h1=>?_) fun h1=>?_
 .rw[zPe (by rw[hh];exact h1),hh];exact hb _ _ h1 (h.fu a V s hB) (h.snd a B V s u ha hV h1)
 .unfold jK;rw[hh,if_pos h1]
theorem zPy(hp:zLP p)(hsl:zRt p)(h:IhE p F m ev)(he:WE p B e t)(hV:EnvT p B V)(hN:NdV V)(hs:s.fail=0)(hB:Fu m s):VaE p F e V s (qH p 1 ev e V s):=by
 cases he with
 |int _ i n r u ns h1 h2=>exact zUE hs rfl
 |bool _ i n r u ns h1=>exact zSi hs rfl h1
 |var _ i n r u ns _ hl=>exact zUG hs rfl
 |call _ i n r u ks ns hn d hd hk hl hw =>
  have e1:qH p 1 ev (.mk i 3 n r u ks ns) V s=bU ev d (qQ ev V ks s).1 (qQ ev V ks s).2:=by simp[qH,dfn,hd]
  rw[e1];have hdm:=(yD hd).1;have hal:=zBH h V ks hn hs (fun k hk s=>by obtain⟨j,hj,rfl⟩:=jAe hk;exact .of (hw j hj) hV hN) hB;have hll:=gR ev V ks s;refine zSj (e:=.mk i 3 n r u ks ns) (vs:=(qQ ev V ks s).1) (s1:=(qQ ev V ks s).2) rfl hd hll hal (fun hf=>?_) fun hf=>?_
  .obtain⟨ht,hz⟩:=nD h.stop h.snd hV ks _ s hl hw hf;have hlen:=ht.len;rw[jAb]at hlen;exact zKe h d _ hlen (hsl d hdm).1 hf (fun _=>⟨_,_,hp r d hd (by simp[dG,hk]),EnvT.args ht hz,zE4 (hsl d hdm).2 _ hlen⟩) (uY h.fu V ks s hB)
  .unfold bU;rw[if_pos hf]
 |op _ i n r u ks ns hn ts _ ho hl hw =>
  have e1:qH p 1 ev (.mk i 4 n r u ks ns) V s=(zf true (qQ ev V ks s).2 (opV n (qQ ev V ks s).1),(qQ ev V ks s).2):=by simp[qH]
  rw[e1];have hal:=zBH h V ks hn hs (fun k hk s=>by obtain⟨j,hj,rfl⟩:=jAe hk;exact .of (hw j hj) hV hN) hB;refine RP.congr (zZd (e:=.mk i 4 n r u ks ns) (ts:=ts) (t:=t) (vs:=(qQ ev V ks s).1) rfl (fun hf=>?_) (gR ev V ks s) hal) fun hf=>by rw[sO hf];rfl
  obtain⟨ht,hz⟩:=nD h.stop h.snd hV ks _ s hl hw hf;exact⟨ho,ht,hz⟩
 |record _ i n r u ks ns hn d hd hk hl hw =>
  have e1:qH p 1 ev (.mk i 7 n r u ks ns) V s=(zf true (qQ ev V ks s).2 (.mk 2 0 (qQ ev V ks s).1),(qQ ev V ks s).2):=by simp[qH]
  rw[e1];have hal:=zBH h V ks hn hs (fun k hk s=>by obtain⟨j,hj,rfl⟩:=jAe hk;exact .of (hw j hj) hV hN) hB;exact RP.congr (zUF (e:=.mk i 7 n r u ks ns) rfl (gR ev V ks s) hal) fun hf=>by rw[sO hf]
 |case _ i r u a ns d j hd hk hj ha =>
  have e1:qH p 1 ev (.mk i 9 j r u [a] ns) V s=(zf true (qQ ev V [a] s).2 (.mk 3 j (qQ ev V [a] s).1),(qQ ev V [a] s).2):=by simp[qH]
  rw[e1];have hal:=zBH h V [a] (by simp) hs (fun k hk s=>by rw[jAi.1 hk];exact .of ha hV hN) hB;exact RP.congr (zSk (e:=.mk i 9 j r u [a] ns) rfl (gR ev V [a] s) hal) fun hf=>by rw[sO hf];rfl
 |list _ i n r u ks ns t hn hw =>
  have e1:qH p 1 ev (.mk i 11 n r u ks ns) V s=(zf true (qQ ev V ks s).2 (.mk 4 0 (qQ ev V ks s).1),(qQ ev V ks s).2):=by simp[qH]
  rw[e1];have hal:=zBH h V ks hn hs (fun k hk s=>by obtain⟨j,hj,rfl⟩:=jAe hk;exact .of (hw j hj) hV hN) hB;exact RP.congr (zSl (e:=.mk i 11 n r u ks ns) rfl (gR ev V ks s) hal) fun hf=>by rw[sO hf]
 |ite _ i n r u a b c ns _ ha hb hc =>
  have e1:qH p 1 ev (.mk i 5 n r u [a,b,c] ns) V s=jK ev (.mk i 5 n r u [a,b,c] ns) V s:=by simp[qH]
  rw[e1];refine zFs h (.inl rfl) rfl ha hV hN hs hB fun v s1 h1 hB1 hty=>?_
  obtain⟨x,rfl,hx⟩:=hty.1.bool_inv;exact zU3 hx rfl rfl (h.ok b V s1 h1 (.of hb hV hN) hB1) (h.ok c V s1 h1 (.of hc hV hN) hB1)
 |lets _ i n r u a b ns v _ hfr ha hb =>
  have e1:qH p 1 ev (.mk i 6 n r u [a,b] ns) V s=jK ev (.mk i 6 n r u [a,b] ns) V s:=by simp[qH]
  rw[e1];refine zFs h (.inr (.inl rfl)) rfl ha hV hN hs hB fun v s1 h1 hB1 hty=>?_
  exact zU4 rfl rfl (h.ok b _ s1 h1 (.of hb (hV.push hty) (hN.push (.of (hV.ids hfr) 0))) hB1)
 |field _ i r u a ns d j hd hk hj ha =>
  have e1:qH p 1 ev (.mk i 8 j r u [a] ns) V s=jK ev (.mk i 8 j r u [a] ns) V s:=by simp[qH]
  rw[e1];refine zFs h (.inr (.inr (.inl rfl))) rfl ha hV hN hs hB fun v s1 h1 hB1 hty=>?_
  obtain⟨_,vs,hl,rfl,_⟩:=(hty.1.def_inv hd).resolve_right (fun h=>by omega);exact zPs rfl rfl h1 (by omega) rfl
 |mtch _ i n r u a ks ns d _ hfr hd hk hl ha hw =>
  have e1:qH p 1 ev (.mk i 10 n r u (a::ks) ns) V s=jK ev (.mk i 10 n r u (a::ks) ns) V s:=by simp[qH]
  rw[e1];refine zFs h (.inr (.inr (.inr (.inl rfl)))) rfl ha hV hN hs hB fun v s1 h1 hB1 hty=>?_
  obtain⟨_,q,x,hm,rfl,hxt⟩:=(hty.1.def_inv hd).resolve_left (fun h=>by omega);have hq:q<ks.length:=by omega
  exact zPt rfl rfl hq (by have:=(hsl d (yD hd).1).1;omega) (h.ok ks[q] _ s1 h1 (.of (hw q hq) (hV.push ⟨hxt,iX hty.2 (by simp[zX])⟩) (hN.push (.of (hV.ids hfr) q))) hB1)
 |fold _ i n r u l z b ns v _ hfr hl' hs' hb =>
  have e1:qH p 1 ev (.mk i 12 n r u [l,z,b] ns) V s=jK ev (.mk i 12 n r u [l,z,b] ns) V s:=by simp[qH]
  rw[e1];refine zFs h (.inr (.inr (.inr (.inr rfl)))) rfl hl' hV hN hs hB fun v s1 h1 hB1 hty=>?_
  obtain⟨vs,rfl,hvs⟩:=hty.1.list_inv;have hfv:=hV.ids hfr;have ht2:=h.snd z B V s1 _ hs' hV;refine zRS h.stop rfl rfl (h.ok z V s1 h1 (.of hs' hV hN) hB1) fun x a s2 h2 ⟨j,hj,hx⟩=>?_
  have hxm:=jBs hx;have hty2:=zBU h.stop h.snd hV hb (vs.take j) (ev z V s1) (fun x hx=>⟨hvs x (jBu hx),iX hty.2 (jBu hx)⟩) ht2;have hfu:=x8 h.fu V i b (vs.take j) (ev z V s1) (h.fu z V s1 hB1);rw[show (Exp.mk i 12 n r u [l,z,b] ns).id=i from rfl]at hj;rw[hj]at hty2 hfu;exact h.ok b _ s2 h2 (.of hb ((hV.push ⟨hvs x hxm,iX hty.2 hxm⟩).push (hty2 h2)) ((hN.push (.of hfv 0)).push (.push hfv (by decide) _))) hfu
theorem zOb(hp:zLP p)(hsl:zRt p)(hF:F<=1000000):∀n:Nat,(n:Int)<=F->IhE p F n (bC p 1 n)
 | 0,_=>⟨oR p 1 0,v6 hp 1 0,oD (zM8 _) 1 0,fun e V s hs hA hB=>by rw[bC,if_neg (by simp[hs])];exact zH0 hB.2⟩
 |n+1,hn=>⟨oR p 1 (n+1),v6 hp 1 (n+1),oD (zM8 _) 1 (n+1),fun e V s hs hA hB=>by
  rw[bC,if_neg (by simp[hs])];split
  .rename_i hu;exact zH0 hu
  .rename_i hu;obtain⟨B,t,he,hV,hN⟩:=hA hs;obtain⟨b1,b2⟩:=hB;exact zSc hF hs hu ⟨b1,by omega⟩ (zPy hp hsl (zOb hp hsl hF n (by omega)) he hV hN (by exact hs) ⟨by show 0<=s.fuel-1;omega,by show s.fuel-1<=_;omega⟩)⟩
end
end Go.Proofs.YtolkhapmieigcaaGreatDoor
