/-
  eval.Call.
  The law TraceCalls, walked.
  The law TraceRuns, walked.
  A run that asks nothing that has changed is the same run in the other program.
  The law TraceUnchanged, walked.
-/
import Derived.Test.YthglhccibdlccaaGreatDoorX22
import Derived.Test.YthglhccibdlccaaGreatDoorX21
import Derived.Test.YthglhccibdlccaaGreatDoorX20
import Derived.Test.YthglhccibdlccaaGreatDoorX14
set_option linter.unusedVariables false
set_option maxHeartbeats 8000000
set_option maxRecDepth 100000
set_option linter.unusedSimpArgs false
namespace Go.Proofs.YthglhccibdlccaaGreatDoor
open Go Go.Abs
section
variable {p:Prg}{F:Int}{d:Dfn}{us:List Val}{s:XS}{r:Val×XS}
theorem zWi (hb:RP 68 [.ptr 0 0,.agg (zO d),.sl us.length (zV us)] p F s (.agg (zJ r.1)) r.2)(hf:r.2.fail=0) :
 Ret Tryz.prog 67 [.ptr 0 0,.ptr 1 0,.ptr 2 0] (eS p F s++dA d us) (.agg (zJ r.1)) (eS p F r.2++dA d us):=by
 have hP:=eP p;refine zK Tryz.func67 rfl qI0 (rs:=[.cell 4 3 true]) (by kernel_rfl) ?_;unfold qCo;simp[eS,hP];refine zN (hb.ret hf) [0] (by decide) (by simp[eS,hP]) (by simp) ?_;simp[eS,hP,zJ];exact zG [0,1,2] 0 (by decide) (by simp) (by simp) (by simp[zJ])
theorem zWh (hb:RP 68 [.ptr 0 0,.agg (zO d),.sl us.length (zV us)] p F s (.agg (zJ r.1)) r.2)(hf:r.2.fail≠0) :
 yX Tryz.prog 67 [.ptr 0 0,.ptr 1 0,.ptr 2 0] (eS p F s++dA d us) fun o σ'=>o=.pan (zPb r.2.fail)∧σ'[1]?=some (.box (zO d))∧σ'[2]?=some (.box [.sl us.length (zV us)]):=by
 have hP:=eP p;refine zFL Tryz.func67 rfl qI0 (rs:=[.cell 4 3 true]) (by kernel_rfl) ?_;unfold qCo wpF;simp[eS,hP];refine zHN (hb.pan hf) [0] (by decide) (by simp[eS,hP]) (by simp) fun τ=>?_
 refine⟨rfl,?_,?_⟩
 ·rw[zCT (by simp) (by simp)]; rfl
 ·rw[zCT (by simp) (by simp)]; rfl
end
def qHa:K:=G [kO 2 0,kO 3 1,kZ 4 kz0,kMb 5 false] (G [J 9 2 2,J 10 3 3,kC 11 42 [(kt 9),(kt 10)],M 8 11,kE 12 8 0,kE 13 8 1,kZ 6 kz0,S 6 12 31,M 7 13] (Z (K.wk (K.dops [(0,0,J 14 6 31),(1,0,M 15 7),(2,0,M 16 15),(3,0,T 16 true (D 17 6 3)),(4,0,T 16 true (L 18 17 1)),(5,0,T 16 true (kQi 19 18 0 true)),(6,0,kPf 20 16 19),(7,0,M 21 20),(8,2,T 21 true (D 22 6 3)),(9,2,T 21 true (L 23 22 1)),(10,0,T 21 true (kQi 24 23 1 true)),(11,0,kPf 25 21 24),(12,0,S 4 14 31),(13,0,M 5 25)])) kr))
def qQ9:Nat→Option (List (Nat×Nat)):=fun r=>match r with | 2=>some [(0,0),(1,0),(2,0),(3,0),(4,0),(5,0),(6,0),(7,0),(8,2),(9,2),(10,0),(11,0),(12,0),(13,0)] | _=>none
theorem qNW:qD Tryz.prog Tryz.f65.ntmps qQ9 (Tryz.f65.body.getD .skip)=some qHa.erase:=by kernel_rfl
@[simp] theorem qOU:zA Tryz.prog 65=true:=by kernel_rfl
def zMI (p:Prg)(id:Id):A:=.tup [.agg (zO ((jO p.defs id).getD .zero)),bl ((jO p.defs id).isSome&&zB3 ((jO p.defs id).getD .zero))]
theorem zWf (p:Prg)(id:Id):Ret Tryz.prog 65 [.agg (zS p),.agg (jF id)] [] (zMI p id) []:=by
 have hP:=eP p;have hdf:=zEU p id;unfold zMI;unfold zBf at hdf;generalize (jO p.defs id).getD .zero=d at *
 generalize (jO p.defs id).isSome=b at *
 refine zI Tryz.func65 rfl qNW (rs:=[.cell 4 31 true,.slot 5]) (by kernel_rfl) ?_;unfold qHa;simp[hP,jF];refine zT hdf (by simp[zS,jF]) (by simp) ?_;simp[zO];refine⟨_,_,zR (l:=[(4,.ptr 0 0),(6,.rptr (zO d)),(7,bl b)]) (σ':=[.box (kz0.map jJ)]) [2] 1 (by simp) (by simp) (by simp) (by simp[zO]),?_⟩;cases b
 ·simp[zO];exact zC 0 (by simp[zO])
 ·by_cases h0:d.kind=0
  ·simp[zO,h0];exact zC 0 (by simp[zO,h0,zB3])
  ·by_cases h1:d.kind=1
   ·simp[zO,h0,h1];exact zC 0 (by simp[zO,h1,zB3])
   ·simp[zO,h0,h1];exact zC 0 (by simp[zO,h0,h1,zB3])
def zCd (p:Prg)(id:Id)(vs:List Val)(fuel:Int):A:=match jO p.defs id with
 | none=>.tup [.agg (zJ vz),int 0,int 6]
 | some d=>if zB3 d=false then .tup [.agg (zJ vz),int 0,int 6] else if vs.length≠d.slots.length then .tup [.agg (zJ vz),int 0,int 1]
  else if zAG p (d.slots.map Slt.typ) vs=false then .tup [.agg (zJ vz),int 0,int 1] else zL6 fuel (zBN p d vs fuel)
def qAB:K:=G [kO 4 0,kO 5 1,kO 6 2,kZ 8 [ki,ki,kl],kMi 9 0,kMi 10 0] (G [J 16 4 2,J 17 5 3,kC 18 65 [(kt 16),(kt 17)],M 15 18,kE 19 15 0,kE 20 15 1,kZ 11 kz0,S 11 19 31,M 12 20] (Z (G [M 21 12,kR 22 21] (Y 22 (G [kb 23 [ki,ki,kl] [],S 8 23 3,kMi 9 0,kMi 10 6] kr) ks)) (Z (G [L 24 6 1,kN 25 24,D 26 11 8,L 27 26 1,kN 28 27,kQ 29 25 28 true] (Y 29 (G [kb 30 [ki,ki,kl] [],S 8 30 3,kMi 9 0,kMi 10 1] kr) ks)) (Z (G [D 31 11 8,L 32 31 1,kN 33 32,kMi 34 0] (K.block 0 (K.loop (G [kB 35 34 33 .lss] (Z (Y 35 ks (K.exit 0)) (Z (K.block 1 (G [M 36 34,kX 37 32 34 11,J 38 37 11,kZ 14 kz5,M 13 36,S 14 38 11] (Z (K.dops [(0,0,J 39 4 2),(1,0,D 40 14 4),(2,0,J 41 40 5),(3,0,L 42 6 1),(4,0,M 43 13),(5,0,kX 44 42 43 3),(6,0,J 45 44 3),(7,0,kC 46 45 [(kt 39),(kt 41),(kt 45)]),(8,0,kR 47 46)]) (Y 47 (G [kb 48 [ki,ki,kl] [],S 8 48 3,kMi 9 0,kMi 10 1] kr) ks)))) (K.ops [kBi 49 34 1 .add,M 34 49]))))))) (G [J 50 4 2,M 51 3,⟨none,.clo (some 52) 67 [] [(kt 11),(kt 6)]⟩,kC 53 66 [(kt 50),(kt 51),(kt 52)],kE 54 53 0,kE 55 53 1,kE 56 53 2,S 8 54 3,M 9 55,M 10 56] kr)))))
theorem qI1:zL Tryz.prog Tryz.f28.ntmps (Tryz.f28.body.getD .skip)=some qAB.erase:=by kernel_rfl
@[simp] theorem qLK:zA Tryz.prog 28=true:=by kernel_rfl
@[simp] theorem qMo:zA Tryz.prog 66=true:=by kernel_rfl
theorem zMU {p:Prg}{hs:List Hd}(hf:Fit p hs)(id:Id)(vs:List Val)(fuel:Int)(hfu0:0≤fuel)(hfu:fuel≤90000)(hz:∀v∈vs,qI v≤256∧zAK v≤24) :
 Ret Tryz.prog 28 [.agg (zS p),.agg (jF id),.sl vs.length (zV vs),int fuel] [] (zCd p id vs fuel) []:=by
 have hP:=eP p;have hbo:=zWf p id;refine zI Tryz.func28 rfl qI1 (rs:=[.cell 8 3 true,.slot 9,.slot 10]) (by kernel_rfl) ?_;unfold qAB;simp[hP,jF];refine zT hbo (by simp[zS,jF]) (by simp[zMI]) ?_;cases hd:jO p.defs id with
 | none =>
  rw[show zCd p id vs fuel=.tup [.agg (zJ vz),int 0,int 6] by simp[zCd,hd]];simp[zMI,hd,zO];exact zC 0 (by simp[zJ,qG,zZ,zM])
 | some d =>
 have hdm:=(zAt hd).1;obtain⟨s1,s6,_,snd,sty⟩:=hf.slots d hdm;cases hb:zB3 d with
 | false =>
  rw[show zCd p id vs fuel=.tup [.agg (zJ vz),int 0,int 6] by simp[zCd,hd,hb]];simp[zMI,hd,hb,zO];exact zC 0 (by simp[zJ,qG,zZ,zM])
 | true =>
 simp[zMI,hd,hb,zO];by_cases hl:vs.length=d.slots.length
 ·have hfit:=fun i (hi:i<d.slots.length)=>zNG p d.slots[i].typ (vs[i]'(by omega)) (hz _ (jA0 _)).1 (hz _ (jA0 _)).2
  simp[hl];intro hls;refine qW (S:=Nat) (fun i=>[(3,int fuel),(4,.ptr 0 0),(6,.ptr 2 0),(8,.ptr 3 0),(11,.ptr 4 0),(32,.sl d.slots.length (yE d.slots)),(33,int d.slots.length),(34,int i)])
   (fun i=>[.box (zS p),.box (jF id),.box [.sl vs.length (zV vs)],.box [int 0,int 0,.nil],.box (zO d)]) (fun i=>i≤d.slots.length∧∀j (hj:j<i) (hj':j<d.slots.length),zBq p d.slots[j].typ (vs[j]'(by omega))=true) (fun i=>d.slots.length-i) 0 ⟨by omega,fun j hj=>by omega⟩
   (zR [0,1,2,3,4] 0 (by decide) (by simp) (by simp[hP,zO,jF,hl]) (by simp)) ?_
  rintro i ⟨hi,hft⟩;by_cases hil:i<d.slots.length
  ·have hiv:i<vs.length:=by omega
   have hdr:=jU hil;have hdv:=jN hiv;have hfi:=hfit i hil;cases hfv:zBq p d.slots[i].typ vs[i]with
   | false =>
    rw[hfv]at hfi;have hfl:zAG p (d.slots.map Slt.typ) vs=false:=by
     cases hq:zAG p (d.slots.map Slt.typ) vs with
     | false=>rfl
     | true =>
      have:=zG9 hq i (by simpa using hil) hiv;rw[jAr,hfv]at this;cases this
    rw[show zCd p id vs fuel=.tup [.agg (zJ vz),int 0,int 1] by simp[zCd,hd,hb,hl,hfl]];simp[hP,hil,hiv,hdr,hdv,zAu,zO];refine qK hfi (by simp[hP,zB,zJ]) (by simp) ?_;simp;exact zC 0 (by simp[zJ,qG,zZ,zM])
   | true =>
    rw[hfv]at hfi;simp[hP,hil,hiv,hdr,hdv,zAu,zO];refine qK hfi (by simp[hP,zB,zJ]) (by simp) ?_;simp;refine zU (i+1) ⟨hil,fun j hj hj'=>?_⟩ (by omega) (zR [0,1,2,3,4] 0 (by decide) (by simp) (by simp[hP,zO]) (by simp[qA hil hls]));by_cases hji:j=i
    ·subst hji; exact hfv
    ·exact hft j (by omega) hj'
  ·have hie:i=d.slots.length:=by omega
   subst hie;have hfl:zAG p (d.slots.map Slt.typ) vs=true:=zIS (by simpa using hl) fun j h1 h2=>by rw[jAr];exact hft j (by simpa using h1) (by simpa using h1)
   rw[show zCd p id vs fuel=zL6 fuel (zBN p d vs fuel) by simp[zCd,hd,hb,hl,hfl]];have hty:TyL p (d.slots.map Slt.typ) vs:=TyL.of (by simpa using hl) fun j hj=>by rw[jAr];exact zS4 hf (sty _ (jA0 _)) _ (hft j (by omega) (by omega))
   have hV:=EnvT.args hty fun v hv=>(hz v hv).1
   have hIh:=zS2 (F:=fuel) hf.bods (zMH hf) (by omega) fuel.toNat (by omega);have hca:=zOV hIh d vs hl s6 (s:=⟨fuel,0,zBt p d.slots [],[]⟩) rfl (fun _=>⟨_,_,hf.bods _ d hd hb,hV,zKn snd vs hl⟩) ⟨by simp only; omega,by simp only; omega⟩;change RP _ _ _ _ _ (.agg (zJ (zBN p d vs fuel).1)) (zBN p d vs fuel).2 at hca;have hsz:(zBN p d vs fuel).2.fail=0→qI (zBN p d vs fuel).1≤256:=fun h0=>by
    have he:zBN p d vs fuel=zAA p 1 fuel.toNat d.body (zCa d.slots vs) ⟨fuel,0,zBt p d.slots []++[d.id],[]⟩:=by unfold zBN zAX; simp
    rw[he]at h0 ⊢;exact(hIh.snd _ _ _ _ _ (hf.bods _ d hd hb) hV h0).2
   generalize zBN p d vs fuel=r at *
   have hdo:=qDp (d:=d) (us:=vs) hfu0 rfl hsz (zWi hca) (zWh hca);simp[hP];refine zN hdo [4,2] (by decide) (by simp[zO]) (by simp[hP]) ?_;by_cases h0:r.2.fail=0
   ·simp[zL6,h0,zJ];exact zC 0 (by simp)
   ·simp[zL6,h0,zJ];exact zC 0 (by simp)
 ·rw[show zCd p id vs fuel=.tup [.agg (zJ vz),int 0,int 1] by simp[zCd,hd,hb,hl]];have hl':¬((vs.length:Int)=d.slots.length):=by omega
  simp[hl']
  intros
  exact zC 0 (by simp[zJ,qG,zZ,zM])
end Go.Proofs.YthglhccibdlccaaGreatDoor
namespace Go.Proofs.YthglhccibdlccaaGreatDoor
open Go.Abs
theorem zIF (x:Int):zBR x x=0:=by simp[zBR]
mutual
theorem zMM:∀v:Val,zKg v v=0
 | .mk k n l=>by rw[zKg,zIF,zIF,zIF,if_neg (by simp[orI])]; exact zKI l
theorem zKI:∀l:List Val,zCH l l=0
 | []=>by rw[zCH]
 | v::l=>by rw[zCH,zMM v,if_neg (by simp)]; exact zKI l
end
@[simp] theorem qLP:zA Tryz.prog 3=true:=by kernel_rfl
theorem zO1 (l:List Id):(zCz l).length≤l.length:=by
 have key:∀(l m:List Id),(l.foldl zFE m).length≤m.length+l.length:=by
  intro l;induction l with
  | nil=>intro m; simp
  | cons x l ih =>
   intro m;have h1:=ih (zFE m x);have h2:(zFE m x).length≤m.length+1:=by
    clear ih h1;induction m with
    | nil=>simp[zFE]
    | cons y m ih=>unfold zFE; split<;>(try split)<;>simp<;>omega
   rw[jBh,jAd];omega
 rw[zO0]
 simpa using key l []
theorem zZn {P:Prg}{hs:List Hd}(hf:Fit P hs){d:Dfn}(hd:d∈P.defs):jO P.defs d.id=some d:=by obtain⟨i,hi,rfl⟩:=jAh hd;exact zKo hf.nd hi
section
variable {p:Prg}{d:Dfn}{id:Id}{vs:List Val}
theorem zFM (hd:jO p.defs id=some d)(hk:zAI d.kind=true)(vs:List Val) :
 (∀fuel,zAJ p id vs fuel=⟨vz,[],[],1⟩∧zCd p id vs fuel=.tup [.agg (zJ vz),int 0,int 1]) ∨
 (∀fuel,zAJ p id vs fuel=zM2 (zBN p d vs fuel)∧zCd p id vs fuel=zL6 fuel (zBN p d vs fuel)):=by
 have hb:=zE4 hk;by_cases hl:vs.length=d.slots.length
 ·cases hft:zAG p (d.slots.map Slt.typ) vs with
  | true=>exact .inr fun fuel=>⟨by simp[zAJ,hd,hk,hl,hft],by simp[zCd,hd,hb,hl,hft]⟩
  | false=>exact .inl fun fuel=>⟨by simp[zAJ,hd,hk,hl,hft],by simp[zCd,hd,hb,hl,hft]⟩
 ·exact .inl fun fuel=>⟨by simp[zAJ,hd,hk,hl],by simp[zCd,hd,hb,hl]⟩
theorem zSq (hd:jO p.defs id=some d)(hk:zAI d.kind=true)(vs:List Val){fuel:Int}(hf:0≤fuel) :
 ∃n:Int,zCd p id vs fuel=.tup [.agg (zJ (zAJ p id vs fuel).v),int n,int (zAJ p id vs fuel).e]∧((zAJ p id vs fuel).e=0→((zAJ p id vs fuel).ns.length:Int)≤n):=by
 rcases zFM hd hk vs with h | h<;>obtain⟨h1,h2⟩:=h fuel
 ·rw[h1,h2];exact⟨0,rfl,fun h=>by cases h⟩
 ·rw[h1,h2];have hc:=zQf p d vs fuel;have hu:=zO1 (zBN p d vs fuel).2.ns;by_cases h0:(zBN p d vs fuel).2.fail=0
  ·exact⟨fuel-(zBN p d vs fuel).2.fuel,by simp[zL6,zM2,h0],fun _=>by show ((zCz (zBN p d vs fuel).2.ns).length:Int)≤_; omega⟩
  ·exact⟨0,by simp[zL6,zM2,h0],fun h=>(h0 h).elim⟩
theorem zTz (hd:jO p.defs id=some d)(hk:zAI d.kind=true)(vs:List Val){fuel:Int}(hf:0≤fuel):((zAJ p id vs fuel).ns.length:Int)≤fuel:=by
 rcases zFM hd hk vs with h | h<;>rw[(h fuel).1]
 ·simpa using hf
 ·have hc:=zQf p d vs fuel;have hu:=zO1 (zBN p d vs fuel).2.ns;have h0:=zZZ p d vs fuel hf;show ((zCz (zBN p d vs fuel).2.ns).length:Int)≤_;omega
theorem zQM {hs:List Hd}(hf:Fit p hs)(hd:jO p.defs id=some d)(hk:zAI d.kind=true)(vs:List Val){fuel:Int}(h0:0≤fuel)(hfu:fuel≤90000):(zAJ p id vs fuel).ds.length≤100000:=by
 rcases zFM hd hk vs with h | h<;>rw[(h fuel).1]
 ·simp
 ·have hdm:=(zAt hd).1;obtain⟨_,_,_,_,sty⟩:=hf.slots d hdm;have hrl:RL p (zBt p d.slots []):=RL.fold (fun(s:Slt) L=>zAb p 10 s.typ L) d.slots [] (fun s hs' L hL=>((zPY hf ⟨0,0,[],[]⟩ rfl (sty s hs') 10 (by omega)) L hL).1) ⟨by simp,by simp⟩;have hL8:=hrl.len hf;have hBd:Bd 100000 fuel.toNat ⟨fuel,0,zBt p d.slots [],[]⟩:=⟨by simp; omega,by simp only; omega,by simp only; omega,fun _=>by simp only; omega⟩;have hrB:=zKD (zIm (p:=p) 1 fuel.toNat) d vs _ hBd;have h1:=hrB.ds;have h2:=zO1 (zBN p d vs fuel).2.ds;change (zBN p d vs fuel).2.ds.length+(zBN p d vs fuel).2.fuel.toNat≤100000 at h1;show (zCz (zBN p d vs fuel).2.ds).length≤_;omega
end
@[simp] theorem qLQ:zA Tryz.prog 8=true:=by kernel_rfl
theorem zHl (e:Exp):e∈zAm e:=by rw[zCm]; simp
theorem zLp {k:Exp}:∀{l:List Exp},k∈l→k∈zAe l
 | [],h=>by simp at h
 | e::l,h=>by
  rw[zAe,jA8];rcases jA3.1 h with rfl | h
  ·exact .inl (zHl _)
  ·exact .inr (zLp h)
mutual
theorem zKA {e k:Exp}(hk:k∈e.kids):∀r:Exp,e∈zAm r→k∈zAm r
 | .mk i n m f t ks ns,h=>by
  rw[zAm,jA3]at h⊢;rcases h with rfl | h
  ·exact .inr (zLp hk)
  ·exact .inr (zJ5 hk ks h)
theorem zJ5 {e k:Exp}(hk:k∈e.kids):∀l:List Exp,e∈zAe l→k∈zAe l
 | [],h=>by simp[zAe]at h
 | r::l,h=>by
  rw[zAe,jA8]at h⊢;rcases h with h | h
  ·exact .inl (zKA hk r h)
  ·exact .inr (zJ5 hk l h)
end
theorem zFo {ds:List Dfn}{e:Exp}:e∈zAi ds↔∃d∈ds,zAI d.kind=true∧e∈zAm d.body:=by
 unfold zAi;rw[List.mem_flatMap];constructor
 ·rintro⟨d,hd,h⟩;by_cases hb:zAI d.kind=true
  ·rw[if_pos hb]at h; exact⟨d,hd,hb,h⟩
  ·rw[if_neg hb]at h; simp at h
 ·rintro⟨d,hd,hb,h⟩;exact⟨d,hd,by rw[if_pos hb]; exact h⟩
theorem zLy {ds:List Dfn}{e k:Exp}(h:e∈zAi ds)(hk:k∈e.kids):k∈zAi ds:=by obtain⟨d,hd,hb,h⟩:=zFo.1 h;exact zFo.2 ⟨d,hd,hb,zKA hk _ h⟩
def Cp (p q:Prg)(e e':Exp):Prop:=e'=e∨(e∈zAi p.defs∧e'∈zAi q.defs∧e'.id=e.id)
theorem Al.getD {α : Type}{R : α→α→Prop}{z : α}(hz:R z z){l m:List α}(h:Al R l m):∀i:Nat,R (l.getD i z) (m.getD i z):=by
 induction h with
 | nil=>intro i; simpa using hz
 | cons h _ ih =>
  intro i;cases i with
  | zero=>exact h
  | succ i=>simpa using ih i
theorem Al.headD {α : Type}{R : α→α→Prop}{z : α}(hz:R z z){l m:List α}(h:Al R l m):R (l.headD z) (m.headD z):=by
 cases h with
 | nil=>exact hz
 | cons h _=>exact h
theorem zSu {p q:Prg}:∀{l m:List Exp},zCf zN5 l m=true→(∀k∈l,k∈zAi p.defs)→(∀k∈m,k∈zAi q.defs)→Al (Cp p q) l m
 | [],[],_,_,_=>.nil
 | [],_::_,h,_,_=>by simp[zCf]at h
 | _::_,[],h,_,_=>by simp[zCf]at h
 | a::l,b::m,h,h1,h2=>by simp only[zCf,jA6,zN5,decide_eq_true_eq]at h;exact .cons (.inr ⟨h1 a (by simp),h2 b (by simp),h.1.symm⟩) (zSu h.2 (fun k hk=>h1 k (by simp[hk])) fun k hk=>h2 k (by simp[hk]))
theorem Cp.same {p q:Prg}(hp:NdN p)(hq:NdN q){e e':Exp}(h:Cp p q e e')(hn:e.id∉zFB p.defs q.defs):e'.id=e.id∧e'.k=e.k∧e'.n=e.n∧e'.ref=e.ref∧Al (Cp p q) e.kids e'.kids:=by
 rcases h with rfl | ⟨h1,h2,h3⟩
 ·exact⟨rfl,rfl,rfl,rfl,Al.refl (fun _=>.inl rfl) _⟩
 ·obtain⟨a,ha⟩:=zNi (idf:=Exp.id) h1;obtain⟨b,hb⟩:=zNi (idf:=Exp.id) h2;have ea:a=e:=hp.eq (zIe ha) h1 (zKq ha);have eb:b=e':=hq.eq (zIe hb) h2 (zKq hb);subst ea;subst eb;rw[h3]at hb;have hs:zCV a b=true:=by
   cases hq2:zCV a b with
   | true=>rfl
   | false =>
    refine(hn ?_).elim;unfold zFB;rw[zDR,jA8];refine .inr ?_;rw[zJc,zJc,zXk];exact .inl ⟨a,ha,fun b' hb'=>by rw[hb]at hb'; cases hb'; exact hq2⟩
  simp only[zCV,jA6,decide_eq_true_eq]at hs;obtain⟨s1,s2,s3,_,s5⟩:=hs;exact⟨h3,s1.symm,s2.symm,s3.symm,zSu s5 (fun k hk=>zLy h1 hk) fun k hk=>zLy h2 hk⟩
section
variable {p q:Prg}{ev ev':Evl}{c:List Id}
def Off (c:List Id)(s:XS):Prop:=∀x∈s.ns,x∉c
theorem Off.sub {s t:XS}(h:Off c t)(hs:zCG s t):Off c s:=fun x hx=>h x (hs.2 x hx)
def zTl (p q:Prg)(c:List Id)(ev ev':Evl):Prop:=∀e e' V s,Cp p q e e'→Off c (ev e V s).2→ev' e' V s=ev e V s
theorem zVx (h:zTl p q c ev ev')(hg:Grow ev)(V:List EVar){l m:List Exp}(hl:Al (Cp p q) l m):∀s,Off c (qP ev V l s).2→qP ev' V m s=qP ev V l s:=by
 induction hl with
 | nil=>intro s _; rfl
 | @cons e e' l m h1 _ ih =>
  intro s ho;simp only[qP]at ho ⊢;have h2:=h e e' V s h1 (ho.sub (hg.all V l _));rw[h2,ih _ ho]
theorem zS5 (h:zTl p q c ev ev')(hg:Grow ev)(V:List EVar)(i:Id){b b':Exp}(hb:Cp p q b b'):∀(l:List Val) (r:Val×XS),Off c (jY ev V i b l r).2→jY ev' V i b' l r=jY ev V i b l r
 | [],r,_=>rfl
 | x::l,r,ho=>by simp only[jY]at ho ⊢;have h2:=h b b' (V++[⟨i,0,x⟩]++[⟨i,1,r.1⟩]) r.2 hb (ho.sub (hg.fold V i b l _));rw[h2,zS5 h hg V i hb l _ ho]
theorem zSo (h:zTl p q c ev ev'){d d':Dfn}(hi:d'.id=d.id)(hs:d'.slots=d.slots)(hb:Cp p q d.body d'.body)(vs:List Val)(s:XS)(ho:Off c (zAX ev d vs s).2):zAX ev' d' vs s=zAX ev d vs s:=by
 unfold zAX at ho ⊢;rw[hi,hs];split
 ·rfl
 ·rename_i hf;rw[if_neg hf]at ho;exact h _ _ _ _ hb ho
theorem zMt (hg:Grow ev)(e:Exp)(V:List EVar)(s:XS):zCG (ev (e.kids.headD .zero) V s).2 (jI ev e V s).2:=by
 unfold jI;generalize ev (e.kids.headD .zero) V s=r at *
 repeat' split
 all_goals first
  | exact zCG.rfl' _
  | exact hg _ _ _
  | exact(hg _ _ _).trans (hg.fold _ _ _ _ _)
theorem zTs (h:zTl p q c ev ev')(hg:Grow ev){e e':Exp}(hi:e'.id=e.id)(hk:e'.k=e.k)(hn:e'.n=e.n)(hks:Al (Cp p q) e.kids e'.kids)(V:List EVar)(s:XS)(ho:Off c (jI ev e V s).2):jI ev' e' V s=jI ev e V s:=by
 have hz:Cp p q .zero .zero:=.inl rfl;have h0:=h _ _ V s (hks.headD hz) (ho.sub (zMt hg e V s));unfold jI at ho ⊢;rw[h0,hk,hn,hi];generalize ev (e.kids.headD .zero) V s=r at *
 by_cases c0:r.2.fail≠0
 ·rw[if_pos c0,if_pos c0]
 rw[if_neg c0]at ho ⊢;rw[if_neg c0];by_cases c1:e.k=5
 ·rw[if_pos c1]at ho ⊢;rw[if_pos c1];exact h _ _ _ _ (hks.getD hz _) ho
 rw[if_neg c1]at ho ⊢;rw[if_neg c1];by_cases c2:e.k=6
 ·rw[if_pos c2]at ho ⊢;rw[if_pos c2];exact h _ _ _ _ (hks.getD hz _) ho
 rw[if_neg c2]at ho ⊢;rw[if_neg c2];by_cases c3:e.k=8
 ·rw[if_pos c3,if_pos c3]
 rw[if_neg c3]at ho ⊢;rw[if_neg c3];by_cases c4:e.k=10
 ·rw[if_pos c4]at ho ⊢;rw[if_pos c4];exact h _ _ _ _ (hks.getD hz _) ho
 rw[if_neg c4]at ho ⊢;rw[if_neg c4];have h1:=h _ _ V r.2 (hks.getD hz 1) (ho.sub (hg.fold _ _ _ _ _));rw[h1];exact zS5 h hg V e.id (hks.getD hz 2) _ _ ho
theorem zXT (h:zTl p q c ev ev')(hg:Grow ev)(hd:∀r,(dfn q r).id=(dfn p r).id∧(dfn q r).slots=(dfn p r).slots∧Cp p q (dfn p r).body (dfn q r).body)(fl:Nat){e e':Exp}(hi:e'.id=e.id)(hk:e'.k=e.k)(hn:e'.n=e.n)(hr:e'.ref=e.ref)
 (hks:Al (Cp p q) e.kids e'.kids)(V:List EVar)(s:XS)(ho:Off c (qH p fl ev e V s).2):qH q fl ev' e' V s=qH p fl ev e V s:=by
 unfold qH at ho ⊢;rw[hk,hn,hr];by_cases c0:e.k=0
 ·rw[if_pos c0,if_pos c0]
 rw[if_neg c0]at ho ⊢;rw[if_neg c0];by_cases c1:e.k=1
 ·rw[if_pos c1,if_pos c1]
 rw[if_neg c1]at ho ⊢;rw[if_neg c1];by_cases c2:e.k=2
 ·rw[if_pos c2,if_pos c2]
 rw[if_neg c2]at ho ⊢;rw[if_neg c2];by_cases c3:e.k=5∨e.k=6∨e.k=8∨e.k=10∨e.k=12
 ·rw[if_pos c3]at ho ⊢;rw[if_pos c3];exact zTs h hg hi hk hn hks V s ho
 rw[if_neg c3]at ho ⊢;rw[if_neg c3];by_cases c4:e.k=3
 ·rw[if_pos c4]at ho ⊢;rw[if_pos c4];rw[zVx h hg V hks s (ho.sub (hg.body _ _ _))];obtain⟨d1,d2,d3⟩:=hd e.ref;exact zSo h d1 d2 d3 _ _ ho
 rw[if_neg c4]at ho ⊢;rw[if_neg c4];have hal:Off c (qP ev V e.kids s).2:=by
  revert ho
  repeat' split
  all_goals exact fun h=>h
 rw[zVx h hg V hks s hal]
end
theorem zZ1 (r:Val×XS):(zCP r).ns=r.2.ns:=by unfold zCP; split<;>rfl
theorem zSL {p q:Prg}(hp:NdN p)(hq:NdN q)(hd:∀r,(dfn q r).id=(dfn p r).id∧(dfn q r).slots=(dfn p r).slots∧Cp p q (dfn p r).body (dfn q r).body)(fl:Nat):∀n:Nat,zTl p q (zFB p.defs q.defs) (zAA p fl n) (zAA q fl n)
 | 0,e,e',V,s,_,_=>by rw[zAA,zAA]
 | n+1,e,e',V,s,hc,ho=>by
  rw[zAA]at ho ⊢;rw[zAA];by_cases hf:s.fail≠0
  ·rw[if_pos hf,if_pos hf]
  rw[if_neg hf]at ho ⊢;rw[if_neg hf];by_cases hu:s.fuel≤0
  ·rw[if_pos hu,if_pos hu]
  rw[if_neg hu]at ho ⊢;rw[if_neg hu];have ho1:Off (zFB p.defs q.defs) (qH p fl (zAA p fl n) e V (zCe e s)).2:=fun x hx=>ho x (by show x∈(zCP _).ns; rw[zZ1]; exact hx)
  have hg:=zPH p fl n;have hgv:zCG (zCe e s) (qH p fl (zAA p fl n) e V (zCe e s)).2:=zMh (I:=zCG (zCe e s)) (zLW _) (fun e V t ht=>ht.trans (hg e V t)) fl e V _ (zCG.rfl' _);have hid:e.id∉zFB p.defs q.defs:=ho1 e.id (hgv.2 e.id (by show e.id∈s.ns++[e.id]; simp));obtain⟨s1,s2,s3,s4,s5⟩:=hc.same hp hq hid;have ht:zCe e' s=zCe e s:=by unfold zCe; rw[s1]
  rw[ht,zXT (zSL hp hq hd fl n) hg hd fl s1 s2 s3 s4 s5 V _ ho1]
section
variable {p q:Prg}(hA:TwP p q)
include hA
omit hA in
theorem TwP.cp {d d':Dfn}(hd:d∈p.defs)(hd':d'∈q.defs)(h:TwD TwQ d d'):Cp p q d.body d'.body:=by
 cases hb:zAI d.kind with
 | true =>
  have hk:d'.kind=d.kind:=by rw[h.eq]; rfl
  exact .inr ⟨zFo.2 ⟨d,hd,hb,zHl _⟩,zFo.2 ⟨d',hd',by rw[hk]; exact hb,zHl _⟩,h.q.1.1⟩
 | false=>exact .inl (h.no hb)
theorem TwP.dfn (r:Id):(dfn q r).id=(dfn p r).id∧(dfn q r).slots=(dfn p r).slots∧Cp p q (dfn p r).body (dfn q r).body:=by
 unfold Proofs.YthglhccibdlccaaGreatDoor.dfn;rcases TwP.find hA r with ⟨h1,h2⟩ | ⟨d,d',h1,h2,h⟩
 ·rw[h1,h2]; exact⟨rfl,rfl,.inl rfl⟩
 ·rw[h1,h2];refine⟨?_,?_,TwP.cp (zAt h1).1 (zAt h2).1 h⟩
  ·show d'.id=d.id;rw[h.eq]; rfl
  ·show d'.slots=d.slots;rw[h.eq]; rfl
theorem TwP.run (hp:NdN p){id:Id}{d d':Dfn}(h1:jO p.defs id=some d)(h2:jO q.defs id=some d')(h:TwD TwQ d d')(vs:List Val)(fuel:Int)(ho:Off (zFB p.defs q.defs) (zBN p d vs fuel).2) :
 zBN q d' vs fuel=zBN p d vs fuel:=by
 have hi:d'.id=d.id:=by rw[h.eq]; rfl
 have hs:d'.slots=d.slots:=by rw[h.eq]; rfl
 unfold zBN at ho ⊢;have hr:zBt q d'.slots []=zBt p d.slots []:=by rw[hs];exact zPX (TwP.to0 hA) (Al.refl (fun _=>⟨rfl,rfl,rfl⟩) _) []
 rw[hr];exact zSo (zSL hp (TwP.nd hA hp) (TwP.dfn hA) 1 fuel.toNat) hi hs (TwP.cp (zAt h1).1 (zAt h2).1 h) vs _ ho
theorem TwP.call (hp:NdN p){id:Id}{d:Dfn}(hd:jO p.defs id=some d)(hkd:zAI d.kind=true)(vs:List Val)(fuel:Int)(ho:∀x∈(zAJ p id vs fuel).ns,x∉zFB p.defs q.defs) :
 zAJ q id vs fuel=zAJ p id vs fuel∧zCd q id vs fuel=zCd p id vs fuel:=by
 rcases TwP.find hA id with ⟨h1,h2⟩ | ⟨d0,d',h1,h2,h⟩
 ·rw[h1]at hd; cases hd
 ·rw[h1]at hd;cases hd;have hk:d'.kind=d.kind:=by rw[h.eq]; rfl
  have hs:d'.slots=d.slots:=by rw[h.eq]; rfl
  have hb:zB3 d'=true:=by unfold zB3; rw[hk]; exact zE4 hkd
  have hb0:=zE4 hkd;have hft:=zHy (TwP.to0 hA) vs (d.slots.map Slt.typ);by_cases hl:vs.length=d.slots.length
  ·cases hfl:zAG p (d.slots.map Slt.typ) vs with
   | true =>
    rw[hfl]at hft;have hr:=TwP.run hA hp h1 h2 h vs fuel fun x hx=>ho x (by
     have:zAJ p id vs fuel=zM2 (zBN p d vs fuel):=by simp[zAJ,h1,hkd,hl,hfl]
     rw[this];exact zDR.2 hx)
    constructor
    ·simp[zAJ,h1,h2,hk,hs,hkd,hl,hfl,hft,hr]
    ·simp[zCd,h1,h2,hb,hb0,hs,hl,hfl,hft,hr]
   | false =>
    rw[hfl]at hft;constructor
    ·simp[zAJ,h1,h2,hk,hs,hkd,hl,hfl,hft]
    ·simp[zCd,h1,h2,hb,hb0,hs,hl,hfl,hft]
  ·constructor
   ·simp[zAJ,h1,h2,hk,hs,hkd,hl]
   ·simp[zCd,h1,h2,hb,hb0,hs,hl]
end
theorem zZo {p q:Prg}(hA:TwP p q){id:Id}{d:Dfn}(hd:jO p.defs id=some d)(hk:zAI d.kind=true):∃d',jO q.defs id=some d'∧zAI d'.kind=true:=by
 rcases TwP.find hA id with ⟨h1,h2⟩ | ⟨d0,d',h1,h2,h⟩
 ·rw[h1]at hd; cases hd
 ·rw[h1]at hd;cases hd;exact⟨d',h2,by rw[h.eq]; exact hk⟩
def zUW:K:=(Z (K.dops [(0,1,J 67 11 2),(1,1,D 68 15 0),(2,1,J 69 68 3),(3,0,M 70 16),(4,0,M 71 18),(5,0,M 72 19),(6,1,kX 73 71 72 1),(7,1,L 74 73 1),(8,1,kC 75 13 [(kt 67),(kt 69),(kt 70),(kt 74)]),(9,0,M 66 75),(10,0,kE 76 66 0),(11,0,kE 77 66 1),(12,0,kE 78 66 2),(13,303,⟨none,.alr (some 20) 3 [ki,ki,kl]⟩),(14,304,⟨none,.alr (some 21) 4 [kl,kl]⟩),(15,0,S 20 76 3),(16,0,S 21 77 2),(17,0,M 22 78)]) (Z (K.dops [(0,1,J 80 12 2),(1,1,D 81 15 0),(2,1,J 82 81 3),(3,0,M 83 16),(4,0,M 84 18),(5,0,M 85 19),(6,1,kX 86 84 85 1),(7,1,L 87 86 1),(8,1,kC 88 13 [(kt 80),(kt 82),(kt 83),(kt 87)]),(9,0,M 79 88),(10,0,kE 89 79 0),(11,0,kE 90 79 1),(12,0,kE 91 79 2),(13,305,⟨none,.alr (some 23) 5 [ki,ki,kl]⟩),(14,306,⟨none,.alr (some 24) 6 [kl,kl]⟩),(15,0,S 23 89 3),(16,0,S 24 90 2),(17,0,M 25 91)]) (Z (K.dops [(0,1,J 93 11 2),(1,1,D 94 15 0),(2,1,J 95 94 3),(3,0,M 96 16),(4,0,M 97 18),(5,0,M 98 19),(6,1,kX 99 97 98 1),(7,1,L 100 99 1),(8,1,kC 101 28 [(kt 93),(kt 95),(kt 96),(kt 100)]),(9,0,M 92 101),(10,0,kE 102 92 0),(11,0,kE 103 92 1),(12,0,kE 104 92 2),(13,307,⟨none,.alr (some 26) 7 [ki,ki,kl]⟩),(14,0,S 26 102 3),(15,0,M 27 103),(16,0,M 28 104)]) (Z (K.dops [(0,1,J 106 12 2),(1,1,D 107 15 0),(2,1,J 108 107 3),(3,0,M 109 16),(4,0,M 110 18),(5,0,M 111 19),(6,1,kX 112 110 111 1),(7,1,L 113 112 1),(8,1,kC 114 28 [(kt 106),(kt 108),(kt 109),(kt 113)]),(9,0,M 105 114),(10,0,kE 115 105 0),(11,0,kE 116 105 1),(12,0,kE 117 105 2),(13,308,⟨none,.alr (some 29) 8 [ki,ki,kl]⟩),(14,0,S 29 115 3),(15,0,
 M 30 116),(16,0,M 31 117)]) (Z (G [M 118 22,kQi 119 118 1 false,M 120 119,T 120 false (M 121 22),T 120 false (kQi 122 121 6 false),kPt 123 120 122] (Y 123 (K.exit 3) ks)) (Z (K.dops [(0,0,J 124 21 2),(1,0,M 125 13),(2,0,kC 126 29 [(kt 124),(kt 125)]),(3,0,kR 127 126),(4,0,M 128 127),(5,0,T 128 true (M 129 22)),(6,0,T 128 true (M 130 25)),(7,0,T 128 true (kQ 131 129 130 true)),(8,0,T 128 true (M 132 131)),(9,0,T 132 false (M 133 27)),(10,0,T 132 false (M 134 30)),(11,0,T 132 false (kQ 135 133 134 true)),(12,0,T 128 true (kPt 136 132 135)),(13,0,T 128 true (M 137 136)),(14,0,T 137 false (J 138 20 3)),(15,0,T 137 false (J 139 23 3)),(16,0,T 137 false (kC 140 15 [(kt 138),(kt 139)])),(17,0,T 137 false (kQi 141 140 0 true)),(18,0,T 128 true (kPt 142 137 141)),(19,0,T 128 true (M 143 142)),(20,0,T 143 false (J 144 21 2)),(21,0,T 143 false (kC 145 17 [(kt 144)])),(22,0,T 143 false (J 146 24 2)),(23,0,T 143 false (kC 147 17 [(kt 146)])),(24,0,T 143 false (kC 148 16 [(kt 145),(kt 147)])),(25,0,T 143 false (kR 149 148)),(26,0,T 128 true (kPt 150 143 149)),(27,0,kPf 151 128 150)]) (Y 151 (G [kMb 10 false] kr) ks)))))))
def qAH:K:=G [kMb 10 false] (G [M 32 0,kC 33 9 [(kt 32)],kZ 11 [kl,kl],S 11 33 2] (G [J 34 11 2,M 35 2,kC 36 18 [(kt 34),(kt 35),(kc 2)],kZ 12 [kl,kl],S 12 36 2] (G [J 37 11 2,J 38 12 2,kC 39 21 [(kt 37),(kt 38)],M 13 39] (Z (G [kMi 14 0] (K.block 0 (K.loop (Z (G [M 40 14,J 41 11 2,kC 42 27 [(kt 41)],kN 43 42,kB 44 40 43 .lss] (Y 44 ks (K.exit 0))) (Z (K.block 1 (G [J 48 11 2,M 49 1,M 50 3,M 51 14,kB 52 50 51 .add,kC 53 10 [(kt 48),(kt 49),(kt 52)],M 47 53,kE 54 47 0,kE 55 47 1,kE 56 47 2,kZ 15 kz0,S 15 54 31,M 16 55,M 17 56] (Z (G [M 57 17,kR 58 57] (Y 58 (G [kMb 10 false] kr) ks)) (G [M 59 4,kC 60 12 [(kt 59),(kc 50)],kd 61 3 1 2 [ki,ki] [(0,1,(kc 3000)),(1,1,(kt 60))],M 18 61] (G [kMi 19 0] (K.block 2 (K.loop (Z (G [M 62 19,kBi 63 62 2 .lss] (Y 63 ks (K.exit 2))) (Z (K.block 3 (K.wk zUW)) (K.ops [M 64 19,kBi 65 64 1 .add,M 19 65])))))))))) (K.ops [M 45 14,kBi 46 45 1 .add,M 14 46])))))) (G [kC 152 11 [],M 10 152] kr)))))
def qJ8:Nat→Option (List (Nat×Nat)):=fun r=>match r with | 14=>some [(0,1),(1,1),(2,1),(3,0),(4,0),(5,0),(6,1),(7,1),(8,1),(9,0),(10,0),(11,0),(12,0),(13,303),(14,304),(15,0),(16,0),(17,0)] | 15=>some [(0,1),(1,1),(2,1),(3,0),(4,0),(5,0),(6,1),(7,1),(8,1),(9,0),(10,0),(11,0),(12,0),(13,305),(14,306),(15,0),(16,0),(17,0)] | 16=>some [(0,1),(1,1),(2,1),(3,0),(4,0),(5,0),(6,1),(7,1),(8,1),(9,0),(10,0),(11,0),(12,0),(13,307),(14,0),(15,0),(16,0)] | 17=>some [(0,1),(1,1),(2,1),(3,0),(4,0),(5,0),(6,1),(7,1),(8,1),(9,0),(10,0),(11,0),(12,0),(13,308),(14,0),(15,0),(16,0)] | _=>none
theorem qI7:qD Tryz.prog Tryz.f7.ntmps qJ8 (Tryz.f7.body.getD .skip)=some qAH.erase:=by kernel_rfl
@[simp] theorem qLR:zA Tryz.prog 7=true:=by kernel_rfl
theorem qQR (l m k:List Int)(n fuel:Int)(hl:∀x∈l,w64 x=x)(hm:∀x∈m,w64 x=x)(hk:∀x∈k,w64 x=x)(hn:w64 n=n)(hfu:w64 fuel=fuel) :
 Ret Tryz.prog 7 [.sl l.length (yH l),.sl m.length (yH m),.sl k.length (yH k),int n,int fuel] [] (bl true) []:=by
 obtain⟨P,hP,rP⟩:=zZU l hl;have hf:=hP.fit hl;obtain⟨fP,p5,p8,pm⟩:=hP.fine hl;have hnd:=hP.ndN hl;have rQ:=zUA P fP (by omega) k hk 2 (by omega);have hA:=qAj P k hk (zU7 k 2);have fQ:=zMa k fP (zU7 k 2);have hq:=hA.fit hf;have rc:=zKH P ⟨P.mods,zDx k P.defs (zU7 k 2)⟩ fP.small.1 fQ.small.1 fP.small.2.1 fQ.small.2.1;generalize hQ:(⟨P.mods,zDx k P.defs (zU7 k 2)⟩:Prg)=Q at *
 refine zI Tryz.func7 rfl qI7 (rs:=[.slot 10]) (by kernel_rfl) ?_;unfold qAH;simp -implicitDefEqProofs;refine zT rP (by simp) (by simp[zS]) ?_;simp -implicitDefEqProofs [zS];refine zT rQ (by simp[zS]) (by simp[zS]) ?_;simp -implicitDefEqProofs [zS];refine zT rc (by simp[zS]) (by simp) ?_;simp -implicitDefEqProofs;have hbl:=zKC P.defs P.defs.length;have rb:=zLC hf;have rcl:=fun x hx h=>zT0 hf m hm x hx h
 generalize zFA P.defs P.defs.length=L at *
 refine qW (S:=Nat) (fun i=>[(1,.sl m.length (yH m)),(3,int n),(4,int fuel),(11,.ptr 0 0),(12,.ptr 1 0),(13,.sl (zFB P.defs Q.defs).length (qE (zFB P.defs Q.defs))),(14,int i)]) (fun _=>[.box (zS P),.box (zS Q)]) (fun i=>i≤L.length) (fun i=>L.length-i) 0 (by simp)
  (zR [0,1] 0 (by decide) (by simp) (by simp[zS]) (by simp)) ?_
 intro i hi;by_cases hil:i<L.length
 ·have hwi:=zAk i (by omega);obtain⟨d,hdm,hdk,rcd⟩:=rcl (IntKind.i64.wrap (n+i)) (by simp only[w64,IntKind.wrap_i64]; omega) (by omega);have hsm:=zOD hf hdm hm;generalize zDq P d m=A at *
  have hfd:=zZn hf hdm;obtain⟨d',hfd',hdk'⟩:=zZo hA hfd hdk;obtain⟨f0,f1⟩:=zC2 (k:=50) hfu (by omega);have rf:=zG1 fuel 50 (by omega);obtain⟨FU,hFU⟩:∃FU:List Int,FU=[3000,zA4 fuel 50]:=⟨_,rfl⟩;have hF2:FU.length=2:=by rw[hFU]; rfl
  have hFI:yH FU=[int 3000,int (zA4 fuel 50)]:=by rw[hFU]; rfl
  have hfuel:∀f∈FU,0≤f∧f≤90000:=by rw[hFU];intro f hf';simp only[jA3,jAw,or_false]at hf';rcases hf' with rfl | rfl<;>omega
  simp -implicitDefEqProofs [zS];refine zT rb (by simp[zS]) (by simp) ?_;simp -implicitDefEqProofs [hil]
  intros
  refine zT rcd (by simp[zS]) (by simp) ?_;simp -implicitDefEqProofs [zO]
  intros
  refine zT rf (by simp) (by simp) ?_;simp -implicitDefEqProofs;refine qW (S:=Nat) (fun j=>[(1,.sl m.length (yH m)),(3,int n),(4,int fuel),(11,.ptr 0 0),(12,.ptr 1 0),(13,.sl (zFB P.defs Q.defs).length (qE (zFB P.defs Q.defs))),(14,int i),(15,.ptr 2 0),(16,.sl A.length (zV A)),(18,.sl 2 (yH FU)),(19,int j)]) (fun _=>[.box (zS P),.box (zS Q),.box (zO d)]) (fun j=>j≤2) (fun j=>2-j) 0 (by simp)
   (zR [0,1,2] 0 (by decide) (by simp) (by simp[zS,zO]) (by simp[hFI])) ?_
  intro j hj;have hwj:=zAk j (by omega);by_cases hjl:j<2
  ·have hjF:j<FU.length:=by omega
   have hdF:=zE9 hjF;obtain⟨g0,g1⟩:=hfuel _ (jA0 hjF);generalize FU[j]=f at hdF g0 g1;have rt:=zQs hf d.id A f g1 hsm;have rq:=zQs hq d.id A f g1 hsm;have et:=zMU hf d.id A f g0 g1 hsm;have eq:=zMU hq d.id A f g0 g1 hsm;obtain⟨n1,q1,_⟩:=zSq hfd hdk A (fuel:=f) g0;obtain⟨n2,q2,_⟩:=zSq hfd' hdk' A (fuel:=f) g0;have h1:=zTz hfd hdk A (fuel:=f) g0;have h2:=zQM hf hfd hdk A (fuel:=f) g0 g1;have hc:=hA.call hnd hfd hdk A f;rw[q1,q2]at hc;rw[q1]at et;rw[q2]at eq;generalize zAJ P d.id A f=r at *
   generalize zAJ Q d.id A f=r' at *
   have hj2:(j:Int)<2:=by omega
   simp -implicitDefEqProofs [hj2];refine⟨_,_,zAj 6,?_⟩;unfold zUW;simp -implicitDefEqProofs [zS,zO,hdF,hj2,hjl,hjF];refine zAw rt (by simp[zS,jF]) (by simp[zDK,zJ]) ?_;simp -implicitDefEqProofs [zDK,zJ,hdF,hj2,hjl,hjF,zS];refine zAw rq (by simp[zS,jF]) (by simp[zDK,zJ]) ?_;simp -implicitDefEqProofs [zDK,zJ,hdF,hj2,hjl,hjF,zS];refine zAw et (by simp[zS,jF]) (by simp[zJ]) ?_;simp -implicitDefEqProofs [zJ,hdF,hj2,hjl,hjF,zS];refine zAw eq (by simp[zS,jF]) (by simp[zJ]) ?_;simp -implicitDefEqProofs [zJ];by_cases he1:r.e=1
   ·simp -implicitDefEqProofs [he1];exact zU (j+1) hjl (by omega) (zR [0,1,2] 0 (by decide) (by simp) (by simp[zS,zO]) (by simp[hwj]))
   by_cases he6:r.e=6
   ·simp -implicitDefEqProofs [he6];exact zU (j+1) hjl (by omega) (zR [0,1,2] 0 (by decide) (by simp) (by simp[zS,zO]) (by simp[hwj]))
   simp -implicitDefEqProofs [he1,he6];refine qK (zSn ⟨r.ds,r.ns⟩ (zFB P.defs Q.defs) (r.ds++r.ns) rfl (by rw[jA5]; omega)) (by simp[zDr]) (by simp) ?_;cases ha:(zFB P.defs Q.defs).any fun x=>decide (x∈r.ds++r.ns)with
   | true =>
    simp -implicitDefEqProofs;exact zU (j+1) hjl (by omega) (zR [0,1,2] 0 (by decide) (by simp) (by simp[zS,zO]) (by simp[hwj]))
   | false =>
    obtain⟨c1,c2⟩:=hc (fun x hx hx'=>by rw[jDh]at ha;exact ha x hx' (by simp[hx]))
    subst c1;have c3:n2=n1:=by
     have:=c2;simp only[Go.Abs.A.tup.injEq,jB6]at this
     simpa using this.2.1
    subst c3;simp -implicitDefEqProofs;refine qK (zHg r'.v r'.v) (by simp[zJ]) (by simp) ?_;simp -implicitDefEqProofs [zMM];refine qK (zPT ⟨r'.ds,r'.ns⟩) (by simp[zDr]) (by simp[zDr]) ?_;simp -implicitDefEqProofs [zDr];refine qK (zPT ⟨r'.ds,r'.ns⟩) (by simp[zDr]) (by simp[zDr]) ?_;simp -implicitDefEqProofs [zDr];refine qK (qAb ⟨r'.ds,r'.ns⟩ ⟨r'.ds,r'.ns⟩) (by simp[zDr]) (by simp) ?_;simp -implicitDefEqProofs;exact zU (j+1) hjl (by omega) (zR [0,1,2] 0 (by decide) (by simp) (by simp[zS,zO]) (by simp[hwj]))
  ·have hje:j=2:=by omega
   subst hje;simp -implicitDefEqProofs;exact zU (i+1) hil (by omega) (zR [0,1] 0 (by decide) (by simp) (by simp[zS]) (by simp[hwi]))
 ·have hie:i=L.length:=by omega
  subst hie;simp -implicitDefEqProofs [zS];refine zT rb (by simp[zS]) (by simp) ?_;simp -implicitDefEqProofs
  intros
  refine zT zXe (by simp) (by simp) ?_;simp -implicitDefEqProofs;exact zC 0 (by simp)
end Go.Proofs.YthglhccibdlccaaGreatDoor
