/- convert.Field. -/
import Derived.Test.YtdnelmeboihpkaaGreatDoorX20
import Derived.Handy
import Derived.Deep.Draws
import Derived.Deep.RegionLaw
import Derived.Laws.IdiomCopy
import Derived.Laws.Rows
set_option linter.unusedVariables false
set_option maxHeartbeats 8000000
set_option maxRecDepth 100000
set_option linter.unusedSimpArgs false
open Go.Proofs.Tryz
namespace Go.Proofs.YtdnelmeboihpkaaGreatDoor
open Go.Abs
mutual
theorem zN1(D D':wE)(u:Slt)(hD:D.drop 8=.sl 1 (j4 u)::D')(hv:∀rf g,vwL rf g D=D)(hn:jO D=D):∀e:Exp,zPX D u.id e
 | .mk i k n r t ks ns=>zOE D D' u hD hv hn _ (zJw D D' u hD hv hn ks)
theorem zJw(D D':wE)(u:Slt)(hD:D.drop 8=.sl 1 (j4 u)::D')(hv:∀rf g,vwL rf g D=D)(hn:jO D=D):∀(l:wG),∀k∈l,zPX D u.id k
 |[],k,hk=>by cases hk
 |e::l,k,hk=>by
  rcases jA3.1 hk with h|h
  .rw[h];exact zN1 D D' u hD hv hn e
  .exact zJw D D' u hD hv hn l k h
end
def zWM:Nat->Option wD:=fun|2=>k_ [0,0,0,0,0,0,0,0,2,2,0,0,0,0]|_=>none
def zFZ(p:Prg)(t:Typ):Bool:=(jH p.defs t.id).isSome&&(decide (t.k=3)&&decide (((jH p.defs t.id).getD .zero).kind=0))
theorem zGW(p:Prg)(t:Typ):my 57 [.agg (zN p),.agg (zB t)] [] (.tup [.agg (zK ((jH p.defs t.id).getD .zero)),bl (zFZ p t)]) []:=by
 have hP:=eP p;have hdf:=nO p t.id;unfold zFZ;unfold bL at hdf;generalize (jH p.defs t.id).getD .zero=d at *
 generalize (jH p.defs t.id).isSome=b at *
 refine ml zWM [15] [] [] [.cell 4 31 true,.slot 5] func57 (by kernel_rfl) ?_
 (conv in kH _ _ _=>cbv)
 simp[hP,zB];refine mu hdf (by simp[zN,zL]) ?_;simp[zK];refine⟨_,_,zP (l:=[(3,.rptr (zB t)),(4,.ptr 0 0),(6,.rptr (zK d)),(7,bl b)]) (U':=[.box (kz0.map jJ)]) [2] 1 (by simp) (by simp) (by simp) (by simp[zK,zB]),?_⟩;cases b
 .simp[zK];exact zA 0 (by simp[zK])
 .by_cases h0:t.k=3
  .by_cases h1:d.kind=0
   all_goals
    simp[zK,zB,h0,h1];exact zA 0 (by simp[zK,h0,h1])
  .simp[zK,zB,h0];exact zA 0 (by simp[zK,h0])
def zKY:K:=(G [L 80 16 1,J 81 13 15,⟨none,.call (some 82) (kt 80) [(kt 81),(.const (.bool false))]⟩] (G [kMn 17] (Z (G [D 83 9 8,L 84 83 1,kN 85 84,kMi 86 0] (K.block 0 (K.loop (G [kB 87 86 85 .lss] (Z (Y 87 ks (K.exit 0)) (Z (K.block 1 (G [M 88 86,M 18 88] (G [L 89 15 1,M 90 89,T 90 false (L 91 14 1),T 90 false (M 92 18),⟨some (90,false),.mop (some 93) (.get 1 (.bool false) false) [(kt 91),(kt 92)]⟩,kPt 94 90 93] (Y 94 (K.ops [M 95 17,M 96 18,kd 97 3 1 1 [ki] [(0,1,(kt 96))],kP 98 3 1 8 95 97,M 17 98]) ks)))) (K.ops [kBi 99 86 1 .add,M 86 99]))))))) (G [M 100 17,M 6 100] kr))))
def zKX:K:=(G [⟨none,.mop (some 78) (.mk 1) []⟩,kZ 14 [(.map none)],S 14 78 1] (G [kZ 15 [(.bool false)],⟨none,.st none (kt 15) (.const (.bool false)) 1⟩] (G [kZ 16 [.nilFunc]] (G [⟨none,.clo (some 79) 58 [] [(kt 7),(kt 15),(kt 14),(kt 16)]⟩,S 16 79 1] (K.wk zKY)))))
def zV6:K:=G [kO 3 0,kO 4 1,kMn 6] (G [J 20 3 2,J 21 4 3,kC 22 56 [(kt 20),(kt 21)],M 19 22,kE 23 19 0,kE 24 19 1,kZ 7 kz0,S 7 23 31,M 8 24] (Z (G [M 25 8,kR 26 25] (Y 26 (G [kMn 6] kr) ks)) (Z (K.dops [(0,1,J 28 3 2),(1,1,D 29 7 8),(2,1,L 30 29 1),(3,1,kXi 31 30 11 0),(4,1,D 32 31 4),(5,1,J 33 32 5),(6,1,kC 34 57 [(kt 28),(kt 33)]),(7,0,M 27 34),(8,0,kE 35 27 0),(9,0,kE 36 27 1),(10,0,kZ 9 kz0),(11,0,S 9 35 31),(12,0,M 10 36)]) (G [J 38 3 2,D 39 7 9,J 40 39 5,kC 41 57 [(kt 38),(kt 40)],M 37 41,kE 42 37 0,kE 43 37 1,kZ 11 kz0,S 11 42 31,M 12 43] (Z (G [M 44 10,kR 45 44,M 46 45,T 46 false (M 47 12),T 46 false (kR 48 47),kPt 49 46 48,M 50 49,T 50 false (M 51 2),T 50 false (kBi 52 51 0 .lss),kPt 53 50 52,M 54 53,T 54 false (M 55 2),T 54 false (D 56 11 8),T 54 false (L 57 56 1),T 54 false (kN 58 57),T 54 false (kB 59 55 58 .geq),kPt 60 54 59] (Y 60 (G [kMn 6] kr) ks)) (G [D 61 7 14,J 62 61 15,kZ 13 kz1,S 13 62 15] (Z (G [D 63 13 3,L 64 63 1,kQi 65 64 7 false,M 66 65,T 66 true (M 67 2),T 66 true (D 68 13 13),T 66 true (L 69 68 1),T 66 true (kN 70 69),T 66 true (kB 71 67 70 .lss),kPf 72 66 71] (Y 72 (K.ops [D 73 13 13,L 74 73 1,M 75 2,kX 76 74 75 15,J 77 76 15,S 13 77 15]) ks)) (K.wk zKX))))))))
theorem qEa:ky f24 zV6:=m_ (by kernel_rfl)
def uH(e:Exp)(to:Int):Exp:=if e.k=7/\to<e.kids.length then e.kids.getD to.toNat .zero else e
def zAv(p:Prg)(conv:Id)(to:Int):wB:=match jH p.defs conv with
 |none=>[]
 |some d=>if d.kind=5 then (match d.slots with
  |[u]=>if zFZ p u.typ=true/\zFZ p d.res=true/\0<=to/\to<((jH p.defs d.res.id).getD .zero).slots.length then xM u.id (uH d.body to) ((jH p.defs u.typ.id).getD .zero).slots.length else []
  |_=>[])else []
@[simp]theorem qFP(x:Int):yC [x]=[int x]:=rfl
@[simp]theorem qBd:yC []=[]:=rfl
def zKm(s:Id)(e:Exp)(i:Nat):wB:=(zAB i).filter fun x=>pV s e false||decide (x∈zCx s e)
theorem zKq(i:Nat):zAB (i+1)=zAB i++[(i:Int)]:=by simp[zAB,List.range_succ]
theorem zPz(s:Id)(e:Exp)(i:Nat):zKm s e (i+1)=zKm s e i++(if (pV s e false||decide ((i:Int)∈zCx s e))=true then [(i:Int)]else []):=by
 unfold zKm;rw[zKq,jD8]
 congr 1
 rw[List.filter_cons,List.filter_nil]
theorem zS9(s:Id)(e:Exp)(i:Nat):(zKm s e i).length<=i:=by
 have:=jCq (fun x=>pV s e false||decide (x∈zCx s e)) (zAB i)
 simpa[zKm,zAB]using this
abbrev zYR(l:wB):=fin [RS.slot 6] (rY 0 (.sl l.length (yC l)) [])
theorem qF5(D D':wE)(u:Slt)(hD:D.drop 8=.sl 1 (j4 u)::D')(hv:∀rf g,vwL rf g D=D)(hn:jO D=D)(a:Dfn)(ha:a.slots.length<=1000)(e:Exp) :
 wpK prog 0 zKY (zYR (xM u.id e a.slots.length)) (qS [(9,.rptr (zK a)),(13,.rptr (zJ e)),(14,.ptr 1 0),(15,.ptr 0 0),(16,.ptr 3 0)]) (fvS D false []):=by
 have hc:=zN1 D D' u hD hv hn e false false [];have hmem:∀x,x∈(zCx u.id e).foldl adI []↔x∈zCx u.id e:=fun x=>by rw[zIA];simp
 have hpl:xM u.id e a.slots.length=zKm u.id e a.slots.length:=rfl;rw[hpl];rw[jCl]at hc;unfold zKY;simp[fvS];refine mr hc [0,1,2,3] (by simp[fvS,hv,fvA,zJ]) ?_;generalize hM:(zCx u.id e).foldl adI []=M at *
 have hst:=zPz u.id e;have hpn:=zS9 u.id e;have hp0:zKm u.id e 0=[]:=rfl;generalize pV u.id e false=W at *
 generalize zKm u.id e=pl at *
 simp[fvS,zK];intro hmx;refine qO (S:=Nat) (fun i=>[(14,.ptr 1 0),(15,.ptr 0 0),(17,.row 4 (pl i).length),(85,int a.slots.length),(86,int i)]) (fun i=>fvS D W M++[.row false 3 1 (pl i).length (yC (pl i))]) (fun i=>i<=a.slots.length) (fun i=>a.slots.length-i) 0 (by simp)
  ((yK (t:=17) (by simp) 3 1).trans (mw [0,1,2,3,4] 0 (by rfl) (by simp[fvS,hv,hp0]))) ?_
 intro i hi;by_cases h:i<a.slots.length
 .have hw:=qF h hmx;have hg:=zUB i M;have hst:=hst i;have hpn:=hpn i;have hmi:=hmem i;cases W
  .by_cases hm:(i:Int)∈zCx u.id e
   .have hm2:(i:Int)∈M:=hmi.2 hm;rw[if_pos (by simp[hm])]at hst;simp[fvS,h,hg,hm2];refine⟨⟨by simp[maxLen];omega,by omega⟩,?_⟩;exact zS (i+1) h (by omega) (mw [0,1,2,3,4] 0 (by rfl) (by simp[fvS,hv,hst,dW,hw]))
   .have hm2:¬(i:Int)∈M:=fun hh=>hm (hmi.1 hh)
    rw[if_neg (by simp[hm])]at hst;simp[fvS,h,hg,hm2];exact zS (i+1) h (by omega) (mw [0,1,2,3,4] 0 (by rfl) (by simp[fvS,hv,hst,dW,hw]))
  .rw[if_pos (by simp)]at hst;simp[fvS,h];refine⟨⟨by simp[maxLen];omega,by omega⟩,?_⟩;exact zS (i+1) h (by omega) (mw [0,1,2,3,4] 0 (by rfl) (by simp[fvS,hv,hst,dW,hw]))
 .have hie:i=a.slots.length:=by omega
  subst hie;simp[fvS];exact zA 1 (by simp)
theorem zRB(D D':wE)(u:Slt)(hD:D.drop 8=.sl 1 (j4 u)::D')(hv:∀rf g,vwL rf g D=D)(hn:jO D=D)(a:Dfn)(ha:a.slots.length<=1000)(e:Exp) :
 wpK prog 0 zKX (zYR (xM u.id e a.slots.length)) (qS [(7,.rptr D),(9,.rptr (zK a)),(13,.rptr (zJ e))]) []:=by
 have hV:=qF5 D D' u hD hv hn a ha e;generalize zYR (xM u.id e a.slots.length)=Q at *
 unfold zKX;simp;have hw:=zFA (n0:=0) (env:=qS [(9,.rptr (zK a)),(13,.rptr (zJ e)),(14,.ptr 1 0),(15,.ptr 0 0),(16,.ptr 3 0)]) (l:=2) (nk:=1) (fr:=true) (es:=mki []) (U:=[.box [bl false],.box [.map 2],.mp true 1 (mki []),.box [.clo 58 [] [.rptr D,.ptr 0 0,.ptr 1 0,.ptr 3 0]]]) rfl;refine⟨_,_,bW.trans (kf [2,1,0,3] 0 (by rfl) ?_ ?_) hw,hV⟩
 .simp[hv,mki]
 .simp[hv,zK,zJ]
theorem zOu(u:Slt):jN [u]=j4 u:=by simp[jN]
theorem zGo(p:Prg)(hb:∀d∈p.defs,d.slots.length<=1000)(conv:Id)(to:Int):my 24 [.agg (zN p),.agg (zL conv),int to] [] (.sl (zAv p conv to).length (yC (zAv p conv to))) []:=by
 have hP:=eP p;have hcon:=zBc p conv
 unfold zIZ at hcon;have hz:∀id,((jH p.defs id).getD .zero).slots.length<=1000:=fun id=>by
  cases h:jH p.defs id with
  |none=>simp[Dfn.zero]
  |some d=>exact hb d (aN h).1
 have hfv:∀L,zAv p conv to=L->my 24 [.agg (zN p),.agg (zL conv),int to] [] (.sl L.length (yC L)) []:=by
  intro L hL;refine zI func24 rfl qEa (rs:=[.slot 6]) (by kernel_rfl) ?_;unfold zV6;simp[hP,zL];refine mu hcon (by simp[hP,zL]) ?_;cases hc:((jH p.defs conv).isSome&&uO ((jH p.defs conv).getD .zero))
  .have hnil:L=[]:=by
    rw[<-hL];unfold zAv;unfold uO at hc;cases hd:jH p.defs conv with
    |none=>rfl
    |some d =>
     rw[hd]at hc;simp only[Option.isSome_some,jBe,jBi,jCo,decide_eq_false_iff_not]at hc;simp only;by_cases h5:d.kind=5
     .rw[if_pos h5];split
      .rename_i u hu;rw[hu]at hc;simp at hc;exact(hc h5).elim
      .rfl
     .rw[if_neg h5]
   subst hnil;simp[zK];exact zA 0 (by simp)
  .obtain⟨d,u,hd,h5,hu⟩:∃d u,jH p.defs conv=some d/\d.kind=5/\d.slots=[u]:=by
    cases hd:jH p.defs conv with
    |none=>rw[hd]at hc;simp at hc
    |some d =>
     rw[hd]at hc;simp only[Option.isSome_some,jBe,jBi,uO,jA6,decide_eq_true_eq]at hc;obtain⟨u,hu⟩:=List.length_eq_one_iff.1 hc.2;exact⟨d,u,rfl,hc.1,hu⟩
   have hL2:L=if zFZ p u.typ=true/\zFZ p d.res=true/\0<=to/\to<((jH p.defs d.res.id).getD .zero).slots.length then xM u.id (uH d.body to) ((jH p.defs u.typ.id).getD .zero).slots.length else []:=by rw[<-hL];unfold zAv;rw[hd];simp only[if_pos h5,hu]
   have r1:=zGW p u.typ;have r2:=zGW p d.res;have ha:=hz u.typ.id;rw[hd,jBe];generalize (jH p.defs u.typ.id).getD .zero=a at *
   generalize (jH p.defs d.res.id).getD .zero=b at *
   have hcs:jN d.slots=j4 u:=by rw[hu,zOu]
   have hul:d.slots.length=1:=by rw[hu];rfl
   simp[zK,hcs,hul,j4];refine j3 r1 (by simp[hP,zB]) (by simp[zK]) ?_;simp[zK];refine mu r2 (by simp[hP,zB,zK]) ?_;simp[zK];have hD:(zK d).drop 8=.sl 1 (j4 u)::(zK d).drop 9:=by have:(zK d).drop 8=.sl d.slots.length (jN d.slots)::(zK d).drop 9:=rfl;rw[this,hul,hcs]
   by_cases g1:zFZ p u.typ=true
   .by_cases g2:zFZ p d.res=true
    .by_cases g3:to<0
     .rw[if_neg (by omega)]at hL2;subst hL2;simp[g1,g2,g3];exact zA 0 (by simp)
     .by_cases g4:to<(b.slots.length:Int)
      .rw[if_pos ⟨g1,g2,by omega,g4⟩]at hL2;have g4':¬(b.slots.length:Int)<=to:=by omega
       subst hL2;by_cases h7:d.body.k=7
       .by_cases hk:to<(d.body.kids.length:Int)
        .obtain⟨n,rfl⟩:∃n:Nat,to=n:=⟨to.toNat,by omega⟩;have hn:n<d.body.kids.length:=by omega
         have hE:uH d.body n=d.body.kids[n]:=by unfold uH;rw[if_pos ⟨h7,hk⟩,jCk,jB7,jA1 hn];rfl
         have hne:¬d.body.kids=[]:=fun e=>by rw[e]at hn;simp at hn
         rw[hE];generalize hEE:d.body.kids[n]=E;have hdr:=y5 hn;rw[hEE]at hdr;simp[g1,g2,g3,g4,g4',zK,h7,hk,hn,hne,hdr,zJ];exact fun _ _=>⟨qS [(7,.rptr (zK d)),(9,.rptr (zK a)),(13,.rptr (zJ E))],[],mw [] 1 (by rfl) (by simp[zK,zJ,hcs,hul,j4,h7]),zRB (zK d) _ u hD (fun rf g=>(bP d).2 _ _) (bP d).1 a ha E⟩
        .have hE:uH d.body to=d.body:=by unfold uH;rw[if_neg (fun h=>hk h.2)]
         rw[hE];have fin:=zRB (zK d) _ u hD (fun rf g=>(bP d).2 _ _) (bP d).1 a ha d.body;simp[g1,g2,g3,g4,g4',zK,h7,hk];exact fun _ _=>⟨qS [(7,.rptr (zK d)),(9,.rptr (zK a)),(13,.rptr (zJ d.body))],[],mw [] 1 (by rfl) (by simp[zK,zJ,hcs,hul,j4,h7]),fin⟩
       .have hE:uH d.body to=d.body:=by unfold uH;rw[if_neg (fun h=>h7 h.1)]
        rw[hE];have fin:=zRB (zK d) _ u hD (fun rf g=>(bP d).2 _ _) (bP d).1 a ha d.body;simp[g1,g2,g3,g4,g4',zK,h7];exact fun _=>⟨qS [(7,.rptr (zK d)),(9,.rptr (zK a)),(13,.rptr (zJ d.body))],[],mw [] 1 (by rfl) (by simp[zK,zJ,hcs,hul,j4]),fin⟩
      .have g4':(b.slots.length:Int)<=to:=by omega
       rw[if_neg (by omega)]at hL2;subst hL2;simp[g1,g2,g3,g4,g4',zK]
       first|exact fun _=>zA 0 (by simp)|exact zA 0 (by simp)
    .have g2':zFZ p d.res=false:=by simpa using g2
     rw[if_neg (fun h=>g2 h.2.1)]at hL2;subst hL2;simp[g1,g2'];exact zA 0 (by simp)
   .have g1':zFZ p u.typ=false:=by simpa using g1
    rw[if_neg (fun h=>g1 h.1)]at hL2;subst hL2;simp[g1'];exact zA 0 (by simp)
 exact hfv _ rfl
def zJB:Nat->Option wD:=fun|12=>k_ [0,0,0,2,2001,0,0,1001,0,4,0,0,0] | 13=>k_ [0,0,0,0,0,0,0,0,0,0,4,0,0,0]|_=>none
section
variable{l:wB}
theorem zUo(to fro:Dfn)(s:Id)(i:Nat)(m:Gm):Gst m (xU l to fro s i m).2 28:=by
 unfold xU;split
 .split
  .split
   .exact(qR m).trans (zHL _ _ _ _) (by omega)
   .exact(qR m).trans (fR _ _ _ _ _ _) (by simp[gC])
  .exact(fR _ _ _ _ _ _).mono (by simp[gC])
 .exact(fR _ _ _ _ _ _).mono (by simp[gC])
 .exact Gst.refl _ (by omega)
theorem zE2(to fro:Dfn)(s:Id)(m:Gm):∀n:Nat,Gst m (fP l to fro s n m).2 (28*n)
 | 0=>Gst.refl _ (by omega)
 |n+1=>by simp only[fP];exact(zE2 to fro s m n).trans (zUo _ _ _ _ _) (by omega)
theorem zDD(to fro:Dfn)(s:Id)(m:Gm)(h:to.slots.length<=6):Gst m (sR l to fro s m).2 170 :=
 (zE2 to fro s m _).trans (fQ _ _ _ _ _) (by omega)
def smK(to fro:Dfn)(i:Nat)(k:Nat):Int:=if i<k then (match to.slots[i]?,fro.slots[i]? with
 |some u,some v=>if v.typ.k=u.typ.k then (i:Int)else -1
 |_,_=>-1)else -1
theorem qHu(to fro:Dfn)(i:Nat):smK to fro i 0 = -1:=rfl
variable{to fro:Dfn}{i:Nat}
theorem zNX(h1:i<to.slots.length)(h2:i<fro.slots.length)(h:fro.slots[i].typ.k=to.slots[i].typ.k){k:Nat}(hk:i<k):smK to fro i k=i:=by simp[smK,hk,h1,h2,h]
theorem zST(h1:i<to.slots.length)(h2:i<fro.slots.length)(h:fro.slots[i].typ.k≠to.slots[i].typ.k)(k:Nat):smK to fro i k = -1:=by simp[smK,h1,h2,h]
theorem zVl(h2:¬i<fro.slots.length)(k:Nat):smK to fro i k = -1:=by
 have:fro.slots[i]?=none:=by simp;omega
 unfold smK;rw[this];split
 .split<;>simp_all
 .rfl
theorem zSU{i k:Nat}(h:k≠i):smK to fro i (k+1)=smK to fro i k:=by
 unfold smK;by_cases e:i<k
 .rw[if_pos e,if_pos (by omega)]
 .rw[if_neg e,if_neg (by omega)]
theorem zGw(hl:∀x∈l,w64 x=x)(to fro:Dfn)(s:Id)(h1:to.slots.length<=6)(h2:fro.slots.length<=6)(hf:∀u∈to.slots,u.typ=tK u.typ.k/\(u.typ.k=0\/u.typ.k=1))(m:Gm)(hok:m.Ok 170) :
 my 67 [.ptr 0 0,.agg (zK to),.agg (zK fro),.agg (zL s)] (gS l m) (.agg (zJ (sR l to fro s m).1)) (gS l (sR l to fro s m).2):=by
 refine ml zJB [80] [] [] [.cell 8 15 true] func67 (by kernel_rfl) ?_
 (conv in kH _ _ _=>cbv)
 simp[gS,gB];refine qO (S:=Nat) (fun i=>[(0,.ptr 0 0),(5,.ptr 1 0),(6,.ptr 2 0),(7,.ptr 3 0),(8,.ptr 4 0),(9,.row 5 i),(10,int i)])
  (fun i=>gS l (fP l to fro s i m).2++[.box (zK to),.box (zK fro),.box (zL s),.box (zJ Exp.zero),.row false 39 15 i (qQ (fP l to fro s i m).1)]) (fun i=>i<=to.slots.length) (fun i=>to.slots.length-i) 0 (by simp)
  ((yK (t:=9) (by simp) 39 15).trans (mw [0,1,2,3,4,5] 0 (by rfl) (by simp[gS,gB,cR,fP]))) ?_
 intro i hi;have hst:=zE2 (l:=l) to fro s m i;have hkl:=rB l to fro s m i;generalize hmi:(fP l to fro s i m).2=mi at hst;generalize hki:(fP l to fro s i m).1=ki at hkl;by_cases hi2:i<to.slots.length
 .have hok1:mi.Ok 29:=hok.adv hst (by omega);have hkid:fP l to fro s (i+1) m=(ki++[(xU l to fro s i mi).1],(xU l to fro s i mi).2):=by simp only[fP,hmi,hki]
  have hu:=hf _ (jA0 hi2);have hut:zB to.slots[i].typ=[int to.slots[i].typ.k,int 0,int 0,int 0,.sl 0 []]:=by rw[hu.1,zTe hu.2];rw[qHw hu.2]
  have hne:to.slots≠[]:=fun e=>by rw[e]at hi2;simp at hi2
  have hwi:=jY i (by omega);simp[gS,gB,zK,hi2];intro _;refine qO (S:=Nat) (fun k=>[(0,.ptr 0 0),(5,.ptr 1 0),(6,.ptr 2 0),(7,.ptr 3 0),(8,.ptr 4 0),(9,.row 5 i),(10,int i),(11,int (smK to fro i k)),(12,int k)])
   (fun k=>gS l mi++[.box (zK to),.box (zK fro),.box (zL s),.box (zJ Exp.zero),.row false 39 15 i (qQ ki)]) (fun k=>k<=fro.slots.length) (fun k=>fro.slots.length-k) 0 (by simp)
   (mw [0,1,2,3,4,5] 0 (by rfl) (by simp[gS,gB,cR,zK,qHu])) ?_
  intro k hk;by_cases hk2:k<fro.slots.length
  .have hne2:fro.slots≠[]:=fun e=>by rw[e]at hk2;simp at hk2
   have hwk:=qF hk2 (show fro.slots.length<=maxLen by simp[maxLen];omega);by_cases hki2:k=i
   .subst hki2;by_cases hkk:fro.slots[k].typ.k=to.slots[k].typ.k
    .simp[gS,gB,zK,hk2,hne,hne2,qW hk2,qW hi2,j4,hkk,hi2];exact fun _=>zS (k+1) hk2 (by omega) (mw [0,1,2,3,4,5] 0 (by rfl) (by simp[gS,gB,cR,zK,hwk,zNX hi2 hk2 hkk]))
    .have e1:=zST hi2 hk2 hkk;simp[gS,gB,zK,hk2,hne,hne2,qW hk2,qW hi2,j4,hkk,hi2];exact fun _=>zS (k+1) hk2 (by omega) (mw [0,1,2,3,4,5] 0 (by rfl) (by simp[gS,gB,cR,zK,hwk,e1]))
   .have hki3:¬(k:Int)=i:=by omega
    simp[gS,gB,zK,hk2,hki2,hki3];exact fun _=>zS (k+1) hk2 (by omega) (mw [0,1,2,3,4,5] 0 (by rfl) (by simp[gS,gB,cR,zK,hwk,zSU hki2]))
  .have hkE:k=fro.slots.length:=by omega
   subst hkE;have happ:∀(q:Exp×Gm),xU l to fro s i mi=q->qQ (fP l to fro s (i+1) m).1=qQ ki++zJ q.1:=fun q hq=>by rw[hkid,hq];simp[zFL,zO]
   have happ2:∀(q:Exp×Gm),xU l to fro s i mi=q->(fP l to fro s (i+1) m).2=q.2:=fun q hq=>by rw[hkid,hq]
   by_cases hA:∃h:i<fro.slots.length,fro.slots[i].typ.k=to.slots[i].typ.k
   .obtain⟨hif,hkk⟩:=hA;have e1:=zNX hi2 hif hkk (k:=fro.slots.length) hif;simp[gS,gB,zK,e1];intro _;refine mr (eF (l:=l) mi 3 (by omega) (hok1.mono (by omega))) [0] (by simp[gS,gB]) ?_;by_cases hN:0<gN l mi 3
    .have hq:xU l to fro s i mi=zFR mi.tick i fro.id s:=by unfold xU;rw[jA1 hi2,jA1 hif];simp only[if_pos hkk,if_pos hN]
     have g1:=cV (l:=l) mi.tick 2 0 s [] (hok1.adv (qR mi) (by omega));have g2:=cV (l:=l) (bD mi.tick 2 0 s []).2 8 i fro.id [(bD mi.tick 2 0 s []).1] (hok1.adv ((qR mi).trans (fQ _ _ _ _ _) (jAd _)) (by omega));simp[gS,gB,zK,hN];refine aK g1 [0] (by decide) (by simp[gS,gB]) (by simp) (by decide) (by simp) (by simp[gS]) ?_;simp[gS,gB];refine bV g2 [0] (by decide) (by simp[gS,gB]) (by simp[zO,zL]) ?_;simp[gS,gB];refine⟨⟨by simp[maxLen];omega,by omega⟩,?_⟩;exact zS (i+1) hi2 (by omega) (mw [0,1,2,3,4,5] 0 (by rfl) (by simp[gS,gB,cR,zK,happ _ hq,happ2 _ hq,zFR,hwi]))
    .have hq:xU l to fro s i mi=cJ l fro s 2 to.slots[i].typ.k mi.tick:=by unfold xU;rw[jA1 hi2,jA1 hif];simp only[if_pos hkk,if_neg hN]
     have g:=zB6 hl fro s h2 2 (by omega) mi.tick to.slots[i].typ.k hu.2 (hok1.adv (qR mi) (by simp[gC]));rw[<-hu.1]at g;simp[gS,gB,zK,hN,hi2,hne,qW hi2,j4];refine bV g [0] (by decide) (by simp[gS,gB]) (by simp[zK,zL,zB]) ?_;simp[gS,gB];refine⟨⟨by simp[maxLen];omega,by omega⟩,?_⟩;exact zS (i+1) hi2 (by omega) (mw [0,1,2,3,4,5] 0 (by rfl) (by simp[gS,gB,cR,zK,happ _ hq,happ2 _ hq,hwi]))
   .have e1:smK to fro i fro.slots.length = -1:=by
     by_cases hif:i<fro.slots.length
     .exact zST hi2 hif (fun e=>hA ⟨hif,e⟩) _
     .exact zVl hif _
    have hq:xU l to fro s i mi=cJ l fro s 2 to.slots[i].typ.k mi:=by
     unfold xU;rw[jA1 hi2];by_cases hif:i<fro.slots.length
     .rw[jA1 hif];simp only[if_neg (fun e=>hA ⟨hif,e⟩)]
     .have:fro.slots[i]?=none:=by simp;omega
      rw[this]
    have g:=zB6 hl fro s h2 2 (by omega) mi to.slots[i].typ.k hu.2 (hok1.mono (by simp[gC]));rw[<-hu.1]at g;simp[gS,gB,zK,e1,hi2,hne,qW hi2,j4];intro _;refine bV g [0] (by decide) (by simp[gS,gB]) (by simp[zK,zL,zB]) ?_;simp[gS,gB];refine⟨⟨by simp[maxLen];omega,by omega⟩,?_⟩;exact zS (i+1) hi2 (by omega) (mw [0,1,2,3,4,5] 0 (by rfl) (by simp[gS,gB,cR,zK,happ _ hq,happ2 _ hq,hwi]))
 .have hie:i=to.slots.length:=by omega
  subst hie;have g:=cV (l:=l) mi 7 0 to.id ki (hok.adv hst (by omega));have hrec:sR l to fro s m=bD mi 7 0 to.id ki:=by simp only[sR,hmi,hki]
  simp[gS,gB,zK];intro _;refine⟨qS [(0,.ptr 0 0),(5,.ptr 1 0),(8,.ptr 4 0),(9,.sl to.slots.length (qQ ki))],gS l mi++[.box (zK to),.box (zK fro),.box (zL s),.box (zJ Exp.zero)],mw [0,1,2,3,4] 1 (by rfl) (by simp[gS,gB,zK,cR]),?_⟩;simp[gS,gB,zK];refine mr g [0] (by simp[gS,gB,zL,hkl]) ?_;simp[gS,gB];rw[hrec];exact mv [0] 0 (by rfl) (by simp[bD,zJ])
end
def zIh(v:Val):Int:=if v.k=0/\v.n<0 then w64 (0-v.n)else if v.k=0\/v.k=1\/v.k=3 then v.n else if v.k=4 then v.kids.length else 0
theorem zMQ(v:Val)(h0:0<=v.k)(h4:v.k<=4):my 123 [.agg (zC v)] [] (int (zIh v)) []:=by
 refine mq [] [.slot 2] func123 (by kernel_rfl) ?_
 (conv in kq _ _=>cbv)
 by_cases hk:v.k=0
 .by_cases hn:v.n<0
  .simp -implicitDefEqProofs [zC,hk,hn];exact fun _=>zA 0 (by simp[zIh,hk,hn,w64])
  .simp -implicitDefEqProofs [zC,hk,hn];exact fun _=>zA 0 (by simp[zIh,hk,hn])
 .simp -implicitDefEqProofs [zC,hk];intro hl;have hc:v.k=1\/v.k=2\/v.k=3\/v.k=4:=by omega
  rcases hc with h|h|h|h<;>simp -implicitDefEqProofs [h]<;>exact zA 0 (by simp[zIh,h])
def fJ:Val->Int
 | .mk k n l=>if k<0\/4<k then 0 else if k=0\/k=1 then zIh (.mk k n l)else l.attach.foldl (fun s x=>w64 (s+fJ x.1)) (zIh (.mk k n l))
termination_by v=>zZ v
decreasing_by
 have:=rU x.2;simp only[zZ];omega
def zMH(s:Int)(l:wI):Int:=l.foldl (fun s x=>w64 (s+fJ x)) s
theorem oH(v:Val):fJ v=if v.k<0\/4<v.k then 0 else if v.k=0\/v.k=1 then zIh v else zMH (zIh v) v.kids:=by
 cases v with
 |mk k n l =>
  rw[fJ];simp only[Val.k,Val.kids,zMH]
  congr 2
  rw[List.foldl_attach (f:=fun s x=>w64 (s+fJ x))]
theorem zPI{s:Int}{l:wI}{i:Nat}(h:i<l.length):zMH s (l.take (i+1))=IntKind.i64.wrap (zMH s (l.take i)+fJ l[i]):=by rw[zMH,jA8 h,jCh];rfl
theorem zCL(v:Val):my 81 [.agg (zC v)] [] (int (fJ v)) []:=by
 refine mq [] [.slot 2] func81 (by kernel_rfl) ?_
 (conv in kq _ _=>cbv)
 by_cases hk:v.k<0
 .simp -implicitDefEqProofs [zC,hk];exact zA 0 (by simp[oH v,hk])
 by_cases hk':4<v.k
 .simp -implicitDefEqProofs [zC,hk,hk'];exact zA 0 (by simp[oH v,hk'])
 simp -implicitDefEqProofs [zC,hk,hk'];refine mu (zMQ v (by omega) (by omega)) (by simp[zC]) ?_;by_cases h0:v.k=0
 .simp -implicitDefEqProofs [h0];exact zA 0 (by simp[oH v,h0])
 by_cases h1:v.k=1
 .simp -implicitDefEqProofs [h1];exact zA 0 (by simp[oH v,h1])
 simp -implicitDefEqProofs [h0,h1];intro hl;refine qO (S:=Nat) (fun i=>[(3,int (zMH (zIh v) (v.kids.take i))),(26,.sl v.kids.length (zR v.kids)),(27,int v.kids.length),(28,int i)]) (fun s=>[]) (fun i=>i<=v.kids.length) (fun i=>v.kids.length-i) 0 (by simp)
  (mw [] 0 (by rfl) (by simp[zMH])) ?_
 intro i hi;simp -implicitDefEqProofs;refine jM (fun h=>?_) (fun h=>?_)<;>simp at h
 .simp -implicitDefEqProofs [h,qT h];refine mu (zCL v.kids[i]) (by simp[zC]) ?_;simp -implicitDefEqProofs;refine zS (i+1) h (by omega) (mw [] 0 (by rfl) (by simp[qF h hl,zPI h]))
 .have:i=v.kids.length:=by omega
  subst this;simp -implicitDefEqProofs;exact zA 0 (by simp[oH v,hk,hk',h0,h1])
termination_by zZ v
decreasing_by exact y4 (jA0 _)
structure Lin{α:Type}(c : α->α->Int):Prop where
 refl:∀x,c x x=0
 eq:∀x y,c x y=0->x=y
 swap:∀x y,c x y<0↔0<c y x
 trans:∀x y z,c x y<0->c y z<0->c x z<0
theorem Lin.ord{α:Type}{c : α->α->Int}(h:Lin c):Ord c where
 irrefl x:=by rw[h.refl];omega
 trans:=h.trans
 ntrans x y z h1 h2 h3:=by
  by_cases e1:c x y=0
  .rw[h.eq _ _ e1]at h3;exact h2 h3
  by_cases e2:c y z=0
  .rw[<-h.eq _ _ e2]at h3;exact h1 h3
  have h4:c y x<0:=(h.swap y x).2 (by omega);have h5:=h.trans _ _ _ h4 h3;exact h2 h5
 anti x y h1 h2:=by
  by_cases e1:c x y=0
  .exact h.eq _ _ e1
  .have:c y x<0:=(h.swap y x).2 (by omega);exact(h2 this).elim
variable{a b:Int}
theorem mD:bT a b<0↔a<b:=by
 unfold bT;split
 .omega
 .split<;>omega
theorem uN:0<bT a b↔b<a:=by
 unfold bT;split
 .omega
 .split<;>omega
theorem y3:bT a b=0↔a=b:=by
 unfold bT;split
 .omega
 .split<;>omega
theorem qGk:Lin bT where
 refl x:=y3.2 rfl
 eq x y h:=y3.1 h
 swap x y:=by rw[mD,uN]
 trans x y z:=by simp only[mD];omega
theorem zIf(a:Int):orI [a]=a:=by simp only[orI];split<;>simp_all
theorem zEW(a:Int)(l:wB):orI (a::l)=if a=0 then orI l else a:=rfl
theorem zSg{α:Type}{c d : α->α->Int}(hc0:∀x,c x x=0)(hcs:∀x y,c x y<0↔0<c y x)(hct:∀x y z,c x y<0->c y z<0->c x z<0)
 (hce:∀x y z,c x y=0->c x z=c y z/\c z x=c z y)(hd0:∀x,d x x=0)(hde:∀x y,c x y=0->d x y=0->x=y)(hds:∀x y,c x y=0->(d x y<0↔0<d y x))
 (hdt:∀x y z,c x y=0->c y z=0->d x y<0->d y z<0->d x z<0):Lin fun x y=>if c x y=0 then d x y else c x y where
 refl x:=by simp[hc0,hd0]
 eq x y h:=by
  split at h
  .rename_i hc;exact hde x y hc h
  .rename_i hc;exact(hc h).elim
 swap x y:=by
  by_cases h:c x y=0
  .have h':c y x=0:=by have:=(hce x y x h).1;rw[hc0]at this;exact this.symm
   simp only[h,h',if_true];exact hds x y h
  .have h':¬c y x=0:=fun e=>h (by
    have:=(hce y x y e).1;rw[hc0]at this;exact this.symm)
   simp only[h,h',if_false];exact hcs x y
 trans x y z:=by
  by_cases h1:c x y=0
  .by_cases h2:c y z=0
   .have h3:c x z=0:=by rw[(hce x y z h1).1];exact h2
    simp only[h1,h2,h3,if_true];exact hdt x y z h1 h2
   .have h3:¬c x z=0:=by rw[(hce x y z h1).1];exact h2
    simp only[h1,h2,h3,if_true,if_false];intro _ h;rw[(hce x y z h1).1];exact h
  .by_cases h2:c y z=0
   .have h3:¬c x z=0:=by rw[<-(hce y z x h2).2];exact h1
    simp only[h1,h2,h3,if_true,if_false];intro h _;rw[<-(hce y z x h2).2];exact h
   .simp only[h1,h2,if_false];intro h4 h5;have h6:=hct x y z h4 h5;have h3:¬c x z=0:=by omega
    simp only[h3,if_false];exact h6
mutual
theorem nE:∀(a:Val),gU a a=0
 | .mk k n l=>by
  rw[fD];have:dG (.mk k n l) (.mk k n l)=0:=by simp[dG,orI,y3.2]
  simp only[this,ne_eq,not_true_eq_false,if_false,Val.kids];exact zEf l
theorem zEf:∀(l:wI),bN l l=0
 |[]=>by simp only[bN]
 |a::l=>by simp only[bN,nE a,ne_eq,not_true_eq_false,if_false];exact zEf l
end
theorem nH{a b:Val}:dG a b=0↔a.k=b.k/\a.n=b.n/\a.kids.length=b.kids.length:=by
 simp only[dG,orI];by_cases h1:a.k=b.k
 .by_cases h2:a.n=b.n
  .by_cases h3:a.kids.length=b.kids.length
   .simp[h1,h2,h3,y3.2]
   .have:¬bT a.kids.length b.kids.length=0:=fun e=>h3 (by have:=y3.1 e;omega)
    simp[h1,h2,h3,y3.2,this]
  .have:¬bT a.n b.n=0:=fun e=>h2 (y3.1 e)
   simp[h1,h2,y3.2,this]
 .have:¬bT a.k b.k=0:=fun e=>h1 (y3.1 e)
  simp[h1,this]
mutual
theorem nF:∀(a b:Val),gU a b=0->a=b
 | .mk k n l,.mk k' n' l',h=>by
  rw[fD]at h;split at h
  .rename_i h1;exact(h1 h).elim
  .rename_i h1;simp only[ne_eq,Decidable.not_not]at h1;obtain⟨e1,e2,e3⟩:=nH.1 h1;simp only[Val.k,Val.n,Val.kids]at e1 e2 e3 h;rw[e1,e2,zEh l l' h]
theorem zEh:∀(l l':wI),bN l l'=0->l=l'
 |[],[],_=>rfl
 |[],_::_,h=>by simp[bN]at h
 |_::_,[],h=>by simp[bN]at h
 |a::l,b::l',h=>by
  simp only[bN]at h;split at h
  .rename_i h1;exact(h1 h).elim
  .rename_i h1;simp only[ne_eq,Decidable.not_not]at h1;rw[nF a b h1,zEh l l' h]
end
theorem zBv{a b:Val}:dG a b<0↔a.k<b.k\/(a.k=b.k/\(a.n<b.n\/(a.n=b.n/\a.kids.length<b.kids.length))):=by
 simp only[dG,zEW,zIf];by_cases h1:a.k=b.k
 .by_cases h2:a.n=b.n
  .simp[h1,h2,y3.2,mD];simp only[orI];split<;>rename_i h<;>simp_all [mD];have:=y3.1 h;omega
  .have:¬bT a.n b.n=0:=fun e=>h2 (y3.1 e)
   simp[h1,h2,y3.2,this,mD]
 .have:¬bT a.k b.k=0:=fun e=>h1 (y3.1 e)
  simp[h1,this,mD]
theorem zRR{a b:Val}:0<dG a b↔dG b a<0:=by
 rw[zBv];simp only[dG,zEW,zIf];by_cases h1:a.k=b.k
 .by_cases h2:a.n=b.n
  .simp[h1,h2,y3.2];simp only[orI];split<;>rename_i h<;>simp_all [uN];have:=y3.1 h;omega
  .have:¬bT a.n b.n=0:=fun e=>h2 (y3.1 e)
   simp[h1,y3.2,this,uN];omega
 .have:¬bT a.k b.k=0:=fun e=>h1 (y3.1 e)
  simp[this,uN];omega
mutual
theorem zGp:∀(a b:Val),gU a b<0↔0<gU b a
 | .mk k n l,.mk k' n' l'=>by
  rw[fD,fD];by_cases h:dG (.mk k n l) (.mk k' n' l')=0
  .have h':dG (.mk k' n' l') (.mk k n l)=0:=by rw[nH]at *;omega
   simp only[h,h',ne_eq,not_true_eq_false,if_false,Val.kids];exact zEg l l'
  .have h':¬dG (.mk k' n' l') (.mk k n l)=0:=by rw[nH]at *;omega
   simp only[h,h',ne_eq,not_false_eq_true,if_true];rw[zRR]
theorem zEg:∀(l l':wI),bN l l'<0↔0<bN l' l
 |[],[]=>by simp[bN]
 |[],_::_=>by simp[bN]
 |_::_,[]=>by simp[bN]
 |a::l,b::l'=>by
  simp only[bN];by_cases h:gU a b=0
  .have e:=nF a b h;subst e;simp only[h,ne_eq,not_true_eq_false,if_false];exact zEg l l'
  .have h':¬gU b a=0:=fun e=>h (by rw[nF b a e];exact nE a)
   simp only[h,h',ne_eq,not_false_eq_true,if_true];exact zGp a b
end
mutual
theorem zEe:∀(a b c:Val),gU a b<0->gU b c<0->gU a c<0
 | .mk k n l,.mk k' n' l',.mk k'' n'' l'',h1,h2=>by
  rw[fD]at *
  by_cases e1:dG (.mk k n l) (.mk k' n' l')=0
  .by_cases e2:dG (.mk k' n' l') (.mk k'' n'' l'')=0
   .have e3:dG (.mk k n l) (.mk k'' n'' l'')=0:=by rw[nH]at *;omega
    simp only[e1,e2,e3,ne_eq,not_true_eq_false,if_false,Val.kids]at *
    exact zCU l l' l'' h1 h2
   .have e3:dG (.mk k n l) (.mk k'' n'' l'')<0:=by simp only[e2,ne_eq,not_false_eq_true,if_true]at h2;rw[nH]at e1;rw[zBv]at *;omega
    have e4:dG (.mk k n l) (.mk k'' n'' l'')≠0:=by omega
    simp only[e4,ne_eq,not_false_eq_true,if_true];exact e3
  .simp only[e1,ne_eq,not_false_eq_true,if_true]at h1;have e3:dG (.mk k n l) (.mk k'' n'' l'')<0:=by
    by_cases e2:dG (.mk k' n' l') (.mk k'' n'' l'')=0
    .rw[nH]at e2;rw[zBv]at *;omega
    .simp only[e2,ne_eq,not_false_eq_true,if_true]at h2;rw[zBv]at *;omega
   have e4:dG (.mk k n l) (.mk k'' n'' l'')≠0:=by omega
   simp only[e4,ne_eq,not_false_eq_true,if_true];exact e3
theorem zCU:∀(a b c:wI),bN a b<0->bN b c<0->bN a c<0
 |[],[],_,h1,_=>by simp[bN]at h1
 |[],_::_,[],_,h2=>by simp[bN]at h2
 |[],_::_,_::_,_,_=>by simp[bN]
 |_::_,[],_,h1,_=>by simp[bN]at h1
 |_::_,_::_,[],_,h2=>by simp[bN]at h2
 |a::l,b::l',c::l'',h1,h2=>by
  simp only[bN]at *
  by_cases e1:gU a b=0
  .have e:=nF a b e1;subst e;by_cases e2:gU a c=0
   .simp only[nE,e2,ne_eq,not_true_eq_false,if_false]at *
    exact zCU l l' l'' h1 h2
   .simp only[e2,ne_eq,not_false_eq_true,if_true]at *
    exact h2
  .simp only[e1,ne_eq,not_false_eq_true,if_true]at h1;have e3:gU a c<0:=by
    by_cases e2:gU b c=0
    .rw[<-nF b c e2];exact h1
    .simp only[e2,ne_eq,not_false_eq_true,if_true]at h2;exact zEe a b c h1 h2
   have e4:gU a c≠0:=by omega
   simp only[e4,ne_eq,not_false_eq_true,if_true];exact e3
end
theorem zSf:Lin gU:=⟨nE,nF,zGp,zEe⟩
theorem zZf{α:Type}(f : α->Int){d : α->α->Int}(h:Lin d):Lin fun x y=>orI [bT (f x) (f y),d x y]:=by
 have:=zSg (c:=fun x y=>bT (f x) (f y)) (d:=d) (fun x=>y3.2 rfl) (fun x y=>by rw[mD,uN]) (fun x y z=>by simp only[mD];omega)
  (fun x y z e=>by have:=y3.1 e;simp[this]) h.refl (fun x y _=>h.eq x y) (fun x y _=>h.swap x y) (fun x y z _ _=>h.trans x y z)
 have e:(fun x y=>orI [bT (f x) (f y),d x y])=fun x y=>if bT (f x) (f y)=0 then d x y else bT (f x) (f y):=by funext x y;rw[zEW,zIf]
 rw[e];exact this
def zLy(a b:Val):Int:=orI [bT (fJ a) (fJ b),gU a b]
theorem zEB:Lin zLy:=zZf fJ zSf
theorem zIz(a b:Val):my 78 [.agg (zC a),.agg (zC b)] [] (int (zLy a b)) []:=by
 refine mq [] [.slot 4] func78 (by kernel_rfl) ?_
 (conv in kq _ _=>cbv)
 simp -implicitDefEqProofs [zC];refine qA (zCL a) (by simp[zC]) (by simp) ?_;simp -implicitDefEqProofs;refine qA (zCL b) (by simp[zC]) (by simp) ?_;simp -implicitDefEqProofs;refine qA (gV (fJ a) (fJ b)) (by simp) (by simp) ?_;simp -implicitDefEqProofs;refine qA (zDB a b) (by simp[zC]) (by simp) ?_;simp -implicitDefEqProofs;refine qA (zS6 [bT (fJ a) (fJ b),gU a b]) (by simp) (by simp) ?_;simp -implicitDefEqProofs;exact zA 0 (by simp[zLy])
def qHe:Go.Shelf.Ren:=⟨fun | 6=>77 | 15=>121 | 14=>120 | 28=>165 | 29=>166 | 20=>157 | 21=>158 | 22=>159 | 23=>160 | 24=>161 | 25=>162 | 26=>163 | 27=>164 | 46=>181 | 49=>184 | 50=>185 | 57=>197 | 47=>182 | 48=>183|n=>n,fun | 22=>44 | 24=>46 | 25=>54 | 3=>3 | 39=>181 | 0=>0 | 53=>222 | 55=>224 | 4=>4 | 46=>215 | 45=>214 | 50=>219 | 5=>5 | 9=>9 | 66=>241 | 70=>245 | 76=>256 | 77=>257|n=>n,fun n=>n⟩
theorem zWV:Go.Proofs.SlLaysF0.n6 prog qHe:={
 mixed:=by kernel_rfl,
 f6:=⟨f77.name,by decide,func77.trans (congrArg some (by kernel_rfl))⟩,
 f14:=⟨f120.name,by decide,func120.trans (congrArg some (by kernel_rfl))⟩,
 f15:=func121.trans (congrArg some (by kernel_rfl)),
 f20:=⟨f157.name,by decide,func157.trans (congrArg some (by kernel_rfl))⟩,
 f21:=⟨f158.name,by decide,func158.trans (congrArg some (by kernel_rfl))⟩,
 f22:=⟨f159.name,by decide,func159.trans (congrArg some (by kernel_rfl))⟩,
 f23:=⟨f160.name,by decide,func160.trans (congrArg some (by kernel_rfl))⟩,
 f24:=⟨f161.name,by decide,func161.trans (congrArg some (by kernel_rfl))⟩,
 f25:=⟨f162.name,by decide,func162.trans (congrArg some (by kernel_rfl))⟩,
 f26:=⟨f163.name,by decide,func163.trans (congrArg some (by kernel_rfl))⟩,
 f27:=⟨f164.name,by decide,func164.trans (congrArg some (by kernel_rfl))⟩,
 f28:=func165.trans (congrArg some (by kernel_rfl)),
 f29:=func166.trans (congrArg some (by kernel_rfl)),
 f46:=⟨f181.name,by decide,func181.trans (congrArg some (by kernel_rfl))⟩,
 f47:=func182.trans (congrArg some (by kernel_rfl)),
 f48:=func183.trans (congrArg some (by kernel_rfl)),
 f49:=⟨f184.name,by decide,func184.trans (congrArg some (by kernel_rfl))⟩,
 f50:=⟨f185.name,by decide,func185.trans (congrArg some (by kernel_rfl))⟩,
 f57:=⟨f197.name,by decide,func197.trans (congrArg some (by kernel_rfl))⟩,
 t0:=underlying0,
 a0:=isAgg0,
 z0:=sizeOf0,
 v0:=zeroValue0,
 t3:=underlying3,
 a3:=isAgg3,
 z3:=sizeOf3,
 v3:=zeroValue3,
 t4:=underlying4,
 a4:=isAgg4,
 z4:=sizeOf4,
 v4:=zeroValue4,
 t5:=underlying5,
 a5:=isAgg5,
 z5:=sizeOf5,
 v5:=zeroValue5,
 t9:=underlying9,
 a9:=isAgg9,
 z9:=sizeOf9,
 v9:=zeroValue9,
 t22:=underlying44,
 a22:=isAgg44,
 z22:=sizeOf44,
 v22:=zeroValue44,
 t25:=underlying54,
 a25:=isAgg54,
 z25:=sizeOf54,
 v25:=zeroValue54,
 t39:=underlying181,
 a39:=isAgg181,
 z39:=sizeOf181,
 v39:=zeroValue181,
 t45:=underlying214,
 a45:=isAgg214,
 z45:=sizeOf214,
 v45:=zeroValue214,
 t46:=underlying215,
 a46:=isAgg215,
 z46:=sizeOf215,
 v46:=zeroValue215,
 t50:=underlying219,
 a50:=isAgg219,
 z50:=sizeOf219,
 v50:=zeroValue219,
 t53:=underlying222,
 a53:=isAgg222,
 z53:=sizeOf222,
 v53:=zeroValue222,
 t55:=underlying224,
 a55:=isAgg224,
 z55:=sizeOf224,
 v55:=zeroValue224,
 t66:=underlying241,
 a66:=isAgg241,
 z66:=sizeOf241,
 v66:=zeroValue241,
 t70:=underlying245,
 a70:=isAgg245,
 z70:=sizeOf245,
 v70:=zeroValue245,
 t76:=underlying256,
 a76:=isAgg256,
 z76:=sizeOf256,
 v76:=zeroValue256,
 t77:=underlying257,
 a77:=isAgg257,
 z77:=sizeOf257,
 v77:=zeroValue257}
theorem zTY:∀args w,(callFunc 78 args).run prog w=.ok (.enter 78 args) w:=enters_of func78 (by kernel_rfl) rfl
theorem zZR:zHz prog 77 78 zC zLy :=
 zSZ (k:=3) (fun _=>rfl) zEB.ord zIz fun α _ enc hk h1 cf hO blk off cap d w hcmp hH hblk hsz =>
  Go.Proofs.AnyQ.slices_SortFunc zWV 3 isAgg46 sizeOf46 enc hk h1 cf hO 78 #[] blk off cap d w zTY hcmp hH hblk hsz
theorem qG4:∀(p:Option Addr) (cap:Nat) (fv:Value) (w:World),Calls prog 77 #[.slice p 0 cap,fv] w fun e w'=>e=.returned (.tuple #[])/\w'=w :=
 fun p cap fv w=>Go.Proofs.AnyF.slices_SortFunc_none zWV p cap fv w
theorem zLx(l:wI):l.flatMap zC=zR l:=by
 induction l with
 |nil=>simp
 |cons v l ih=>simp[ih,zC]
theorem zK9(l:wI)(hmx:l.length<4611686018427387904):my 77 [.row 0 l.length,.clo 78 [] []] [.row false 46 3 l.length (zR l)] (.tup []) [.row false 46 3 l.length (zR (pA zLy l))]:=by
 have:=zKA (sz:=3) (by omega) (fun _=>rfl) (fun b=>by simp[zC]) zEB.ord 46 zZR qG4 l hmx
 simpa only[zLx]using this
end Go.Proofs.YtdnelmeboihpkaaGreatDoor
namespace Go.Proofs.YtdnelmeboihpkaaGreatDoor
open Go.Proofs Go.Abs
theorem zSu(c:Int)(hc:c=0\/c=1\/c=2)(w:World):Calls prog 180 #[.int .u64 1,.int .u64 c] w fun e w'=>e=.returned (.tuple #[.int .u64 0,.int .u64 c])/\w'=w:=by
 rcases hc with rfl|rfl|rfl
 all_goals
  go_enter func180,Tryz.ntmps180
  go_wp2
  go_ret2
  exact⟨by kernel_rfl,rfl⟩
theorem zMk(c:Int)(hc:c=0\/c=1\/c=2)(w:World):Calls prog 156 #[.int .u64 1,.int .u64 c] w fun e w'=>e=.returned (.tuple #[.int .u64 0,.int .u64 c])/\w'=w:=by
 have h:=zSu c hc;have hw:IntKind.u64.wrap c=c:=by rcases hc with rfl|rfl|rfl<;>rfl
 go_enter func156,Tryz.ntmps156
 go_wp2_with (go_at_call 180;refine(h _).mono ?_;rintro e w' ⟨rfl,rfl⟩)
 go_ret2
 exact⟨rfl,rfl⟩
theorem u49:prog.underlying 161=some (.slice 44):=by kernel_rfl
theorem zVn:(prog.info? 44).map (·.size)=some 1:=by kernel_rfl
theorem i36:(prog.info? 44).map (fun i=>(i.size,i.bytes,i.zero))=some (1,24,some (.slice none 0 0)):=by kernel_rfl
theorem zMi(c:Nat)(hc:c<=2)(w:World):(Instr.makeSlice 161 (.int .i64 c) (.int .i64 c)).run prog w=.ok (.slice (some ⟨w.heap.size,0,none⟩) c c) (w.alloc (.cells (madeCells #[.slice none 0 0] c) 44)):=by obtain⟨i,hi,hh⟩:=jAh.1 i36;simp only[jBg]at hh;obtain⟨h1,h2,h3⟩:=hh;have:=run_make w 161 44 i (.slice none 0 0) u49 hi h3 .i64 .i64 c c (by omega) (by omega) (by rw[h2];omega) (by omega);rw[this,h1];simp[Value.cells]
theorem zPH{P:Program}{ops:Array Oper}{o:Oper}{a:Act}{w w':World}{K:Act->World->Prop}{Q:Exit->Act->World->Prop}{E:Prop}
 (hg:o.guard=none)(d s:Operand)(t:TypeId)(hop:o.op=Op.call {callee:=Callee.builtin Builtin.copy,args:=#[d,s],argTypes:=#[t,t]})
 (vd vs:Value)(hd:a.eval d=vd)(hs:a.eval s=vs)(v:Value)(hrun:(Builtin.copy_ #[t,t] o.type #[vd,vs]).run P w=.ok v w')(hK:K (a.put o.dst v) w') :
 if Region.wanted o (yielded ops a.tmps)=true then Oper.wp P o a w K Q else E:=by
 have hw:Region.wanted o (yielded ops a.tmps)=true:=by simp[Region.wanted,hg]
 rw[if_pos hw];unfold Oper.wp;simp[execOp,hop,resolve,invoke,builtin,hs,hd,hrun,Result.andThen];exact hK
theorem zSn(z:Value)(n:Nat):madeCells #[z] n=Array.replicate n z:=Array.ext (by simp[madeCells]) (by intro i h1 h2;simp[madeCells,Nat.mod_one])
theorem zBS(w:World)(cur cur':Array Value):(w.alloc (.cells cur 44)).setRow w.heap.size cur'=w.alloc (.cells cur' 44):=by unfold World.setRow World.alloc;simp only[World.mk.injEq,and_true];apply Array.ext_getElem?;intro k;simp only[Array.getElem?_modify,Array.getElem?_push];split<;>split<;>simp_all
theorem zM2(b o cap:Nat)(v:Value)(w:World)(hv:w.cell? ⟨b,o,none⟩=some v) :
 Calls prog 119 #[.slice (some ⟨b,o,none⟩) 1 cap,.int .i64 0] w fun e w'=>e=.returned (.slice (some ⟨w.heap.size,0,none⟩) 0 0)/\w'=w.alloc (.cells #[] 44):=by
 have h:=zMk 0 (by simp);have hm:∀w:World,(Instr.makeSlice 161 (.int .i64 0) (.int .i64 0)).run prog w=.ok (.slice (some ⟨w.heap.size,0,none⟩) 0 0) (w.alloc (.cells #[] 44)):=fun w=>(zMi 0 (by decide) w).trans (by rw[zSn];rfl)
 go_enter func119,Tryz.ntmps119
 go_wp2_with (go_at_call 156;refine(h _).mono ?_;rintro e w' ⟨rfl,rfl⟩)
 have hcp:=run_copy_none (P:=prog) (w'.alloc (.cells #[] 44)) 161 161 3 44 (some ⟨w'.heap.size,0,none⟩) (some ⟨b,o,none⟩) 0 0 1 cap u49 zVn (by rfl)
 go_wp2
 rw[hcp]
 go_wp2
 refine wp_loop_rounds 1 ?_;simp only[Code.rounds]
 go_wp2
 go_ret
 exact⟨rfl,rfl⟩
theorem zM3(b o cap:Nat)(v:Value)(w:World)(hv:w.cell? ⟨b,o,none⟩=some v)(h1:v.oneCell'=true)(hb:b<w.heap.size) :
 Calls prog 119 #[.slice (some ⟨b,o,none⟩) 1 cap,.int .i64 1] w fun e w'=>e=.returned (.slice (some ⟨w.heap.size,0,none⟩) 1 1)/\w'=w.alloc (.cells #[v] 44):=by
 have h:=zMk 1 (by simp);have hm:∀w:World,(Instr.makeSlice 161 (.int .i64 1) (.int .i64 1)).run prog w=.ok (.slice (some ⟨w.heap.size,0,none⟩) 1 1) (w.alloc (.cells #[.slice none 0 0] 44)):=fun w=>(zMi 1 (by decide) w).trans (by rw[zSn];rfl)
 go_enter func119,Tryz.ntmps119
 go_wp2_with (go_at_call 156;refine(h _).mono ?_;rintro e w' ⟨rfl,rfl⟩)
 have hcp:=run_copy_row (P:=prog) (w'.alloc (.cells #[.slice none 0 0] 44)) 161 161 3 44 w'.heap.size 0 1 1 ⟨b,o,none⟩ 1 cap #[.slice none 0 0] 44 [v] u49 zVn (heap_alloc_new _ _) (by rfl)
  (by
   intro j u hj;cases j with
   |succ j=>simp at hj
   |zero =>
    simp at hj;subst hj;rw[<-hv];exact World.cell?_alloc_lt _ _ (a:=⟨b,o+0,none⟩) hb) (by simp) (by simpa using h1)
 rw[zBS]at hcp;simp only[List.take_zero,jBl,jA9,jB9,List.drop_succ_cons,jB1,List.drop_nil,jBa]at hcp
 go_wp2
 rw[hcp]
 go_wp2
 refine wp_loop_rounds 1 ?_;simp only[Code.rounds]
 go_wp2
 go_ret
 exact⟨rfl,rfl⟩
theorem zM4(b o cap:Nat)(v:Value)(w:World)(hv:w.cell? ⟨b,o,none⟩=some v)(h1:v.oneCell'=true)(hb:b<w.heap.size) :
 Calls prog 119 #[.slice (some ⟨b,o,none⟩) 1 cap,.int .i64 2] w fun e w'=>e=.returned (.slice (some ⟨w.heap.size,0,none⟩) 2 2)/\w'=(w.alloc (.cells #[v,v] 44)).drew:=by
 have h:=zMk 2 (by simp);have hm:∀w:World,(Instr.makeSlice 161 (.int .i64 2) (.int .i64 2)).run prog w=.ok (.slice (some ⟨w.heap.size,0,none⟩) 2 2) (w.alloc (.cells #[.slice none 0 0,.slice none 0 0] 44)):=fun w=>(zMi 2 (by decide) w).trans (by rw[zSn];rfl)
 go_enter func119,Tryz.ntmps119
 go_wp2_with (go_at_call 156;refine(h _).mono ?_;rintro e w' ⟨rfl,rfl⟩)
 have hcp:=run_copy_row (P:=prog) (w'.alloc (.cells #[.slice none 0 0,.slice none 0 0] 44)) 161 161 3 44 w'.heap.size 0 2 2 ⟨b,o,none⟩ 1 cap #[.slice none 0 0,.slice none 0 0] 44 [v] u49 zVn (heap_alloc_new _ _) (by rfl)
  (by
   intro j u hj;cases j with
   |succ j=>simp at hj
   |zero =>
    simp at hj;subst hj;rw[<-hv];exact World.cell?_alloc_lt _ _ (a:=⟨b,o+0,none⟩) hb) (by simp) (by simpa using h1)
 rw[zBS]at hcp;simp only[List.take_zero,jBl,jA9,jB9,List.drop_succ_cons,List.drop_zero,jB1,jB6]at hcp
 go_wp2
 rw[hcp]
 go_wp2
 refine wp_loop_rounds 2 ?_;simp only[Code.rounds]
 go_wp2
 have hcp2:=run_copy_row (P:=prog) (w'.alloc (.cells #[v,.slice none 0 0] 44)).drew 161 161 3 44 w'.heap.size 1 1 1 ⟨w'.heap.size,0,none⟩ 1 2 #[v,.slice none 0 0] 44 [v] u49 zVn (heap_alloc_new _ _) (by rfl)
  (by
   intro j u hj;cases j with
   |succ j=>simp at hj
   |zero =>
    simp at hj;subst hj;exact World.cell?_alloc_new _ _ 44 0) (by simp) (by simpa using h1)
 have e:(w'.alloc (.cells #[v,.slice none 0 0] 44)).drew.setRow w'.heap.size (List.take 1 #[v,.slice none 0 0].toList++[v]++List.drop (1+[v].length) #[v,.slice none 0 0].toList).toArray=(w'.alloc (.cells #[v,v] 44)).drew:=by show ((w'.alloc (.cells #[v,.slice none 0 0] 44)).setRow w'.heap.size _).drew=_;rw[zBS];rfl
 rw[e]at hcp2
 go_region_law (refine zPH rfl (.tmp 41) (.tmp 44) 161 rfl _ _ rfl rfl _ hcp2 ?_)
 go_wp2
 go_ret
 exact⟨rfl,rfl⟩
theorem zB3{H:Mem}{L:wM} {U:St}{w:World}(hs:RelSt H L U w):Nxt H L w H L U w.drew :=
 ⟨hs.heap_eq rfl,⟨rfl,rfl,rfl,jA _,fun _ _ _=>rfl,HLe.refl _,fun _ _ _ h=>.inl h,jCi _,fun _ _ h=>h⟩,LLe.refl _,fun _ h=>.inl h⟩
theorem vL{H:Mem}{L:wM}{c:A}{v:Value}(h:Rel H L c v):∀n,qE H L (List.replicate n c) (List.replicate n v)
 | 0=>jV
 |n+1=>qY h (vL h n)
theorem zP7(n:Nat)(hn:n<=2)(c:A):my 119 [.sl 1 [c],int n] [] (.sl n (List.replicate n c)) []:=by
 intro H L w vs hs hvs;obtain⟨x,t,rfl,hx,ht⟩:=qH hvs;obtain⟨y,t,rfl,hy,ht⟩:=qH ht;obtain rfl:=jU ht;simp only[int,Rel]at hx hy;subst hy;obtain⟨a,cap,rfl,h1,h2,h3⟩:=hx;rcases h3 with h3|⟨b,o,us,rfl,hc,ho,hat⟩
 .omega
 obtain⟨v,t,rfl,hv,ht⟩:=qH hc;obtain rfl:=jU ht;have hp:=hs.pers b o v (by simpa using hat 0 v rfl);have h1v:v.oneCell'=true:=ho v (by simp);have hb:=World.block_lt_of_cell? w _ hp;have key:Calls prog 119 #[.slice (some ⟨b,o,none⟩) 1 cap,.int .i64 n] w fun e w'=>e=.returned (.slice (some ⟨w.heap.size,0,none⟩) n n) /\
  (w'=w.alloc (.cells (List.replicate n v).toArray 44)\/w'=(w.alloc (.cells (List.replicate n v).toArray 44)).drew):=by
  have h:n=0\/n=1\/n=2:=by omega
  rcases h with rfl|rfl|rfl
  .exact(zM2 b o cap v w hp).mono fun e w' h=>⟨h.1,.inl h.2⟩
  .exact(zM3 b o cap v w hp h1v hb).mono fun e w' h=>⟨h.1,.inl h.2⟩
  .exact(zM4 b o cap v w hp h1v hb).mono fun e w' h=>⟨h.1,.inr h.2⟩
 refine key.mono fun e w' h=>?_
 obtain⟨rfl,hw⟩:=h;obtain⟨hn1,hn2⟩:=zDk hs (List.replicate n v) 44;refine⟨.ret (.sl n (List.replicate n c)),[],zFS H w.heap.size (List.replicate n v),L,⟨_,rfl,?_⟩,?_,rfl,rfl⟩
 .simp only[Rel];refine⟨_,n,rfl,jA _,by simp[maxLen];omega,.inr ⟨w.heap.size,0,List.replicate n v,rfl,?_,fun u hu=>?_,hn2⟩⟩
  .have hv':=Rel.mono hn1.step.hle (LLe.refl _) _ hv;exact vL hv' n
  .rw[(jDg.1 hu).2];exact h1v
 .rcases hw with rfl|rfl
  .exact hn1
  .exact hn1.trans (zB3 hn1.st)
end Go.Proofs.YtdnelmeboihpkaaGreatDoor
namespace Go.Proofs.YtdnelmeboihpkaaGreatDoor
open Go.Abs
def zLf:K:=(K.ops [D 198 4 1,L 199 198 1,J 200 15 31,kd 201 41 31 1 kz0 [(0,31,(kt 200))],kP 202 41 31 352 199 201,D 203 4 1,S 203 202 1])
def zLe:K:=(Z (K.dops [(0,0,M 147 3),(1,0,D 148 4 1),(2,0,L 149 148 1),(3,0,M 150 13),(4,0,kX 151 149 150 31),(5,0,J 152 151 31),(6,0,D 153 4 1),(7,0,L 154 153 1),(8,0,M 155 12),(9,0,kX 156 154 155 31),(10,0,J 157 156 31),(11,0,D 158 14 0),(12,0,J 159 158 3),(13,4,kC 160 67 [(kt 147),(kt 152),(kt 157),(kt 159)]),(14,2,D 161 15 14),(15,0,S 161 160 15)]) (G [M 162 3,kC 163 65 [(kt 162),(kc 5)],kQi 164 163 1 false] (Y 164 (Z (K.wk (K.dops [(0,0,M 165 3),(1,0,kb 166 kz2 [(0,1,(kc 1))]),(2,0,D 167 4 1),(3,0,L 168 167 1),(4,0,M 169 12),(5,0,kX 170 168 169 31),(6,0,J 171 170 31),(7,0,D 172 14 0),(8,0,J 173 172 3),(9,11,kC 174 68 [(kt 165),(kt 166),(kt 171),(kt 173),(kc 1)]),(10,307,⟨none,.alr (some 16) 7 kz1⟩),(11,0,S 16 174 15)])) (Z (K.wk (K.dops [(0,0,M 175 3),(1,0,D 176 4 1),(2,0,L 177 176 1),(3,0,M 178 13),(4,0,kX 179 177 178 31),(5,0,J 180 179 31),(6,0,D 181 4 1),(7,0,L 182 181 1),(8,0,M 183 12),(9,0,kX 184 182 183 31),(10,0,J 185 184 31),(11,0,D 186 14 0),(12,0,J 187 186 3),(13,11,kC 188 67 [(kt 175),(kt 180),(kt 185),(kt 187)]),(14,308,⟨none,.alr (some 17) 8 kz1⟩),(15,0,S 17 188 15)])) (K.ops [M 189 3,kb 190 [ki,ki,ki] [],J 191 16 15,D 192 15 14,J 193 192 15,J 194 17 15,kd 195 39 15 3 kz4 [(0,15,(kt 191)),(15,15,(kt 193)),(30,15,(kt 194))],kC 196 66 [(kt 189),(kc 5),(kc 0),(kt 190),(kt 195)],D 197 15 14,S 197 196 15]))) ks)))
def zLd:K:=(Z (G [M 134 12,M 135 13,kQ 136 134 135 false,M 137 136,T 137 true (M 138 3),T 137 true (kC 139 65 [(kt 138),(kc 2)]),T 137 true (kQi 140 139 1 false),kPf 141 137 140] (Y 141 (K.ops [M 142 3,D 143 14 0,J 144 143 3,kC 145 66 [(kt 142),(kc 2),(kc 0),(kt 144),(.const kl)],D 146 15 14,S 146 145 15]) (K.wk zLe))) (K.wk zLf))
def zHw:K:=(Z (K.wk (K.dops [(0,0,M 105 11),(1,0,⟨none,.bin (some 106) .add (kc 30) (kt 105)⟩),(2,1,kC 107 64 [(kt 106)]),(3,0,D 108 4 1),(4,0,L 109 108 1),(5,0,M 110 12),(6,0,kX 111 109 110 31),(7,0,D 112 111 0),(8,0,J 113 112 3),(9,1,kC 114 62 [(kt 113)]),(10,0,⟨none,.build (some 115) kz5 [(0,3,(kt 107)),(3,1,(.const (.string ⟨#[111,108,100]⟩))),(4,5,(kt 114))]⟩),(11,305,⟨none,.alr (some 14) 5 kz5⟩),(12,0,S 14 115 11)])) (Z (K.wk (K.dops [(0,0,M 116 11),(1,0,⟨none,.bin (some 117) .add (kc 6) (kt 116)⟩),(2,1,kC 118 64 [(kt 117)]),(3,1,kC 119 64 [(kc 0)]),(4,0,⟨none,.bslice (some 120) 9 1 7 [(.string ⟨#[]⟩),(.string ⟨#[]⟩),(.string ⟨#[]⟩),(.string ⟨#[]⟩),(.string ⟨#[]⟩),(.string ⟨#[]⟩),(.string ⟨#[]⟩)] [(0,1,(.const (.string ⟨#[99,48]⟩))),(1,1,(.const (.string ⟨#[99,49]⟩))),(2,1,(.const (.string ⟨#[99,50]⟩))),(3,1,(.const (.string ⟨#[99,51]⟩))),(4,1,(.const (.string ⟨#[99,52]⟩))),(5,1,(.const (.string ⟨#[99,53]⟩))),(6,1,(.const (.string ⟨#[99,54]⟩)))]⟩),(5,0,M 121 11),(6,0,kX 122 120 121 1),(7,0,L 123 122 1),(8,0,J 124 14 11),(9,0,kd 125 85 11 1 kz5 [(0,11,(kt 124))]),(10,0,D 126 4 1),(11,0,L 127 126 1),(12,0,M 128 13),(13,0,kX 129 127 128 31),(14,0,D 130 129 0),(15,0,J 131 130 3),(16,1,kC 132 62 [(kt 131)]),(17,0,kb 133 kz0 [(0,3,(kt 118)),(3,1,(kc 5)),(4,3,(kt 119)),(7,1,(kt 123)),(8,1,(kt 125)),(9,5,(kt 132))]),(18,306,⟨none,.alr (some 15) 6 kz0⟩),(19,0,S 15 133 31)])) (K.wk zLd)))
def zLc:K:=(Z (G [kMi 18 0] (K.block 6 (K.loop (Z (G [M 204 18,D 205 4 1,L 206 205 1,kN 207 206,kB 208 204 207 .lss] (Y 208 ks (K.exit 6))) (Z (K.block 7 (K.dops [(0,1,D 211 4 0),(1,1,L 212 211 1),(2,0,D 213 4 0),(3,0,L 214 213 1),(4,0,kXi 215 214 6 0),(5,0,D 216 215 5),(6,0,L 217 216 1),(7,0,D 218 4 1),(8,0,L 219 218 1),(9,0,M 220 18),(10,0,kX 221 219 220 31),(11,0,D 222 221 0),(12,0,J 223 222 3),(13,0,kd 224 31 3 1 [ki,ki,ki] [(0,3,(kt 223))]),(14,0,kP 225 31 3 24 217 224),(15,0,kXi 226 212 6 0),(16,0,D 227 226 5),(17,0,S 227 225 1)])) (K.ops [M 209 18,kBi 210 209 1 .add,M 18 210])))))) (G [J 228 4 2,S 2 228 2] kr))
def zLb:K:=(G [M 80 3,kC 81 65 [(kt 80),(kc 8)],M 10 81] (Z (G [kMi 11 0] (K.block 4 (K.loop (Z (G [M 82 11,M 83 10,kB 84 82 83 .lss] (Y 84 ks (K.exit 4))) (Z (K.block 5 (G [M 87 3,M 88 5,kC 89 65 [(kt 87),(kt 88)],M 12 89] (G [M 90 3,M 91 5,kC 92 65 [(kt 90),(kt 91)],M 13 92] (Z (G [M 93 12,M 94 13,kQ 95 93 94 false,M 96 95,T 96 true (M 97 3),T 96 true (kC 98 65 [(kt 97),(kc 3)]),T 96 true (kBi 99 98 0 .gtr),kPf 100 96 99] (Y 100 (K.ops [M 101 12,kBi 102 101 1 .add,M 103 5,kB 104 102 103 .rem,M 13 104]) ks)) (K.wk zHw))))) (K.wk (K.ops [M 85 11,kBi 86 85 1 .add,M 11 86]))))))) (K.wk zLc)))
def zVK:K:=G [kZ 2 [kl,kl]] (G [M 19 0,kb 20 [kl,ki,ki] [(0,1,(kt 19)),(2,1,(kc 40))],kO 21 20,M 3 21] (G [kC 22 64 [(kc 0)],⟨none,.build (some 23) kz9 [(0,3,(kt 22)),(3,1,(.const (.string ⟨#[99,111,114,101]⟩)))]⟩,⟨none,.brow (some 24) 112 6 1 kz9 [(0,6,(kt 23))]⟩,kb 25 [kl,kl] [(0,1,(kt 24))],kZ 4 [kl,kl],S 4 25 2] (G [M 26 3,kC 27 65 [(kt 26),(kc 3)],⟨none,.bin (some 28) .add (kc 2) (kt 27)⟩,M 5 28] (Z (G [kMi 6 0] (K.block 0 (K.loop (Z (G [M 29 6,M 30 5,kB 31 29 30 .lss] (Y 31 ks (K.exit 0))) (Z (K.block 1 (Z (K.dops [(0,0,M 34 6),(1,0,⟨none,.bin (some 35) .add (kc 1) (kt 34)⟩),(2,1,kC 36 64 [(kt 35)]),(3,1,kC 37 64 [(kc 0)]),(4,0,⟨none,.bslice (some 38) 9 1 4 [(.string ⟨#[]⟩),(.string ⟨#[]⟩),(.string ⟨#[]⟩),(.string ⟨#[]⟩)] [(0,1,(.const (.string ⟨#[65]⟩))),(1,1,(.const (.string ⟨#[66]⟩))),(2,1,(.const (.string ⟨#[67]⟩))),(3,1,(.const (.string ⟨#[68]⟩)))]⟩),(5,0,M 39 6),(6,1,kX 40 38 39 1),(7,1,L 41 40 1),(8,0,kb 42 kz0 [(0,3,(kt 36)),(3,1,(kc 0)),(4,3,(kt 37)),(7,1,(kt 41))]),(9,0,kZ 7 kz0),(10,0,S 7 42 31)]) (G [M 43 3,kC 44 65 [(kt 43),(kc 2)],⟨none,.bin (some 45) .add (kc 1) (kt 44)⟩,M 8 45] (Z (G [kMi 9 0] (K.block 2 (K.loop (Z (G [M 46 9,M 47 8,kB 48 46 47 .lss] (Y 48 ks (K.exit 2))) (Z (K.block 3 (K.dops [(0,2,D 51 7 8),(1,2002,L 52 51 1),(2,0,M 53 6),(3,0,⟨none,.bin (some 54) .mul (kc 2) (kt 53)⟩),(4,0,⟨none,.bin (some 55) .add (kc 20) (kt 54)⟩),(5,0,
 M 56 9),(6,0,kB 57 55 56 .add),(7,0,kC 58 64 [(kt 57)]),(8,0,⟨none,.bslice (some 59) 9 1 2 [(.string ⟨#[]⟩),(.string ⟨#[]⟩)] [(0,1,(.const (.string ⟨#[120]⟩))),(1,1,(.const (.string ⟨#[121]⟩)))]⟩),(9,0,M 60 9),(10,2,kX 61 59 60 1),(11,2,L 62 61 1),(12,0,M 63 9),(13,0,kd 64 3 1 3 [ki,ki,ki] [(0,1,(kc 0)),(1,1,(kc 1)),(2,1,(kc 0))]),(14,0,M 65 3),(15,1002,kC 66 65 [(kt 65),(kc 3)]),(16,0,kX 67 64 66 1),(17,0,L 68 67 1),(18,0,kb 69 kz2 [(0,1,(kt 68))]),(19,0,kb 70 kz5 [(0,3,(kt 58)),(3,1,(kt 62)),(10,1,(kt 63)),(4,5,(kt 69))]),(20,0,kd 71 85 11 1 kz5 [(0,11,(kt 70))]),(21,0,kP 72 85 11 112 52 71),(22,2,D 73 7 8),(23,0,S 73 72 1)])) (K.ops [M 49 9,kBi 50 49 1 .add,M 9 50])))))) (K.wk (K.ops [D 74 4 1,L 75 74 1,J 76 7 31,kd 77 41 31 1 kz0 [(0,31,(kt 76))],kP 78 41 31 352 75 77,D 79 4 1,S 79 78 1])))))) (K.ops [M 32 6,kBi 33 32 1 .add,M 6 33])))))) (K.wk zLb)))))
def qFC:Nat->Option wD:=fun|12=>k_ [2,2002,0,0,0,0,0,0,0,0,2,2,0,0,0,1002,0,0,0,0,0,0,2,0] | 22=>k_ [0,0,1,0,0,0,0,0,0,1,0,305,0] | 23=>k_ [0,0,1,1,0,0,0,0,0,0,0,0,0,0,0,0,1,0,306,0] | 26=>k_ [0,0,0,0,0,0,0,0,0,0,0,0,0,4,2,0] | 28=>k_ [0,0,0,0,0,0,0,0,0,11,307,0] | 29=>k_ [0,0,0,0,0,0,0,0,0,0,0,0,0,11,308,0]|_=>none
theorem qEs:kx f28 qFC zVK:=mz (by kernel_rfl)
section
variable{l:wB}
def nX:wE:=[int (idR 0).a,int (idR 0).b,int (idR 0).c,.lit (.string ⟨#[99,111,114,101]⟩),.nil,.nil]
def stG(l:wB)(m:Gm)(Ds:wQ):St :=
 [.box [.nil,.nil],.box (gB l m),.row false 112 6 1 nX,.box [.row 2 1,.row 4 Ds.length],.row false 41 31 Ds.length (z6 Ds)]
theorem zG0(a b:Dfn)(s:Id)(m:Gm)(h:b.slots.length<=6):Gst m (fO l a b s m).2 400:=by
 unfold fO;have h1:=zDD (l:=l) b a s m h;split
 .have h2:=fR l a s 1 1 (sR l b a s m).2.tick;have h3:=zDD (l:=l) b a s (cJ l a s 1 1 (sR l b a s m).2.tick).2 h;exact((((h1.trans (qR _) (jAd _)).trans h2 (jAd _)).trans h3 (jAd _)).trans (fQ _ _ _ _ _) (by simp[gC]))
 .exact h1.trans (qR _) (by omega)
def fG(l:wB)(x y:Nat)(A B:Dfn)(s:Id)(m:Gm):Exp×Gm:=if x=y then (if gN l m 2=1 then bD m.tick 2 0 s []else fO l A B s m.tick)else fO l A B s m
theorem zLG(x y:Nat)(a b:Dfn)(s:Id)(m:Gm)(h:b.slots.length<=6):Gst m (fG l x y a b s m).2 401:=by
 unfold fG;split
 .split
  .exact(qR m).trans (fQ _ _ _ _ _) (by omega)
  .exact(qR m).trans (zG0 a b s _ h) (by omega)
 .exact(zG0 a b s _ h).mono (by omega)
theorem zNu{Ds:wQ}{k:Nat}(h:k<Ds.length):∃a:wE,zK Ds[k]=a/\(∀rf g,vwL rf g a=a)/\jO a=a/\(∀n,dT n a=true)/\(z6 Ds).drop (k*31)=a++z6 (Ds.drop (k+1))/\(∀R:wE,List.take 31 (a++R)=a)/\k*31+31<=Ds.length*31 :=
 ⟨_,rfl,fun rf g=>(bP _).2 _ _,(bP _).1,fun n=>(bP _).bnd n,yD h,fun R=>List.take_left' (zJg _),by omega⟩
theorem zSA(hl:∀x∈l,w64 x=x)(Q:Ex->wK)(m:Gm)(hok:m.Ok 450)(Ds:wQ)(x y i:Nat)(hx:x<Ds.length)(hy:y<Ds.length)(hD:Ds.length<=100)(many cv:Int)(u:Slt)(d:Dfn)(hd:d.body=Exp.zero)
 (h1:Ds[x].slots.length<=6)(h2:Ds[y].slots.length<=6)(hf:∀u∈Ds[y].slots,u.typ=tK u.typ.k/\(u.typ.k=0\/u.typ.k=1))
 (hQ:∀env' U',bW 0 (qS [(2,.ptr 0 0),(3,.ptr 1 0),(4,.ptr 3 0),(5,int many),(10,int cv),(11,int i),(15,.ptr 6 0)]) (stG l (fO l Ds[x] Ds[y] u.id m).2 Ds++[.box (j4 u),.box (zK {d with body:=(fO l Ds[x] Ds[y] u.id m).1})]) env' U'->Q .norm env' U') :
 wpK prog 0 zLe Q (qS [(2,.ptr 0 0),(3,.ptr 1 0),(4,.ptr 3 0),(5,int many),(10,int cv),(11,int i),(12,int x),(13,int y),(14,.ptr 5 0),(15,.ptr 6 0)])
  (stG l m Ds++[.box (j4 u),.box (zK d)]):=by
 obtain⟨r,hr⟩:∃r,r=sR l Ds[y] Ds[x] u.id m:=⟨_,rfl⟩;have g1:=zGw hl Ds[y] Ds[x] u.id h2 h1 hf m (hok.mono (by omega));have s1:=zDD (l:=l) Ds[y] Ds[x] u.id m h2;rw[<-hr]at g1 s1;have n1:=eF (l:=l) r.2 5 (by omega) (hok.adv s1 (by omega));obtain⟨ax,eax,vx,nx,bx,dx,tx,lx⟩:=zNu hx;obtain⟨ay,eay,vy,ny,by_,dy,ty,ly⟩:=zNu hy;rw[eax,eay]at g1;have hne:Ds≠[]:=fun e=>by rw[e]at hx;simp at hx
 unfold zLe;simp[stG,gB,j4,dx,dy,tx,ty,lx,ly,hx,hy,hne];refine bV g1 [1] (by decide) (by simp[gS,gB]) (by simp[vx,vy,zL]) ?_;simp[gS,gB,zK];refine mr n1 [1] (by simp[gS,gB]) ?_;have hrec:∀q:Exp×Gm,fO l Ds[x] Ds[y] u.id m=q->∀E S,bW 0 (qS [(2,.ptr 0 0),(3,.ptr 1 0),(4,.ptr 3 0),(5,int many),(10,int cv),(11,int i),(15,.ptr 6 0)]) (stG l q.2 Ds++[.box (j4 u),.box (zK {d with body:=q.1})]) E S->Q .norm E S:=fun q hq E S hw=>hQ E S (by rw[hq];exact hw)
 by_cases h5:gN l r.2 5=1
 .have st1:Gst m r.2.tick 171:=s1.trans (qR _) (by omega);obtain⟨c,hc⟩:∃c,c=cJ l Ds[x] u.id 1 1 r.2.tick:=⟨_,rfl⟩;have c1:=zB6 hl Ds[x] u.id h1 1 (by omega) r.2.tick 1 (.inr rfl) (hok.adv st1 (by simp[gC]));have s2:=fR l Ds[x] u.id 1 1 r.2.tick;rw[<-hc]at c1 s2;have st2:Gst m c.2 182:=st1.trans s2 (by simp[gC]);obtain⟨r2,hr2⟩:∃r2,r2=sR l Ds[y] Ds[x] u.id c.2:=⟨_,rfl⟩;have g2:=zGw hl Ds[y] Ds[x] u.id h2 h1 hf c.2 (hok.adv st2 (by omega));have s3:=zDD (l:=l) Ds[y] Ds[x] u.id c.2 h2;rw[<-hr2]at g2 s3;have n2:=cV (l:=l) r2.2 5 0 Id.zero [c.1,r.1,r2.1] (hok.adv (st2.trans s3 (jAd _)) (by omega));rw[eax,eay]at g2;rw[eax]at c1;have hq:fO l Ds[x] Ds[y] u.id m=bD r2.2 5 0 Id.zero [c.1,r.1,r2.1]:=by simp only[fO,<-hr,if_pos h5,<-hc,<-hr2]
  simp[gS,gB,h5];refine⟨_,_,yN 1,?_⟩;simp[List.replicate,dx,dy,tx,ty,lx,ly,hx,hy,hne];refine zNt c1 [1] (by decide) (by simp[gS]) (by simp[gS]) (by simp[gS,gB]) (by simp[vx,zL,zB,tK,jR,Typ.k,Typ.id,Typ.kids]) (by simp[gS]) ?_;simp[gS,gB];refine⟨_,_,yN 1,?_⟩;simp[List.replicate,dx,dy,tx,ty,lx,ly,hx,hy,hne];refine zNt g2 [1] (by decide) (by simp[gS]) (by simp[gS]) (by simp[gS,gB]) (by simp[vx,vy,zL]) (by simp[gS]) ?_;simp[gS,gB,zJ];refine mr n2 [1] (by simp[gS,gB,zL,Id.zero,zO,zJ]) ?_;simp[gS,gB,zJ];exact hrec _ hq _ _ (mw [0,1,2,3,4,5,6] 0 (by rfl) (by simp[stG,gB,nX,j4,zK,zJ]))
 .have hq:fO l Ds[x] Ds[y] u.id m=(r.1,r.2.tick):=by simp only[fO,<-hr,if_neg h5]
  simp[gS,gB,h5];exact hrec _ hq _ _ (mw [0,1,2,3,4,5,6] 0 (by rfl) (by simp[stG,gB,nX,j4,zK,zJ]))
theorem zMq(Q:Ex->wK)(m:Gm)(Ds:wQ)(i:Nat)(hD:Ds.length<=100)(many cv:Int)(u:Slt)(d:Dfn)
 (hQ:∀env' U',bW 0 (qS [(2,.ptr 0 0),(3,.ptr 1 0),(4,.ptr 3 0),(5,int many),(10,int cv),(11,int i)]) (stG l m (Ds++[d])) env' U'->Q .norm env' U') :
 wpK prog 0 zLf Q (qS [(2,.ptr 0 0),(3,.ptr 1 0),(4,.ptr 3 0),(5,int many),(10,int cv),(11,int i),(15,.ptr 6 0)]) (stG l m Ds++[.box (j4 u),.box (zK d)]):=by
 unfold zLf;simp[stG,gB,zK];refine⟨⟨by simp[maxLen];omega,by omega⟩,?_⟩;exact hQ _ _ (mw [0,1,2,3,4] 0 (by rfl) (by simp[stG,gB,nX,x7,uL,zK]))
theorem zZ8(hl:∀x∈l,w64 x=x)(Q:Ex->wK)(m:Gm)(hok:m.Ok 500)(Ds:wQ)(x y i:Nat)(hx:x<Ds.length)(hy:y<Ds.length)(hD:Ds.length<=100)(many cv:Int)(u:Slt)(d:Dfn)(hd:d.body=Exp.zero)
 (h1:Ds[x].slots.length<=6)(h2:Ds[y].slots.length<=6)(hf:∀u∈Ds[y].slots,u.typ=tK u.typ.k/\(u.typ.k=0\/u.typ.k=1))
 (hQ:∀env' U',bW 0 (qS [(2,.ptr 0 0),(3,.ptr 1 0),(4,.ptr 3 0),(5,int many),(10,int cv),(11,int i)]) (stG l (fG l x y Ds[x] Ds[y] u.id m).2 (Ds++[{d with body:=(fG l x y Ds[x] Ds[y] u.id m).1}])) env' U'->Q .norm env' U') :
 wpK prog 0 zLd Q (qS [(2,.ptr 0 0),(3,.ptr 1 0),(4,.ptr 3 0),(5,int many),(10,int cv),(11,int i),(12,int x),(13,int y),(14,.ptr 5 0),(15,.ptr 6 0)])
  (stG l m Ds++[.box (j4 u),.box (zK d)]):=by
 have hrec:∀q:Exp×Gm,fG l x y Ds[x] Ds[y] u.id m=q->∀E S,bW 0 (qS [(2,.ptr 0 0),(3,.ptr 1 0),(4,.ptr 3 0),(5,int many),(10,int cv),(11,int i)]) (stG l q.2 (Ds++[{d with body:=q.1}])) E S->Q .norm E S:=fun q hq E S hw=>hQ E S (by rw[hq];exact hw)
 unfold zLd;by_cases hxy:x=y
 .have n1:=eF (l:=l) m 2 (by omega) (hok.mono (by omega));have hxy':(x:Int)=y:=by omega
  simp[stG,gB,hxy'];refine mr n1 [1] (by simp[gS,gB]) ?_;by_cases h2':gN l m 2=1
  .have hq:fG l x y Ds[x] Ds[y] u.id m=bD m.tick 2 0 u.id []:=by simp only[fG,if_pos hxy,if_pos h2']
   have n2:=cV (l:=l) m.tick 2 0 u.id [] (hok.adv (qR m) (by omega));simp[gS,gB,h2',j4,zK];refine mr n2 [1] (by simp[gS,gB,zL]) ?_;simp[gS,gB,zJ];refine⟨_,_,kf [0,1,2,3,4,5,6] 0 (by rfl) ?_ (by simp),zMq Q _ Ds i hD many cv u _ (hrec _ hq)⟩;simp[stG,gB,nX,j4,zK,zJ]
  .have hq:fG l x y Ds[x] Ds[y] u.id m=fO l Ds[x] Ds[y] u.id m.tick:=by simp only[fG,if_pos hxy,if_neg h2']
   simp[gS,gB,h2'];refine⟨_,_,kf [0,1,2,3,4,5,6] 0 (by rfl) ?_ ?_,zSA hl _ m.tick (hok.adv (qR m) (by omega)) Ds x y i hx hy hD many cv u d hd h1 h2 hf ?_⟩
   .simp[stG,gB,nX,j4]
   .simp[hxy']
   .intro E S hw;simp;exact⟨_,_,hw,zMq Q _ Ds i hD many cv u _ (hrec _ hq)⟩
 .have hxy':¬(x:Int)=y:=by omega
  have hq:fG l x y Ds[x] Ds[y] u.id m=fO l Ds[x] Ds[y] u.id m:=by simp only[fG,if_neg hxy]
  simp[stG,gB,hxy'];refine⟨_,_,kf [0,1,2,3,4,5,6] 0 (by rfl) ?_ ?_,zSA hl _ m (hok.mono (by omega)) Ds x y i hx hy hD many cv u d hd h1 h2 hf ?_⟩
  .simp[stG,gB,nX,j4]
  .simp
  .intro E S hw;simp;exact⟨_,_,hw,zMq Q _ Ds i hD many cv u _ (hrec _ hq)⟩
theorem qEA{i:Nat}(h:i<7):∃R,List.drop i [A.lit (.string ⟨#[99,48]⟩),.lit (.string ⟨#[99,49]⟩),.lit (.string ⟨#[99,50]⟩),.lit (.string ⟨#[99,51]⟩),.lit (.string ⟨#[99,52]⟩),.lit (.string ⟨#[99,53]⟩),.lit (.string ⟨#[99,54]⟩)]=.lit (.string (cT.getD i ⟨#[]⟩))::R:=by
 have:i=0\/i=1\/i=2\/i=3\/i=4\/i=5\/i=6:=by omega
 rcases this with rfl|rfl|rfl|rfl|rfl|rfl|rfl<;>exact⟨_,rfl⟩
def zLI(i:Nat)(a:Id):Slt:=⟨idR ((30+i:Nat):Int),⟨#[111,108,100]⟩,yO a,0,0⟩
def zLH(i:Nat)(a b:Id):Dfn:=⟨idR ((6+i:Nat):Int),5,idR 0,cT.getD i ⟨#[]⟩,[zLI i a],yO b,.zero,0,[]⟩
theorem zZ7(hl:∀x∈l,w64 x=x)(Q:Ex->wK)(m:Gm)(hok:m.Ok 500)(Ds:wQ)(x y i:Nat)(hx:x<Ds.length)(hy:y<Ds.length)(hD:Ds.length<=100)(hi:i<7)(many cv:Int)
 (h1:Ds[x].slots.length<=6)(h2:Ds[y].slots.length<=6)(hf:∀u∈Ds[y].slots,u.typ=tK u.typ.k/\(u.typ.k=0\/u.typ.k=1))
 (hQ:∀env' U',bW 0 (qS [(2,.ptr 0 0),(3,.ptr 1 0),(4,.ptr 3 0),(5,int many),(10,int cv),(11,int i)]) (stG l (fG l x y Ds[x] Ds[y] (idR ((30+i:Nat):Int)) m).2 (Ds++[{zLH i Ds[x].id Ds[y].id with body:=(fG l x y Ds[x] Ds[y] (idR ((30+i:Nat):Int)) m).1}])) env' U'->Q .norm env' U') :
 wpK prog 0 zHw Q (qS [(2,.ptr 0 0),(3,.ptr 1 0),(4,.ptr 3 0),(5,int many),(10,int cv),(11,int i),(12,int x),(13,int y)]) (stG l m Ds):=by
 have w30:=z8 (30+(i:Int)) (by omega);have w6:=z8 (6+(i:Int)) (by omega);have i1:=vA (30+(i:Int));have i2:=vA (6+(i:Int));have i3:=vA 0;have o1:=zDl Ds[x].id;have o2:=zDl Ds[y].id;have dx:=yD hx;have dy:=yD hy;have bx:x*31+3<=Ds.length*31:=by omega
 have by_:y*31+3<=Ds.length*31:=by omega
 have hne:Ds≠[]:=fun e=>by rw[e]at hx;simp at hx
 obtain⟨R,hcT⟩:=qEA hi;unfold zHw;simp[stG,gB];refine⟨_,_,yN 1,?_⟩;simp[List.replicate,w30];refine j3 i1 (by simp) (by simp[zL]) ?_;simp[hx,hy,hne,dx,dy,bx,by_,zK];refine j3 o1 (by simp[zL]) (by simp[zB]) ?_;simp[zB,zL];refine⟨_,_,yN 1,?_⟩;simp[List.replicate,w6];refine j3 i2 (by simp) (by simp[zL]) ?_;refine j3 i3 (by simp) (by simp[zL]) ?_;have hi':(i:Int)<7:=by omega
 simp[hi,hi',hcT,hy,hne,dy,by_,zK];refine j3 o2 (by simp[zL]) (by simp[zB]) ?_;simp[zB,zL];refine⟨_,_,kf [0,1,2,3,4,5,6] 0 (by rfl) ?_ (by simp),zZ8 hl Q m hok Ds x y i hx hy hD many cv (zLI i Ds[x].id) (zLH i Ds[x].id Ds[y].id) rfl h1 h2 hf hQ⟩;simp[stG,gB,nX,j4,zK,zLI,zLH,yO,Typ.k,Typ.id,Typ.kids,Exp.zero,Id.zero,Typ.zero,mB,zB]
end
def zWN:Nat->Option wD:=fun|8=>k_ [1,0,0,0,0,0,0,1,0,0,0,0,302,303,0,0,0] | 13=>k_ [1,0,0,0,0,0,0,0,1,1,1,0,0,0,0,304,305,0,0,0]|_=>none
def mL(p:Prg)(x:Id):Typ×Typ:=(yG p x).getD (.zero,.zero)
def mR(p:Prg)(k:Nat):Id:=(aI p).getD (k % (aI p).length) Id.zero
def zP3(p:Prg)(k:Nat)(to:Typ):wC:=(List.range (aI p).length).find? fun j=>y7 (mL p (mR p (k+j))).1 to
def zMs(p:Prg)(l:wB)(i:Nat):Nat:=(atV l (2+i) (aI p).length).toNat
def zKo(p:Prg)(path:wF):Typ:=(mL p (path.getLastD Id.zero)).2
def iZ(p:Prg)(l:wB):Nat->wF
 | 0=>[mR p (atV l 0 (aI p).length).toNat]
 |i+1=>match zP3 p (zMs p l i) (zKo p (iZ p l i))with
  |some j=>iZ p l i++[mR p (zMs p l i+j)]
  |none=>iZ p l i
def zMt(p:Prg)(l:wB)(most:Int):wF:=if aI p=[]then []else iZ p l (atV l 1 most).toNat
theorem zC9(p:Prg)(l:wB):∀i,(iZ p l i).length<=i+1/\0<(iZ p l i).length
 | 0=>by simp[iZ]
 |i+1=>by
  have:=zC9 p l i;unfold iZ;split
  .simp only[jA5,jA9,jB9];omega
  .omega
theorem zQ8{p:Prg}{k:Nat}(h:k<(aI p).length):mR p k=(aI p)[k]:=by unfold mR;rw[Nat.mod_eq_of_lt h,oV h]
theorem zZ9(p:Prg)(hp:p.defs.length<=100)(l:wB)(hl:∀x∈l,w64 x=x)(most:Int)(hm:0<most)(hm2:most<=100) :
 my 11 [.agg (zN p),.sl l.length (yC l),int most] [] (.sl (zMt p l most).length (zV (zMt p l most))) []:=by
 have hP:=eP p;have hcl:(aI p).length<=100:=by have h1:=zNp p p.defs.length;rw[zNo]at h1;omega
 refine ml zWN [40,64] [30] [] [.slot 6] func11 (by kernel_rfl) ?_
 (conv in kH _ _ _=>cbv)
 simp[hP];refine mu (zQZ p hp) (by simp[hP]) ?_;by_cases h0:aI p=[]
 .simp[h0];exact zA 0 (by simp[zMt,h0])
 .have hlen:0<(aI p).length:=List.length_pos_iff.2 h0;have hlen':¬((aI p).length:Int)=0:=by omega
  have a0:=dK l 0 (aI p).length (by omega);have a1:=dK l 1 most hm;obtain⟨r0,r1⟩:=jT (i:=0) hl (show (0:Int)<(aI p).length by omega);obtain⟨k0,hk0⟩:∃k0:Nat,atV l 0 (aI p).length=k0:=⟨(atV l 0 (aI p).length).toNat,by omega⟩;obtain⟨s0,s1⟩:=jT (i:=1) hl hm;obtain⟨N,hN⟩:∃N:Nat,atV l 1 most=N:=⟨(atV l 1 most).toNat,by omega⟩;rw[hk0]at a0 r1;rw[hN]at a1 s1;have hkl:k0<(aI p).length:=by omega
  have hg0:iZ p l 0=[(aI p)[k0]]:=by simp only[iZ,hk0,jCk,zQ8 hkl]
  have hv:zMt p l most=iZ p l N:=by simp[zMt,h0,hN]
  rw[hv];simp[h0,hlen'];intro hmx;refine mu a0 (by simp) ?_;simp[hkl,h0,yA hkl];refine qO (S:=Nat) (fun i=>[(1,.sl l.length (yC l)),(2,int most),(3,.ptr 0 0),(7,.sl (aI p).length (zV (aI p))),(8,.row 1 (iZ p l i).length),(9,int (i+1))])
   (fun i=>[.box (zN p),.row false 31 3 (iZ p l i).length (zV (iZ p l i))]) (fun i=>i<=N) (fun i=>N-i) 0 (by simp)
   (mw [0,1] 0 (by rfl) (by simp[hP,hg0,zV])) ?_
  intro i hi;have hgl:=zC9 p l i;simp[hP];refine mu a1 (by simp) ?_;have w1:=z8 (1+(N:Int)) (by omega);by_cases h:i<N
  .have hI:(i:Int)+1<1+N:=by omega
   have hstep:iZ p l (i+1)=match zP3 p (zMs p l i) (zKo p (iZ p l i))with
    |some j=>iZ p l i++[mR p (zMs p l i+j)]
    |none=>iZ p l i:=rfl
   obtain⟨g,hgi⟩:∃g,g=iZ p l i:=⟨_,rfl⟩;rw[<-hgi]at hgl hstep ⊢;have hgn:g.length-1<g.length:=by omega
   have hto:zKo p g=(mL p g[g.length-1]).2:=by
    unfold zKo
    congr 2
    rw[List.getLastD_eq_getLast?,List.getLast?_eq_getElem?,jA1 hgn];rfl
   generalize zKo p g=to at hstep hto;have wl:IntKind.i64.wrap ((g.length:Int)-1)=((g.length-1:Nat):Int):=by rw[show ((g.length-1:Nat):Int)=(g.length:Int)-1 by omega];exact IntWalk.i64_in _ (by omega)
   have hle:my 13 [.agg (zN p),.agg (zL g[g.length-1])] [] (.tup [.agg (zB (mL p g[g.length-1]).1),.agg (zB (mL p g[g.length-1]).2),bl (yG p g[g.length-1]).isSome]) []:=nU p (by omega) g[g.length-1];rw[<-hto]at hle;generalize (mL p g[g.length-1]).1=fr at hle;have hb:(g.length-1)*3+3<=g.length*3:=by omega
   have w2:IntKind.i64.wrap (1+((i:Int)+1))=2+i:=by rw[show 1+((i:Int)+1)=2+i by omega];exact IntWalk.i64_in _ (by omega)
   have wi:=z8 ((i:Int)+1+1) (by omega);have a2:=dK l (2+i) (aI p).length (by omega);obtain⟨t0,t1⟩:=jT (i:=2+i) hl (show (0:Int)<(aI p).length by omega);have hk:atV l (2+i) (aI p).length=(zMs p l i:Int):=by unfold zMs;omega
   rw[hk]at a2 t1;generalize zMs p l i=k at *
   have hgne:¬g=[]:=fun e=>by rw[e]at hgn;simp at hgn
   simp[w1,hI];refine⟨_,_,yN 2,?_⟩;simp[List.replicate,wl,yA hgn,hgn,hb];refine j3 hle (by simp[hP,zL]) (by simp[zB]) ?_;simp[zB,w2];intro _;refine mu a2 (by simp) ?_;simp;refine qO (S:=Nat) (fun j=>[(1,.sl l.length (yC l)),(2,int most),(3,.ptr 0 0),(7,.sl (aI p).length (zV (aI p))),(8,.row 1 g.length),(9,int (i+1)),(10,.ptr 2 0),(11,.ptr 3 0),(13,int k),(14,int j)])
    (fun j=>[.box (zN p),.row false 31 3 g.length (zV g),.box (zB fr),.box (zB to)]) (fun j=>j<=(aI p).length/\∀j',j'<j->y7 (mL p (mR p (k+j'))).1 to=false) (fun j=>(aI p).length-j) 0 ⟨by omega,fun j' h=>by omega⟩
    (mw [0,1,2,3] 0 (by rfl) (by simp[hP,zB])) ?_
   rintro j ⟨hj,hno⟩;by_cases hj2:j<(aI p).length
   .have wkj:=z8 ((k:Int)+j) (by omega);have hm3:((k:Int)+j).tmod (aI p).length=(((k+j) % (aI p).length:Nat):Int):=by rw[jD1 (by omega)];simp
    have hmlt:(k+j) % (aI p).length<(aI p).length:=Nat.mod_lt _ hlen;have hall:mR p (k+j)=(aI p)[(k+j) % (aI p).length]:=by unfold mR;rw[oV hmlt]
    have hw:=qF hj2 hmx;have hle2:my 13 [.agg (zN p),.agg (zL (mR p (k+j)))] [] (.tup [.agg (zB (mL p (mR p (k+j))).1),.agg (zB (mL p (mR p (k+j))).2),bl (yG p (mR p (k+j))).isSome]) []:=nU p (by omega) (mR p (k+j));have hsm:=iI (mL p (mR p (k+j))).1 to;have hfind:y7 (mL p (mR p (k+j))).1 to=true->zP3 p k to=some j:=fun hs=>by unfold zP3;rw[List.find?_eq_some_iff_getElem];exact⟨hs,j,by simpa using hj2,by simp,fun j' hj'=>by simp[hno j' hj']⟩
    rw[hall]at hle2 hsm hfind;generalize hmm:(k+j) % (aI p).length=mm at *
    simp[hP,zB,hj2];intro _;refine⟨_,_,yN 2,?_⟩;simp[List.replicate,wkj,hm3,hlen',h0,hmlt,yA hmlt];refine j3 hle2 (by simp[hP,zL]) (by simp[zB]) ?_;simp[zB];refine mu hsm (by simp[zB]) ?_;cases hs:y7 (mL p (aI p)[mm]).1 to
    .simp;exact zS (j+1) ⟨hj2,fun j' hj'=>by
      by_cases e:j'=j
      .subst e;rw[hall];exact hs
      .exact hno j' (by omega)⟩ (by omega) (mw [0,1,2,3] 0 (by rfl) (by simp[hP,zB,hw]))
    .rw[hfind hs]at hstep;simp only[hall]at hstep;simp[wkj,hm3,hlen',h0,hmlt,yA hmlt];intro _;refine⟨⟨by simp[maxLen];omega,by omega⟩,?_⟩;exact zS (i+1) h (by omega) (mw [0,1] 0 (by rfl) (by simp[hP,hstep,yH,zV,wi]))
   .have hjE:j=(aI p).length:=by omega
    subst hjE;have hnone:zP3 p k to=none:=by unfold zP3;rw[jCv];intro j' hj';rw[hno j' (by simpa using hj')];simp
    rw[hnone]at hstep;simp[hP,zB];exact fun _=>zS (i+1) h (by omega) (mw [0,1] 0 (by rfl) (by simp[hP,hstep,wi]))
  .have hI:¬(i:Int)+1<1+N:=by omega
   have hiN:i=N:=by omega
   subst hiN;simp[w1,hI]
   first|exact zA 1 (by simp)|exact fun _=>zA 1 (by simp)
end Go.Proofs.YtdnelmeboihpkaaGreatDoor
