/- convert.Field. -/
import Derived.Test.YtdnelmeboihpkaaGreatDoorX19
import Derived.Handy
import Derived.Deep.Draws
import Derived.Deep.RegionLaw
import Derived.Laws.IdiomCopy
import Derived.Laws.Rows
set_option linter.unusedVariables false
set_option maxHeartbeats 8000000
set_option maxRecDepth 100000
set_option linter.unusedSimpArgs false
open Go.Proofs.Tryz
namespace Go.Proofs.YtdnelmeboihpkaaGreatDoor
open Go.Abs
mutual
theorem zNO(D D':wE)(u:Slt)(hD:D.drop 8=.sl 1 (j8 u)::D')(hv:∀rf g,vwL rf g D=D)(hn:jT D=D):∀e:Exp,zQw D u.id e
 | .mk i k n r t ks ns=>zPa D D' u hD hv hn _ (zJL D D' u hD hv hn ks)
theorem zJL(D D':wE)(u:Slt)(hD:D.drop 8=.sl 1 (j8 u)::D')(hv:∀rf g,vwL rf g D=D)(hn:jT D=D):∀(l:wG),∀k∈l,zQw D u.id k
 |[],k,hk=>by cases hk
 |e::l,k,hk=>by
  rcases jA3.1 hk with h|h
  .rw[h];exact zNO D D' u hD hv hn e
  .exact zJL D D' u hD hv hn l k h
end
def zXg:Nat->Option wD:=fun|2=>k_ [0,0,0,0,0,0,0,0,2,2,0,0,0,0]|_=>none
def zGx(p:Prg)(t:Typ):Bool:=(jK p.defs t.id).isSome&&(decide (t.k=3)&&decide (((jK p.defs t.id).getD .zero).kind=0))
theorem zH3(p:Prg)(t:Typ):mv 57 [.agg (zP p),.agg (zB t)] [] (.tup [.agg (zJ ((jK p.defs t.id).getD .zero)),bl (zGx p t)]) []:=by
 have hP:=eP p;have hdf:=oE p t.id;unfold zGx;unfold bR at hdf;generalize (jK p.defs t.id).getD .zero=d at *
 generalize (jK p.defs t.id).isSome=b at *
 refine mh zXg [15] [] [] [.cell 4 31 true,.slot 5] func57 (by kernel_rfl) ?_
 (conv in kH _ _ _=>cbv)
 simp[hP,zB];refine mq hdf (by simp[zP,zK]) ?_;simp[zJ];refine⟨_,_,zM (l:=[(3,.rptr (zB t)),(4,.ptr 0 0),(6,.rptr (zJ d)),(7,bl b)]) (U':=[.box (kz0.map jN)]) [2] 1 (by simp) (by simp) (by simp) (by simp[zJ,zB]),?_⟩;cases b
 .simp[zJ];exact zA 0 (by simp[zJ])
 .by_cases h0:t.k=3
  .by_cases h1:d.kind=0
   all_goals
    simp[zJ,zB,h0,h1];exact zA 0 (by simp[zJ,h0,h1])
  .simp[zJ,zB,h0];exact zA 0 (by simp[zJ,h0])
def zLu:K:=(G [L 80 16 1,J 81 13 15,⟨none,.call (some 82) (kt 80) [(kt 81),(.const (.bool false))]⟩] (G [kMn 17] (Z (G [D 83 9 8,L 84 83 1,kN 85 84,kMi 86 0] (K.block 0 (K.loop (G [kB 87 86 85 .lss] (Z (Y 87 ks (K.exit 0)) (Z (K.block 1 (G [M 88 86,M 18 88] (G [L 89 15 1,M 90 89,T 90 false (L 91 14 1),T 90 false (M 92 18),⟨some (90,false),.mop (some 93) (.get 1 (.bool false) false) [(kt 91),(kt 92)]⟩,kPt 94 90 93] (Y 94 (K.ops [M 95 17,M 96 18,kd 97 3 1 1 [ki] [(0,1,(kt 96))],kP 98 3 1 8 95 97,M 17 98]) ks)))) (K.ops [kBi 99 86 1 .add,M 86 99]))))))) (G [M 100 17,M 6 100] kr))))
def zLt:K:=(G [⟨none,.mop (some 78) (.mk 1) []⟩,kZ 14 [(.map none)],S 14 78 1] (G [kZ 15 [(.bool false)],⟨none,.st none (kt 15) (.const (.bool false)) 1⟩] (G [kZ 16 [.nilFunc]] (G [⟨none,.clo (some 79) 58 [] [(kt 7),(kt 15),(kt 14),(kt 16)]⟩,S 16 79 1] (K.wk zLu)))))
def zVQ:K:=G [kO 3 0,kO 4 1,kMn 6] (G [J 20 3 2,J 21 4 3,kC 22 56 [(kt 20),(kt 21)],M 19 22,kE 23 19 0,kE 24 19 1,kZ 7 kz0,S 7 23 31,M 8 24] (Z (G [M 25 8,kR 26 25] (Y 26 (G [kMn 6] kr) ks)) (Z (K.dops [(0,1,J 28 3 2),(1,1,D 29 7 8),(2,1,L 30 29 1),(3,1,kXi 31 30 11 0),(4,1,D 32 31 4),(5,1,J 33 32 5),(6,1,kC 34 57 [(kt 28),(kt 33)]),(7,0,M 27 34),(8,0,kE 35 27 0),(9,0,kE 36 27 1),(10,0,kZ 9 kz0),(11,0,S 9 35 31),(12,0,M 10 36)]) (G [J 38 3 2,D 39 7 9,J 40 39 5,kC 41 57 [(kt 38),(kt 40)],M 37 41,kE 42 37 0,kE 43 37 1,kZ 11 kz0,S 11 42 31,M 12 43] (Z (G [M 44 10,kR 45 44,M 46 45,T 46 false (M 47 12),T 46 false (kR 48 47),kPt 49 46 48,M 50 49,T 50 false (M 51 2),T 50 false (kBi 52 51 0 .lss),kPt 53 50 52,M 54 53,T 54 false (M 55 2),T 54 false (D 56 11 8),T 54 false (L 57 56 1),T 54 false (kN 58 57),T 54 false (kB 59 55 58 .geq),kPt 60 54 59] (Y 60 (G [kMn 6] kr) ks)) (G [D 61 7 14,J 62 61 15,kZ 13 kz1,S 13 62 15] (Z (G [D 63 13 3,L 64 63 1,kQi 65 64 7 false,M 66 65,T 66 true (M 67 2),T 66 true (D 68 13 13),T 66 true (L 69 68 1),T 66 true (kN 70 69),T 66 true (kB 71 67 70 .lss),kPf 72 66 71] (Y 72 (K.ops [D 73 13 13,L 74 73 1,M 75 2,kX 76 74 75 15,J 77 76 15,S 13 77 15]) ks)) (K.wk zLt))))))))
theorem qEt:kw f24 zVQ:=my (by kernel_rfl)
def uW(e:Exp)(to:Int):Exp:=if e.k=7/\to<e.kids.length then e.kids.getD to.toNat .zero else e
def zAA(p:Prg)(conv:Id)(to:Int):wB:=match jK p.defs conv with
 |none=>[]
 |some d=>if d.kind=5 then (match d.slots with
  |[u]=>if zGx p u.typ=true/\zGx p d.res=true/\0<=to/\to<((jK p.defs d.res.id).getD .zero).slots.length then xY u.id (uW d.body to) ((jK p.defs u.typ.id).getD .zero).slots.length else []
  |_=>[])else []
@[simp]theorem qGn(x:Int):yH [x]=[int x]:=rfl
@[simp]theorem qBr:yH []=[]:=rfl
def zKG(s:Id)(e:Exp)(i:Nat):wB:=(zAQ i).filter fun x=>rG s e false||decide (x∈zCH s e)
theorem zKJ(i:Nat):zAQ (i+1)=zAQ i++[(i:Int)]:=by simp[zAQ,List.range_succ]
theorem zPO(s:Id)(e:Exp)(i:Nat):zKG s e (i+1)=zKG s e i++(if (rG s e false||decide ((i:Int)∈zCH s e))=true then [(i:Int)]else []):=by
 unfold zKG;rw[zKJ,jD7]
 congr 1
 rw[List.filter_cons,List.filter_nil]
theorem zST(s:Id)(e:Exp)(i:Nat):(zKG s e i).length<=i:=by
 have:=jCn (fun x=>rG s e false||decide (x∈zCH s e)) (zAQ i)
 simpa[zKG,zAQ]using this
abbrev zZh(l:wB):=fin [RS.slot 6] (uQ 0 (.sl l.length (yH l)) [])
theorem qFR(D D':wE)(u:Slt)(hD:D.drop 8=.sl 1 (j8 u)::D')(hv:∀rf g,vwL rf g D=D)(hn:jT D=D)(a:Dfn)(ha:a.slots.length<=1000)(e:Exp) :
 wpK prog 0 zLu (zZh (xY u.id e a.slots.length)) (qV [(9,.rptr (zJ a)),(13,.rptr (zI e)),(14,.ptr 1 0),(15,.ptr 0 0),(16,.ptr 3 0)]) (fvS D false []):=by
 have hc:=zNO D D' u hD hv hn e false false [];have hmem:∀x,x∈(zCH u.id e).foldl adI []↔x∈zCH u.id e:=fun x=>by rw[zIZ];simp
 have hpl:xY u.id e a.slots.length=zKG u.id e a.slots.length:=rfl;rw[hpl];rw[jCm]at hc;unfold zLu;simp[fvS];refine mn hc [0,1,2,3] (by simp[fvS,hv,fvA,zI]) ?_;generalize hM:(zCH u.id e).foldl adI []=M at *
 have hst:=zPO u.id e;have hpn:=zST u.id e;have hp0:zKG u.id e 0=[]:=rfl;generalize rG u.id e false=W at *
 generalize zKG u.id e=pl at *
 simp[fvS,zJ];intro hmx;refine qK (S:=Nat) (fun i=>[(14,.ptr 1 0),(15,.ptr 0 0),(17,.row 4 (pl i).length),(85,int a.slots.length),(86,int i)]) (fun i=>fvS D W M++[.row false 3 1 (pl i).length (yH (pl i))]) (fun i=>i<=a.slots.length) (fun i=>a.slots.length-i) 0 (by simp)
  ((qS (t:=17) (by simp) 3 1).trans (mu [0,1,2,3,4] 0 (by rfl) (by simp[fvS,hv,hp0]))) ?_
 intro i hi;by_cases h:i<a.slots.length
 .have hw:=z8 h hmx;have hg:=zUX i M;have hst:=hst i;have hpn:=hpn i;have hmi:=hmem i;cases W
  .by_cases hm:(i:Int)∈zCH u.id e
   .have hm2:(i:Int)∈M:=hmi.2 hm;rw[if_pos (by simp[hm])]at hst;simp[fvS,h,hg,hm2];refine⟨⟨by simp[maxLen];omega,by omega⟩,?_⟩;exact zO (i+1) h (by omega) (mu [0,1,2,3,4] 0 (by rfl) (by simp[fvS,hv,hst,cJ,hw]))
   .have hm2:¬(i:Int)∈M:=fun hh=>hm (hmi.1 hh)
    rw[if_neg (by simp[hm])]at hst;simp[fvS,h,hg,hm2];exact zO (i+1) h (by omega) (mu [0,1,2,3,4] 0 (by rfl) (by simp[fvS,hv,hst,cJ,hw]))
  .rw[if_pos (by simp)]at hst;simp[fvS,h];refine⟨⟨by simp[maxLen];omega,by omega⟩,?_⟩;exact zO (i+1) h (by omega) (mu [0,1,2,3,4] 0 (by rfl) (by simp[fvS,hv,hst,cJ,hw]))
 .have hie:i=a.slots.length:=by omega
  subst hie;simp[fvS];exact zA 1 (by simp)
theorem zRW(D D':wE)(u:Slt)(hD:D.drop 8=.sl 1 (j8 u)::D')(hv:∀rf g,vwL rf g D=D)(hn:jT D=D)(a:Dfn)(ha:a.slots.length<=1000)(e:Exp) :
 wpK prog 0 zLt (zZh (xY u.id e a.slots.length)) (qV [(7,.rptr D),(9,.rptr (zJ a)),(13,.rptr (zI e))]) []:=by
 have hV:=qFR D D' u hD hv hn a ha e;generalize zZh (xY u.id e a.slots.length)=Q at *
 unfold zLt;simp;have hw:=zFZ (n0:=0) (env:=qV [(9,.rptr (zJ a)),(13,.rptr (zI e)),(14,.ptr 1 0),(15,.ptr 0 0),(16,.ptr 3 0)]) (l:=2) (nk:=1) (fr:=true) (es:=mki []) (U:=[.box [bl false],.box [.map 2],.mp true 1 (mki []),.box [.clo 58 [] [.rptr D,.ptr 0 0,.ptr 1 0,.ptr 3 0]]]) rfl;refine⟨_,_,b9.trans (m_ [2,1,0,3] 0 (by rfl) ?_ ?_) hw,hV⟩
 .simp[hv,mki]
 .simp[hv,zJ,zI]
theorem zOD(u:Slt):jS [u]=j8 u:=by simp[jS]
theorem zGE(p:Prg)(hb:∀d∈p.defs,d.slots.length<=1000)(conv:Id)(to:Int):mv 24 [.agg (zP p),.agg (zK conv),int to] [] (.sl (zAA p conv to).length (yH (zAA p conv to))) []:=by
 have hP:=eP p;have hcon:=zBs p conv
 unfold zJx at hcon;have hz:∀id,((jK p.defs id).getD .zero).slots.length<=1000:=fun id=>by
  cases h:jK p.defs id with
  |none=>simp[Dfn.zero]
  |some d=>exact hb d (aV h).1
 have hfv:∀L,zAA p conv to=L->mv 24 [.agg (zP p),.agg (zK conv),int to] [] (.sl L.length (yH L)) []:=by
  intro L hL;refine zH func24 rfl qEt (rs:=[.slot 6]) (by kernel_rfl) ?_;unfold zVQ;simp[hP,zK];refine mq hcon (by simp[hP,zK]) ?_;cases hc:((jK p.defs conv).isSome&&u9 ((jK p.defs conv).getD .zero))
  .have hnil:L=[]:=by
    rw[<-hL];unfold zAA;unfold u9 at hc;cases hd:jK p.defs conv with
    |none=>rfl
    |some d =>
     rw[hd]at hc;simp only[Option.isSome_some,jB9,jBm,jCp,decide_eq_false_iff_not]at hc;simp only;by_cases h5:d.kind=5
     .rw[if_pos h5];split
      .rename_i u hu;rw[hu]at hc;simp at hc;exact(hc h5).elim
      .rfl
     .rw[if_neg h5]
   subst hnil;simp[zJ];exact zA 0 (by simp)
  .obtain⟨d,u,hd,h5,hu⟩:∃d u,jK p.defs conv=some d/\d.kind=5/\d.slots=[u]:=by
    cases hd:jK p.defs conv with
    |none=>rw[hd]at hc;simp at hc
    |some d =>
     rw[hd]at hc;simp only[Option.isSome_some,jB9,jBm,u9,jA7,decide_eq_true_eq]at hc;obtain⟨u,hu⟩:=List.length_eq_one_iff.1 hc.2;exact⟨d,u,rfl,hc.1,hu⟩
   have hL2:L=if zGx p u.typ=true/\zGx p d.res=true/\0<=to/\to<((jK p.defs d.res.id).getD .zero).slots.length then xY u.id (uW d.body to) ((jK p.defs u.typ.id).getD .zero).slots.length else []:=by rw[<-hL];unfold zAA;rw[hd];simp only[if_pos h5,hu]
   have r1:=zH3 p u.typ;have r2:=zH3 p d.res;have ha:=hz u.typ.id;rw[hd,jB9];generalize (jK p.defs u.typ.id).getD .zero=a at *
   generalize (jK p.defs d.res.id).getD .zero=b at *
   have hcs:jS d.slots=j8 u:=by rw[hu,zOD]
   have hul:d.slots.length=1:=by rw[hu];rfl
   simp[zJ,hcs,hul,j8];refine yX r1 (by simp[hP,zB]) (by simp[zJ]) ?_;simp[zJ];refine mq r2 (by simp[hP,zB,zJ]) ?_;simp[zJ];have hD:(zJ d).drop 8=.sl 1 (j8 u)::(zJ d).drop 9:=by have:(zJ d).drop 8=.sl d.slots.length (jS d.slots)::(zJ d).drop 9:=rfl;rw[this,hul,hcs]
   by_cases g1:zGx p u.typ=true
   .by_cases g2:zGx p d.res=true
    .by_cases g3:to<0
     .rw[if_neg (by omega)]at hL2;subst hL2;simp[g1,g2,g3];exact zA 0 (by simp)
     .by_cases g4:to<(b.slots.length:Int)
      .rw[if_pos ⟨g1,g2,by omega,g4⟩]at hL2;have g4':¬(b.slots.length:Int)<=to:=by omega
       subst hL2;by_cases h7:d.body.k=7
       .by_cases hk:to<(d.body.kids.length:Int)
        .obtain⟨n,rfl⟩:∃n:Nat,to=n:=⟨to.toNat,by omega⟩;have hn:n<d.body.kids.length:=by omega
         have hE:uW d.body n=d.body.kids[n]:=by unfold uW;rw[if_pos ⟨h7,hk⟩,jCl,jB7,jA1 hn];rfl
         have hne:¬d.body.kids=[]:=fun e=>by rw[e]at hn;simp at hn
         rw[hE];generalize hEE:d.body.kids[n]=E;have hdr:=y5 hn;rw[hEE]at hdr;simp[g1,g2,g3,g4,g4',zJ,h7,hk,hn,hne,hdr,zI];exact fun _ _=>⟨qV [(7,.rptr (zJ d)),(9,.rptr (zJ a)),(13,.rptr (zI E))],[],mu [] 1 (by rfl) (by simp[zJ,zI,hcs,hul,j8,h7]),zRW (zJ d) _ u hD (fun rf g=>(bV d).2 _ _) (bV d).1 a ha E⟩
        .have hE:uW d.body to=d.body:=by unfold uW;rw[if_neg (fun h=>hk h.2)]
         rw[hE];have fin:=zRW (zJ d) _ u hD (fun rf g=>(bV d).2 _ _) (bV d).1 a ha d.body;simp[g1,g2,g3,g4,g4',zJ,h7,hk];exact fun _ _=>⟨qV [(7,.rptr (zJ d)),(9,.rptr (zJ a)),(13,.rptr (zI d.body))],[],mu [] 1 (by rfl) (by simp[zJ,zI,hcs,hul,j8,h7]),fin⟩
       .have hE:uW d.body to=d.body:=by unfold uW;rw[if_neg (fun h=>h7 h.1)]
        rw[hE];have fin:=zRW (zJ d) _ u hD (fun rf g=>(bV d).2 _ _) (bV d).1 a ha d.body;simp[g1,g2,g3,g4,g4',zJ,h7];exact fun _=>⟨qV [(7,.rptr (zJ d)),(9,.rptr (zJ a)),(13,.rptr (zI d.body))],[],mu [] 1 (by rfl) (by simp[zJ,zI,hcs,hul,j8]),fin⟩
      .have g4':(b.slots.length:Int)<=to:=by omega
       rw[if_neg (by omega)]at hL2;subst hL2;simp[g1,g2,g3,g4,g4',zJ]
       first|exact fun _=>zA 0 (by simp)|exact zA 0 (by simp)
    .have g2':zGx p d.res=false:=by simpa using g2
     rw[if_neg (fun h=>g2 h.2.1)]at hL2;subst hL2;simp[g1,g2'];exact zA 0 (by simp)
   .have g1':zGx p u.typ=false:=by simpa using g1
    rw[if_neg (fun h=>g1 h.1)]at hL2;subst hL2;simp[g1'];exact zA 0 (by simp)
 exact hfv _ rfl
def zKa:Nat->Option wD:=fun|12=>k_ [0,0,0,2,2001,0,0,1001,0,4,0,0,0] | 13=>k_ [0,0,0,0,0,0,0,0,0,0,4,0,0,0]|_=>none
section
variable{l:wB}
theorem zUB(to fro:Dfn)(s:Id)(i:Nat)(m:Gm):Gst m (zAa l to fro s i m).2 28:=by
 unfold zAa;split
 .split
  .split
   .exact(qU m).trans (zIm _ _ _ _) (by omega)
   .exact(qU m).trans (gL _ _ _ _ _ _) (by simp[gC])
  .exact(gL _ _ _ _ _ _).mono (by simp[gC])
 .exact(gL _ _ _ _ _ _).mono (by simp[gC])
 .exact Gst.refl _ (by omega)
theorem zEQ(to fro:Dfn)(s:Id)(m:Gm):∀n:Nat,Gst m (gJ l to fro s n m).2 (28*n)
 | 0=>Gst.refl _ (by omega)
 |n+1=>by simp only[gJ];exact(zEQ to fro s m n).trans (zUB _ _ _ _ _) (by omega)
theorem zEe(to fro:Dfn)(s:Id)(m:Gm)(h:to.slots.length<=6):Gst m (sZ l to fro s m).2 170 :=
 (zEQ to fro s m _).trans (gK _ _ _ _ _) (by omega)
def smK(to fro:Dfn)(i:Nat)(k:Nat):Int:=if i<k then (match to.slots[i]?,fro.slots[i]? with
 |some u,some v=>if v.typ.k=u.typ.k then (i:Int)else -1
 |_,_=>-1)else -1
theorem qHI(to fro:Dfn)(i:Nat):smK to fro i 0 = -1:=rfl
variable{to fro:Dfn}{i:Nat}
theorem zOv(h1:i<to.slots.length)(h2:i<fro.slots.length)(h:fro.slots[i].typ.k=to.slots[i].typ.k){k:Nat}(hk:i<k):smK to fro i k=i:=by simp[smK,hk,h1,h2,h]
theorem zTp(h1:i<to.slots.length)(h2:i<fro.slots.length)(h:fro.slots[i].typ.k≠to.slots[i].typ.k)(k:Nat):smK to fro i k = -1:=by simp[smK,h1,h2,h]
theorem zV5(h2:¬i<fro.slots.length)(k:Nat):smK to fro i k = -1:=by
 have:fro.slots[i]?=none:=by simp;omega
 unfold smK;rw[this];split
 .split<;>simp_all
 .rfl
theorem zTq{i k:Nat}(h:k≠i):smK to fro i (k+1)=smK to fro i k:=by
 unfold smK;by_cases e:i<k
 .rw[if_pos e,if_pos (by omega)]
 .rw[if_neg e,if_neg (by omega)]
theorem zGN(hl:∀x∈l,w64 x=x)(to fro:Dfn)(s:Id)(h1:to.slots.length<=6)(h2:fro.slots.length<=6)(hf:∀u∈to.slots,u.typ=tK u.typ.k/\(u.typ.k=0\/u.typ.k=1))(m:Gm)(hok:m.Ok 170) :
 mv 67 [.ptr 0 0,.agg (zJ to),.agg (zJ fro),.agg (zK s)] (gS l m) (.agg (zI (sZ l to fro s m).1)) (gS l (sZ l to fro s m).2):=by
 refine mh zKa [80] [] [] [.cell 8 15 true] func67 (by kernel_rfl) ?_
 (conv in kH _ _ _=>cbv)
 simp[gS,gB];refine qK (S:=Nat) (fun i=>[(0,.ptr 0 0),(5,.ptr 1 0),(6,.ptr 2 0),(7,.ptr 3 0),(8,.ptr 4 0),(9,.row 5 i),(10,int i)])
  (fun i=>gS l (gJ l to fro s i m).2++[.box (zJ to),.box (zJ fro),.box (zK s),.box (zI Exp.zero),.row false 39 15 i (qT (gJ l to fro s i m).1)]) (fun i=>i<=to.slots.length) (fun i=>to.slots.length-i) 0 (by simp)
  ((qS (t:=9) (by simp) 39 15).trans (mu [0,1,2,3,4,5] 0 (by rfl) (by simp[gS,gB,dB,gJ]))) ?_
 intro i hi;have hst:=zEQ (l:=l) to fro s m i;have hkl:=rQ l to fro s m i;generalize hmi:(gJ l to fro s i m).2=mi at hst;generalize hki:(gJ l to fro s i m).1=ki at hkl;by_cases hi2:i<to.slots.length
 .have hok1:mi.Ok 29:=hok.adv hst (by omega);have hkid:gJ l to fro s (i+1) m=(ki++[(zAa l to fro s i mi).1],(zAa l to fro s i mi).2):=by simp only[gJ,hmi,hki]
  have hu:=hf _ (jA0 hi2);have hut:zB to.slots[i].typ=[int to.slots[i].typ.k,int 0,int 0,int 0,.sl 0 []]:=by rw[hu.1,zT2 hu.2];rw[qHJ hu.2]
  have hne:to.slots≠[]:=fun e=>by rw[e]at hi2;simp at hi2
  have hwi:=jZ i (by omega);simp[gS,gB,zJ,hi2];intro _;refine qK (S:=Nat) (fun k=>[(0,.ptr 0 0),(5,.ptr 1 0),(6,.ptr 2 0),(7,.ptr 3 0),(8,.ptr 4 0),(9,.row 5 i),(10,int i),(11,int (smK to fro i k)),(12,int k)])
   (fun k=>gS l mi++[.box (zJ to),.box (zJ fro),.box (zK s),.box (zI Exp.zero),.row false 39 15 i (qT ki)]) (fun k=>k<=fro.slots.length) (fun k=>fro.slots.length-k) 0 (by simp)
   (mu [0,1,2,3,4,5] 0 (by rfl) (by simp[gS,gB,dB,zJ,qHI])) ?_
  intro k hk;by_cases hk2:k<fro.slots.length
  .have hne2:fro.slots≠[]:=fun e=>by rw[e]at hk2;simp at hk2
   have hwk:=z8 hk2 (show fro.slots.length<=maxLen by simp[maxLen];omega);by_cases hki2:k=i
   .subst hki2;by_cases hkk:fro.slots[k].typ.k=to.slots[k].typ.k
    .simp[gS,gB,zJ,hk2,hne,hne2,qZ hk2,qZ hi2,j8,hkk,hi2];exact fun _=>zO (k+1) hk2 (by omega) (mu [0,1,2,3,4,5] 0 (by rfl) (by simp[gS,gB,dB,zJ,hwk,zOv hi2 hk2 hkk]))
    .have e1:=zTp hi2 hk2 hkk;simp[gS,gB,zJ,hk2,hne,hne2,qZ hk2,qZ hi2,j8,hkk,hi2];exact fun _=>zO (k+1) hk2 (by omega) (mu [0,1,2,3,4,5] 0 (by rfl) (by simp[gS,gB,dB,zJ,hwk,e1]))
   .have hki3:¬(k:Int)=i:=by omega
    simp[gS,gB,zJ,hk2,hki2,hki3];exact fun _=>zO (k+1) hk2 (by omega) (mu [0,1,2,3,4,5] 0 (by rfl) (by simp[gS,gB,dB,zJ,hwk,zTq hki2]))
  .have hkE:k=fro.slots.length:=by omega
   subst hkE;have happ:∀(q:Exp×Gm),zAa l to fro s i mi=q->qT (gJ l to fro s (i+1) m).1=qT ki++zI q.1:=fun q hq=>by rw[hkid,hq];simp[zGj,zQ]
   have happ2:∀(q:Exp×Gm),zAa l to fro s i mi=q->(gJ l to fro s (i+1) m).2=q.2:=fun q hq=>by rw[hkid,hq]
   by_cases hA:∃h:i<fro.slots.length,fro.slots[i].typ.k=to.slots[i].typ.k
   .obtain⟨hif,hkk⟩:=hA;have e1:=zOv hi2 hif hkk (k:=fro.slots.length) hif;simp[gS,gB,zJ,e1];intro _;refine mn (eY (l:=l) mi 3 (by omega) (hok1.mono (by omega))) [0] (by simp[gS,gB]) ?_;by_cases hN:0<gN l mi 3
    .have hq:zAa l to fro s i mi=zGp mi.tick i fro.id s:=by unfold zAa;rw[jA1 hi2,jA1 hif];simp only[if_pos hkk,if_pos hN]
     have g1:=dD (l:=l) mi.tick 2 0 s [] (hok1.adv (qU mi) (by omega));have g2:=dD (l:=l) (bJ mi.tick 2 0 s []).2 8 i fro.id [(bJ mi.tick 2 0 s []).1] (hok1.adv ((qU mi).trans (gK _ _ _ _ _) (jAf _)) (by omega));simp[gS,gB,zJ,hN];refine aP g1 [0] (by decide) (by simp[gS,gB]) (by simp) (by decide) (by simp) (by simp[gS]) ?_;simp[gS,gB];refine b6 g2 [0] (by decide) (by simp[gS,gB]) (by simp[zQ,zK]) ?_;simp[gS,gB];refine⟨⟨by simp[maxLen];omega,by omega⟩,?_⟩;exact zO (i+1) hi2 (by omega) (mu [0,1,2,3,4,5] 0 (by rfl) (by simp[gS,gB,dB,zJ,happ _ hq,happ2 _ hq,zGp,hwi]))
    .have hq:zAa l to fro s i mi=cV l fro s 2 to.slots[i].typ.k mi.tick:=by unfold zAa;rw[jA1 hi2,jA1 hif];simp only[if_pos hkk,if_neg hN]
     have g:=zBQ hl fro s h2 2 (by omega) mi.tick to.slots[i].typ.k hu.2 (hok1.adv (qU mi) (by simp[gC]));rw[<-hu.1]at g;simp[gS,gB,zJ,hN,hi2,hne,qZ hi2,j8];refine b6 g [0] (by decide) (by simp[gS,gB]) (by simp[zJ,zK,zB]) ?_;simp[gS,gB];refine⟨⟨by simp[maxLen];omega,by omega⟩,?_⟩;exact zO (i+1) hi2 (by omega) (mu [0,1,2,3,4,5] 0 (by rfl) (by simp[gS,gB,dB,zJ,happ _ hq,happ2 _ hq,hwi]))
   .have e1:smK to fro i fro.slots.length = -1:=by
     by_cases hif:i<fro.slots.length
     .exact zTp hi2 hif (fun e=>hA ⟨hif,e⟩) _
     .exact zV5 hif _
    have hq:zAa l to fro s i mi=cV l fro s 2 to.slots[i].typ.k mi:=by
     unfold zAa;rw[jA1 hi2];by_cases hif:i<fro.slots.length
     .rw[jA1 hif];simp only[if_neg (fun e=>hA ⟨hif,e⟩)]
     .have:fro.slots[i]?=none:=by simp;omega
      rw[this]
    have g:=zBQ hl fro s h2 2 (by omega) mi to.slots[i].typ.k hu.2 (hok1.mono (by simp[gC]));rw[<-hu.1]at g;simp[gS,gB,zJ,e1,hi2,hne,qZ hi2,j8];intro _;refine b6 g [0] (by decide) (by simp[gS,gB]) (by simp[zJ,zK,zB]) ?_;simp[gS,gB];refine⟨⟨by simp[maxLen];omega,by omega⟩,?_⟩;exact zO (i+1) hi2 (by omega) (mu [0,1,2,3,4,5] 0 (by rfl) (by simp[gS,gB,dB,zJ,happ _ hq,happ2 _ hq,hwi]))
 .have hie:i=to.slots.length:=by omega
  subst hie;have g:=dD (l:=l) mi 7 0 to.id ki (hok.adv hst (by omega));have hrec:sZ l to fro s m=bJ mi 7 0 to.id ki:=by simp only[sZ,hmi,hki]
  simp[gS,gB,zJ];intro _;refine⟨qV [(0,.ptr 0 0),(5,.ptr 1 0),(8,.ptr 4 0),(9,.sl to.slots.length (qT ki))],gS l mi++[.box (zJ to),.box (zJ fro),.box (zK s),.box (zI Exp.zero)],mu [0,1,2,3,4] 1 (by rfl) (by simp[gS,gB,zJ,dB]),?_⟩;simp[gS,gB,zJ];refine mn g [0] (by simp[gS,gB,zK,hkl]) ?_;simp[gS,gB];rw[hrec];exact mr [0] 0 (by rfl) (by simp[bJ,zI])
end
def zCP(v:Val):Int:=if v.k=0/\v.n<0 then w64 (0-v.n)else if v.k=0\/v.k=1\/v.k=3 then v.n else if v.k=4 then v.kids.length else 0
theorem zNo(v:Val)(h0:0<=v.k)(h4:v.k<=4):mv 123 [.agg (zF v)] [] (int (zCP v)) []:=by
 refine ml [] [.slot 2] func123 (by kernel_rfl) ?_
 (conv in kq _ _=>cbv)
 by_cases hk:v.k=0
 .by_cases hn:v.n<0
  .simp -implicitDefEqProofs [zF,hk,hn];exact fun _=>zA 0 (by simp[zCP,hk,hn,w64])
  .simp -implicitDefEqProofs [zF,hk,hn];exact fun _=>zA 0 (by simp[zCP,hk,hn])
 .simp -implicitDefEqProofs [zF,hk];intro hl;have hc:v.k=1\/v.k=2\/v.k=3\/v.k=4:=by omega
  rcases hc with h|h|h|h<;>simp -implicitDefEqProofs [h]<;>exact zA 0 (by simp[zCP,h])
def cD:Val->Int
 | .mk k n l=>if k<0\/4<k then 0 else if k=0\/k=1 then zCP (.mk k n l)else l.attach.foldl (fun s x=>w64 (s+cD x.1)) (zCP (.mk k n l))
termination_by v=>qN v
decreasing_by
 have:=oA x.2;simp only[qN];omega
def m8(s:Int)(l:wI):Int:=l.foldl (fun s x=>w64 (s+cD x)) s
theorem iT(v:Val):cD v=if v.k<0\/4<v.k then 0 else if v.k=0\/v.k=1 then zCP v else m8 (zCP v) v.kids:=by
 cases v with
 |mk k n l =>
  rw[cD];simp only[Val.k,Val.kids,m8]
  congr 2
  rw[List.foldl_attach (f:=fun s x=>w64 (s+cD x))]
theorem zQj{s:Int}{l:wI}{i:Nat}(h:i<l.length):m8 s (l.take (i+1))=IntKind.i64.wrap (m8 s (l.take i)+cD l[i]):=by rw[m8,jA6 h,jCe];rfl
theorem zDe(v:Val):mv 81 [.agg (zF v)] [] (int (cD v)) []:=by
 refine ml [] [.slot 2] func81 (by kernel_rfl) ?_
 (conv in kq _ _=>cbv)
 by_cases hk:v.k<0
 .simp -implicitDefEqProofs [zF,hk];exact zA 0 (by simp[iT v,hk])
 by_cases hk':4<v.k
 .simp -implicitDefEqProofs [zF,hk,hk'];exact zA 0 (by simp[iT v,hk'])
 simp -implicitDefEqProofs [zF,hk,hk'];refine mq (zNo v (by omega) (by omega)) (by simp[zF]) ?_;by_cases h0:v.k=0
 .simp -implicitDefEqProofs [h0];exact zA 0 (by simp[iT v,h0])
 by_cases h1:v.k=1
 .simp -implicitDefEqProofs [h1];exact zA 0 (by simp[iT v,h1])
 simp -implicitDefEqProofs [h0,h1];intro hl;refine qK (S:=Nat) (fun i=>[(3,int (m8 (zCP v) (v.kids.take i))),(26,.sl v.kids.length (zR v.kids)),(27,int v.kids.length),(28,int i)]) (fun s=>[]) (fun i=>i<=v.kids.length) (fun i=>v.kids.length-i) 0 (by simp)
  (mu [] 0 (by rfl) (by simp[m8])) ?_
 intro i hi;simp -implicitDefEqProofs;refine qX (fun h=>?_) (fun h=>?_)<;>simp at h
 .simp -implicitDefEqProofs [h,qL h];refine mq (zDe v.kids[i]) (by simp[zF]) ?_;simp -implicitDefEqProofs;refine zO (i+1) h (by omega) (mu [] 0 (by rfl) (by simp[z8 h hl,zQj h]))
 .have:i=v.kids.length:=by omega
  subst this;simp -implicitDefEqProofs;exact zA 0 (by simp[iT v,hk,hk',h0,h1])
termination_by qN v
decreasing_by exact aW (jA0 _)
structure Lin{α:Type}(c : α->α->Int):Prop where
 refl:∀x,c x x=0
 eq:∀x y,c x y=0->x=y
 swap:∀x y,c x y<0↔0<c y x
 trans:∀x y z,c x y<0->c y z<0->c x z<0
theorem Lin.ord{α:Type}{c : α->α->Int}(h:Lin c):Ord c where
 irrefl x:=by rw[h.refl];omega
 trans:=h.trans
 ntrans x y z h1 h2 h3:=by
  by_cases e1:c x y=0
  .rw[h.eq _ _ e1]at h3;exact h2 h3
  by_cases e2:c y z=0
  .rw[<-h.eq _ _ e2]at h3;exact h1 h3
  have h4:c y x<0:=(h.swap y x).2 (by omega);have h5:=h.trans _ _ _ h4 h3;exact h2 h5
 anti x y h1 h2:=by
  by_cases e1:c x y=0
  .exact h.eq _ _ e1
  .have:c y x<0:=(h.swap y x).2 (by omega);exact(h2 this).elim
variable{a b:Int}
theorem mW:bU a b<0↔a<b:=by
 unfold bU;split
 .omega
 .split<;>omega
theorem u6:0<bU a b↔b<a:=by
 unfold bU;split
 .omega
 .split<;>omega
theorem y4:bU a b=0↔a=b:=by
 unfold bU;split
 .omega
 .split<;>omega
theorem qG8:Lin bU where
 refl x:=y4.2 rfl
 eq x y h:=y4.1 h
 swap x y:=by rw[mW,u6]
 trans x y z:=by simp only[mW];omega
theorem zEi(a:Int):orI [a]=a:=by simp only[orI];split<;>simp_all
theorem zBO(a:Int)(l:wB):orI (a::l)=if a=0 then orI l else a:=rfl
theorem zS2{α:Type}{c d : α->α->Int}(hc0:∀x,c x x=0)(hcs:∀x y,c x y<0↔0<c y x)(hct:∀x y z,c x y<0->c y z<0->c x z<0)
 (hce:∀x y z,c x y=0->c x z=c y z/\c z x=c z y)(hd0:∀x,d x x=0)(hde:∀x y,c x y=0->d x y=0->x=y)(hds:∀x y,c x y=0->(d x y<0↔0<d y x))
 (hdt:∀x y z,c x y=0->c y z=0->d x y<0->d y z<0->d x z<0):Lin fun x y=>if c x y=0 then d x y else c x y where
 refl x:=by simp[hc0,hd0]
 eq x y h:=by
  split at h
  .rename_i hc;exact hde x y hc h
  .rename_i hc;exact(hc h).elim
 swap x y:=by
  by_cases h:c x y=0
  .have h':c y x=0:=by have:=(hce x y x h).1;rw[hc0]at this;exact this.symm
   simp only[h,h',if_true];exact hds x y h
  .have h':¬c y x=0:=fun e=>h (by
    have:=(hce y x y e).1;rw[hc0]at this;exact this.symm)
   simp only[h,h',if_false];exact hcs x y
 trans x y z:=by
  by_cases h1:c x y=0
  .by_cases h2:c y z=0
   .have h3:c x z=0:=by rw[(hce x y z h1).1];exact h2
    simp only[h1,h2,h3,if_true];exact hdt x y z h1 h2
   .have h3:¬c x z=0:=by rw[(hce x y z h1).1];exact h2
    simp only[h1,h2,h3,if_true,if_false];intro _ h;rw[(hce x y z h1).1];exact h
  .by_cases h2:c y z=0
   .have h3:¬c x z=0:=by rw[<-(hce y z x h2).2];exact h1
    simp only[h1,h2,h3,if_true,if_false];intro h _;rw[<-(hce y z x h2).2];exact h
   .simp only[h1,h2,if_false];intro h4 h5;have h6:=hct x y z h4 h5;have h3:¬c x z=0:=by omega
    simp only[h3,if_false];exact h6
mutual
theorem mD:∀(a:Val),gG a a=0
 | .mk k n l=>by
  rw[fR];have:dV (.mk k n l) (.mk k n l)=0:=by simp[dV,orI,y4.2]
  simp only[this,ne_eq,not_true_eq_false,if_false,Val.kids];exact zAx l
theorem zAx:∀(l:wI),y6 l l=0
 |[]=>by simp only[y6]
 |a::l=>by simp only[y6,mD a,ne_eq,not_true_eq_false,if_false];exact zAx l
end
theorem nV{a b:Val}:dV a b=0↔a.k=b.k/\a.n=b.n/\a.kids.length=b.kids.length:=by
 simp only[dV,orI];by_cases h1:a.k=b.k
 .by_cases h2:a.n=b.n
  .by_cases h3:a.kids.length=b.kids.length
   .simp[h1,h2,h3,y4.2]
   .have:¬bU a.kids.length b.kids.length=0:=fun e=>h3 (by have:=y4.1 e;omega)
    simp[h1,h2,h3,y4.2,this]
  .have:¬bU a.n b.n=0:=fun e=>h2 (y4.1 e)
   simp[h1,h2,y4.2,this]
 .have:¬bU a.k b.k=0:=fun e=>h1 (y4.1 e)
  simp[h1,this]
mutual
theorem mE:∀(a b:Val),gG a b=0->a=b
 | .mk k n l,.mk k' n' l',h=>by
  rw[fR]at h;split at h
  .rename_i h1;exact(h1 h).elim
  .rename_i h1;simp only[ne_eq,Decidable.not_not]at h1;obtain⟨e1,e2,e3⟩:=nV.1 h1;simp only[Val.k,Val.n,Val.kids]at e1 e2 e3 h;rw[e1,e2,zAz l l' h]
theorem zAz:∀(l l':wI),y6 l l'=0->l=l'
 |[],[],_=>rfl
 |[],_::_,h=>by simp[y6]at h
 |_::_,[],h=>by simp[y6]at h
 |a::l,b::l',h=>by
  simp only[y6]at h;split at h
  .rename_i h1;exact(h1 h).elim
  .rename_i h1;simp only[ne_eq,Decidable.not_not]at h1;rw[mE a b h1,zAz l l' h]
end
theorem zBB{a b:Val}:dV a b<0↔a.k<b.k\/(a.k=b.k/\(a.n<b.n\/(a.n=b.n/\a.kids.length<b.kids.length))):=by
 simp only[dV,zBO,zEi];by_cases h1:a.k=b.k
 .by_cases h2:a.n=b.n
  .simp[h1,h2,y4.2,mW];simp only[orI];split<;>rename_i h<;>simp_all [mW];have:=y4.1 h;omega
  .have:¬bU a.n b.n=0:=fun e=>h2 (y4.1 e)
   simp[h1,h2,y4.2,this,mW]
 .have:¬bU a.k b.k=0:=fun e=>h1 (y4.1 e)
  simp[h1,this,mW]
theorem zSm{a b:Val}:0<dV a b↔dV b a<0:=by
 rw[zBB];simp only[dV,zBO,zEi];by_cases h1:a.k=b.k
 .by_cases h2:a.n=b.n
  .simp[h1,h2,y4.2];simp only[orI];split<;>rename_i h<;>simp_all [u6];have:=y4.1 h;omega
  .have:¬bU a.n b.n=0:=fun e=>h2 (y4.1 e)
   simp[h1,y4.2,this,u6];omega
 .have:¬bU a.k b.k=0:=fun e=>h1 (y4.1 e)
  simp[this,u6];omega
mutual
theorem zGF:∀(a b:Val),gG a b<0↔0<gG b a
 | .mk k n l,.mk k' n' l'=>by
  rw[fR,fR];by_cases h:dV (.mk k n l) (.mk k' n' l')=0
  .have h':dV (.mk k' n' l') (.mk k n l)=0:=by rw[nV]at *;omega
   simp only[h,h',ne_eq,not_true_eq_false,if_false,Val.kids];exact zAy l l'
  .have h':¬dV (.mk k' n' l') (.mk k n l)=0:=by rw[nV]at *;omega
   simp only[h,h',ne_eq,not_false_eq_true,if_true];rw[zSm]
theorem zAy:∀(l l':wI),y6 l l'<0↔0<y6 l' l
 |[],[]=>by simp[y6]
 |[],_::_=>by simp[y6]
 |_::_,[]=>by simp[y6]
 |a::l,b::l'=>by
  simp only[y6];by_cases h:gG a b=0
  .have e:=mE a b h;subst e;simp only[h,ne_eq,not_true_eq_false,if_false];exact zAy l l'
  .have h':¬gG b a=0:=fun e=>h (by rw[mE b a e];exact mD a)
   simp only[h,h',ne_eq,not_false_eq_true,if_true];exact zGF a b
end
mutual
theorem zE4:∀(a b c:Val),gG a b<0->gG b c<0->gG a c<0
 | .mk k n l,.mk k' n' l',.mk k'' n'' l'',h1,h2=>by
  rw[fR]at *
  by_cases e1:dV (.mk k n l) (.mk k' n' l')=0
  .by_cases e2:dV (.mk k' n' l') (.mk k'' n'' l'')=0
   .have e3:dV (.mk k n l) (.mk k'' n'' l'')=0:=by rw[nV]at *;omega
    simp only[e1,e2,e3,ne_eq,not_true_eq_false,if_false,Val.kids]at *
    exact u7 l l' l'' h1 h2
   .have e3:dV (.mk k n l) (.mk k'' n'' l'')<0:=by simp only[e2,ne_eq,not_false_eq_true,if_true]at h2;rw[nV]at e1;rw[zBB]at *;omega
    have e4:dV (.mk k n l) (.mk k'' n'' l'')≠0:=by omega
    simp only[e4,ne_eq,not_false_eq_true,if_true];exact e3
  .simp only[e1,ne_eq,not_false_eq_true,if_true]at h1;have e3:dV (.mk k n l) (.mk k'' n'' l'')<0:=by
    by_cases e2:dV (.mk k' n' l') (.mk k'' n'' l'')=0
    .rw[nV]at e2;rw[zBB]at *;omega
    .simp only[e2,ne_eq,not_false_eq_true,if_true]at h2;rw[zBB]at *;omega
   have e4:dV (.mk k n l) (.mk k'' n'' l'')≠0:=by omega
   simp only[e4,ne_eq,not_false_eq_true,if_true];exact e3
theorem u7:∀(a b c:wI),y6 a b<0->y6 b c<0->y6 a c<0
 |[],[],_,h1,_=>by simp[y6]at h1
 |[],_::_,[],_,h2=>by simp[y6]at h2
 |[],_::_,_::_,_,_=>by simp[y6]
 |_::_,[],_,h1,_=>by simp[y6]at h1
 |_::_,_::_,[],_,h2=>by simp[y6]at h2
 |a::l,b::l',c::l'',h1,h2=>by
  simp only[y6]at *
  by_cases e1:gG a b=0
  .have e:=mE a b e1;subst e;by_cases e2:gG a c=0
   .simp only[mD,e2,ne_eq,not_true_eq_false,if_false]at *
    exact u7 l l' l'' h1 h2
   .simp only[e2,ne_eq,not_false_eq_true,if_true]at *
    exact h2
  .simp only[e1,ne_eq,not_false_eq_true,if_true]at h1;have e3:gG a c<0:=by
    by_cases e2:gG b c=0
    .rw[<-mE b c e2];exact h1
    .simp only[e2,ne_eq,not_false_eq_true,if_true]at h2;exact zE4 a b c h1 h2
   have e4:gG a c≠0:=by omega
   simp only[e4,ne_eq,not_false_eq_true,if_true];exact e3
end
theorem zS1:Lin gG:=⟨mD,mE,zGF,zE4⟩
theorem zP8:Lin y6:=⟨zAx,zAz,zAy,u7⟩
theorem zS0{α:Type}(f : α->Int){d : α->α->Int}(h:Lin d):Lin fun x y=>orI [bU (f x) (f y),d x y]:=by
 have:=zS2 (c:=fun x y=>bU (f x) (f y)) (d:=d) (fun x=>y4.2 rfl) (fun x y=>by rw[mW,u6]) (fun x y z=>by simp only[mW];omega)
  (fun x y z e=>by have:=y4.1 e;simp[this]) h.refl (fun x y _=>h.eq x y) (fun x y _=>h.swap x y) (fun x y z _ _=>h.trans x y z)
 have e:(fun x y=>orI [bU (f x) (f y),d x y])=fun x y=>if bU (f x) (f y)=0 then d x y else bU (f x) (f y):=by funext x y;rw[zBO,zEi]
 rw[e];exact this
def zA0(a b:Val):Int:=orI [bU (cD a) (cD b),gG a b]
theorem zBF:Lin zA0:=zS0 cD zS1
theorem zIP(a b:Val):mv 78 [.agg (zF a),.agg (zF b)] [] (int (zA0 a b)) []:=by
 refine ml [] [.slot 4] func78 (by kernel_rfl) ?_
 (conv in kq _ _=>cbv)
 simp -implicitDefEqProofs [zF];refine z7 (zDe a) (by simp[zF]) (by simp) ?_;simp -implicitDefEqProofs;refine z7 (zDe b) (by simp[zF]) (by simp) ?_;simp -implicitDefEqProofs;refine z7 (iN (cD a) (cD b)) (by simp) (by simp) ?_;simp -implicitDefEqProofs;refine z7 (zEb a b) (by simp[zF]) (by simp) ?_;simp -implicitDefEqProofs;refine z7 (zSQ [bU (cD a) (cD b),gG a b]) (by simp) (by simp) ?_;simp -implicitDefEqProofs;exact zA 0 (by simp[zA0])
def qH2:Go.Shelf.Ren:=⟨fun | 6=>77 | 15=>121 | 14=>120 | 28=>165 | 29=>166 | 20=>157 | 21=>158 | 22=>159 | 23=>160 | 24=>161 | 25=>162 | 26=>163 | 27=>164 | 46=>181 | 49=>184 | 50=>185 | 57=>197 | 47=>182 | 48=>183|n=>n,fun | 22=>44 | 24=>46 | 25=>54 | 3=>3 | 39=>181 | 0=>0 | 53=>222 | 55=>224 | 4=>4 | 46=>215 | 45=>214 | 50=>219 | 5=>5 | 9=>9 | 66=>241 | 70=>245 | 76=>256 | 77=>257|n=>n,fun n=>n⟩
theorem zXn:Go.Proofs.SlLaysF0.n6 prog qH2:={
 mixed:=by kernel_rfl,
 f6:=⟨f77.name,by decide,func77.trans (congrArg some (by kernel_rfl))⟩,
 f14:=⟨f120.name,by decide,func120.trans (congrArg some (by kernel_rfl))⟩,
 f15:=func121.trans (congrArg some (by kernel_rfl)),
 f20:=⟨f157.name,by decide,func157.trans (congrArg some (by kernel_rfl))⟩,
 f21:=⟨f158.name,by decide,func158.trans (congrArg some (by kernel_rfl))⟩,
 f22:=⟨f159.name,by decide,func159.trans (congrArg some (by kernel_rfl))⟩,
 f23:=⟨f160.name,by decide,func160.trans (congrArg some (by kernel_rfl))⟩,
 f24:=⟨f161.name,by decide,func161.trans (congrArg some (by kernel_rfl))⟩,
 f25:=⟨f162.name,by decide,func162.trans (congrArg some (by kernel_rfl))⟩,
 f26:=⟨f163.name,by decide,func163.trans (congrArg some (by kernel_rfl))⟩,
 f27:=⟨f164.name,by decide,func164.trans (congrArg some (by kernel_rfl))⟩,
 f28:=func165.trans (congrArg some (by kernel_rfl)),
 f29:=func166.trans (congrArg some (by kernel_rfl)),
 f46:=⟨f181.name,by decide,func181.trans (congrArg some (by kernel_rfl))⟩,
 f47:=func182.trans (congrArg some (by kernel_rfl)),
 f48:=func183.trans (congrArg some (by kernel_rfl)),
 f49:=⟨f184.name,by decide,func184.trans (congrArg some (by kernel_rfl))⟩,
 f50:=⟨f185.name,by decide,func185.trans (congrArg some (by kernel_rfl))⟩,
 f57:=⟨f197.name,by decide,func197.trans (congrArg some (by kernel_rfl))⟩,
 t0:=underlying0,
 a0:=isAgg0,
 z0:=sizeOf0,
 v0:=zeroValue0,
 t3:=underlying3,
 a3:=isAgg3,
 z3:=sizeOf3,
 v3:=zeroValue3,
 t4:=underlying4,
 a4:=isAgg4,
 z4:=sizeOf4,
 v4:=zeroValue4,
 t5:=underlying5,
 a5:=isAgg5,
 z5:=sizeOf5,
 v5:=zeroValue5,
 t9:=underlying9,
 a9:=isAgg9,
 z9:=sizeOf9,
 v9:=zeroValue9,
 t22:=underlying44,
 a22:=isAgg44,
 z22:=sizeOf44,
 v22:=zeroValue44,
 t25:=underlying54,
 a25:=isAgg54,
 z25:=sizeOf54,
 v25:=zeroValue54,
 t39:=underlying181,
 a39:=isAgg181,
 z39:=sizeOf181,
 v39:=zeroValue181,
 t45:=underlying214,
 a45:=isAgg214,
 z45:=sizeOf214,
 v45:=zeroValue214,
 t46:=underlying215,
 a46:=isAgg215,
 z46:=sizeOf215,
 v46:=zeroValue215,
 t50:=underlying219,
 a50:=isAgg219,
 z50:=sizeOf219,
 v50:=zeroValue219,
 t53:=underlying222,
 a53:=isAgg222,
 z53:=sizeOf222,
 v53:=zeroValue222,
 t55:=underlying224,
 a55:=isAgg224,
 z55:=sizeOf224,
 v55:=zeroValue224,
 t66:=underlying241,
 a66:=isAgg241,
 z66:=sizeOf241,
 v66:=zeroValue241,
 t70:=underlying245,
 a70:=isAgg245,
 z70:=sizeOf245,
 v70:=zeroValue245,
 t76:=underlying256,
 a76:=isAgg256,
 z76:=sizeOf256,
 v76:=zeroValue256,
 t77:=underlying257,
 a77:=isAgg257,
 z77:=sizeOf257,
 v77:=zeroValue257}
theorem zUv:∀args w,(callFunc 78 args).run prog w=.ok (.enter 78 args) w:=enters_of func78 (by kernel_rfl) rfl
theorem qAg:zHT prog 77 78 zF zA0 :=
 zTv (k:=3) (fun _=>rfl) zBF.ord zIP fun α _ enc hk h1 cf hO blk off cap d w hcmp hH hblk hsz =>
  Go.Proofs.AnyQ.slices_SortFunc zXn 3 isAgg46 sizeOf46 enc hk h1 cf hO 78 #[] blk off cap d w zUv hcmp hH hblk hsz
theorem qGS:∀(p:Option Addr) (cap:Nat) (fv:Value) (w:World),Calls prog 77 #[.slice p 0 cap,fv] w fun e w'=>e=.returned (.tuple #[])/\w'=w :=
 fun p cap fv w=>Go.Proofs.AnyF.slices_SortFunc_none zXn p cap fv w
theorem zLN(l:wI):l.flatMap zF=zR l:=by
 induction l with
 |nil=>simp
 |cons v l ih=>simp[ih,zF]
theorem zLd(l:wI)(hmx:l.length<4611686018427387904):mv 77 [.row 0 l.length,.clo 78 [] []] [.row false 46 3 l.length (zR l)] (.tup []) [.row false 46 3 l.length (zR (cM zA0 l))]:=by
 have:=zLe (sz:=3) (by omega) (fun _=>rfl) (fun b=>by simp[zF]) zBF.ord 46 qAg qGS l hmx
 simpa only[zLN]using this
end Go.Proofs.YtdnelmeboihpkaaGreatDoor
namespace Go.Proofs.YtdnelmeboihpkaaGreatDoor
open Go.Proofs Go.Abs
theorem zSE(c:Int)(hc:c=0\/c=1\/c=2)(w:World):Calls prog 180 #[.int .u64 1,.int .u64 c] w fun e w'=>e=.returned (.tuple #[.int .u64 0,.int .u64 c])/\w'=w:=by
 rcases hc with rfl|rfl|rfl
 all_goals
  go_enter func180,Tryz.ntmps180
  go_wp2
  go_ret2
  exact⟨by kernel_rfl,rfl⟩
theorem zMC(c:Int)(hc:c=0\/c=1\/c=2)(w:World):Calls prog 156 #[.int .u64 1,.int .u64 c] w fun e w'=>e=.returned (.tuple #[.int .u64 0,.int .u64 c])/\w'=w:=by
 have h:=zSE c hc;have hw:IntKind.u64.wrap c=c:=by rcases hc with rfl|rfl|rfl<;>rfl
 go_enter func156,Tryz.ntmps156
 go_wp2_with (go_at_call 180;refine(h _).mono ?_;rintro e w' ⟨rfl,rfl⟩)
 go_ret2
 exact⟨rfl,rfl⟩
theorem u49:prog.underlying 161=some (.slice 44):=by kernel_rfl
theorem zV7:(prog.info? 44).map (·.size)=some 1:=by kernel_rfl
theorem i36:(prog.info? 44).map (fun i=>(i.size,i.bytes,i.zero))=some (1,24,some (.slice none 0 0)):=by kernel_rfl
theorem zMA(c:Nat)(hc:c<=2)(w:World):(Instr.makeSlice 161 (.int .i64 c) (.int .i64 c)).run prog w=.ok (.slice (some ⟨w.heap.size,0,none⟩) c c) (w.alloc (.cells (madeCells #[.slice none 0 0] c) 44)):=by obtain⟨i,hi,hh⟩:=jAj.1 i36;simp only[jBp]at hh;obtain⟨h1,h2,h3⟩:=hh;have:=run_make w 161 44 i (.slice none 0 0) u49 hi h3 .i64 .i64 c c (by omega) (by omega) (by rw[h2];omega) (by omega);rw[this,h1];simp[Value.cells]
theorem zQh{P:Program}{ops:Array Oper}{o:Oper}{a:Act}{w w':World}{K:Act->World->Prop}{Q:Exit->Act->World->Prop}{E:Prop}
 (hg:o.guard=none)(d s:Operand)(t:TypeId)(hop:o.op=Op.call {callee:=Callee.builtin Builtin.copy,args:=#[d,s],argTypes:=#[t,t]})
 (vd vs:Value)(hd:a.eval d=vd)(hs:a.eval s=vs)(v:Value)(hrun:(Builtin.copy_ #[t,t] o.type #[vd,vs]).run P w=.ok v w')(hK:K (a.put o.dst v) w') :
 if Region.wanted o (yielded ops a.tmps)=true then Oper.wp P o a w K Q else E:=by
 have hw:Region.wanted o (yielded ops a.tmps)=true:=by simp[Region.wanted,hg]
 rw[if_pos hw];unfold Oper.wp;simp[execOp,hop,resolve,invoke,builtin,hs,hd,hrun,Result.andThen];exact hK
theorem zS9(z:Value)(n:Nat):madeCells #[z] n=Array.replicate n z:=Array.ext (by simp[madeCells]) (by intro i h1 h2;simp[madeCells,Nat.mod_one])
theorem zCm(w:World)(cur cur':Array Value):(w.alloc (.cells cur 44)).setRow w.heap.size cur'=w.alloc (.cells cur' 44):=by unfold World.setRow World.alloc;simp only[World.mk.injEq,and_true];apply Array.ext_getElem?;intro k;simp only[Array.getElem?_modify,Array.getElem?_push];split<;>split<;>simp_all
theorem zMS(b o cap:Nat)(v:Value)(w:World)(hv:w.cell? ⟨b,o,none⟩=some v) :
 Calls prog 119 #[.slice (some ⟨b,o,none⟩) 1 cap,.int .i64 0] w fun e w'=>e=.returned (.slice (some ⟨w.heap.size,0,none⟩) 0 0)/\w'=w.alloc (.cells #[] 44):=by
 have h:=zMC 0 (by simp);have hm:∀w:World,(Instr.makeSlice 161 (.int .i64 0) (.int .i64 0)).run prog w=.ok (.slice (some ⟨w.heap.size,0,none⟩) 0 0) (w.alloc (.cells #[] 44)):=fun w=>(zMA 0 (by decide) w).trans (by rw[zS9];rfl)
 go_enter func119,Tryz.ntmps119
 go_wp2_with (go_at_call 156;refine(h _).mono ?_;rintro e w' ⟨rfl,rfl⟩)
 have hcp:=run_copy_none (P:=prog) (w'.alloc (.cells #[] 44)) 161 161 3 44 (some ⟨w'.heap.size,0,none⟩) (some ⟨b,o,none⟩) 0 0 1 cap u49 zV7 (by rfl)
 go_wp2
 rw[hcp]
 go_wp2
 refine wp_loop_rounds 1 ?_;simp only[Code.rounds]
 go_wp2
 go_ret
 exact⟨rfl,rfl⟩
theorem zMT(b o cap:Nat)(v:Value)(w:World)(hv:w.cell? ⟨b,o,none⟩=some v)(h1:v.oneCell'=true)(hb:b<w.heap.size) :
 Calls prog 119 #[.slice (some ⟨b,o,none⟩) 1 cap,.int .i64 1] w fun e w'=>e=.returned (.slice (some ⟨w.heap.size,0,none⟩) 1 1)/\w'=w.alloc (.cells #[v] 44):=by
 have h:=zMC 1 (by simp);have hm:∀w:World,(Instr.makeSlice 161 (.int .i64 1) (.int .i64 1)).run prog w=.ok (.slice (some ⟨w.heap.size,0,none⟩) 1 1) (w.alloc (.cells #[.slice none 0 0] 44)):=fun w=>(zMA 1 (by decide) w).trans (by rw[zS9];rfl)
 go_enter func119,Tryz.ntmps119
 go_wp2_with (go_at_call 156;refine(h _).mono ?_;rintro e w' ⟨rfl,rfl⟩)
 have hcp:=run_copy_row (P:=prog) (w'.alloc (.cells #[.slice none 0 0] 44)) 161 161 3 44 w'.heap.size 0 1 1 ⟨b,o,none⟩ 1 cap #[.slice none 0 0] 44 [v] u49 zV7 (heap_alloc_new _ _) (by rfl)
  (by
   intro j u hj;cases j with
   |succ j=>simp at hj
   |zero =>
    simp at hj;subst hj;rw[<-hv];exact World.cell?_alloc_lt _ _ (a:=⟨b,o+0,none⟩) hb) (by simp) (by simpa using h1)
 rw[zCm]at hcp;simp only[List.take_zero,jBy,jAb,jBe,List.drop_succ_cons,jB1,List.drop_nil,jBa]at hcp
 go_wp2
 rw[hcp]
 go_wp2
 refine wp_loop_rounds 1 ?_;simp only[Code.rounds]
 go_wp2
 go_ret
 exact⟨rfl,rfl⟩
theorem zMU(b o cap:Nat)(v:Value)(w:World)(hv:w.cell? ⟨b,o,none⟩=some v)(h1:v.oneCell'=true)(hb:b<w.heap.size) :
 Calls prog 119 #[.slice (some ⟨b,o,none⟩) 1 cap,.int .i64 2] w fun e w'=>e=.returned (.slice (some ⟨w.heap.size,0,none⟩) 2 2)/\w'=(w.alloc (.cells #[v,v] 44)).drew:=by
 have h:=zMC 2 (by simp);have hm:∀w:World,(Instr.makeSlice 161 (.int .i64 2) (.int .i64 2)).run prog w=.ok (.slice (some ⟨w.heap.size,0,none⟩) 2 2) (w.alloc (.cells #[.slice none 0 0,.slice none 0 0] 44)):=fun w=>(zMA 2 (by decide) w).trans (by rw[zS9];rfl)
 go_enter func119,Tryz.ntmps119
 go_wp2_with (go_at_call 156;refine(h _).mono ?_;rintro e w' ⟨rfl,rfl⟩)
 have hcp:=run_copy_row (P:=prog) (w'.alloc (.cells #[.slice none 0 0,.slice none 0 0] 44)) 161 161 3 44 w'.heap.size 0 2 2 ⟨b,o,none⟩ 1 cap #[.slice none 0 0,.slice none 0 0] 44 [v] u49 zV7 (heap_alloc_new _ _) (by rfl)
  (by
   intro j u hj;cases j with
   |succ j=>simp at hj
   |zero =>
    simp at hj;subst hj;rw[<-hv];exact World.cell?_alloc_lt _ _ (a:=⟨b,o+0,none⟩) hb) (by simp) (by simpa using h1)
 rw[zCm]at hcp;simp only[List.take_zero,jBy,jAb,jBe,List.drop_succ_cons,List.drop_zero,jB1,jBj]at hcp
 go_wp2
 rw[hcp]
 go_wp2
 refine wp_loop_rounds 2 ?_;simp only[Code.rounds]
 go_wp2
 have hcp2:=run_copy_row (P:=prog) (w'.alloc (.cells #[v,.slice none 0 0] 44)).drew 161 161 3 44 w'.heap.size 1 1 1 ⟨w'.heap.size,0,none⟩ 1 2 #[v,.slice none 0 0] 44 [v] u49 zV7 (heap_alloc_new _ _) (by rfl)
  (by
   intro j u hj;cases j with
   |succ j=>simp at hj
   |zero =>
    simp at hj;subst hj;exact World.cell?_alloc_new _ _ 44 0) (by simp) (by simpa using h1)
 have e:(w'.alloc (.cells #[v,.slice none 0 0] 44)).drew.setRow w'.heap.size (List.take 1 #[v,.slice none 0 0].toList++[v]++List.drop (1+[v].length) #[v,.slice none 0 0].toList).toArray=(w'.alloc (.cells #[v,v] 44)).drew:=by show ((w'.alloc (.cells #[v,.slice none 0 0] 44)).setRow w'.heap.size _).drew=_;rw[zCm];rfl
 rw[e]at hcp2
 go_region_law (refine zQh rfl (.tmp 41) (.tmp 44) 161 rfl _ _ rfl rfl _ hcp2 ?_)
 go_wp2
 go_ret
 exact⟨rfl,rfl⟩
theorem zBL{H:Mem}{L:wM} {U:St}{w:World}(hs:RelSt H L U w):Nxt H L w H L U w.drew :=
 ⟨hs.heap_eq rfl,⟨rfl,rfl,rfl,jA _,fun _ _ _=>rfl,HLe.refl _,fun _ _ _ h=>.inl h,jCk _,fun _ _ h=>h⟩,LLe.refl _,fun _ h=>.inl h⟩
theorem v6{H:Mem}{L:wM}{c:A}{v:Value}(h:Rel H L c v):∀n,qE H L (List.replicate n c) (List.replicate n v)
 | 0=>jV
 |n+1=>qW h (v6 h n)
theorem zPX(n:Nat)(hn:n<=2)(c:A):mv 119 [.sl 1 [c],int n] [] (.sl n (List.replicate n c)) []:=by
 intro H L w vs hs hvs;obtain⟨x,t,rfl,hx,ht⟩:=qF hvs;obtain⟨y,t,rfl,hy,ht⟩:=qF ht;obtain rfl:=jP ht;simp only[int,Rel]at hx hy;subst hy;obtain⟨a,cap,rfl,h1,h2,h3⟩:=hx;rcases h3 with h3|⟨b,o,us,rfl,hc,ho,hat⟩
 .omega
 obtain⟨v,t,rfl,hv,ht⟩:=qF hc;obtain rfl:=jP ht;have hp:=hs.pers b o v (by simpa using hat 0 v rfl);have h1v:v.oneCell'=true:=ho v (by simp);have hb:=World.block_lt_of_cell? w _ hp;have key:Calls prog 119 #[.slice (some ⟨b,o,none⟩) 1 cap,.int .i64 n] w fun e w'=>e=.returned (.slice (some ⟨w.heap.size,0,none⟩) n n) /\
  (w'=w.alloc (.cells (List.replicate n v).toArray 44)\/w'=(w.alloc (.cells (List.replicate n v).toArray 44)).drew):=by
  have h:n=0\/n=1\/n=2:=by omega
  rcases h with rfl|rfl|rfl
  .exact(zMS b o cap v w hp).mono fun e w' h=>⟨h.1,.inl h.2⟩
  .exact(zMT b o cap v w hp h1v hb).mono fun e w' h=>⟨h.1,.inl h.2⟩
  .exact(zMU b o cap v w hp h1v hb).mono fun e w' h=>⟨h.1,.inr h.2⟩
 refine key.mono fun e w' h=>?_
 obtain⟨rfl,hw⟩:=h;obtain⟨hn1,hn2⟩:=zD8 hs (List.replicate n v) 44;refine⟨.ret (.sl n (List.replicate n c)),[],zGq H w.heap.size (List.replicate n v),L,⟨_,rfl,?_⟩,?_,rfl,rfl⟩
 .simp only[Rel];refine⟨_,n,rfl,jA _,by simp[maxLen];omega,.inr ⟨w.heap.size,0,List.replicate n v,rfl,?_,fun u hu=>?_,hn2⟩⟩
  .have hv':=Rel.mono hn1.step.hle (LLe.refl _) _ hv;exact v6 hv' n
  .rw[(jD5.1 hu).2];exact h1v
 .rcases hw with rfl|rfl
  .exact hn1
  .exact hn1.trans (zBL hn1.st)
end Go.Proofs.YtdnelmeboihpkaaGreatDoor
namespace Go.Proofs.YtdnelmeboihpkaaGreatDoor
open Go.Abs
def zL2:K:=(K.ops [D 198 4 1,L 199 198 1,J 200 15 31,kd 201 41 31 1 kz0 [(0,31,(kt 200))],kP 202 41 31 352 199 201,D 203 4 1,S 203 202 1])
def zL1:K:=(Z (K.dops [(0,0,M 147 3),(1,0,D 148 4 1),(2,0,L 149 148 1),(3,0,M 150 13),(4,0,kX 151 149 150 31),(5,0,J 152 151 31),(6,0,D 153 4 1),(7,0,L 154 153 1),(8,0,M 155 12),(9,0,kX 156 154 155 31),(10,0,J 157 156 31),(11,0,D 158 14 0),(12,0,J 159 158 3),(13,4,kC 160 67 [(kt 147),(kt 152),(kt 157),(kt 159)]),(14,2,D 161 15 14),(15,0,S 161 160 15)]) (G [M 162 3,kC 163 65 [(kt 162),(kc 5)],kQi 164 163 1 false] (Y 164 (Z (K.wk (K.dops [(0,0,M 165 3),(1,0,kb 166 kz2 [(0,1,(kc 1))]),(2,0,D 167 4 1),(3,0,L 168 167 1),(4,0,M 169 12),(5,0,kX 170 168 169 31),(6,0,J 171 170 31),(7,0,D 172 14 0),(8,0,J 173 172 3),(9,11,kC 174 68 [(kt 165),(kt 166),(kt 171),(kt 173),(kc 1)]),(10,307,⟨none,.alr (some 16) 7 kz1⟩),(11,0,S 16 174 15)])) (Z (K.wk (K.dops [(0,0,M 175 3),(1,0,D 176 4 1),(2,0,L 177 176 1),(3,0,M 178 13),(4,0,kX 179 177 178 31),(5,0,J 180 179 31),(6,0,D 181 4 1),(7,0,L 182 181 1),(8,0,M 183 12),(9,0,kX 184 182 183 31),(10,0,J 185 184 31),(11,0,D 186 14 0),(12,0,J 187 186 3),(13,11,kC 188 67 [(kt 175),(kt 180),(kt 185),(kt 187)]),(14,308,⟨none,.alr (some 17) 8 kz1⟩),(15,0,S 17 188 15)])) (K.ops [M 189 3,kb 190 [ki,ki,ki] [],J 191 16 15,D 192 15 14,J 193 192 15,J 194 17 15,kd 195 39 15 3 kz4 [(0,15,(kt 191)),(15,15,(kt 193)),(30,15,(kt 194))],kC 196 66 [(kt 189),(kc 5),(kc 0),(kt 190),(kt 195)],D 197 15 14,S 197 196 15]))) ks)))
def zL0:K:=(Z (G [M 134 12,M 135 13,kQ 136 134 135 false,M 137 136,T 137 true (M 138 3),T 137 true (kC 139 65 [(kt 138),(kc 2)]),T 137 true (kQi 140 139 1 false),kPf 141 137 140] (Y 141 (K.ops [M 142 3,D 143 14 0,J 144 143 3,kC 145 66 [(kt 142),(kc 2),(kc 0),(kt 144),(.const kl)],D 146 15 14,S 146 145 15]) (K.wk zL1))) (K.wk zL2))
def zHQ:K:=(Z (K.wk (K.dops [(0,0,M 105 11),(1,0,⟨none,.bin (some 106) .add (kc 30) (kt 105)⟩),(2,1,kC 107 64 [(kt 106)]),(3,0,D 108 4 1),(4,0,L 109 108 1),(5,0,M 110 12),(6,0,kX 111 109 110 31),(7,0,D 112 111 0),(8,0,J 113 112 3),(9,1,kC 114 62 [(kt 113)]),(10,0,⟨none,.build (some 115) kz5 [(0,3,(kt 107)),(3,1,(.const (.string ⟨#[111,108,100]⟩))),(4,5,(kt 114))]⟩),(11,305,⟨none,.alr (some 14) 5 kz5⟩),(12,0,S 14 115 11)])) (Z (K.wk (K.dops [(0,0,M 116 11),(1,0,⟨none,.bin (some 117) .add (kc 6) (kt 116)⟩),(2,1,kC 118 64 [(kt 117)]),(3,1,kC 119 64 [(kc 0)]),(4,0,⟨none,.bslice (some 120) 9 1 7 [(.string ⟨#[]⟩),(.string ⟨#[]⟩),(.string ⟨#[]⟩),(.string ⟨#[]⟩),(.string ⟨#[]⟩),(.string ⟨#[]⟩),(.string ⟨#[]⟩)] [(0,1,(.const (.string ⟨#[99,48]⟩))),(1,1,(.const (.string ⟨#[99,49]⟩))),(2,1,(.const (.string ⟨#[99,50]⟩))),(3,1,(.const (.string ⟨#[99,51]⟩))),(4,1,(.const (.string ⟨#[99,52]⟩))),(5,1,(.const (.string ⟨#[99,53]⟩))),(6,1,(.const (.string ⟨#[99,54]⟩)))]⟩),(5,0,M 121 11),(6,0,kX 122 120 121 1),(7,0,L 123 122 1),(8,0,J 124 14 11),(9,0,kd 125 85 11 1 kz5 [(0,11,(kt 124))]),(10,0,D 126 4 1),(11,0,L 127 126 1),(12,0,M 128 13),(13,0,kX 129 127 128 31),(14,0,D 130 129 0),(15,0,J 131 130 3),(16,1,kC 132 62 [(kt 131)]),(17,0,kb 133 kz0 [(0,3,(kt 118)),(3,1,(kc 5)),(4,3,(kt 119)),(7,1,(kt 123)),(8,1,(kt 125)),(9,5,(kt 132))]),(18,306,⟨none,.alr (some 15) 6 kz0⟩),(19,0,S 15 133 31)])) (K.wk zL0)))
def zLz:K:=(Z (G [kMi 18 0] (K.block 6 (K.loop (Z (G [M 204 18,D 205 4 1,L 206 205 1,kN 207 206,kB 208 204 207 .lss] (Y 208 ks (K.exit 6))) (Z (K.block 7 (K.dops [(0,1,D 211 4 0),(1,1,L 212 211 1),(2,0,D 213 4 0),(3,0,L 214 213 1),(4,0,kXi 215 214 6 0),(5,0,D 216 215 5),(6,0,L 217 216 1),(7,0,D 218 4 1),(8,0,L 219 218 1),(9,0,M 220 18),(10,0,kX 221 219 220 31),(11,0,D 222 221 0),(12,0,J 223 222 3),(13,0,kd 224 31 3 1 [ki,ki,ki] [(0,3,(kt 223))]),(14,0,kP 225 31 3 24 217 224),(15,0,kXi 226 212 6 0),(16,0,D 227 226 5),(17,0,S 227 225 1)])) (K.ops [M 209 18,kBi 210 209 1 .add,M 18 210])))))) (G [J 228 4 2,S 2 228 2] kr))
def zLy:K:=(G [M 80 3,kC 81 65 [(kt 80),(kc 8)],M 10 81] (Z (G [kMi 11 0] (K.block 4 (K.loop (Z (G [M 82 11,M 83 10,kB 84 82 83 .lss] (Y 84 ks (K.exit 4))) (Z (K.block 5 (G [M 87 3,M 88 5,kC 89 65 [(kt 87),(kt 88)],M 12 89] (G [M 90 3,M 91 5,kC 92 65 [(kt 90),(kt 91)],M 13 92] (Z (G [M 93 12,M 94 13,kQ 95 93 94 false,M 96 95,T 96 true (M 97 3),T 96 true (kC 98 65 [(kt 97),(kc 3)]),T 96 true (kBi 99 98 0 .gtr),kPf 100 96 99] (Y 100 (K.ops [M 101 12,kBi 102 101 1 .add,M 103 5,kB 104 102 103 .rem,M 13 104]) ks)) (K.wk zHQ))))) (K.wk (K.ops [M 85 11,kBi 86 85 1 .add,M 11 86]))))))) (K.wk zLz)))
def zWf:K:=G [kZ 2 [kl,kl]] (G [M 19 0,kb 20 [kl,ki,ki] [(0,1,(kt 19)),(2,1,(kc 40))],kO 21 20,M 3 21] (G [kC 22 64 [(kc 0)],⟨none,.build (some 23) kz9 [(0,3,(kt 22)),(3,1,(.const (.string ⟨#[99,111,114,101]⟩)))]⟩,⟨none,.brow (some 24) 112 6 1 kz9 [(0,6,(kt 23))]⟩,kb 25 [kl,kl] [(0,1,(kt 24))],kZ 4 [kl,kl],S 4 25 2] (G [M 26 3,kC 27 65 [(kt 26),(kc 3)],⟨none,.bin (some 28) .add (kc 2) (kt 27)⟩,M 5 28] (Z (G [kMi 6 0] (K.block 0 (K.loop (Z (G [M 29 6,M 30 5,kB 31 29 30 .lss] (Y 31 ks (K.exit 0))) (Z (K.block 1 (Z (K.dops [(0,0,M 34 6),(1,0,⟨none,.bin (some 35) .add (kc 1) (kt 34)⟩),(2,1,kC 36 64 [(kt 35)]),(3,1,kC 37 64 [(kc 0)]),(4,0,⟨none,.bslice (some 38) 9 1 4 [(.string ⟨#[]⟩),(.string ⟨#[]⟩),(.string ⟨#[]⟩),(.string ⟨#[]⟩)] [(0,1,(.const (.string ⟨#[65]⟩))),(1,1,(.const (.string ⟨#[66]⟩))),(2,1,(.const (.string ⟨#[67]⟩))),(3,1,(.const (.string ⟨#[68]⟩)))]⟩),(5,0,M 39 6),(6,1,kX 40 38 39 1),(7,1,L 41 40 1),(8,0,kb 42 kz0 [(0,3,(kt 36)),(3,1,(kc 0)),(4,3,(kt 37)),(7,1,(kt 41))]),(9,0,kZ 7 kz0),(10,0,S 7 42 31)]) (G [M 43 3,kC 44 65 [(kt 43),(kc 2)],⟨none,.bin (some 45) .add (kc 1) (kt 44)⟩,M 8 45] (Z (G [kMi 9 0] (K.block 2 (K.loop (Z (G [M 46 9,M 47 8,kB 48 46 47 .lss] (Y 48 ks (K.exit 2))) (Z (K.block 3 (K.dops [(0,2,D 51 7 8),(1,2002,L 52 51 1),(2,0,M 53 6),(3,0,⟨none,.bin (some 54) .mul (kc 2) (kt 53)⟩),(4,0,⟨none,.bin (some 55) .add (kc 20) (kt 54)⟩),(5,0,
 M 56 9),(6,0,kB 57 55 56 .add),(7,0,kC 58 64 [(kt 57)]),(8,0,⟨none,.bslice (some 59) 9 1 2 [(.string ⟨#[]⟩),(.string ⟨#[]⟩)] [(0,1,(.const (.string ⟨#[120]⟩))),(1,1,(.const (.string ⟨#[121]⟩)))]⟩),(9,0,M 60 9),(10,2,kX 61 59 60 1),(11,2,L 62 61 1),(12,0,M 63 9),(13,0,kd 64 3 1 3 [ki,ki,ki] [(0,1,(kc 0)),(1,1,(kc 1)),(2,1,(kc 0))]),(14,0,M 65 3),(15,1002,kC 66 65 [(kt 65),(kc 3)]),(16,0,kX 67 64 66 1),(17,0,L 68 67 1),(18,0,kb 69 kz2 [(0,1,(kt 68))]),(19,0,kb 70 kz5 [(0,3,(kt 58)),(3,1,(kt 62)),(10,1,(kt 63)),(4,5,(kt 69))]),(20,0,kd 71 85 11 1 kz5 [(0,11,(kt 70))]),(21,0,kP 72 85 11 112 52 71),(22,2,D 73 7 8),(23,0,S 73 72 1)])) (K.ops [M 49 9,kBi 50 49 1 .add,M 9 50])))))) (K.wk (K.ops [D 74 4 1,L 75 74 1,J 76 7 31,kd 77 41 31 1 kz0 [(0,31,(kt 76))],kP 78 41 31 352 75 77,D 79 4 1,S 79 78 1])))))) (K.ops [M 32 6,kBi 33 32 1 .add,M 6 33])))))) (K.wk zLy)))))
def qFZ:Nat->Option wD:=fun|12=>k_ [2,2002,0,0,0,0,0,0,0,0,2,2,0,0,0,1002,0,0,0,0,0,0,2,0] | 22=>k_ [0,0,1,0,0,0,0,0,0,1,0,305,0] | 23=>k_ [0,0,1,1,0,0,0,0,0,0,0,0,0,0,0,0,1,0,306,0] | 26=>k_ [0,0,0,0,0,0,0,0,0,0,0,0,0,4,2,0] | 28=>k_ [0,0,0,0,0,0,0,0,0,11,307,0] | 29=>k_ [0,0,0,0,0,0,0,0,0,0,0,0,0,11,308,0]|_=>none
theorem qEC:kv f28 qFZ zWf:=mw (by kernel_rfl)
section
variable{l:wB}
def oM:wE:=[int (idR 0).a,int (idR 0).b,int (idR 0).c,.lit (.string ⟨#[99,111,114,101]⟩),.nil,.nil]
def stG(l:wB)(m:Gm)(Ds:wQ):St :=
 [.box [.nil,.nil],.box (gB l m),.row false 112 6 1 oM,.box [.row 2 1,.row 4 Ds.length],.row false 41 31 Ds.length (z6 Ds)]
theorem zGT(a b:Dfn)(s:Id)(m:Gm)(h:b.slots.length<=6):Gst m (gI l a b s m).2 400:=by
 unfold gI;have h1:=zEe (l:=l) b a s m h;split
 .have h2:=gL l a s 1 1 (sZ l b a s m).2.tick;have h3:=zEe (l:=l) b a s (cV l a s 1 1 (sZ l b a s m).2.tick).2 h;exact((((h1.trans (qU _) (jAf _)).trans h2 (jAf _)).trans h3 (jAf _)).trans (gK _ _ _ _ _) (by simp[gC]))
 .exact h1.trans (qU _) (by omega)
def fV(l:wB)(x y:Nat)(A B:Dfn)(s:Id)(m:Gm):Exp×Gm:=if x=y then (if gN l m 2=1 then bJ m.tick 2 0 s []else gI l A B s m.tick)else gI l A B s m
theorem zMh(x y:Nat)(a b:Dfn)(s:Id)(m:Gm)(h:b.slots.length<=6):Gst m (fV l x y a b s m).2 401:=by
 unfold fV;split
 .split
  .exact(qU m).trans (gK _ _ _ _ _) (by omega)
  .exact(qU m).trans (zGT a b s _ h) (by omega)
 .exact(zGT a b s _ h).mono (by omega)
theorem zNH{Ds:wQ}{k:Nat}(h:k<Ds.length):∃a:wE,zJ Ds[k]=a/\(∀rf g,vwL rf g a=a)/\jT a=a/\(∀n,eJ n a=true)/\(z6 Ds).drop (k*31)=a++z6 (Ds.drop (k+1))/\(∀R:wE,List.take 31 (a++R)=a)/\k*31+31<=Ds.length*31 :=
 ⟨_,rfl,fun rf g=>(bV _).2 _ _,(bV _).1,fun n=>(bV _).bnd n,yG h,fun R=>List.take_left' (zJ3 _),by omega⟩
theorem zSV(hl:∀x∈l,w64 x=x)(Q:Ex->wK)(m:Gm)(hok:m.Ok 450)(Ds:wQ)(x y i:Nat)(hx:x<Ds.length)(hy:y<Ds.length)(hD:Ds.length<=100)(many cv:Int)(u:Slt)(d:Dfn)(hd:d.body=Exp.zero)
 (h1:Ds[x].slots.length<=6)(h2:Ds[y].slots.length<=6)(hf:∀u∈Ds[y].slots,u.typ=tK u.typ.k/\(u.typ.k=0\/u.typ.k=1))
 (hQ:∀env' U',b9 0 (qV [(2,.ptr 0 0),(3,.ptr 1 0),(4,.ptr 3 0),(5,int many),(10,int cv),(11,int i),(15,.ptr 6 0)]) (stG l (gI l Ds[x] Ds[y] u.id m).2 Ds++[.box (j8 u),.box (zJ {d with body:=(gI l Ds[x] Ds[y] u.id m).1})]) env' U'->Q .norm env' U') :
 wpK prog 0 zL1 Q (qV [(2,.ptr 0 0),(3,.ptr 1 0),(4,.ptr 3 0),(5,int many),(10,int cv),(11,int i),(12,int x),(13,int y),(14,.ptr 5 0),(15,.ptr 6 0)])
  (stG l m Ds++[.box (j8 u),.box (zJ d)]):=by
 obtain⟨r,hr⟩:∃r,r=sZ l Ds[y] Ds[x] u.id m:=⟨_,rfl⟩;have g1:=zGN hl Ds[y] Ds[x] u.id h2 h1 hf m (hok.mono (by omega));have s1:=zEe (l:=l) Ds[y] Ds[x] u.id m h2;rw[<-hr]at g1 s1;have n1:=eY (l:=l) r.2 5 (by omega) (hok.adv s1 (by omega));obtain⟨ax,eax,vx,nx,bx,dx,tx,lx⟩:=zNH hx;obtain⟨ay,eay,vy,ny,by_,dy,ty,ly⟩:=zNH hy;rw[eax,eay]at g1;have hne:Ds≠[]:=fun e=>by rw[e]at hx;simp at hx
 unfold zL1;simp[stG,gB,j8,dx,dy,tx,ty,lx,ly,hx,hy,hne];refine b6 g1 [1] (by decide) (by simp[gS,gB]) (by simp[vx,vy,zK]) ?_;simp[gS,gB,zJ];refine mn n1 [1] (by simp[gS,gB]) ?_;have hrec:∀q:Exp×Gm,gI l Ds[x] Ds[y] u.id m=q->∀E S,b9 0 (qV [(2,.ptr 0 0),(3,.ptr 1 0),(4,.ptr 3 0),(5,int many),(10,int cv),(11,int i),(15,.ptr 6 0)]) (stG l q.2 Ds++[.box (j8 u),.box (zJ {d with body:=q.1})]) E S->Q .norm E S:=fun q hq E S hw=>hQ E S (by rw[hq];exact hw)
 by_cases h5:gN l r.2 5=1
 .have st1:Gst m r.2.tick 171:=s1.trans (qU _) (by omega);obtain⟨c,hc⟩:∃c,c=cV l Ds[x] u.id 1 1 r.2.tick:=⟨_,rfl⟩;have c1:=zBQ hl Ds[x] u.id h1 1 (by omega) r.2.tick 1 (.inr rfl) (hok.adv st1 (by simp[gC]));have s2:=gL l Ds[x] u.id 1 1 r.2.tick;rw[<-hc]at c1 s2;have st2:Gst m c.2 182:=st1.trans s2 (by simp[gC]);obtain⟨r2,hr2⟩:∃r2,r2=sZ l Ds[y] Ds[x] u.id c.2:=⟨_,rfl⟩;have g2:=zGN hl Ds[y] Ds[x] u.id h2 h1 hf c.2 (hok.adv st2 (by omega));have s3:=zEe (l:=l) Ds[y] Ds[x] u.id c.2 h2;rw[<-hr2]at g2 s3;have n2:=dD (l:=l) r2.2 5 0 Id.zero [c.1,r.1,r2.1] (hok.adv (st2.trans s3 (jAf _)) (by omega));rw[eax,eay]at g2;rw[eax]at c1;have hq:gI l Ds[x] Ds[y] u.id m=bJ r2.2 5 0 Id.zero [c.1,r.1,r2.1]:=by simp only[gI,<-hr,if_pos h5,<-hc,<-hr2]
  simp[gS,gB,h5];refine⟨_,_,aX 1,?_⟩;simp[List.replicate,dx,dy,tx,ty,lx,ly,hx,hy,hne];refine zNG c1 [1] (by decide) (by simp[gS]) (by simp[gS]) (by simp[gS,gB]) (by simp[vx,zK,zB,tK,jX,Typ.k,Typ.id,Typ.kids]) (by simp[gS]) ?_;simp[gS,gB];refine⟨_,_,aX 1,?_⟩;simp[List.replicate,dx,dy,tx,ty,lx,ly,hx,hy,hne];refine zNG g2 [1] (by decide) (by simp[gS]) (by simp[gS]) (by simp[gS,gB]) (by simp[vx,vy,zK]) (by simp[gS]) ?_;simp[gS,gB,zI];refine mn n2 [1] (by simp[gS,gB,zK,Id.zero,zQ,zI]) ?_;simp[gS,gB,zI];exact hrec _ hq _ _ (mu [0,1,2,3,4,5,6] 0 (by rfl) (by simp[stG,gB,oM,j8,zJ,zI]))
 .have hq:gI l Ds[x] Ds[y] u.id m=(r.1,r.2.tick):=by simp only[gI,<-hr,if_neg h5]
  simp[gS,gB,h5];exact hrec _ hq _ _ (mu [0,1,2,3,4,5,6] 0 (by rfl) (by simp[stG,gB,oM,j8,zJ,zI]))
theorem zMI(Q:Ex->wK)(m:Gm)(Ds:wQ)(i:Nat)(hD:Ds.length<=100)(many cv:Int)(u:Slt)(d:Dfn)
 (hQ:∀env' U',b9 0 (qV [(2,.ptr 0 0),(3,.ptr 1 0),(4,.ptr 3 0),(5,int many),(10,int cv),(11,int i)]) (stG l m (Ds++[d])) env' U'->Q .norm env' U') :
 wpK prog 0 zL2 Q (qV [(2,.ptr 0 0),(3,.ptr 1 0),(4,.ptr 3 0),(5,int many),(10,int cv),(11,int i),(15,.ptr 6 0)]) (stG l m Ds++[.box (j8 u),.box (zJ d)]):=by
 unfold zL2;simp[stG,gB,zJ];refine⟨⟨by simp[maxLen];omega,by omega⟩,?_⟩;exact hQ _ _ (mu [0,1,2,3,4] 0 (by rfl) (by simp[stG,gB,oM,zAh,u4,zJ]))
theorem zZO(hl:∀x∈l,w64 x=x)(Q:Ex->wK)(m:Gm)(hok:m.Ok 500)(Ds:wQ)(x y i:Nat)(hx:x<Ds.length)(hy:y<Ds.length)(hD:Ds.length<=100)(many cv:Int)(u:Slt)(d:Dfn)(hd:d.body=Exp.zero)
 (h1:Ds[x].slots.length<=6)(h2:Ds[y].slots.length<=6)(hf:∀u∈Ds[y].slots,u.typ=tK u.typ.k/\(u.typ.k=0\/u.typ.k=1))
 (hQ:∀env' U',b9 0 (qV [(2,.ptr 0 0),(3,.ptr 1 0),(4,.ptr 3 0),(5,int many),(10,int cv),(11,int i)]) (stG l (fV l x y Ds[x] Ds[y] u.id m).2 (Ds++[{d with body:=(fV l x y Ds[x] Ds[y] u.id m).1}])) env' U'->Q .norm env' U') :
 wpK prog 0 zL0 Q (qV [(2,.ptr 0 0),(3,.ptr 1 0),(4,.ptr 3 0),(5,int many),(10,int cv),(11,int i),(12,int x),(13,int y),(14,.ptr 5 0),(15,.ptr 6 0)])
  (stG l m Ds++[.box (j8 u),.box (zJ d)]):=by
 have hrec:∀q:Exp×Gm,fV l x y Ds[x] Ds[y] u.id m=q->∀E S,b9 0 (qV [(2,.ptr 0 0),(3,.ptr 1 0),(4,.ptr 3 0),(5,int many),(10,int cv),(11,int i)]) (stG l q.2 (Ds++[{d with body:=q.1}])) E S->Q .norm E S:=fun q hq E S hw=>hQ E S (by rw[hq];exact hw)
 unfold zL0;by_cases hxy:x=y
 .have n1:=eY (l:=l) m 2 (by omega) (hok.mono (by omega));have hxy':(x:Int)=y:=by omega
  simp[stG,gB,hxy'];refine mn n1 [1] (by simp[gS,gB]) ?_;by_cases h2':gN l m 2=1
  .have hq:fV l x y Ds[x] Ds[y] u.id m=bJ m.tick 2 0 u.id []:=by simp only[fV,if_pos hxy,if_pos h2']
   have n2:=dD (l:=l) m.tick 2 0 u.id [] (hok.adv (qU m) (by omega));simp[gS,gB,h2',j8,zJ];refine mn n2 [1] (by simp[gS,gB,zK]) ?_;simp[gS,gB,zI];refine⟨_,_,m_ [0,1,2,3,4,5,6] 0 (by rfl) ?_ (by simp),zMI Q _ Ds i hD many cv u _ (hrec _ hq)⟩;simp[stG,gB,oM,j8,zJ,zI]
  .have hq:fV l x y Ds[x] Ds[y] u.id m=gI l Ds[x] Ds[y] u.id m.tick:=by simp only[fV,if_pos hxy,if_neg h2']
   simp[gS,gB,h2'];refine⟨_,_,m_ [0,1,2,3,4,5,6] 0 (by rfl) ?_ ?_,zSV hl _ m.tick (hok.adv (qU m) (by omega)) Ds x y i hx hy hD many cv u d hd h1 h2 hf ?_⟩
   .simp[stG,gB,oM,j8]
   .simp[hxy']
   .intro E S hw;simp;exact⟨_,_,hw,zMI Q _ Ds i hD many cv u _ (hrec _ hq)⟩
 .have hxy':¬(x:Int)=y:=by omega
  have hq:fV l x y Ds[x] Ds[y] u.id m=gI l Ds[x] Ds[y] u.id m:=by simp only[fV,if_neg hxy]
  simp[stG,gB,hxy'];refine⟨_,_,m_ [0,1,2,3,4,5,6] 0 (by rfl) ?_ ?_,zSV hl _ m (hok.mono (by omega)) Ds x y i hx hy hD many cv u d hd h1 h2 hf ?_⟩
  .simp[stG,gB,oM,j8]
  .simp
  .intro E S hw;simp;exact⟨_,_,hw,zMI Q _ Ds i hD many cv u _ (hrec _ hq)⟩
theorem qET{i:Nat}(h:i<7):∃R,List.drop i [A.lit (.string ⟨#[99,48]⟩),.lit (.string ⟨#[99,49]⟩),.lit (.string ⟨#[99,50]⟩),.lit (.string ⟨#[99,51]⟩),.lit (.string ⟨#[99,52]⟩),.lit (.string ⟨#[99,53]⟩),.lit (.string ⟨#[99,54]⟩)]=.lit (.string (cT.getD i ⟨#[]⟩))::R:=by
 have:i=0\/i=1\/i=2\/i=3\/i=4\/i=5\/i=6:=by omega
 rcases this with rfl|rfl|rfl|rfl|rfl|rfl|rfl<;>exact⟨_,rfl⟩
def zMj(i:Nat)(a:Id):Slt:=⟨idR ((30+i:Nat):Int),⟨#[111,108,100]⟩,yI a,0,0⟩
def zMi(i:Nat)(a b:Id):Dfn:=⟨idR ((6+i:Nat):Int),5,idR 0,cT.getD i ⟨#[]⟩,[zMj i a],yI b,.zero,0,[]⟩
theorem zZN(hl:∀x∈l,w64 x=x)(Q:Ex->wK)(m:Gm)(hok:m.Ok 500)(Ds:wQ)(x y i:Nat)(hx:x<Ds.length)(hy:y<Ds.length)(hD:Ds.length<=100)(hi:i<7)(many cv:Int)
 (h1:Ds[x].slots.length<=6)(h2:Ds[y].slots.length<=6)(hf:∀u∈Ds[y].slots,u.typ=tK u.typ.k/\(u.typ.k=0\/u.typ.k=1))
 (hQ:∀env' U',b9 0 (qV [(2,.ptr 0 0),(3,.ptr 1 0),(4,.ptr 3 0),(5,int many),(10,int cv),(11,int i)]) (stG l (fV l x y Ds[x] Ds[y] (idR ((30+i:Nat):Int)) m).2 (Ds++[{zMi i Ds[x].id Ds[y].id with body:=(fV l x y Ds[x] Ds[y] (idR ((30+i:Nat):Int)) m).1}])) env' U'->Q .norm env' U') :
 wpK prog 0 zHQ Q (qV [(2,.ptr 0 0),(3,.ptr 1 0),(4,.ptr 3 0),(5,int many),(10,int cv),(11,int i),(12,int x),(13,int y)]) (stG l m Ds):=by
 have w30:=zY (30+(i:Int)) (by omega);have w6:=zY (6+(i:Int)) (by omega);have i1:=vN (30+(i:Int));have i2:=vN (6+(i:Int));have i3:=vN 0;have o1:=zBN Ds[x].id;have o2:=zBN Ds[y].id;have dx:=yG hx;have dy:=yG hy;have bx:x*31+3<=Ds.length*31:=by omega
 have by_:y*31+3<=Ds.length*31:=by omega
 have hne:Ds≠[]:=fun e=>by rw[e]at hx;simp at hx
 obtain⟨R,hcT⟩:=qET hi;unfold zHQ;simp[stG,gB];refine⟨_,_,aX 1,?_⟩;simp[List.replicate,w30];refine yX i1 (by simp) (by simp[zK]) ?_;simp[hx,hy,hne,dx,dy,bx,by_,zJ];refine yX o1 (by simp[zK]) (by simp[zB]) ?_;simp[zB,zK];refine⟨_,_,aX 1,?_⟩;simp[List.replicate,w6];refine yX i2 (by simp) (by simp[zK]) ?_;refine yX i3 (by simp) (by simp[zK]) ?_;have hi':(i:Int)<7:=by omega
 simp[hi,hi',hcT,hy,hne,dy,by_,zJ];refine yX o2 (by simp[zK]) (by simp[zB]) ?_;simp[zB,zK];refine⟨_,_,m_ [0,1,2,3,4,5,6] 0 (by rfl) ?_ (by simp),zZO hl Q m hok Ds x y i hx hy hD many cv (zMj i Ds[x].id) (zMi i Ds[x].id Ds[y].id) rfl h1 h2 hf hQ⟩;simp[stG,gB,oM,j8,zJ,zMj,zMi,yI,Typ.k,Typ.id,Typ.kids,Exp.zero,Id.zero,Typ.zero,mT,zB]
end
def tT(v:Val)(sum:Int):Int:=if v.k=0 then (if v.n<0 then w64 (0-v.n)else v.n)else if v.k=1 then v.n else if v.k=2 then sum else if v.k=3 then w64 (v.n+sum)else if v.k=4 then w64 (v.kids.length+sum)else 0
def dP:Val->Int
 | .mk k n l=>tT (.mk k n l) (l.attach.foldl (fun s x=>w64 (s+dP x.1)) 0)
termination_by v=>qN v
decreasing_by
 have:=oA x.2;simp only[qN];omega
def bD(s:Int)(l:wI):Int:=l.foldl (fun s x=>w64 (s+dP x)) s
theorem dQ(v:Val):dP v=tT v (bD 0 v.kids):=by
 cases v with
 |mk k n l =>
  rw[dP];simp only[Val.kids,bD];rw[List.foldl_attach (f:=fun s x=>w64 (s+dP x))]
variable{l:wI}
theorem vY{s:Int}{i:Nat}(h:i<l.length):bD s (l.take (i+1))=IntKind.i64.wrap (bD s (l.take i)+dP l[i]):=by rw[bD,jA6 h,jCe];rfl
theorem tU(v:Val):mv 195 [.agg (zF v)] [] (int (dP v)) []:=by
 refine ml [] [.slot 2] func195 (by kernel_rfl) ?_
 (conv in kq _ _=>cbv)
 simp[zF];refine qK (S:=Nat) (fun i=>[(1,.ptr 0 0),(3,int (bD 0 (v.kids.take i))),(4,int i)]) (fun s=>[.box [int v.k,int v.n,.sl v.kids.length (zR v.kids)]]) (fun i=>i<=v.kids.length) (fun i=>v.kids.length-i) 0 (by simp)
  (mu [0] 0 (by rfl) (by simp[bD])) ?_
 intro i hi;simp;intro hl;refine qX (fun h=>?_) (fun h=>?_)<;>simp at h
 .simp[h,qL h];refine mq (tU v.kids[i]) (by simp[zF]) ?_;simp;refine zO (i+1) h (by omega) (mu [0] 0 (by rfl) (by simp[z8 h hl,vY h]))
 .have hi:i=v.kids.length:=by omega
  subst hi;by_cases h0:v.k=0
  .by_cases hn:v.n<0<;>simp[h0,hn]<;>exact zA 0 (by simp[dQ v,tT,h0,hn,w64])
  by_cases h1:v.k=1
  .simp[h1];exact zA 0 (by simp[dQ v,tT,h1])
  by_cases h2:v.k=2
  .simp[h2];exact zA 0 (by simp[dQ v,tT,h2])
  by_cases h3:v.k=3
  .simp[h3];exact zA 0 (by simp[dQ v,tT,h3,w64])
  by_cases h4:v.k=4
  .simp[h4,hl];exact zA 0 (by simp[dQ v,tT,h4,w64])
  simp[h0,h1,h2,h3,h4];exact zA 0 (by simp[dQ v,tT,h0,h1,h2,h3,h4])
termination_by qN v
decreasing_by exact aW (jA0 _)
def eD(a b:wI):Int:=orI [bU (m8 0 a) (m8 0 b),y6 a b]
def dG(a b:wI):Int :=
 if bD 0 a<bD 0 b then -1 else if bD 0 b<bD 0 a then 1 else y6 a b
theorem zKM(a b:wI):mv 173 [.sl a.length (zR a),.sl b.length (zR b)] [] (int (dG a b)) []:=by
 refine ml [] [.slot 4] func173 (by kernel_rfl) ?_
 (conv in kq _ _=>cbv)
 simp;refine qK (S:=Nat) (fun i=>[(0,.sl a.length (zR a)),(1,.sl b.length (zR b)),(5,int (bD 0 (a.take i))),(6,int i)]) (fun s=>[]) (fun i=>i<=a.length) (fun i=>a.length-i) 0 (by simp)
  (mu [] 0 (by rfl) (by simp[bD])) ?_
 intro i hi;simp;intro hl;refine qX (fun h=>?_) (fun h=>?_)<;>simp at h
 .simp[h,qL h];refine mq (tU a[i]) (by simp[zF]) ?_;simp;exact zO (i+1) h (by omega) (mu [] 0 (by rfl) (by simp[z8 h hl,vY h]))
 have:i=a.length:=by omega
 subst this;clear h hi;simp;refine qK (S:=Nat) (fun i=>[(0,.sl a.length (zR a)),(1,.sl b.length (zR b)),(5,int (bD 0 a)),(7,int (bD 0 (b.take i))),(8,int i)]) (fun s=>[]) (fun i=>i<=b.length) (fun i=>b.length-i) 0 (by simp)
  (mu [] 0 (by rfl) (by simp[bD])) ?_
 intro i hi;simp;intro hl';refine qX (fun h=>?_) (fun h=>?_)<;>simp at h
 .simp[h,qL h];refine mq (tU b[i]) (by simp[zF]) ?_;simp;exact zO (i+1) h (by omega) (mu [] 0 (by rfl) (by simp[z8 h hl',vY h]))
 have:i=b.length:=by omega
 subst this;clear h hi;by_cases e1:bD 0 a<bD 0 b
 .have e2:bD 0 a≠bD 0 b:=by omega
  simp[e1,e2];exact zA 0 (by simp[dG,e1])
 by_cases e2:bD 0 b<bD 0 a
 .have e3:bD 0 a≠bD 0 b:=by omega
  simp[e1,e3];exact zA 0 (by simp[dG,e1,e2])
 have e3:bD 0 a=bD 0 b:=by omega
 have e4:dG a b=y6 a b:=by simp[dG,e1,e2]
 simp[e3];refine qK (S:=Nat) (fun i=>[(0,.sl a.length (zR a)),(1,.sl b.length (zR b)),(9,int i)]) (fun s=>[]) (fun i=>i<=a.length/\i<=b.length/\y6 a b=y6 (a.drop i) (b.drop i)) (fun i=>a.length-i) 0 (by simp)
  (mu [] 0 (by rfl) (by simp)) ?_
 rintro i ⟨h1,h2,ho⟩;by_cases g1:i<a.length
 .have hd:a.drop i=a[i]::a.drop (i+1):=jAo g1;by_cases g2:i<b.length
  .have hd':b.drop i=b[i]::b.drop (i+1):=jAo g2;simp[g1,g2,hl,hl',qL g1,qL g2];refine z7 (dO a[i] b[i]) (by simp[zF]) (by simp) ?_;simp;refine qX (fun h3=>?_) (fun h3=>?_)<;>simp at h3
   .simp;exact zA 0 (by rw[e4,ho,hd,hd'];simp[y6,h3])
   .simp;exact zO (i+1) ⟨g1,g2,by rw[ho,hd,hd'];simp[y6,h3]⟩ (by omega) (mu [] 0 (by rfl) (by simp[z8 g1 hl]))
  .have hi:i=b.length:=by omega
   subst hi;have hn:b.drop b.length=[]:=by simp
   simp[g1,hl,hl',show ¬a.length<b.length by omega];exact zA 0 (by rw[e4,ho,hd,hn];simp[y6])
 .have hi:i=a.length:=by omega
  subst hi;have hn:a.drop a.length=[]:=by simp
  by_cases g2:a.length<b.length
  .have hd':b.drop a.length=b[a.length]::b.drop (a.length+1):=jAo g2;simp[g2,hl,hl'];exact zA 0 (by rw[e4,ho,hn,hd'];simp[y6])
  .have hn':b.drop a.length=[]:=jCf (by omega);simp[g2,hl,hl',show ¬b.length<a.length by omega];exact zA 0 (by rw[e4,ho,hn,hn'];simp[y6])
inductive OkV:Val->Prop
 |mk {k n:Int} {l:List Val} (hk:w64 k=k) (hn:w64 n=n) (hl:∀x∈l,OkV x):OkV (.mk k n l)
theorem gM:Lin eD:=zS0 (fun l=>m8 0 l) zP8
theorem zQs(a b:Int):w64 (w64 a+b)=w64 (a+b):=by simp only[w64,IntKind.wrap_i64];omega
theorem zHP(a b:Int):w64 (a+w64 b)=w64 (a+b):=by simp only[w64,IntKind.wrap_i64];omega
theorem i6(s:Int)(x:Val)(l:wI):m8 s (x::l)=m8 (w64 (s+cD x)) l:=rfl
theorem oS:∀(l:wI) (s t:Int),m8 (w64 (s+t)) l=w64 (s+m8 t l)
 |[],s,t=>rfl
 |x::l,s,t=>by rw[i6,i6,zQs,Int.add_assoc,<-zHP,oS l]
theorem zQi{s:Int}(h:w64 s=s):m8 s l=w64 (s+m8 0 l):=by
 have:=oS l s 0
 rwa[Int.add_zero,h]at this
theorem zH4(h:∀x∈l,dP x=cD x)(s:Int):bD s l=m8 s l:=by
 induction l generalizing s with
 |nil=>rfl
 |cons x l ih =>
  have h1:bD s (x::l)=bD (w64 (s+dP x)) l:=rfl;rw[h1,i6,h x (jAr ..),ih (fun y hy=>h y (jAh _ hy))]
theorem zQt{v:Val}(h:OkV v):dP v=cD v:=by
 induction h with
 | @mk k n l hk hn hl ih =>
  rw[dQ,iT];simp only[Val.kids];rw[zH4 ih];simp only[tT,zCP,Val.k,Val.n,Val.kids];by_cases h0:k=0
  .subst h0;simp
  by_cases h1:k=1
  .subst h1;simp
  by_cases h2:k=2
  .subst h2;simp
  by_cases h3:k=3
  .subst h3;simp;exact(zQi hn).symm
  by_cases h4:k=4
  .subst h4;simp;cases l with
   |nil=>simp[m8,w64,IntKind.wrap_i64]
   |cons x l =>
    rw[i6,i6,Int.zero_add,<-oS,zHP]
  .have h5:k<0\/4<k:=by omega
   simp[h0,h1,h2,h3,h4,h5]
theorem zT1(h:∀x∈l,OkV x):bD 0 l=m8 0 l:=zH4 (fun x hx=>zQt (h x hx)) 0
theorem zKC{a b:wI}(ha:∀x∈a,OkV x)(hb:∀x∈b,OkV x):dG a b=eD a b:=by
 unfold dG eD;rw[zT1 ha,zT1 hb,zBO,zEi];by_cases h1:m8 0 a<m8 0 b
 .rw[if_pos h1,zEa h1];simp
 .rw[if_neg h1];by_cases h2:m8 0 b<m8 0 a
  .rw[if_pos h2,zDZ h2];simp
  .rw[if_neg h2,zDY (by omega) (by omega)];simp
end Go.Proofs.YtdnelmeboihpkaaGreatDoor
