/-
  convert.Field.
  The second generator's records of fields, walked.
  Weights of values; the orders are linear; slices.SortFunc at values.
  slices.Repeat for one element and up to two copies, by the kit's own walk, and as a contract over abstract states.
-/
import Derived.Test.YtdnelmeboihpkaaGreatDoorX19
import Derived.Test.YtdnelmeboihpkaaGreatDoorX18
import Derived.Test.YtdnelmeboihpkaaGreatDoorX13
import Derived.Tactics2
import Derived.Handy
import Derived.Deep.Draws
import Derived.Laws.MakeOwn
import Derived.Deep.RegionLaw
import Derived.Laws.CopyRow
import Derived.Laws.IdiomCopy
import Derived.Laws.Rows
set_option linter.unusedVariables false
set_option maxHeartbeats 8000000
set_option maxRecDepth 100000
set_option linter.unusedSimpArgs false
open Go.Proofs.Tryz (prog)
namespace Go.Proofs.YtdnelmeboihpkaaGreatDoor
open Go.Abs
mutual
theorem zSy (D D':List A)(u:Slt)(hD:D.drop 8=.sl 1 (yJ u)::D')(hv:∀rf g,vwL rf g D=D)(hn:qU D=D):∀e:Exp,zUF D u.id e
 | .mk i k n r t ks ns=>zT5 D D' u hD hv hn _ (zPb D D' u hD hv hn ks)
theorem zPb (D D':List A)(u:Slt)(hD:D.drop 8=.sl 1 (yJ u)::D')(hv:∀rf g,vwL rf g D=D)(hn:qU D=D):∀(l:List Exp),∀k∈l,zUF D u.id k
 | [],k,hk=>by cases hk
 | e::l,k,hk=>by
  rcases jA6.1 hk with h | h
  ·rw[h]; exact zSy D D' u hD hv hn e
  ·exact zPb D D' u hD hv hn l k h
end
def zZz:K:=G [kO 2 0,kO 3 1,kZ 4 kz0,kMb 5 false] (G [J 9 2 2,D 10 3 1,J 11 10 3,kC 12 96 [(kt 9),(kt 11)],M 8 12,kE 13 8 0,kE 14 8 1,kZ 6 kz0,S 6 13 31,M 7 14] (Z (K.wk (K.dops [(0,0,J 15 6 31),(1,0,M 16 7),(2,0,M 17 16),(3,0,T 17 true (D 18 3 0)),(4,0,T 17 true (L 19 18 1)),(5,0,T 17 true (kQi 20 19 3 false)),(6,0,kPf 21 17 20),(7,0,M 22 21),(8,2,T 22 true (D 23 6 3)),(9,2,T 22 true (L 24 23 1)),(10,0,T 22 true (kQi 25 24 0 false)),(11,0,kPf 26 22 25),(12,0,S 4 15 31),(13,0,M 5 26)])) kr))
def qIg:Nat→Option (List (Nat×Nat)):=fun r=>match r with | 2=>some [(0,0),(1,0),(2,0),(3,0),(4,0),(5,0),(6,0),(7,0),(8,2),(9,2),(10,0),(11,0),(12,0),(13,0)] | _=>none
theorem qGT:qF prog Tryz.f57.ntmps qIg (Tryz.f57.body.getD .skip)=some zZz.erase:=by kernel_rfl
@[simp] theorem qK4:zA prog 57=true:=by kernel_rfl
def zLL (p:Prg)(t:Typ):Bool:=(qW p.defs t.id).isSome&&(decide (t.k=3)&&decide (((qW p.defs t.id).getD .zero).kind=0))
theorem zMT (p:Prg)(t:Typ):Ret prog 57 [.agg (zM p),.agg (zS t)] [] (.tup [.agg (zH ((qW p.defs t.id).getD .zero)),bl (zLL p t)]) []:=by
 have hP:=eP p;have hdf:=zD1 p t.id;unfold zLL;unfold zCa at hdf;generalize (qW p.defs t.id).getD .zero=d at *
 generalize (qW p.defs t.id).isSome=b at *
 refine qS Tryz.func57 rfl qGT (rs:=[.cell 4 31 true,.slot 5]) (by kernel_rfl) ?_;unfold zZz;simp -implicitDefEqProofs [hP,zS];refine qK hdf (by simp[zM,zF]) (by simp) ?_;simp -implicitDefEqProofs [zH];refine⟨_,_,zP (l:=[(3,.rptr (zS t)),(4,.ptr 0 0),(6,.rptr (zH d)),(7,bl b)]) (σ':=[.box (kz0.map qN)]) [2] 1 (by simp) (by simp) (by simp) (by simp[zH,zS]),?_⟩;cases b
 ·simp -implicitDefEqProofs [zH];exact zB 0 (by simp[zH])
 ·by_cases h0:t.k=3
  ·by_cases h1:d.kind=0
   ·simp -implicitDefEqProofs [zH,zS,h0,h1];exact zB 0 (by simp[zH,h0,h1])
   ·simp -implicitDefEqProofs [zH,zS,h0,h1];exact zB 0 (by simp[zH,h0,h1])
  ·simp -implicitDefEqProofs [zH,zS,h0];exact zB 0 (by simp[zH,h0])
def zQq:K:=(G [L 80 16 1,J 81 13 15,⟨none,.call (some 82) (kt 80) [(kt 81),(.const (.bool false))]⟩] (G [kMn 17] (Z (G [D 83 9 8,L 84 83 1,kN 85 84,kMi 86 0] (K.block 0 (K.loop (G [kB 87 86 85 .lss] (Z (Y 87 ks (K.exit 0)) (Z (K.block 1 (G [M 88 86,M 18 88] (G [L 89 15 1,M 90 89,T 90 false (L 91 14 1),T 90 false (M 92 18),⟨some (90,false),.mop (some 93) (.get 1 (.bool false) false) [(kt 91),(kt 92)]⟩,kPt 94 90 93] (Y 94 (K.ops [M 95 17,M 96 18,kd 97 3 1 1 [ki] [(0,1,(kt 96))],kP 98 3 1 8 95 97,M 17 98]) ks)))) (K.ops [kBi 99 86 1 .add,M 86 99]))))))) (G [M 100 17,M 6 100] kr))))
def zQp:K:=(G [⟨none,.mop (some 78) (.mk 1) []⟩,kZ 14 [(.map none)],S 14 78 1] (G [kZ 15 [(.bool false)],⟨none,.st none (kt 15) (.const (.bool false)) 1⟩] (G [kZ 16 [.nilFunc]] (G [⟨none,.clo (some 79) 58 [] [(kt 7),(kt 15),(kt 14),(kt 16)]⟩,S 16 79 1] (K.wk zQq)))))
def zZt:K:=G [kO 3 0,kO 4 1,kMn 6] (G [J 20 3 2,J 21 4 3,kC 22 56 [(kt 20),(kt 21)],M 19 22,kE 23 19 0,kE 24 19 1,kZ 7 kz0,S 7 23 31,M 8 24] (Z (G [M 25 8,kR 26 25] (Y 26 (G [kMn 6] kr) ks)) (Z (K.dops [(0,1,J 28 3 2),(1,1,D 29 7 8),(2,1,L 30 29 1),(3,1,kXi 31 30 11 0),(4,1,D 32 31 4),(5,1,J 33 32 5),(6,1,kC 34 57 [(kt 28),(kt 33)]),(7,0,M 27 34),(8,0,kE 35 27 0),(9,0,kE 36 27 1),(10,0,kZ 9 kz0),(11,0,S 9 35 31),(12,0,M 10 36)]) (G [J 38 3 2,D 39 7 9,J 40 39 5,kC 41 57 [(kt 38),(kt 40)],M 37 41,kE 42 37 0,kE 43 37 1,kZ 11 kz0,S 11 42 31,M 12 43] (Z (G [M 44 10,kR 45 44,M 46 45,T 46 false (M 47 12),T 46 false (kR 48 47),kPt 49 46 48,M 50 49,T 50 false (M 51 2),T 50 false (kBi 52 51 0 .lss),kPt 53 50 52,M 54 53,T 54 false (M 55 2),T 54 false (D 56 11 8),T 54 false (L 57 56 1),T 54 false (kN 58 57),T 54 false (kB 59 55 58 .geq),kPt 60 54 59] (Y 60 (G [kMn 6] kr) ks)) (G [D 61 7 14,J 62 61 15,kZ 13 kz1,S 13 62 15] (Z (G [D 63 13 3,L 64 63 1,kQi 65 64 7 false,M 66 65,T 66 true (M 67 2),T 66 true (D 68 13 13),T 66 true (L 69 68 1),T 66 true (kN 70 69),T 66 true (kB 71 67 70 .lss),kPf 72 66 71] (Y 72 (K.ops [D 73 13 13,L 74 73 1,M 75 2,kX 76 74 75 15,J 77 76 15,S 13 77 15]) ks)) (K.wk zQp))))))))
theorem qGN:zO prog Tryz.f24.ntmps (Tryz.f24.body.getD .skip)=some zZt.erase:=by kernel_rfl
@[simp] theorem qKz:zA prog 24=true:=by kernel_rfl
def zFA (e:Exp)(to:Int):Exp:=if e.k=7∧to<e.kids.length then e.kids.getD to.toNat .zero else e
def zHf (p:Prg)(conv:Id)(to:Int):List Int:=match qW p.defs conv with
 | none=>[]
 | some d=>if d.kind=5 then (match d.slots with
  | [u]=>if zLL p u.typ=true∧zLL p d.res=true∧0≤to∧to<((qW p.defs d.res.id).getD .zero).slots.length then zG4 u.id (zFA d.body to) ((qW p.defs u.typ.id).getD .zero).slots.length else []
  | _=>[]) else []
@[simp] theorem qIq (x:Int):zBe [x]=[int x]:=rfl
@[simp] theorem qEr:zBe []=[]:=rfl
def zPJ (s:Id)(e:Exp)(i:Nat):List Int:=(zHw i).filter fun x=>zEp s e false||decide (x∈zIL s e)
theorem zPL (i:Nat):zHw (i+1)=zHw i++[(i:Int)]:=by simp[zHw,List.range_succ]
theorem zUn (s:Id)(e:Exp)(i:Nat):zPJ s e (i+1)=zPJ s e i++(if (zEp s e false||decide ((i:Int)∈zIL s e))=true then [(i:Int)] else []):=by
 unfold zPJ;rw[zPL,List.filter_append]
 congr 1
 rw[List.filter_cons,List.filter_nil]
theorem zWB (s:Id)(e:Exp)(i:Nat):(zPJ s e i).length≤i:=by
 have:=jDe (fun x=>zEp s e false||decide (x∈zIL s e)) (zHw i)
 simpa [zPJ,zHw] using this
abbrev qCh (l:List Int):=fin [RS.slot 6] (zFz 0 (.sl l.length (zBe l)) [])
theorem qIb (D D':List A)(u:Slt)(hD:D.drop 8=.sl 1 (yJ u)::D')(hv:∀rf g,vwL rf g D=D)(hn:qU D=D)(a:Dfn)(ha:a.slots.length≤1000)(e:Exp) :
 wpK prog 0 zQq (qCh (zG4 u.id e a.slots.length)) (qC [(9,.rptr (zH a)),(13,.rptr (zR e)),(14,.ptr 1 0),(15,.ptr 0 0),(16,.ptr 3 0)]) (fvS D false []):=by
 have hc:=zSy D D' u hD hv hn e false false [];have hmem:∀x,x∈(zIL u.id e).foldl adI []↔x∈zIL u.id e:=fun x=>by rw[zOo]; simp
 have hpl:zG4 u.id e a.slots.length=zPJ u.id e a.slots.length:=rfl;rw[hpl];rw[jC2]at hc;unfold zQq;simp -implicitDefEqProofs [fvS];refine jN hc [0,1,2,3] (by decide) (by simp[fvS,hv]) (by simp[fvA,hv,zR]) ?_;generalize hM:(zIL u.id e).foldl adI []=M at *
 have hst:=zUn u.id e;have hpn:=zWB u.id e;have hp0:zPJ u.id e 0=[]:=rfl;generalize zEp u.id e false=W at *
 generalize zPJ u.id e=pl at *
 simp -implicitDefEqProofs [fvS,zH];intro hmx;refine jX (S:=Nat) (fun i=>[(14,.ptr 1 0),(15,.ptr 0 0),(17,.row 4 (pl i).length),(85,int a.slots.length),(86,int i)]) (fun i=>fvS D W M++[.row false 3 1 (pl i).length (zBe (pl i))]) (fun i=>i≤a.slots.length) (fun i=>a.slots.length-i) 0 (by simp)
  ((zAS (t:=17) (by simp) 3 1).trans (zP [0,1,2,3,4] 0 (by simp) (by decide) (by simp[fvS,hv,hp0]) (by simp[hp0]))) ?_
 intro i hi;by_cases h:i<a.slots.length
 ·have hw:=qO h hmx;have hg:=zY2 i M;have hst:=hst i;have hpn:=hpn i;have hmi:=hmem i;cases W
  ·by_cases hm:(i:Int)∈zIL u.id e
   ·have hm2:(i:Int)∈M:=hmi.2 hm;rw[if_pos (by simp[hm])]at hst;simp -implicitDefEqProofs [fvS,h,hg,hm2];refine⟨⟨by simp[maxLen]; omega,by omega⟩,?_⟩;exact zU (i+1) h (by omega) (zP [0,1,2,3,4] 0 (by simp) (by decide) (by simp[fvS,hv,hst,zFU]) (by simp[hst,hw]))
   ·have hm2:¬(i:Int)∈M:=fun hh=>hm (hmi.1 hh)
    rw[if_neg (by simp[hm])]at hst;simp -implicitDefEqProofs [fvS,h,hg,hm2];exact zU (i+1) h (by omega) (zP [0,1,2,3,4] 0 (by simp) (by decide) (by simp[fvS,hv,hst,zFU]) (by simp[hst,hw]))
  ·rw[if_pos (by simp)]at hst;simp -implicitDefEqProofs [fvS,h];refine⟨⟨by simp[maxLen]; omega,by omega⟩,?_⟩;exact zU (i+1) h (by omega) (zP [0,1,2,3,4] 0 (by simp) (by decide) (by simp[fvS,hv,hst,zFU]) (by simp[hst,hw]))
 ·have hie:i=a.slots.length:=by omega
  subst hie;simp -implicitDefEqProofs [fvS];exact zB 1 (by simp)
theorem zVW (D D':List A)(u:Slt)(hD:D.drop 8=.sl 1 (yJ u)::D')(hv:∀rf g,vwL rf g D=D)(hn:qU D=D)(a:Dfn)(ha:a.slots.length≤1000)(e:Exp) :
 wpK prog 0 zQp (qCh (zG4 u.id e a.slots.length)) (qC [(7,.rptr D),(9,.rptr (zH a)),(13,.rptr (zR e))]) []:=by
 have hV:=qIb D D' u hD hv hn a ha e;generalize qCh (zG4 u.id e a.slots.length)=Q at *
 unfold zQp;simp -implicitDefEqProofs;have hw:=zL2 (n0:=0) (env:=qC [(9,.rptr (zH a)),(13,.rptr (zR e)),(14,.ptr 1 0),(15,.ptr 0 0),(16,.ptr 3 0)]) (l:=2) (nk:=1) (fr:=true) (es:=mki []) (σ:=[.box [bl false],.box [.map 2],.mp true 1 (mki []),.box [.clo 58 [] [.rptr D,.ptr 0 0,.ptr 1 0,.ptr 3 0]]]) rfl;refine⟨_,_,zA0.trans (zP [2,1,0,3] 0 (by simp) (by decide) ?_ ?_) hw,hV⟩
 ·simp[hv,mki]
 ·simp[hv,zH,zR]
theorem zTl (u:Slt):yN [u]=yJ u:=by simp[yN]
theorem zMa (p:Prg)(hb:∀d∈p.defs,d.slots.length≤1000)(conv:Id)(to:Int):Ret prog 24 [.agg (zM p),.agg (zF conv),int to] [] (.sl (zHf p conv to).length (zBe (zHf p conv to))) []:=by
 have hP:=eP p;have hcon:=zHB p conv
 unfold zOG at hcon;have hz:∀id,((qW p.defs id).getD .zero).slots.length≤1000:=fun id=>by
  cases h:qW p.defs id with
  | none=>simp[Dfn.zero]
  | some d=>exact hb d (zAu h).1
 have hfv:∀L,zHf p conv to=L→Ret prog 24 [.agg (zM p),.agg (zF conv),int to] [] (.sl L.length (zBe L)) []:=by
  intro L hL;refine zK Tryz.func24 rfl qGN (rs:=[.slot 6]) (by kernel_rfl) ?_;unfold zZt;simp -implicitDefEqProofs [hP,zF];refine qK hcon (by simp[hP,zF]) (by simp) ?_;cases hc:((qW p.defs conv).isSome&&zFI ((qW p.defs conv).getD .zero))
  ·have hnil:L=[]:=by
    rw[←hL];unfold zHf;unfold zFI at hc;cases hd:qW p.defs conv with
    | none=>rfl
    | some d =>
     rw[hd]at hc;simp only[Option.isSome_some,jBe,jBd,jCo,decide_eq_false_iff_not]at hc;simp only;by_cases h5:d.kind=5
     ·rw[if_pos h5];split
      ·rename_i u hu; rw[hu]at hc; simp at hc; exact(hc h5).elim
      ·rfl
     ·rw[if_neg h5]
   subst hnil;simp -implicitDefEqProofs [zH];exact zB 0 (by simp)
  ·obtain⟨d,u,hd,h5,hu⟩:∃d u,qW p.defs conv=some d∧d.kind=5∧d.slots=[u]:=by
    cases hd:qW p.defs conv with
    | none=>rw[hd]at hc; simp at hc
    | some d =>
     rw[hd]at hc;simp only[Option.isSome_some,jBe,jBd,zFI,jA4,decide_eq_true_eq]at hc;obtain⟨u,hu⟩:=List.length_eq_one_iff.1 hc.2;exact⟨d,u,rfl,hc.1,hu⟩
   have hL2:L=if zLL p u.typ=true∧zLL p d.res=true∧0≤to∧to<((qW p.defs d.res.id).getD .zero).slots.length then zG4 u.id (zFA d.body to) ((qW p.defs u.typ.id).getD .zero).slots.length else []:=by rw[←hL];unfold zHf;rw[hd];simp only[if_pos h5,hu]
   have r1:=zMT p u.typ;have r2:=zMT p d.res;have ha:=hz u.typ.id;rw[hd,jBe];generalize (qW p.defs u.typ.id).getD .zero=a at *
   generalize (qW p.defs d.res.id).getD .zero=b at *
   have hcs:yN d.slots=yJ u:=by rw[hu,zTl]
   have hul:d.slots.length=1:=by rw[hu]; rfl
   simp -implicitDefEqProofs [zH,hcs,hul,yJ];refine zAo r1 (by simp[hP,zS]) (by simp[zH]) ?_;simp -implicitDefEqProofs [zH];refine qK r2 (by simp[hP,zS]) (by simp[zH]) ?_;simp -implicitDefEqProofs [zH];have hD:(zH d).drop 8=.sl 1 (yJ u)::(zH d).drop 9:=by have:(zH d).drop 8=.sl d.slots.length (yN d.slots)::(zH d).drop 9:=rfl;rw[this,hul,hcs]
   by_cases g1:zLL p u.typ=true
   ·by_cases g2:zLL p d.res=true
    ·by_cases g3:to<0
     ·rw[if_neg (by omega)]at hL2;subst hL2;simp -implicitDefEqProofs [g1,g2,g3];exact zB 0 (by simp)
     ·by_cases g4:to<(b.slots.length:Int)
      ·rw[if_pos ⟨g1,g2,by omega,g4⟩]at hL2;have g4':¬(b.slots.length:Int)≤to:=by omega
       subst hL2;by_cases h7:d.body.k=7
       ·by_cases hk:to<(d.body.kids.length:Int)
        ·obtain⟨n,rfl⟩:∃n:Nat,to=n:=⟨to.toNat,by omega⟩;have hn:n<d.body.kids.length:=by omega
         have hE:zFA d.body n=d.body.kids[n]:=by unfold zFA;rw[if_pos ⟨h7,hk⟩,jCn,jBm,jA2 hn]; rfl
         have hne:¬d.body.kids=[]:=fun e=>by rw[e]at hn; simp at hn
         rw[hE];generalize hEE:d.body.kids[n]=E;have hdr:=zBi hn;rw[hEE]at hdr;simp -implicitDefEqProofs [g1,g2,g3,g4,g4',zH,h7,hk,hn,hne,hdr,zR];exact fun _ _=>⟨qC [(7,.rptr (zH d)),(9,.rptr (zH a)),(13,.rptr (zR E))],[],zP [] 1 (by simp) (by decide) (by simp) (by simp[zH,zR,hcs,hul,yJ,h7]),zVW (zH d) _ u hD (fun rf g=>(zAt d).2 _ _) (zAt d).1 a ha E⟩
        ·have hE:zFA d.body to=d.body:=by unfold zFA;rw[if_neg (fun h=>hk h.2)]
         rw[hE];have fin:=zVW (zH d) _ u hD (fun rf g=>(zAt d).2 _ _) (zAt d).1 a ha d.body;simp -implicitDefEqProofs [g1,g2,g3,g4,g4',zH,h7,hk];exact fun _ _=>⟨qC [(7,.rptr (zH d)),(9,.rptr (zH a)),(13,.rptr (zR d.body))],[],zP [] 1 (by simp) (by decide) (by simp) (by simp[zH,zR,hcs,hul,yJ,h7]),fin⟩
       ·have hE:zFA d.body to=d.body:=by unfold zFA;rw[if_neg (fun h=>h7 h.1)]
        rw[hE];have fin:=zVW (zH d) _ u hD (fun rf g=>(zAt d).2 _ _) (zAt d).1 a ha d.body;simp -implicitDefEqProofs [g1,g2,g3,g4,g4',zH,h7];exact fun _=>⟨qC [(7,.rptr (zH d)),(9,.rptr (zH a)),(13,.rptr (zR d.body))],[],zP [] 1 (by simp) (by decide) (by simp) (by simp[zH,zR,hcs,hul,yJ]),fin⟩
      ·have g4':(b.slots.length:Int)≤to:=by omega
       rw[if_neg (by omega)]at hL2;subst hL2;simp -implicitDefEqProofs [g1,g2,g3,g4,g4',zH]
       first | exact fun _=>zB 0 (by simp) | exact zB 0 (by simp)
    ·have g2':zLL p d.res=false:=by simpa using g2
     rw[if_neg (fun h=>g2 h.2.1)]at hL2;subst hL2;simp -implicitDefEqProofs [g1,g2'];exact zB 0 (by simp)
   ·have g1':zLL p u.typ=false:=by simpa using g1
    rw[if_neg (fun h=>g1 h.1)]at hL2;subst hL2;simp -implicitDefEqProofs [g1'];exact zB 0 (by simp)
 exact hfv _ rfl
def zOl:K:=G [kO 5 1,kO 6 2,kO 7 3,kZ 8 kz1] (G [kMn 9] (Z (G [kMi 10 0] (K.block 0 (K.loop (Z (G [M 13 10,D 14 5 8,L 15 14 1,kN 16 15,kB 17 13 16 .lss] (Y 17 ks (K.exit 0))) (Z (K.block 1 (G [⟨none,.mov (some 11) (kc (-1))⟩] (Z (G [kMi 12 0] (K.block 2 (K.loop (Z (G [M 20 12,D 21 6 8,L 22 21 1,kN 23 22,kB 24 20 23 .lss] (Y 24 ks (K.exit 2))) (Z (K.block 3 (Z (K.dops [(0,0,M 27 12),(1,0,M 28 10),(2,0,kQ 29 27 28 false),(3,0,M 30 29),(4,0,T 30 true (D 31 6 8)),(5,0,T 30 true (L 32 31 1)),(6,0,T 30 true (M 33 12)),(7,0,T 30 true (kX 34 32 33 11)),(8,0,T 30 true (D 35 34 4)),(9,0,T 30 true (D 36 35 0)),(10,0,T 30 true (L 37 36 1)),(11,0,T 30 true (D 38 5 8)),(12,0,T 30 true (L 39 38 1)),(13,0,T 30 true (M 40 10)),(14,0,T 30 true (kX 41 39 40 11)),(15,0,T 30 true (D 42 41 4)),(16,0,T 30 true (D 43 42 0)),(17,0,T 30 true (L 44 43 1)),(18,0,T 30 true (kQ 45 37 44 false)),(19,0,kPf 46 30 45)]) (Y 46 (K.ops [M 47 12,M 11 47]) ks))) (K.ops [M 25 12,kBi 26 25 1 .add,M 12 26])))))) (G [M 48 11,kBi 49 48 0 .geq,M 50 49,T 50 true (M 51 0),T 50 true (kC 52 65 [(kt 51),(kc 3)]),T 50 true (kBi 53 52 0 .gtr),kPf 54 50 53] (Y 54 (K.dops [(0,0,M 55 9),(1,0,M 56 0),(2,0,M 57 11),(3,2,D 58 6 0),(4,2001,J 59 58 3),(5,0,M 60 0),(6,0,J 61 7 3),(7,1001,kC 62 66 [(kt 60),(kc 2),(kc 0),(kt 61),(.const kl)]),(8,0,kd 63 39 15 1 kz1 [(0,15,(kt 62))]),(9,4,kC 64 66 [(kt 56),(kc 8),(kt 57),(kt 59),(kt 63)]),(10,0,kd 65 39 15 1 kz1 [(0,15,(kt 64))]),(11,0,kP 66 39 15 168 55 65),(12,0,M 9 66)]) (K.dops [(0,0,
 M 67 9),(1,0,M 68 0),(2,0,D 69 5 8),(3,0,L 70 69 1),(4,0,M 71 10),(5,0,kX 72 70 71 11),(6,0,D 73 72 4),(7,0,J 74 73 5),(8,0,J 75 6 31),(9,0,J 76 7 3),(10,4,kC 77 68 [(kt 68),(kt 74),(kt 75),(kt 76),(kc 2)]),(11,0,kd 78 39 15 1 kz1 [(0,15,(kt 77))]),(12,0,kP 79 39 15 168 67 78),(13,0,M 9 79)])))))) (K.ops [M 18 10,kBi 19 18 1 .add,M 10 19])))))) (Z (K.wk (K.ops [M 80 0,D 81 5 0,J 82 81 3,M 83 9,kC 84 66 [(kt 80),(kc 7),(kc 0),(kt 82),(kt 83)],S 8 84 15])) kr)))
def zWk:Nat→Option (List (Nat×Nat)):=fun r=>match r with | 12=>some [(0,0),(1,0),(2,0),(3,2),(4,2001),(5,0),(6,0),(7,1001),(8,0),(9,4),(10,0),(11,0),(12,0)] | 13=>some [(0,0),(1,0),(2,0),(3,0),(4,0),(5,0),(6,0),(7,0),(8,0),(9,0),(10,4),(11,0),(12,0),(13,0)] | _=>none
theorem zVd:qF prog Tryz.f67.ntmps zWk (Tryz.f67.body.getD .skip)=some zOl.erase:=by kernel_rfl
@[simp] theorem qB0:zA prog 67=true:=by kernel_rfl
section
variable {l:List Int}
theorem zYm (to fro:Dfn)(s:Id)(i:Nat)(m:Gm):Gst m (zGA l to fro s i m).2 28:=by
 unfold zGA;split
 ·split
  ·split
   ·exact(zY m).trans (zN4 _ _ _ _) (by omega)
   ·exact(zY m).trans (zBK _ _ _ _ _ _) (by simp[gC])
  ·exact(zBK _ _ _ _ _ _).mono (by simp[gC])
 ·exact(zBK _ _ _ _ _ _).mono (by simp[gC])
 ·exact Gst.refl _ (by omega)
theorem zKC (to fro:Dfn)(s:Id)(m:Gm):∀n:Nat,Gst m (zBI l to fro s n m).2 (28*n)
 | 0=>Gst.refl _ (by omega)
 | n+1=>by simp only[zBI];exact(zKC to fro s m n).trans (zYm _ _ _ _ _) (by omega)
theorem zJS (to fro:Dfn)(s:Id)(m:Gm)(h:to.slots.length≤6):Gst m (zET l to fro s m).2 170 :=
 (zKC to fro s m _).trans (zBJ _ _ _ _ _) (by omega)
def smK (to fro:Dfn)(i:Nat)(k:Nat):Int:=if i<k then (match to.slots[i]?,fro.slots[i]? with
 | some u,some v=>if v.typ.k=u.typ.k then (i:Int) else -1
 | _,_=>-1) else -1
theorem qJG (to fro:Dfn)(i:Nat):smK to fro i 0 = -1:=rfl
theorem zSU {to fro:Dfn}{i:Nat}(h1:i<to.slots.length)(h2:i<fro.slots.length)(h:fro.slots[i].typ.k=to.slots[i].typ.k){k:Nat}(hk:i<k):smK to fro i k=i:=by simp[smK,hk,h1,h2,h]
theorem zWU {to fro:Dfn}{i:Nat}(h1:i<to.slots.length)(h2:i<fro.slots.length)(h:fro.slots[i].typ.k≠to.slots[i].typ.k)(k:Nat):smK to fro i k = -1:=by simp[smK,h1,h2,h]
theorem zYX {to fro:Dfn}{i:Nat}(h2:¬i<fro.slots.length)(k:Nat):smK to fro i k = -1:=by
 have:fro.slots[i]?=none:=by simp; omega
 unfold smK;rw[this];split
 ·split<;>simp_all
 ·rfl
theorem zWV {to fro:Dfn}{i k:Nat}(h:k≠i):smK to fro i (k+1)=smK to fro i k:=by
 unfold smK;by_cases e:i<k
 ·rw[if_pos e,if_pos (by omega)]
 ·rw[if_neg e,if_neg (by omega)]
theorem zMm (hl:∀x∈l,w64 x=x)(to fro:Dfn)(s:Id)(h1:to.slots.length≤6)(h2:fro.slots.length≤6)(hf:∀u∈to.slots,u.typ=tK u.typ.k∧(u.typ.k=0∨u.typ.k=1))(m:Gm)(hok:m.Ok 170) :
 Ret prog 67 [.ptr 0 0,.agg (zH to),.agg (zH fro),.agg (zF s)] (gS l m) (.agg (zR (zET l to fro s m).1)) (gS l (zET l to fro s m).2):=by
 refine qS Tryz.func67 rfl zVd (rs:=[.cell 8 15 true]) (by kernel_rfl) ?_;unfold zOl;simp -implicitDefEqProofs [gS,gB];refine jX (S:=Nat) (fun i=>[(0,.ptr 0 0),(5,.ptr 1 0),(6,.ptr 2 0),(7,.ptr 3 0),(8,.ptr 4 0),(9,.row 5 i),(10,int i)])
  (fun i=>gS l (zBI l to fro s i m).2++[.box (zH to),.box (zH fro),.box (zF s),.box (zR Exp.zero),.row false 39 15 i (jR (zBI l to fro s i m).1)]) (fun i=>i≤to.slots.length) (fun i=>to.slots.length-i) 0 (by simp)
  ((zAS (t:=9) (by simp) 39 15).trans (zP [0,1,2,3,4,5] 0 (by decide) (by simp) (by simp[gS,gB,zAD,zBI]) (by simp))) ?_
 intro i hi;have hst:=zKC (l:=l) to fro s m i;have hkl:=zEv l to fro s m i;generalize hmi:(zBI l to fro s i m).2=mi at hst;generalize hki:(zBI l to fro s i m).1=ki at hkl;by_cases hi2:i<to.slots.length
 ·have hok1:mi.Ok 29:=hok.adv hst (by omega);have hkid:zBI l to fro s (i+1) m=(ki++[(zGA l to fro s i mi).1],(zGA l to fro s i mi).2):=by simp only[zBI,hmi,hki]
  have hu:=hf _ (jA3 hi2);have hut:zS to.slots[i].typ=[int to.slots[i].typ.k,int 0,int 0,int 0,.sl 0 []]:=by rw[hu.1,zXg hu.2];rw[qJH hu.2]
  have hne:to.slots≠[]:=fun e=>by rw[e]at hi2; simp at hi2
  have hwi:=zBg i (by omega);simp -implicitDefEqProofs [gS,gB,zH,hi2];intro _;refine jX (S:=Nat) (fun k=>[(0,.ptr 0 0),(5,.ptr 1 0),(6,.ptr 2 0),(7,.ptr 3 0),(8,.ptr 4 0),(9,.row 5 i),(10,int i),(11,int (smK to fro i k)),(12,int k)])
   (fun k=>gS l mi++[.box (zH to),.box (zH fro),.box (zF s),.box (zR Exp.zero),.row false 39 15 i (jR ki)]) (fun k=>k≤fro.slots.length) (fun k=>fro.slots.length-k) 0 (by simp)
   (zP [0,1,2,3,4,5] 0 (by decide) (by simp) (by simp[gS,gB,zAD,zH]) (by simp[qJG])) ?_
  intro k hk;by_cases hk2:k<fro.slots.length
  ·have hne2:fro.slots≠[]:=fun e=>by rw[e]at hk2; simp at hk2
   have hwk:=qO hk2 (show fro.slots.length≤maxLen by simp[maxLen]; omega);by_cases hki2:k=i
   ·subst hki2;by_cases hkk:fro.slots[k].typ.k=to.slots[k].typ.k
    ·simp -implicitDefEqProofs [gS,gB,zH,hk2,hne,hne2,yB hk2,yB hi2,yJ,hkk,hi2];exact fun _=>zU (k+1) hk2 (by omega) (zP [0,1,2,3,4,5] 0 (by decide) (by simp) (by simp[gS,gB,zAD,zH]) (by simp[hwk,zSU hi2 hk2 hkk]))
    ·have e1:=zWU hi2 hk2 hkk;simp -implicitDefEqProofs [gS,gB,zH,hk2,hne,hne2,yB hk2,yB hi2,yJ,hkk,hi2];exact fun _=>zU (k+1) hk2 (by omega) (zP [0,1,2,3,4,5] 0 (by decide) (by simp) (by simp[gS,gB,zAD,zH]) (by simp[hwk,e1]))
   ·have hki3:¬(k:Int)=i:=by omega
    simp -implicitDefEqProofs [gS,gB,zH,hk2,hki2,hki3];exact fun _=>zU (k+1) hk2 (by omega) (zP [0,1,2,3,4,5] 0 (by decide) (by simp) (by simp[gS,gB,zAD,zH]) (by simp[hwk,zWV hki2]))
  ·have hkE:k=fro.slots.length:=by omega
   subst hkE;have happ:∀(q:Exp×Gm),zGA l to fro s i mi=q→jR (zBI l to fro s (i+1) m).1=jR ki++zR q.1:=fun q hq=>by rw[hkid,hq]; simp[zL8,qA]
   have happ2:∀(q:Exp×Gm),zGA l to fro s i mi=q→(zBI l to fro s (i+1) m).2=q.2:=fun q hq=>by rw[hkid,hq]
   by_cases hA:∃h:i<fro.slots.length,fro.slots[i].typ.k=to.slots[i].typ.k
   ·obtain⟨hif,hkk⟩:=hA;have e1:=zSU hi2 hif hkk (k:=fro.slots.length) hif;simp -implicitDefEqProofs [gS,gB,zH,e1];intro _;refine jN (zBs (l:=l) mi 3 (by omega) (hok1.mono (by omega))) [0] (by decide) (by simp[gS,gB]) (by simp) ?_;by_cases hN:0<gN l mi 3
    ·have hq:zGA l to fro s i mi=zLC mi.tick i fro.id s:=by unfold zGA;rw[jA2 hi2,jA2 hif];simp only[if_pos hkk,if_pos hN]
     have g1:=zAM (l:=l) mi.tick 2 0 s [] (hok1.adv (zY mi) (by omega));have g2:=zAM (l:=l) (yK mi.tick 2 0 s []).2 8 i fro.id [(yK mi.tick 2 0 s []).1] (hok1.adv ((zY mi).trans (zBJ _ _ _ _ _) (jAd _)) (by omega));simp -implicitDefEqProofs [gS,gB,zH,hN];refine zBq g1 [0] (by decide) (by simp[gS,gB]) (by simp) (by decide) (by simp) (by simp[gS]) ?_;simp -implicitDefEqProofs [gS,gB];refine zAK g2 [0] (by decide) (by simp[gS,gB]) (by simp[qA,zF]) ?_;simp -implicitDefEqProofs [gS,gB];refine⟨⟨by simp[maxLen]; omega,by omega⟩,?_⟩;exact zU (i+1) hi2 (by omega) (zP [0,1,2,3,4,5] 0 (by decide) (by simp) (by simp[gS,gB,zAD,zH,happ _ hq,happ2 _ hq,zLC]) (by simp[hwi]))
    ·have hq:zGA l to fro s i mi=zA8 l fro s 2 to.slots[i].typ.k mi.tick:=by unfold zGA;rw[jA2 hi2,jA2 hif];simp only[if_pos hkk,if_neg hN]
     have g:=zIb hl fro s h2 2 (by omega) mi.tick to.slots[i].typ.k hu.2 (hok1.adv (zY mi) (by simp[gC]));rw[←hu.1]at g;simp -implicitDefEqProofs [gS,gB,zH,hN,hi2,hne,yB hi2,yJ];refine zAK g [0] (by decide) (by simp[gS,gB]) (by simp[zH,zF,zS]) ?_;simp -implicitDefEqProofs [gS,gB];refine⟨⟨by simp[maxLen]; omega,by omega⟩,?_⟩;exact zU (i+1) hi2 (by omega) (zP [0,1,2,3,4,5] 0 (by decide) (by simp) (by simp[gS,gB,zAD,zH,happ _ hq,happ2 _ hq]) (by simp[hwi]))
   ·have e1:smK to fro i fro.slots.length = -1:=by
     by_cases hif:i<fro.slots.length
     ·exact zWU hi2 hif (fun e=>hA ⟨hif,e⟩) _
     ·exact zYX hif _
    have hq:zGA l to fro s i mi=zA8 l fro s 2 to.slots[i].typ.k mi:=by
     unfold zGA;rw[jA2 hi2];by_cases hif:i<fro.slots.length
     ·rw[jA2 hif];simp only[if_neg (fun e=>hA ⟨hif,e⟩)]
     ·have:fro.slots[i]?=none:=by simp; omega
      rw[this]
    have g:=zIb hl fro s h2 2 (by omega) mi to.slots[i].typ.k hu.2 (hok1.mono (by simp[gC]));rw[←hu.1]at g;simp -implicitDefEqProofs [gS,gB,zH,e1,hi2,hne,yB hi2,yJ];intro _;refine zAK g [0] (by decide) (by simp[gS,gB]) (by simp[zH,zF,zS]) ?_;simp -implicitDefEqProofs [gS,gB];refine⟨⟨by simp[maxLen]; omega,by omega⟩,?_⟩;exact zU (i+1) hi2 (by omega) (zP [0,1,2,3,4,5] 0 (by decide) (by simp) (by simp[gS,gB,zAD,zH,happ _ hq,happ2 _ hq]) (by simp[hwi]))
 ·have hie:i=to.slots.length:=by omega
  subst hie;have g:=zAM (l:=l) mi 7 0 to.id ki (hok.adv hst (by omega));have hrec:zET l to fro s m=yK mi 7 0 to.id ki:=by simp only[zET,hmi,hki]
  simp -implicitDefEqProofs [gS,gB,zH];intro _;refine⟨qC [(0,.ptr 0 0),(5,.ptr 1 0),(8,.ptr 4 0),(9,.sl to.slots.length (jR ki))],gS l mi++[.box (zH to),.box (zH fro),.box (zF s),.box (zR Exp.zero)],zP [0,1,2,3,4] 1 (by decide) (by simp) (by simp[gS,gB,zH,zAD]) (by simp),?_⟩;simp -implicitDefEqProofs [gS,gB,zH];refine jN g [0] (by decide) (by simp[gS,gB]) (by simp[zF,hkl]) ?_;simp -implicitDefEqProofs [gS,gB];rw[hrec];exact zI [0] 0 (by decide) (by simp) (by simp) (by simp[yK,zR])
end
def qGp:K:=G [kO 1 0,kMi 2 0] (G [D 4 1 1,L 5 4 1,D 6 1 1,L 7 6 1,D 8 1 1,L 9 8 1,D 10 1 2,L 11 10 1,kN 12 11,kb 13 [ki,ki,ki,ki,ki] [(0,1,(kt 5)),(1,1,(kt 7)),(2,1,(kc 0)),(3,1,(kt 9)),(4,1,(kt 12))],kZ 3 [ki,ki,ki,ki,ki],S 3 13 5] (Z (G [D 14 1 0,L 15 14 1,kQi 16 15 0 false,M 17 16,T 17 true (D 18 1 1),T 17 true (L 19 18 1),T 17 true (kBi 20 19 0 .lss),kPf 21 17 20] (Y 21 (G [D 22 1 1,L 23 22 1,⟨none,.neg (some 24) (kt 23)⟩,M 2 24] kr) ks)) (G [D 25 1 0,L 26 25 1,⟨none,.idxarr (some 27) (kt 3) (kt 26) 5 1⟩,L 28 27 1,M 2 28] kr)))
theorem qNo:zO prog Tryz.f123.ntmps (Tryz.f123.body.getD .skip)=some qGp.erase:=by kernel_rfl
@[simp] theorem qO7:zA prog 123=true:=by kernel_rfl
def qGq:K:=G [kO 1 0,kMi 2 0] (Z (G [D 6 1 0,L 7 6 1,kBi 8 7 0 .lss,M 9 8,T 9 false (D 10 1 0),T 9 false (L 11 10 1),T 9 false (kBi 12 11 4 .gtr),kPt 13 9 12] (Y 13 (G [kMi 2 0] kr) ks)) (G [J 14 1 3,kC 15 123 [(kt 14)],M 3 15] (Z (G [D 16 1 0,L 17 16 1,kQi 18 17 0 false,M 19 18,T 19 false (D 20 1 0),T 19 false (L 21 20 1),T 19 false (kQi 22 21 1 false),kPt 23 19 22] (Y 23 (G [M 24 3,M 2 24] kr) ks)) (Z (G [D 25 1 2,L 26 25 1,kN 27 26,kMi 28 0] (K.block 0 (K.loop (G [kB 29 28 27 .lss] (Z (Y 29 ks (K.exit 0)) (Z (K.block 1 (G [kX 30 26 28 3,J 31 30 3,kZ 5 [ki,ki,kl],S 5 31 3] (K.ops [M 32 3,J 33 5 3,kC 34 81 [(kt 33)],kB 35 32 34 .add,M 3 35]))) (K.ops [kBi 36 28 1 .add,M 28 36]))))))) (G [M 37 3,M 2 37] kr)))))
theorem qNp:zO prog Tryz.f81.ntmps (Tryz.f81.body.getD .skip)=some qGq.erase:=by kernel_rfl
@[simp] theorem qO8:zA prog 81=true:=by kernel_rfl
def zZB:K:=G [kO 2 0,kO 3 1,kMi 4 0] (Z (K.dops [(0,0,J 5 2 3),(1,0,kC 6 81 [(kt 5)]),(2,0,J 7 3 3),(3,0,kC 8 81 [(kt 7)]),(4,0,kC 9 80 [(kt 6),(kt 8)]),(5,0,J 10 2 3),(6,0,J 11 3 3),(7,0,kC 12 60 [(kt 10),(kt 11)]),(8,0,kd 13 3 1 2 [ki,ki] [(0,1,(kt 9)),(1,1,(kt 12))]),(9,0,kC 14 79 [(kt 13)]),(10,0,M 4 14)]) kr)
theorem qHm:zO prog Tryz.f78.ntmps (Tryz.f78.body.getD .skip)=some zZB.erase:=by kernel_rfl
@[simp] theorem qKU:zA prog 78=true:=by kernel_rfl
def zNP (v:Val):Int:=if v.k=0∧v.n<0 then w64 (0-v.n) else if v.k=0∨v.k=1∨v.k=3 then v.n else if v.k=4 then v.kids.length else 0
theorem zRV (v:Val)(h0:0≤v.k)(h4:v.k≤4):Ret prog 123 [.agg (zC v)] [] (int (zNP v)) []:=by
 refine zK Tryz.func123 rfl qNo (rs:=[.slot 2]) (by kernel_rfl) ?_;unfold qGp;by_cases hk:v.k=0
 ·by_cases hn:v.n<0
  ·simp -implicitDefEqProofs [zC,hk,hn];exact fun _=>zB 0 (by simp[zNP,hk,hn,w64])
  ·simp -implicitDefEqProofs [zC,hk,hn];exact fun _=>zB 0 (by simp[zNP,hk,hn])
 ·simp -implicitDefEqProofs [zC,hk];intro hl;have hc:v.k=1∨v.k=2∨v.k=3∨v.k=4:=by omega
  rcases hc with h | h | h | h<;>simp -implicitDefEqProofs [h]<;>exact zB 0 (by simp[zNP,h])
def zBC:Val→Int
 | .mk k n l=>if k<0∨4<k then 0 else if k=0∨k=1 then zNP (.mk k n l) else l.attach.foldl (fun s x=>w64 (s+zBC x.1)) (zNP (.mk k n l))
termination_by v=>qD v
decreasing_by
 have:=zE9 x.2;simp only[qD]; omega
def zRM (s:Int)(l:List Val):Int:=l.foldl (fun s x=>w64 (s+zBC x)) s
theorem zDF (v:Val):zBC v=if v.k<0∨4<v.k then 0 else if v.k=0∨v.k=1 then zNP v else zRM (zNP v) v.kids:=by
 cases v with
 | mk k n l =>
  rw[zBC];simp only[Val.k,Val.kids,zRM]
  congr 2
  rw[List.foldl_attach (f:=fun s x=>w64 (s+zBC x))]
theorem zU5 {s:Int}{l:List Val}{i:Nat}(h:i<l.length):zRM s (l.take (i+1))=IntKind.i64.wrap (zRM s (l.take i)+zBC l[i]):=by rw[zRM,jAh h,jCj];rfl
theorem zIY (v:Val):Ret prog 81 [.agg (zC v)] [] (int (zBC v)) []:=by
 refine zK Tryz.func81 rfl qNp (rs:=[.slot 2]) (by kernel_rfl) ?_;unfold qGq;by_cases hk:v.k<0
 ·simp -implicitDefEqProofs [zC,hk];exact zB 0 (by simp[zDF v,hk])
 by_cases hk':4<v.k
 ·simp -implicitDefEqProofs [zC,hk,hk'];exact zB 0 (by simp[zDF v,hk'])
 simp -implicitDefEqProofs [zC,hk,hk'];refine qK (zRV v (by omega) (by omega)) (by simp[zC]) (by simp) ?_;by_cases h0:v.k=0
 ·simp -implicitDefEqProofs [h0];exact zB 0 (by simp[zDF v,h0])
 by_cases h1:v.k=1
 ·simp -implicitDefEqProofs [h1];exact zB 0 (by simp[zDF v,h1])
 simp -implicitDefEqProofs [h0,h1];intro hl;refine jX (S:=Nat) (fun i=>[(3,int (zRM (zNP v) (v.kids.take i))),(26,.sl v.kids.length (zJ v.kids)),(27,int v.kids.length),(28,int i)]) (fun s=>[]) (fun i=>i≤v.kids.length) (fun i=>v.kids.length-i) 0 (by simp)
  (zP [] 0 (by simp) (by simp) (by simp) (by simp[zRM])) ?_
 intro i hi;simp -implicitDefEqProofs;refine qT (fun h=>?_) (fun h=>?_)<;>simp at h
 ·simp -implicitDefEqProofs [h,qY h];refine qK (zIY v.kids[i]) (by simp[zC]) (by simp) ?_;simp -implicitDefEqProofs;refine zU (i+1) h (by omega) (zP [] 0 (by simp) (by simp) (by simp) (by simp[qO h hl,zU5 h]))
 ·have:i=v.kids.length:=by omega
  subst this;simp -implicitDefEqProofs;exact zB 0 (by simp[zDF v,hk,hk',h0,h1])
termination_by qD v
decreasing_by exact zAG (jA3 _)
structure Lin {α : Type}(c : α→α→Int):Prop where
 refl:∀x,c x x=0
 eq:∀x y,c x y=0→x=y
 swap:∀x y,c x y<0↔0<c y x
 trans:∀x y z,c x y<0→c y z<0→c x z<0
theorem Lin.ord {α : Type}{c : α→α→Int}(h:Lin c):Ord c where
 irrefl x:=by rw[h.refl]; omega
 trans:=h.trans
 ntrans x y z h1 h2 h3:=by
  by_cases e1:c x y=0
  ·rw[h.eq _ _ e1]at h3; exact h2 h3
  by_cases e2:c y z=0
  ·rw[←h.eq _ _ e2]at h3; exact h1 h3
  have h4:c y x<0:=(h.swap y x).2 (by omega);have h5:=h.trans _ _ _ h4 h3;exact h2 h5
 anti x y h1 h2:=by
  by_cases e1:c x y=0
  ·exact h.eq _ _ e1
  ·have:c y x<0:=(h.swap y x).2 (by omega);exact(h2 this).elim
theorem zCO {a b:Int}:zAw a b<0↔a<b:=by
 unfold zAw;split
 ·omega
 ·split<;>omega
theorem zFH {a b:Int}:0<zAw a b↔b<a:=by
 unfold zAw;split
 ·omega
 ·split<;>omega
theorem yG {a b:Int}:zAw a b=0↔a=b:=by
 unfold zAw;split
 ·omega
 ·split<;>omega
theorem qID:Lin zAw where
 refl x:=yG.2 rfl
 eq x y h:=yG.1 h
 swap x y:=by rw[zCO,zFH]
 trans x y z:=by simp only[zCO]; omega
theorem zNO (a:Int):orI [a]=a:=by simp only[orI]; split<;>simp_all
theorem zLe (a:Int)(l:List Int):orI (a::l)=if a=0 then orI l else a:=rfl
theorem zWv {α : Type}{c d : α→α→Int}(hc0:∀x,c x x=0)(hcs:∀x y,c x y<0↔0<c y x)(hct:∀x y z,c x y<0→c y z<0→c x z<0)
 (hce:∀x y z,c x y=0→c x z=c y z∧c z x=c z y)(hd0:∀x,d x x=0)(hde:∀x y,c x y=0→d x y=0→x=y)(hds:∀x y,c x y=0→(d x y<0↔0<d y x))
 (hdt:∀x y z,c x y=0→c y z=0→d x y<0→d y z<0→d x z<0):Lin fun x y=>if c x y=0 then d x y else c x y where
 refl x:=by simp[hc0,hd0]
 eq x y h:=by
  split at h
  ·rename_i hc; exact hde x y hc h
  ·rename_i hc; exact(hc h).elim
 swap x y:=by
  by_cases h:c x y=0
  ·have h':c y x=0:=by have:=(hce x y x h).1;rw[hc0]at this;exact this.symm
   simp only[h,h',if_true];exact hds x y h
  ·have h':¬c y x=0:=fun e=>h (by
    have:=(hce y x y e).1;rw[hc0]at this;exact this.symm)
   simp only[h,h',if_false];exact hcs x y
 trans x y z:=by
  by_cases h1:c x y=0
  ·by_cases h2:c y z=0
   ·have h3:c x z=0:=by rw[(hce x y z h1).1]; exact h2
    simp only[h1,h2,h3,if_true];exact hdt x y z h1 h2
   ·have h3:¬c x z=0:=by rw[(hce x y z h1).1]; exact h2
    simp only[h1,h2,h3,if_true,if_false];intro _ h;rw[(hce x y z h1).1]; exact h
  ·by_cases h2:c y z=0
   ·have h3:¬c x z=0:=by rw[←(hce y z x h2).2]; exact h1
    simp only[h1,h2,h3,if_true,if_false];intro h _;rw[←(hce y z x h2).2]; exact h
   ·simp only[h1,h2,if_false];intro h4 h5;have h6:=hct x y z h4 h5;have h3:¬c x z=0:=by omega
    simp only[h3,if_false];exact h6
mutual
theorem zCk:∀(a:Val),zBX a a=0
 | .mk k n l=>by
  rw[zB6];have:zAY (.mk k n l) (.mk k n l)=0:=by simp[zAY,orI,yG.2]
  simp only[this,ne_eq,not_true_eq_false,if_false,Val.kids];exact zKm l
theorem zKm:∀(l:List Val),zAp l l=0
 | []=>by simp only[zAp]
 | a::l=>by simp only[zAp,zCk a,ne_eq,not_true_eq_false,if_false]; exact zKm l
end
theorem zDv {a b:Val}:zAY a b=0↔a.k=b.k∧a.n=b.n∧a.kids.length=b.kids.length:=by
 simp only[zAY,orI];by_cases h1:a.k=b.k
 ·by_cases h2:a.n=b.n
  ·by_cases h3:a.kids.length=b.kids.length
   ·simp[h1,h2,h3,yG.2]
   ·have:¬zAw a.kids.length b.kids.length=0:=fun e=>h3 (by have:=yG.1 e; omega)
    simp[h1,h2,h3,yG.2,this]
  ·have:¬zAw a.n b.n=0:=fun e=>h2 (yG.1 e)
   simp[h1,h2,yG.2,this]
 ·have:¬zAw a.k b.k=0:=fun e=>h1 (yG.1 e)
  simp[h1,this]
mutual
theorem zBS:∀(a b:Val),zBX a b=0→a=b
 | .mk k n l,.mk k' n' l',h=>by
  rw[zB6]at h;split at h
  ·rename_i h1; exact(h1 h).elim
  ·rename_i h1;simp only[ne_eq,Decidable.not_not]at h1;obtain⟨e1,e2,e3⟩:=zDv.1 h1;simp only[Val.k,Val.n,Val.kids]at e1 e2 e3 h;rw[e1,e2,zKo l l' h]
theorem zKo:∀(l l':List Val),zAp l l'=0→l=l'
 | [],[],_=>rfl
 | [],_::_,h=>by simp[zAp]at h
 | _::_,[],h=>by simp[zAp]at h
 | a::l,b::l',h=>by
  simp only[zAp]at h;split at h
  ·rename_i h1; exact(h1 h).elim
  ·rename_i h1;simp only[ne_eq,Decidable.not_not]at h1;rw[zBS a b h1,zKo l l' h]
end
theorem zHR {a b:Val}:zAY a b<0↔a.k<b.k∨(a.k=b.k∧(a.n<b.n∨(a.n=b.n∧a.kids.length<b.kids.length))):=by
 simp only[zAY,zLe,zNO];by_cases h1:a.k=b.k
 ·by_cases h2:a.n=b.n
  ·simp[h1,h2,yG.2,zCO];simp only[orI];split<;>rename_i h<;>simp_all [zCO];have:=yG.1 h; omega
  ·have:¬zAw a.n b.n=0:=fun e=>h2 (yG.1 e)
   simp[h1,h2,yG.2,this,zCO]
 ·have:¬zAw a.k b.k=0:=fun e=>h1 (yG.1 e)
  simp[h1,this,zCO]
theorem zWl {a b:Val}:0<zAY a b↔zAY b a<0:=by
 rw[zHR];simp only[zAY,zLe,zNO];by_cases h1:a.k=b.k
 ·by_cases h2:a.n=b.n
  ·simp[h1,h2,yG.2];simp only[orI];split<;>rename_i h<;>simp_all [zFH];have:=yG.1 h; omega
  ·have:¬zAw a.n b.n=0:=fun e=>h2 (yG.1 e)
   simp[h1,yG.2,this,zFH];omega
 ·have:¬zAw a.k b.k=0:=fun e=>h1 (yG.1 e)
  simp[this,zFH];omega
mutual
theorem zMb:∀(a b:Val),zBX a b<0↔0<zBX b a
 | .mk k n l,.mk k' n' l'=>by
  rw[zB6,zB6];by_cases h:zAY (.mk k n l) (.mk k' n' l')=0
  ·have h':zAY (.mk k' n' l') (.mk k n l)=0:=by rw[zDv]at *; omega
   simp only[h,h',ne_eq,not_true_eq_false,if_false,Val.kids];exact zKn l l'
  ·have h':¬zAY (.mk k' n' l') (.mk k n l)=0:=by rw[zDv]at *; omega
   simp only[h,h',ne_eq,not_false_eq_true,if_true];rw[zWl]
theorem zKn:∀(l l':List Val),zAp l l'<0↔0<zAp l' l
 | [],[]=>by simp[zAp]
 | [],_::_=>by simp[zAp]
 | _::_,[]=>by simp[zAp]
 | a::l,b::l'=>by
  simp only[zAp];by_cases h:zBX a b=0
  ·have e:=zBS a b h;subst e;simp only[h,ne_eq,not_true_eq_false,if_false];exact zKn l l'
  ·have h':¬zBX b a=0:=fun e=>h (by rw[zBS b a e]; exact zCk a)
   simp only[h,h',ne_eq,not_false_eq_true,if_true];exact zMb a b
end
mutual
theorem zKl:∀(a b c:Val),zBX a b<0→zBX b c<0→zBX a c<0
 | .mk k n l,.mk k' n' l',.mk k'' n'' l'',h1,h2=>by
  rw[zB6]at *
  by_cases e1:zAY (.mk k n l) (.mk k' n' l')=0
  ·by_cases e2:zAY (.mk k' n' l') (.mk k'' n'' l'')=0
   ·have e3:zAY (.mk k n l) (.mk k'' n'' l'')=0:=by rw[zDv]at *; omega
    simp only[e1,e2,e3,ne_eq,not_true_eq_false,if_false,Val.kids]at *
    exact zJi l l' l'' h1 h2
   ·have e3:zAY (.mk k n l) (.mk k'' n'' l'')<0:=by simp only[e2,ne_eq,not_false_eq_true,if_true]at h2;rw[zDv]at e1; rw[zHR]at *; omega
    have e4:zAY (.mk k n l) (.mk k'' n'' l'')≠0:=by omega
    simp only[e4,ne_eq,not_false_eq_true,if_true];exact e3
  ·simp only[e1,ne_eq,not_false_eq_true,if_true]at h1;have e3:zAY (.mk k n l) (.mk k'' n'' l'')<0:=by
    by_cases e2:zAY (.mk k' n' l') (.mk k'' n'' l'')=0
    ·rw[zDv]at e2; rw[zHR]at *; omega
    ·simp only[e2,ne_eq,not_false_eq_true,if_true]at h2;rw[zHR]at *; omega
   have e4:zAY (.mk k n l) (.mk k'' n'' l'')≠0:=by omega
   simp only[e4,ne_eq,not_false_eq_true,if_true];exact e3
theorem zJi:∀(a b c:List Val),zAp a b<0→zAp b c<0→zAp a c<0
 | [],[],_,h1,_=>by simp[zAp]at h1
 | [],_::_,[],_,h2=>by simp[zAp]at h2
 | [],_::_,_::_,_,_=>by simp[zAp]
 | _::_,[],_,h1,_=>by simp[zAp]at h1
 | _::_,_::_,[],_,h2=>by simp[zAp]at h2
 | a::l,b::l',c::l'',h1,h2=>by
  simp only[zAp]at *
  by_cases e1:zBX a b=0
  ·have e:=zBS a b e1;subst e;by_cases e2:zBX a c=0
   ·simp only[zCk,e2,ne_eq,not_true_eq_false,if_false]at *
    exact zJi l l' l'' h1 h2
   ·simp only[e2,ne_eq,not_false_eq_true,if_true]at *
    exact h2
  ·simp only[e1,ne_eq,not_false_eq_true,if_true]at h1;have e3:zBX a c<0:=by
    by_cases e2:zBX b c=0
    ·rw[←zBS b c e2]; exact h1
    ·simp only[e2,ne_eq,not_false_eq_true,if_true]at h2;exact zKl a b c h1 h2
   have e4:zBX a c≠0:=by omega
   simp only[e4,ne_eq,not_false_eq_true,if_true];exact e3
end
theorem zWu:Lin zBX:=⟨zCk,zBS,zMb,zKl⟩
theorem qCv {α : Type}(f : α→Int){d : α→α→Int}(h:Lin d):Lin fun x y=>orI [zAw (f x) (f y),d x y]:=by
 have:=zWv (c:=fun x y=>zAw (f x) (f y)) (d:=d) (fun x=>yG.2 rfl) (fun x y=>by rw[zCO,zFH]) (fun x y z=>by simp only[zCO]; omega)
  (fun x y z e=>by have:=yG.1 e; simp[this]) h.refl (fun x y _=>h.eq x y) (fun x y _=>h.swap x y) (fun x y z _ _=>h.trans x y z)
 have e:(fun x y=>orI [zAw (f x) (f y),d x y])=fun x y=>if zAw (f x) (f y)=0 then d x y else zAw (f x) (f y):=by funext x y;rw[zLe,zNO]
 rw[e];exact this
def zQD (a b:Val):Int:=orI [zAw (zBC a) (zBC b),zBX a b]
theorem zKO:Lin zQD:=qCv zBC zWu
theorem zOe (a b:Val):Ret prog 78 [.agg (zC a),.agg (zC b)] [] (int (zQD a b)) []:=by refine zK Tryz.func78 rfl qHm (rs:=[.slot 4]) (by kernel_rfl) ?_;unfold zZB;simp -implicitDefEqProofs [zC];refine qR (zIY a) (by simp[zC]) (by simp) ?_;simp -implicitDefEqProofs;refine qR (zIY b) (by simp[zC]) (by simp) ?_;simp -implicitDefEqProofs;refine qR (zCe (zBC a) (zBC b)) (by simp) (by simp) ?_;simp -implicitDefEqProofs;refine qR (zJQ a b) (by simp[zC]) (by simp) ?_;simp -implicitDefEqProofs;refine qR (zW9 [zAw (zBC a) (zBC b),zBX a b]) (by simp) (by simp) ?_;simp -implicitDefEqProofs;exact zB 0 (by simp[zQD])
def qJz:Go.Shelf.Ren:=⟨fun | 6=>77 | 15=>121 | 14=>120 | 28=>165 | 29=>166 | 20=>157 | 21=>158 | 22=>159 | 23=>160 | 24=>161 | 25=>162 | 26=>163 | 27=>164 | 46=>181 | 49=>184 | 50=>185 | 57=>197 | 47=>182 | 48=>183 | n=>n,fun | 22=>44 | 24=>46 | 25=>54 | 3=>3 | 39=>181 | 0=>0 | 53=>222 | 55=>224 | 4=>4 | 46=>215 | 45=>214 | 50=>219 | 5=>5 | 9=>9 | 66=>241 | 70=>245 | 76=>256 | 77=>257 | n=>n,fun n=>n⟩
theorem qAu:Go.Proofs.SlLaysF0.n6 prog qJz:={
 mixed:=by kernel_rfl,
 f6:=⟨Tryz.f77.name,by decide,Tryz.func77.trans (congrArg some (by kernel_rfl))⟩,
 f14:=⟨Tryz.f120.name,by decide,Tryz.func120.trans (congrArg some (by kernel_rfl))⟩,
 f15:=Tryz.func121.trans (congrArg some (by kernel_rfl)),
 f20:=⟨Tryz.f157.name,by decide,Tryz.func157.trans (congrArg some (by kernel_rfl))⟩,
 f21:=⟨Tryz.f158.name,by decide,Tryz.func158.trans (congrArg some (by kernel_rfl))⟩,
 f22:=⟨Tryz.f159.name,by decide,Tryz.func159.trans (congrArg some (by kernel_rfl))⟩,
 f23:=⟨Tryz.f160.name,by decide,Tryz.func160.trans (congrArg some (by kernel_rfl))⟩,
 f24:=⟨Tryz.f161.name,by decide,Tryz.func161.trans (congrArg some (by kernel_rfl))⟩,
 f25:=⟨Tryz.f162.name,by decide,Tryz.func162.trans (congrArg some (by kernel_rfl))⟩,
 f26:=⟨Tryz.f163.name,by decide,Tryz.func163.trans (congrArg some (by kernel_rfl))⟩,
 f27:=⟨Tryz.f164.name,by decide,Tryz.func164.trans (congrArg some (by kernel_rfl))⟩,
 f28:=Tryz.func165.trans (congrArg some (by kernel_rfl)),
 f29:=Tryz.func166.trans (congrArg some (by kernel_rfl)),
 f46:=⟨Tryz.f181.name,by decide,Tryz.func181.trans (congrArg some (by kernel_rfl))⟩,
 f47:=Tryz.func182.trans (congrArg some (by kernel_rfl)),
 f48:=Tryz.func183.trans (congrArg some (by kernel_rfl)),
 f49:=⟨Tryz.f184.name,by decide,Tryz.func184.trans (congrArg some (by kernel_rfl))⟩,
 f50:=⟨Tryz.f185.name,by decide,Tryz.func185.trans (congrArg some (by kernel_rfl))⟩,
 f57:=⟨Tryz.f197.name,by decide,Tryz.func197.trans (congrArg some (by kernel_rfl))⟩,
 t0:=Tryz.underlying0,
 a0:=Tryz.isAgg0,
 z0:=Tryz.sizeOf0,
 v0:=Tryz.zeroValue0,
 t3:=Tryz.underlying3,
 a3:=Tryz.isAgg3,
 z3:=Tryz.sizeOf3,
 v3:=Tryz.zeroValue3,
 t4:=Tryz.underlying4,
 a4:=Tryz.isAgg4,
 z4:=Tryz.sizeOf4,
 v4:=Tryz.zeroValue4,
 t5:=Tryz.underlying5,
 a5:=Tryz.isAgg5,
 z5:=Tryz.sizeOf5,
 v5:=Tryz.zeroValue5,
 t9:=Tryz.underlying9,
 a9:=Tryz.isAgg9,
 z9:=Tryz.sizeOf9,
 v9:=Tryz.zeroValue9,
 t22:=Tryz.underlying44,
 a22:=Tryz.isAgg44,
 z22:=Tryz.sizeOf44,
 v22:=Tryz.zeroValue44,
 t25:=Tryz.underlying54,
 a25:=Tryz.isAgg54,
 z25:=Tryz.sizeOf54,
 v25:=Tryz.zeroValue54,
 t39:=Tryz.underlying181,
 a39:=Tryz.isAgg181,
 z39:=Tryz.sizeOf181,
 v39:=Tryz.zeroValue181,
 t45:=Tryz.underlying214,
 a45:=Tryz.isAgg214,
 z45:=Tryz.sizeOf214,
 v45:=Tryz.zeroValue214,
 t46:=Tryz.underlying215,
 a46:=Tryz.isAgg215,
 z46:=Tryz.sizeOf215,
 v46:=Tryz.zeroValue215,
 t50:=Tryz.underlying219,
 a50:=Tryz.isAgg219,
 z50:=Tryz.sizeOf219,
 v50:=Tryz.zeroValue219,
 t53:=Tryz.underlying222,
 a53:=Tryz.isAgg222,
 z53:=Tryz.sizeOf222,
 v53:=Tryz.zeroValue222,
 t55:=Tryz.underlying224,
 a55:=Tryz.isAgg224,
 z55:=Tryz.sizeOf224,
 v55:=Tryz.zeroValue224,
 t66:=Tryz.underlying241,
 a66:=Tryz.isAgg241,
 z66:=Tryz.sizeOf241,
 v66:=Tryz.zeroValue241,
 t70:=Tryz.underlying245,
 a70:=Tryz.isAgg245,
 z70:=Tryz.sizeOf245,
 v70:=Tryz.zeroValue245,
 t76:=Tryz.underlying256,
 a76:=Tryz.isAgg256,
 z76:=Tryz.sizeOf256,
 v76:=Tryz.zeroValue256,
 t77:=Tryz.underlying257,
 a77:=Tryz.isAgg257,
 z77:=Tryz.sizeOf257,
 v77:=Tryz.zeroValue257}
@[simp] theorem qH4:zA prog 77=true:=by kernel_rfl
theorem zXT:∀args w,(callFunc 78 args).run prog w=.ok (.enter 78 args) w:=enters_of Tryz.func78 (by kernel_rfl) rfl
theorem qDg:zNn prog 77 78 zC zQD :=
 zXa (k:=3) (fun _=>rfl) zKO.ord zOe fun α _ enc hk h1 cf hO blk off cap d w hcmp hH hblk hsz =>
  Go.Proofs.AnyQ.slices_SortFunc qAu 3 Tryz.isAgg46 Tryz.sizeOf46 enc hk h1 cf hO 78 #[] blk off cap d w zXT hcmp hH hblk hsz
theorem qIX:∀(p:Option Addr) (cap:Nat) (fv:Value) (w:World),Calls prog 77 #[.slice p 0 cap,fv] w fun e w'=>e=.returned (.tuple #[])∧w'=w :=
 fun p cap fv w=>Go.Proofs.AnyF.slices_SortFunc_none qAu p cap fv w
theorem zQC (l:List Val):l.flatMap zC=zJ l:=by
 induction l with
 | nil=>simp
 | cons v l ih=>simp[ih,zC]
theorem zQd (l:List Val)(hmx:l.length<4611686018427387904):Ret prog 77 [.row 0 l.length,.clo 78 [] []] [.row false 46 3 l.length (zJ l)] (.tup []) [.row false 46 3 l.length (zJ (zEb zQD l))]:=by
 have:=zQe (sz:=3) (by omega) (fun _=>rfl) (fun b=>by simp[zC]) zKO.ord 46 qDg qIX l hmx
 simpa only[zQC] using this
end Go.Proofs.YtdnelmeboihpkaaGreatDoor
namespace Go.Proofs.YtdnelmeboihpkaaGreatDoor
open Go.Proofs Go.Abs
theorem zW2 (c:Int)(hc:c=0∨c=1∨c=2)(w:World):Calls prog 180 #[.int .u64 1,.int .u64 c] w fun e w'=>e=.returned (.tuple #[.int .u64 0,.int .u64 c])∧w'=w:=by
 rcases hc with rfl | rfl | rfl
 all_goals
  go_enter Tryz.func180,Tryz.ntmps180
  go_wp2
  go_ret2
  exact⟨by kernel_rfl,rfl⟩
theorem zRz (c:Int)(hc:c=0∨c=1∨c=2)(w:World):Calls prog 156 #[.int .u64 1,.int .u64 c] w fun e w'=>e=.returned (.tuple #[.int .u64 0,.int .u64 c])∧w'=w:=by
 have h:=zW2 c hc;have hw:IntKind.u64.wrap c=c:=by rcases hc with rfl | rfl | rfl<;>rfl
 go_enter Tryz.func156,Tryz.ntmps156
 go_wp2_with (go_at_call 180; refine(h _).mono ?_; rintro e w' ⟨rfl,rfl⟩)
 go_ret2
 exact⟨rfl,rfl⟩
theorem u49:prog.underlying 161=some (.slice 44):=by kernel_rfl
theorem zYY:(prog.info? 44).map (·.size)=some 1:=by kernel_rfl
theorem i36:(prog.info? 44).map (fun i=>(i.size,i.bytes,i.zero))=some (1,24,some (.slice none 0 0)):=by kernel_rfl
theorem zRx (c:Nat)(hc:c≤2)(w:World):(Instr.makeSlice 161 (.int .i64 c) (.int .i64 c)).run prog w=.ok (.slice (some ⟨w.heap.size,0,none⟩) c c) (w.alloc (.cells (madeCells #[.slice none 0 0] c) 44)):=by obtain⟨i,hi,hh⟩:=jAb.1 i36;simp only[jB8]at hh;obtain⟨h1,h2,h3⟩:=hh;have:=run_make w 161 44 i (.slice none 0 0) u49 hi h3 .i64 .i64 c c (by omega) (by omega) (by rw[h2]; omega) (by omega);rw[this,h1];simp[Value.cells]
theorem zU4 {P:Program}{ops:Array Oper}{o:Oper}{a:Act}{w w':World}{K:Act→World→Prop}{Q:Exit→Act→World→Prop}{E:Prop}
 (hg:o.guard=none)(d s:Operand)(t:TypeId)(hop:o.op=Op.call {callee:=Callee.builtin Builtin.copy,args:=#[d,s],argTypes:=#[t,t]})
 (vd vs:Value)(hd:a.eval d=vd)(hs:a.eval s=vs)(v:Value)(hrun:(Builtin.copy_ #[t,t] o.type #[vd,vs]).run P w=.ok v w')(hK:K (a.put o.dst v) w') :
 if Region.wanted o (yielded ops a.tmps)=true then Oper.wp P o a w K Q else E:=by
 have hw:Region.wanted o (yielded ops a.tmps)=true:=by simp[Region.wanted,hg]
 rw[if_pos hw];unfold Oper.wp;simp[execOp,hop,resolve,invoke,builtin,hs,hd,hrun,Result.andThen];exact hK
theorem zWx (z:Value)(n:Nat):madeCells #[z] n=Array.replicate n z:=Array.ext (by simp[madeCells]) (by intro i h1 h2; simp[madeCells,Nat.mod_one])
theorem zIz (w:World)(cur cur':Array Value):(w.alloc (.cells cur 44)).setRow w.heap.size cur'=w.alloc (.cells cur' 44):=by unfold World.setRow World.alloc;simp only[World.mk.injEq,and_true];apply Array.ext_getElem?;intro k;simp only[Array.getElem?_modify,Array.getElem?_push];split<;>split<;>simp_all
theorem zR9 (b o cap:Nat)(v:Value)(w:World)(hv:w.cell? ⟨b,o,none⟩=some v) :
 Calls prog 119 #[.slice (some ⟨b,o,none⟩) 1 cap,.int .i64 0] w fun e w'=>e=.returned (.slice (some ⟨w.heap.size,0,none⟩) 0 0)∧w'=w.alloc (.cells #[] 44):=by
 have h:=zRz 0 (by simp);have hm:∀w:World,(Instr.makeSlice 161 (.int .i64 0) (.int .i64 0)).run prog w=.ok (.slice (some ⟨w.heap.size,0,none⟩) 0 0) (w.alloc (.cells #[] 44)):=fun w=>(zRx 0 (by decide) w).trans (by rw[zWx]; rfl)
 go_enter Tryz.func119,Tryz.ntmps119
 go_wp2_with (go_at_call 156; refine(h _).mono ?_; rintro e w' ⟨rfl,rfl⟩)
 have hcp:=run_copy_none (P:=prog) (w'.alloc (.cells #[] 44)) 161 161 3 44 (some ⟨w'.heap.size,0,none⟩) (some ⟨b,o,none⟩) 0 0 1 cap u49 zYY (by rfl)
 go_wp2
 rw[hcp]
 go_wp2
 refine wp_loop_rounds 1 ?_;simp only[Code.rounds]
 go_wp2
 go_ret
 exact⟨rfl,rfl⟩
theorem zRA (b o cap:Nat)(v:Value)(w:World)(hv:w.cell? ⟨b,o,none⟩=some v)(h1:v.oneCell'=true)(hb:b<w.heap.size) :
 Calls prog 119 #[.slice (some ⟨b,o,none⟩) 1 cap,.int .i64 1] w fun e w'=>e=.returned (.slice (some ⟨w.heap.size,0,none⟩) 1 1)∧w'=w.alloc (.cells #[v] 44):=by
 have h:=zRz 1 (by simp);have hm:∀w:World,(Instr.makeSlice 161 (.int .i64 1) (.int .i64 1)).run prog w=.ok (.slice (some ⟨w.heap.size,0,none⟩) 1 1) (w.alloc (.cells #[.slice none 0 0] 44)):=fun w=>(zRx 1 (by decide) w).trans (by rw[zWx]; rfl)
 go_enter Tryz.func119,Tryz.ntmps119
 go_wp2_with (go_at_call 156; refine(h _).mono ?_; rintro e w' ⟨rfl,rfl⟩)
 have hcp:=run_copy_row (P:=prog) (w'.alloc (.cells #[.slice none 0 0] 44)) 161 161 3 44 w'.heap.size 0 1 1 ⟨b,o,none⟩ 1 cap #[.slice none 0 0] 44 [v] u49 zYY (heap_alloc_new _ _) (by rfl)
  (by
   intro j u hj;cases j with
   | succ j=>simp at hj
   | zero =>
    simp at hj;subst hj;rw[←hv];exact World.cell?_alloc_lt _ _ (a:=⟨b,o+0,none⟩) hb) (by simp) (by simpa using h1)
 rw[zIz]at hcp;simp only[List.take_zero,jC8,jAl,jBq,List.drop_succ_cons,jAr,List.drop_nil,jCf]at hcp
 go_wp2
 rw[hcp]
 go_wp2
 refine wp_loop_rounds 1 ?_;simp only[Code.rounds]
 go_wp2
 go_ret
 exact⟨rfl,rfl⟩
theorem zRB (b o cap:Nat)(v:Value)(w:World)(hv:w.cell? ⟨b,o,none⟩=some v)(h1:v.oneCell'=true)(hb:b<w.heap.size) :
 Calls prog 119 #[.slice (some ⟨b,o,none⟩) 1 cap,.int .i64 2] w fun e w'=>e=.returned (.slice (some ⟨w.heap.size,0,none⟩) 2 2)∧w'=(w.alloc (.cells #[v,v] 44)).drew:=by
 have h:=zRz 2 (by simp);have hm:∀w:World,(Instr.makeSlice 161 (.int .i64 2) (.int .i64 2)).run prog w=.ok (.slice (some ⟨w.heap.size,0,none⟩) 2 2) (w.alloc (.cells #[.slice none 0 0,.slice none 0 0] 44)):=fun w=>(zRx 2 (by decide) w).trans (by rw[zWx]; rfl)
 go_enter Tryz.func119,Tryz.ntmps119
 go_wp2_with (go_at_call 156; refine(h _).mono ?_; rintro e w' ⟨rfl,rfl⟩)
 have hcp:=run_copy_row (P:=prog) (w'.alloc (.cells #[.slice none 0 0,.slice none 0 0] 44)) 161 161 3 44 w'.heap.size 0 2 2 ⟨b,o,none⟩ 1 cap #[.slice none 0 0,.slice none 0 0] 44 [v] u49 zYY (heap_alloc_new _ _) (by rfl)
  (by
   intro j u hj;cases j with
   | succ j=>simp at hj
   | zero =>
    simp at hj;subst hj;rw[←hv];exact World.cell?_alloc_lt _ _ (a:=⟨b,o+0,none⟩) hb) (by simp) (by simpa using h1)
 rw[zIz]at hcp;simp only[List.take_zero,jC8,jAl,jBq,List.drop_succ_cons,List.drop_zero,jAr,jB9]at hcp
 go_wp2
 rw[hcp]
 go_wp2
 refine wp_loop_rounds 2 ?_;simp only[Code.rounds]
 go_wp2
 have hcp2:=run_copy_row (P:=prog) (w'.alloc (.cells #[v,.slice none 0 0] 44)).drew 161 161 3 44 w'.heap.size 1 1 1 ⟨w'.heap.size,0,none⟩ 1 2 #[v,.slice none 0 0] 44 [v] u49 zYY (heap_alloc_new _ _) (by rfl)
  (by
   intro j u hj;cases j with
   | succ j=>simp at hj
   | zero =>
    simp at hj;subst hj;exact World.cell?_alloc_new _ _ 44 0) (by simp) (by simpa using h1)
 have e:(w'.alloc (.cells #[v,.slice none 0 0] 44)).drew.setRow w'.heap.size (List.take 1 #[v,.slice none 0 0].toList++[v]++List.drop (1+[v].length) #[v,.slice none 0 0].toList).toArray=(w'.alloc (.cells #[v,v] 44)).drew:=by show ((w'.alloc (.cells #[v,.slice none 0 0] 44)).setRow w'.heap.size _).drew=_;rw[zIz];rfl
 rw[e]at hcp2
 go_region_law (refine zU4 rfl (.tmp 41) (.tmp 44) 161 rfl _ _ rfl rfl _ hcp2 ?_)
 go_wp2
 go_ret
 exact⟨rfl,rfl⟩
theorem zHZ {H:Mem}{L:List LI} {σ : St}{w:World}(hs:RelSt H L σ w):Nxt H L w H L σ w.drew :=
 ⟨hs.heap_eq rfl,⟨rfl,rfl,rfl,jA _,fun _ _ _=>rfl,HLe.refl _,fun _ _ _ h=>.inl h,jC9 _,fun _ _ h=>h⟩,LLe.refl _,fun _ h=>.inl h⟩
theorem zGg {H:Mem}{L:List LI}{c:A}{v:Value}(h:Rel H L c v):∀n,zN H L (List.replicate n c) (List.replicate n v)
 | 0=>jK
 | n+1=>qJ h (zGg h n)
theorem zUu (n:Nat)(hn:n≤2)(c:A):Ret prog 119 [.sl 1 [c],int n] [] (.sl n (List.replicate n c)) []:=by
 intro H L w vs hs hvs;obtain⟨x,t,rfl,hx,ht⟩:=zT hvs;obtain⟨y,t,rfl,hy,ht⟩:=zT ht;obtain rfl:=jF ht;simp only[int,Rel]at hx hy;subst hy;obtain⟨a,cap,rfl,h1,h2,h3⟩:=hx;rcases h3 with h3 | ⟨b,o,us,rfl,hc,ho,hat⟩
 ·omega
 obtain⟨v,t,rfl,hv,ht⟩:=zT hc;obtain rfl:=jF ht;have hp:=hs.pers b o v (by simpa using hat 0 v rfl);have h1v:v.oneCell'=true:=ho v (by simp);have hb:=World.block_lt_of_cell? w _ hp;have key:Calls prog 119 #[.slice (some ⟨b,o,none⟩) 1 cap,.int .i64 n] w fun e w'=>e=.returned (.slice (some ⟨w.heap.size,0,none⟩) n n) ∧
  (w'=w.alloc (.cells (List.replicate n v).toArray 44)∨w'=(w.alloc (.cells (List.replicate n v).toArray 44)).drew):=by
  have h:n=0∨n=1∨n=2:=by omega
  rcases h with rfl | rfl | rfl
  ·exact(zR9 b o cap v w hp).mono fun e w' h=>⟨h.1,.inl h.2⟩
  ·exact(zRA b o cap v w hp h1v hb).mono fun e w' h=>⟨h.1,.inl h.2⟩
  ·exact(zRB b o cap v w hp h1v hb).mono fun e w' h=>⟨h.1,.inr h.2⟩
 refine key.mono fun e w' h=>?_
 obtain⟨rfl,hw⟩:=h;obtain⟨hn1,hn2⟩:=zJz hs (List.replicate n v) 44;refine⟨.ret (.sl n (List.replicate n c)),[],zLD H w.heap.size (List.replicate n v),L,⟨_,rfl,?_⟩,?_,rfl,rfl⟩
 ·simp only[Rel];refine⟨_,n,rfl,jA _,by simp[maxLen]; omega,.inr ⟨w.heap.size,0,List.replicate n v,rfl,?_,fun u hu=>?_,hn2⟩⟩
  ·have hv':=Rel.mono hn1.step.hle (LLe.refl _) _ hv;exact zGg hv' n
  ·rw[(jD1.1 hu).2]; exact h1v
 ·rcases hw with rfl | rfl
  ·exact hn1
  ·exact hn1.trans (zHZ hn1.st)
end Go.Proofs.YtdnelmeboihpkaaGreatDoor
