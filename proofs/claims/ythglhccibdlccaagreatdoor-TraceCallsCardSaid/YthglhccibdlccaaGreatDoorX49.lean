/-
  The law TraceCalls, walked.
-/
import Derived.Test.YthglhccibdlccaaGreatDoorX48
import Derived.Test.YthglhccibdlccaaGreatDoorX43
import Derived.Test.YthglhccibdlccaaGreatDoorX28
set_option linter.unusedVariables false
set_option linter.unusedSimpArgs false
namespace Go.Proofs.YthglhccibdlccaaGreatDoor
open Go.Abs
theorem zIu (x:Int):zBB x x=0:=by simp[zBB]
mutual
theorem zLs:∀v:Val,zHR v v=0
 | .mk k n l=>by rw[zHR,zIu,zIu,zIu,if_neg (by simp[orI])]; exact zKt l
theorem zKt:∀l:List Val,zC2 l l=0
 | []=>by rw[zC2]
 | v::l=>by rw[zC2,zLs v,if_neg (by simp)]; exact zKt l
end
theorem zVO {p:Prg}{hs:List Hd}(hf:Fit p hs){d:Dfn}(hd:d∈p.defs)(l:List Int):1≤(zC1 p d l).length∧(zC1 p d l).length≤6:=by rw[zLu];exact⟨(hf.slots d hd).1,(hf.slots d hd).2.1⟩
theorem zHE:∀(R:List Val) (k:Nat),(zZ R).take (k*3)=zZ (R.take k)
 | [],k=>by simp
 | v::R,0=>by simp
 | v::R,k+1=>by
  have e:(k+1)*3=k*3+3:=by omega
  rw[e,zDF,List.take_succ_cons,List.take_succ_cons,List.take_succ_cons,List.take_succ_cons,zDF,zHE R k]
theorem zHk:∀(R:List Val) (k:Nat),(zZ R).drop (k*3)=zZ (R.drop k)
 | [],k=>by simp
 | v::R,0=>by simp
 | v::R,k+1=>by
  have e:(k+1)*3=k*3+3:=by omega
  rw[e,zDF,List.drop_succ_cons,List.drop_succ_cons,List.drop_succ_cons,List.drop_succ_cons,zHk R k]
def zTv:K:=(Z (K.dops [(0,1,J 108 11 2),(1,0,M 109 16),(2,0,M 110 19),(3,1,kX 111 109 110 3),(4,1,J 112 111 3),(5,0,M 113 17),(6,0,M 114 19),(7,1,kX 115 113 114 1),(8,1,L 116 115 1),(9,0,M 117 20),(10,0,M 118 21),(11,1,kX 119 117 118 1),(12,1,L 120 119 1),(13,1,kC 121 13 [(kt 108),(kt 112),(kt 116),(kt 120)]),(14,0,M 107 121),(15,0,kE 122 107 0),(16,0,kE 123 107 1),(17,0,kE 124 107 2),(18,301,⟨none,.alr (some 22) 1 [ki,ki,kl]⟩),(19,302,⟨none,.alr (some 23) 2 [kl,kl]⟩),(20,0,S 22 122 3),(21,0,S 23 123 2),(22,0,M 24 124)]) (Z (K.dops [(0,1,J 126 11 2),(1,0,M 127 16),(2,0,M 128 19),(3,1,kX 129 127 128 3),(4,1,J 130 129 3),(5,0,M 131 17),(6,0,M 132 19),(7,1,kX 133 131 132 1),(8,1,L 134 133 1),(9,0,M 135 20),(10,0,M 136 21),(11,1,kX 137 135 136 1),(12,1,L 138 137 1),(13,1,kC 139 14 [(kt 126),(kt 130),(kt 134),(kt 138)]),(14,0,M 125 139),(15,0,kE 140 125 0),(16,0,kE 141 125 1),(17,0,kE 142 125 2),(18,303,⟨none,.alr (some 25) 3 [ki,ki,kl]⟩),(19,304,⟨none,.alr (some 26) 4 [kl,kl]⟩),(20,0,S 25 140 3),(21,0,S 26 141 2),(22,0,M 27 142)]) (Z (K.dops [(0,0,M 143 24),(1,0,M 144 27),(2,0,kQ 145 143 144 true),(3,0,M 146 145),(4,0,T 146 false (J 147 22 3)),(5,0,T 146 false (J 148 25 3)),(6,0,T 146 false (kC 149 15 [(kt 147),(kt 148)])),(7,0,T 146 false (kQi 150 149 0 true)),(8,0,kPt 151 146 150),(9,0,M 152 151),(10,0,T 152 false (J 153 23 2)),(11,0,T 152 false (kC 154 17 [(kt 153)])),(12,0,T 152 false (J 155 26 2)),(13,0,T 152 false (kC 156 16 [(kt 154),(kt 155)])),(14,0,
 T 152 false (kR 157 156)),(15,0,kPt 158 152 157)]) (Y 158 (G [kMb 10 false] kr) ks))))
def zYI:K:=G [kMb 10 false] (G [M 28 0,kC 29 9 [(kt 28)],kZ 11 [kl,kl],S 11 29 2] (G [J 31 11 2,M 32 1,M 33 2,kC 34 10 [(kt 31),(kt 32),(kt 33)],M 30 34,kE 35 30 0,kE 36 30 1,kE 37 30 2,kZ 12 kz0,S 12 35 31,M 13 36,M 14 37] (Z (G [M 38 14,kR 39 38] (Y 39 (G [kC 40 11 [],M 10 40] kr) ks)) (Z (K.dops [(0,1,D 41 11 1),(1,1,L 42 41 1),(2,0,M 43 4),(3,1,D 44 11 1),(4,1,L 45 44 1),(5,1,kN 46 45),(6,1,kC 47 12 [(kt 43),(kt 46)]),(7,1,kX 48 42 47 31),(8,1,D 49 48 0),(9,1,J 50 49 3),(10,0,kZ 15 [ki,ki,ki]),(11,0,S 15 50 3)]) (G [D 51 12 0,J 52 51 3,D 53 12 0,J 54 53 3,D 55 12 0,J 56 55 3,J 57 15 3,kb 58 [ki,ki,ki] [(0,1,(kc 7)),(1,1,(kc 9))],kd 59 29 3 5 [ki,ki,ki,ki,ki,ki,ki,ki,ki,ki,ki,ki,ki,ki,ki] [(0,3,(kt 52)),(3,3,(kt 54)),(6,3,(kt 56)),(9,3,(kt 57)),(12,3,(kt 58))],M 16 59] (G [M 60 13,kd 61 47 3 0 [] [],M 62 13,kP 63 47 3 40 61 62,kb 64 [ki,ki,kl] [],kd 65 47 3 1 [ki,ki,kl] [(0,3,(kt 64))],kP 66 47 3 40 63 65,M 67 13,M 68 13,M 69 13,⟨none,.brow (some 70) 40 1 5 [kl,kl,kl,kl,kl] [(0,1,(kt 60)),(1,1,(kt 66)),(2,1,(kt 67)),(3,1,(kt 68)),(4,1,(kt 69))]⟩,M 17 70] (Z (G [M 71 13,kN 72 71,kBi 73 72 0 .gtr] (Y 73 (G [kd 74 47 3 0 [] [],M 75 13,kP 76 47 3 40 74 75,M 18 76] (G [M 77 18,M 78 4,M 79 18,kN 80 79,kC 81 12 [(kt 78),(kt 80)],M 82 4,kBi 83 82 7 .quo,kC 84 12 [(kt 83),(kc 7)],kBi 85 84 1 .sub,M 86 4,kb 87 [ki,ki,kl] [(0,1,(kt 85)),(1,1,(kt 86))],kX 88 77 81 3,S 88 87 3] (K.ops [M 89 17,M 90 18,kXi 91 89 1 2,S 91 90 1]))) ks)) (Z (G [kMi 19 0] (K.block 0 (K.loop (Z (G [M 92 19,
 M 93 16,kN 94 93,kB 95 92 94 .lss] (Y 95 ks (K.exit 0))) (Z (K.block 1 (G [M 98 3,kC 99 12 [(kt 98),(kc 40)],M 100 3,kBi 101 100 3000 .rem,kd 102 3 1 3 [ki,ki,ki] [(0,1,(kc 2000)),(1,1,(kt 99)),(2,1,(kt 101))],M 20 102] (G [kMi 21 0] (K.block 2 (K.loop (Z (G [M 103 21,kBi 104 103 3 .lss] (Y 104 ks (K.exit 2))) (Z (K.block 3 (K.wk zTv)) (K.ops [M 105 21,kBi 106 105 1 .add,M 21 106])))))))) (K.ops [M 96 19,kBi 97 96 1 .add,M 19 97])))))) (G [kC 159 11 [],M 10 159] kr)))))))))
def qId:Nat→Option (List (Nat×Nat)):=fun r=>match r with | 19=>some [(0,1),(1,0),(2,0),(3,1),(4,1),(5,0),(6,0),(7,1),(8,1),(9,0),(10,0),(11,1),(12,1),(13,1),(14,0),(15,0),(16,0),(17,0),(18,301),(19,302),(20,0),(21,0),(22,0)] | 20=>some [(0,1),(1,0),(2,0),(3,1),(4,1),(5,0),(6,0),(7,1),(8,1),(9,0),(10,0),(11,1),(12,1),(13,1),(14,0),(15,0),(16,0),(17,0),(18,303),(19,304),(20,0),(21,0),(22,0)] | _=>none
theorem qGa:qJ Tryz.prog Tryz.f3.ntmps qId (Tryz.f3.body.getD .skip)=some zYI.erase:=by kernel_rfl
@[simp] theorem qKc:zC Tryz.prog 3=true:=by kernel_rfl
set_option maxHeartbeats 8000000 in
set_option maxRecDepth 100000 in
theorem qOH (l m:List Int)(n fuel at_:Int)(hl:∀x∈l,w64 x=x)(hm:∀x∈m,w64 x=x)(hn:w64 n=n)(hfu:w64 fuel=fuel)(hat:w64 at_=at_) :
 Ret Tryz.prog 3 [.sl l.length (yD l),.sl m.length (yD m),int n,int fuel,int at_] [] (bl true) []:=by
 obtain⟨P,hP,rP⟩:=zX8 l hl;have hf:=hP.fit hl;have hL8:=hf.len8;have hL5:=hf.len5;refine zJ Tryz.func3 rfl qGa (rs:=[.slot 10]) (by kernel_rfl) ?_;unfold zYI;simp -implicitDefEqProofs;refine zR rP (by simp) (by simp[zQ]) ?_;simp -implicitDefEqProofs [zQ];rcases zSc hf m hm n hn with rc | ⟨d,hdm,hdk,rc⟩
 ·refine zR rc (by simp[zQ]) (by simp) ?_;simp -implicitDefEqProofs;refine zR zMZ (by simp) (by simp) ?_;simp -implicitDefEqProofs;exact zA 0 (by simp)
 refine zR rc (by simp[zQ]) (by simp) ?_;obtain⟨a1,a6⟩:=zVO hf hdm m;have hsm:=zNF hf hdm hm;generalize zC1 P d m=A at *
 obtain⟨b0,b1⟩:=zBn (k:=(P.defs.length:Int)) hat (by omega);have rb:=zCE at_ P.defs.length (by omega)
 obtain⟨x,hx⟩:∃x:Nat,yW at_ P.defs.length=x:=⟨(yW at_ P.defs.length).toNat,by omega⟩
 rw[hx]at rb;have hxl:x<P.defs.length:=by omega
 have hdr:=jX hxl;generalize P.defs[x]=o at hdr;obtain⟨c0,c1⟩:=zBn (k:=(A.length:Int)) hat (by omega);have rc2:=zCE at_ A.length (by omega)
 obtain⟨y,hy⟩:∃y:Nat,yW at_ A.length=y:=⟨(yW at_ A.length).toNat,by omega⟩
 rw[hy]at rc2;have hyl:y<A.length:=by omega
 have rd:=zCE (IntKind.i64.wrap (at_.tdiv 7)) 7 (by omega);have hPn:P.defs≠[]:=fun e=>by rw[e]at hL5; simp at hL5
 have hAn:A≠[]:=fun e=>by rw[e]at a1; simp at a1
 have hP0:0<P.defs.length:=by omega
 have hA0:0<A.length:=by omega
 obtain⟨bk,hbk⟩:∃bk,IntKind.i64.wrap (yW (IntKind.i64.wrap (at_.tdiv 7)) 7-1)=bk:=⟨_,rfl⟩;have ht1:=zHE A y;have hd1:=zHk A (y+1);rw[show (y+1)*3=y*3+3 by omega]at hd1;obtain⟨LS,hLS⟩:∃LS:List (List Val),LS=[A,A++[vz],A.take y++(.mk bk at_ []::A.drop (y+1)),A,A]:=⟨_,rfl⟩;obtain⟨WH,hWH⟩:∃WH:List Id,WH=[d.id,d.id,d.id,o.id,⟨7,9,0⟩]:=⟨_,rfl⟩;have hb3:(A.take y++(Val.mk bk at_ []::A.drop (y+1))).length=A.length:=by simp; omega
 have hL5:LS.length=5:=by rw[hLS]; rfl
 have hW5:WH.length=5:=by rw[hWH]; rfl
 have hsmall:∀vs∈LS,∀v∈vs,qE v≤256∧zAg v≤24:=by
  rw[hLS];intro vs hvs v hv;simp only[List.mem_cons,List.not_mem_nil,or_false]at hvs;rcases hvs with rfl | rfl | rfl | rfl | rfl
  ·exact hsm v hv
  ·rcases List.mem_append.1 hv with hv | hv
   ·exact hsm v hv
   ·rw[List.mem_singleton.1 hv]; simp[qE,qS,zAg,yO]
  ·rcases List.mem_append.1 hv with hv | hv
   ·exact hsm v (List.mem_of_mem_take hv)
   ·rcases List.mem_cons.1 hv with rfl | hv
    ·simp[qE,qS,zAg,yO]
    ·exact hsm v (List.mem_of_mem_drop hv)
  ·exact hsm v hv
  ·exact hsm v hv
 obtain⟨f0,f1⟩:=zBn (k:=40) hfu (by omega);have rf:=zCE fuel 40 (by omega);have ft:fuel.tmod 3000<3000:=Int.tmod_lt_of_pos _ (by omega);obtain⟨FU,hFU⟩:∃FU:List Int,FU=[2000,yW fuel 40,fuel.tmod 3000]:=⟨_,rfl⟩;have hF3:FU.length=3:=by rw[hFU]; rfl
 have hfuel:∀f∈FU,f≤30000:=by rw[hFU];intro f hf';simp only[List.mem_cons,List.not_mem_nil,or_false]at hf';rcases hf' with rfl | rfl | rfl<;>omega
 have hy3:y*3+3≤A.length*3:=by omega
 simp -implicitDefEqProofs [zP]
 intros
 refine zAn rb (by simp) (by simp) ?_;simp -implicitDefEqProofs [hxl,hdr,zP,hAn];refine⟨⟨by simp[maxLen]; omega,by omega⟩,⟨by simp[maxLen]; omega,by omega⟩,?_⟩;intro _;simp -implicitDefEqProofs [hA0,hAn];refine⟨⟨by simp[maxLen]; omega,by omega⟩,?_⟩;refine zR rc2 (by simp) (by simp) ?_;simp -implicitDefEqProofs;refine zR rd (by simp) (by simp) ?_;simp -implicitDefEqProofs [hbk,hyl,hy3,ht1,hd1];refine qP (S:=Nat) (fun i=>[(3,int fuel),(11,.ptr 0 0),(16,.sl 5 (zX WH)),(17,.sl 5 (zA0 LS)),(19,int i)]) (fun _=>[.box (zQ P)]) (fun i=>i≤5) (fun i=>5-i) 0 (by simp)
  (zV [0] 2 (by simp) (by simp) (by simp[zQ]) (by simp[hWH,hLS,zA0,hb3,zU,zO,zG])) ?_
 intro i hi;have hwi:IntKind.i64.wrap ((i:Int)+1)=(i:Int)+1:=IntWalk.i64_in _ (by omega);by_cases hil:i<5
 ·have hiL:i<LS.length:=by omega
  have hiW:i<WH.length:=by omega
  have hdW:=jL hiW;have hdL:=zEF hiL;have hsi:=hsmall _ (List.getElem_mem hiL);generalize hw0:WH[i]=w at hdW;generalize hv0:LS[i]=vs at hdL hsi;have hi5:(i:Int)<5:=by omega
  simp -implicitDefEqProofs [hi5]
  intros
  refine zR rf (by simp) (by simp) ?_;simp -implicitDefEqProofs;refine qP (S:=Nat) (fun k=>[(3,int fuel),(11,.ptr 0 0),(16,.sl 5 (zX WH)),(17,.sl 5 (zA0 LS)),(19,int i),(20,.sl 3 (yD FU)),(21,int k)]) (fun _=>[.box (zQ P)]) (fun k=>k≤3) (fun k=>3-k) 0 (by simp)
   (zV [0] 0 (by simp) (by simp) (by simp[zQ]) (by simp[hFU,yD])) ?_
  intro k hk;have hwk:IntKind.i64.wrap ((k:Int)+1)=(k:Int)+1:=IntWalk.i64_in _ (by omega);by_cases hkl:k<3
  ·have hkF:k<FU.length:=by omega
   have hdF:=zEt hkF;have hff:=hfuel _ (List.getElem_mem hkF);generalize FU[k]=f at hdF hff;have rt:=zTL hf w vs f (by omega) hsi;have rx:=zVo hf w vs f hff hsi;generalize zB9 P w vs f=r at rt rx;have hk3:(k:Int)<3:=by omega
   simp -implicitDefEqProofs [hk3];refine⟨_,_,zAa 4,?_⟩;unfold zTv;simp -implicitDefEqProofs [zQ,hdW,hdL,hdF,hi5,hiW,hiL,hk3,hkF];refine zAn rt (by simp[zQ,qL]) (by simp[zB3,zI]) ?_;simp -implicitDefEqProofs [zB3,zI,hdW,hdL,hdF,hi5,hiW,hiL,hk3,hkF];refine zAn rx (by simp[zQ,qL]) (by simp[zB3,zI]) ?_;simp -implicitDefEqProofs [zB3,zI];refine qI (zDW r.v r.v) (by simp[zI]) (by simp) ?_;simp -implicitDefEqProofs [zLs];refine qI (zT0 ⟨r.ds,r.ns⟩) (by simp[zET]) (by simp[zET]) ?_;simp -implicitDefEqProofs [zET];refine qI (zW3 ⟨r.ds,r.ns⟩ ⟨r.ds,r.ns⟩) (by simp[zET]) (by simp) ?_;simp -implicitDefEqProofs;exact zW (k+1) hkl (by omega) (zV [0] 0 (by simp) (by simp) (by simp[zQ]) (by simp[hwk]))
  ·have hke:k=3:=by omega
   subst hke;simp -implicitDefEqProofs;exact zW (i+1) hil (by omega) (zV [0] 0 (by simp) (by simp) (by simp[zQ]) (by simp[hwi]))
 ·have hie:i=5:=by omega
  subst hie;simp -implicitDefEqProofs
  intros
  refine zR zMZ (by simp) (by simp) ?_;simp -implicitDefEqProofs;exact zA 0 (by simp)
end Go.Proofs.YthglhccibdlccaaGreatDoor
