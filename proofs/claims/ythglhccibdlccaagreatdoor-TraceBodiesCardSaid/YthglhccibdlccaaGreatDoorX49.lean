/-
  The law TraceBodies, walked.
-/
import Derived.Test.YthglhccibdlccaaGreatDoorX48
import Derived.Test.YthglhccibdlccaaGreatDoorX45
set_option linter.unusedVariables false
set_option linter.unusedSimpArgs false
namespace Go.Proofs.YthglhccibdlccaaGreatDoor
open Go.Abs
theorem zR0 {P:Prg}{hs:List Hd}(hf:Fit P hs)(hU:Uq P){d:Dfn}(hd:d∈P.defs)(hk:zA9 d.kind=true){A:List Val}(hl:A.length=d.slots.length)(hfl:zBk P (d.slots.map Slt.typ) A=true)
 (hz:∀v∈A,qB v≤256){fuel:Int}(h0:0<fuel):∃s:XS,(zC9 P d.id A fuel).ds=zCk s.ds∧(zC9 P d.id A fuel).ns=zCk s.ns∧(zC9 P d.id A fuel).e=s.fail∧d.id∈s.ds∧d.body.id∈s.ns ∧
  ∀x∈s.ns,Src P s x∧(s.fail=0→zCl P s x):=by
 have hfd:zAg P.defs d.id=some d:=by obtain⟨k,hk',rfl⟩:=List.getElem_of_mem hd;exact zIO hf.nd hk'
 have hx:zC9 P d.id A fuel=zPf (zMz P d A fuel):=by simp[zC9,hfd,hk,hl,hfl]
 obtain⟨_,_,_,_,sty⟩:=hf.slots d hd;have hty:TyL P (d.slots.map Slt.typ) A:=TyL.of (by simpa using hl) fun j hj=>by rw[List.getElem_map];have:=zFw hfl j (by simpa using (by omega:j<d.slots.length)) (by omega);rw[List.getElem_map]at this;exact zQ6 hf (sty _ (List.getElem_mem _)) _ this
 obtain⟨m,hm⟩:∃m,fuel.toNat=m+1:=⟨fuel.toNat-1,by omega⟩;have hr:zMz P d A fuel=zAH P 1 (m+1) d.body (zCA d.slots A) ⟨fuel,0,zCf P d.slots []++[d.id],[]⟩:=by unfold zMz zB6;rw[if_neg (by simp),hm]
 have hat:At P ⟨fuel,0,zCf P d.slots []++[d.id],[]⟩ d.body:=⟨d,Id.zero,hd,hk,by simp,zHX _ _,.inl rfl⟩;obtain⟨g,g2⟩:=zJO hf.bods hU 1 m (zNR hf.bods hU 1 m) (hf.bods _ d hfd (zH1 hk)) (EnvT.args hty hz) hat rfl (by dsimp only; omega);rw[hx,hr];exact⟨_,rfl,rfl,rfl,g.ds _ (by simp),g2,fun x hx=>(g.nw x hx).resolve_left (by simp)⟩
def fdB (P:Prg)(x:Id)(k:Nat):Bool:=(P.defs.take k).any fun d=>zA9 d.kind&&(zGi x d.body Id.zero).isSome
theorem zU0 (P:Prg)(x:Id){k:Nat}(h:k<P.defs.length):fdB P x (k+1)=(fdB P x k||(zA9 P.defs[k].kind&&(zGi x P.defs[k].body Id.zero).isSome)):=by unfold fdB;rw[List.take_succ_eq_append_getElem h,List.any_append];simp
def zSW:K:=(Z (K.dops [(0,1,D 75 7 1),(1,1,L 76 75 1),(2,0,M 77 16),(3,1,kX 78 76 77 31),(4,1,D 79 78 14),(5,1,J 80 79 15),(6,0,kb 81 [ki,ki,ki] []),(7,1,D 82 12 1),(8,1,L 83 82 1),(9,0,M 84 14),(10,1,kX 85 83 84 3),(11,1,J 86 85 3),(12,1,kC 87 24 [(kt 80),(kt 81),(kt 86)]),(13,0,M 74 87),(14,0,kE 88 74 0),(15,0,kE 89 74 1),(16,0,kE 90 74 2),(17,302,⟨none,.alr (some 17) 2 kz1⟩),(18,303,⟨none,.alr (some 18) 3 [ki,ki,ki]⟩),(19,0,S 17 88 15),(20,0,S 18 89 3),(21,0,M 19 90)]) (Z (G [D 91 7 1,L 92 91 1,M 93 16,kX 94 92 93 31,J 95 94 31,kC 96 25 [(kt 95)],kR 97 96,M 98 97,T 98 false (M 99 19),T 98 false (kR 100 99),kPt 101 98 100] (Y 101 (K.exit 3) ks)) (Z (K.dops [(0,0,D 102 7 1),(1,0,L 103 102 1),(2,0,M 104 16),(3,0,kX 105 103 104 31),(4,0,D 106 105 14),(5,0,D 107 106 0),(6,0,J 108 107 3),(7,0,D 109 17 0),(8,0,J 110 109 3),(9,0,⟨none,.eqs (some 111) false [.i,.i,.i] (kt 108) (kt 110)⟩),(10,0,M 20 111)]) (Z (K.dops [(0,0,D 112 12 0),(1,0,L 113 112 1),(2,0,D 114 7 1),(3,0,L 115 114 1),(4,0,M 116 16),(5,0,kX 117 115 116 31),(6,0,D 118 117 0),(7,0,J 119 118 3),(8,0,kC 120 23 [(kt 113),(kt 119)]),(9,0,M 121 120),(10,0,T 121 true (M 122 20)),(11,0,T 121 true (M 123 122)),(12,0,T 123 false (D 124 12 1)),(13,0,T 123 false (L 125 124 1)),(14,0,T 123 false (J 126 18 3)),(15,0,T 123 false (kC 127 23 [(kt 125),(kt 126)])),(16,0,T 121 true (kPt 128 123 127)),(17,0,kPf 129 121 128),(18,0,M 15 129)]) (G [M 130 13,kQi 131 130 0 false,M 132 131,T 132 true (D 133 17 3),T 132 true (L 134 133 1),
 T 132 true (kQi 135 134 3 false),kPf 136 132 135] (Y 136 (G [J 138 7 2,D 139 17 5,J 140 139 3,kC 141 26 [(kt 138),(kt 140)],M 137 141,kE 142 137 0,kE 143 137 1,kZ 21 kz0,S 21 142 31,M 22 143] (K.ops [M 144 15,M 145 144,T 145 true (D 146 12 0),T 145 true (L 147 146 1),T 145 true (D 148 17 5),T 145 true (J 149 148 3),T 145 true (kC 150 23 [(kt 147),(kt 149)]),kPf 151 145 150,M 152 151,T 152 true (D 153 12 1),T 152 true (L 154 153 1),T 152 true (D 155 21 14),T 152 true (D 156 155 0),T 152 true (J 157 156 3),T 152 true (kC 158 23 [(kt 154),(kt 157)]),kPf 159 152 158,M 15 159])) ks))))))
def zYo:K:=G [kMb 6 false] (G [M 23 0,kC 24 9 [(kt 23)],kZ 7 [kl,kl],S 7 24 2] (G [J 26 7 2,M 27 1,M 28 2,kC 29 10 [(kt 26),(kt 27),(kt 28)],M 25 29,kE 30 25 0,kE 31 25 1,kE 32 25 2,kZ 8 kz0,S 8 30 31,M 9 31,M 10 32] (Z (G [M 33 10,kR 34 33] (Y 34 (G [kC 35 11 [],M 6 35] kr) ks)) (G [J 37 7 2,D 38 8 0,J 39 38 3,M 40 9,kC 41 13 [(kt 37),(kt 39),(kt 40),(kc 3000)],M 36 41,kE 42 36 0,kE 43 36 1,kE 44 36 2,kZ 11 [ki,ki,kl],kZ 12 [kl,kl],S 11 42 3,S 12 43 2,M 13 44] (Z (G [D 45 12 0,L 46 45 1,D 47 8 0,J 48 47 3,kC 49 23 [(kt 46),(kt 48)],kR 50 49,M 51 50,T 51 false (D 52 12 1),T 51 false (L 53 52 1),T 51 false (D 54 8 14),T 51 false (D 55 54 0),T 51 false (J 56 55 3),T 51 false (kC 57 23 [(kt 53),(kt 56)]),T 51 false (kR 58 57),kPt 59 51 58] (Y 59 (G [kMb 6 false] kr) ks)) (Z (G [kMi 14 0] (K.block 0 (K.loop (Z (G [M 60 14,D 61 12 1,L 62 61 1,kN 63 62,kB 64 60 63 .lss] (Y 64 ks (K.exit 0))) (Z (K.block 1 (G [kMb 15 false] (Z (G [kMi 16 0] (K.block 2 (K.loop (Z (G [M 67 16,D 68 7 1,L 69 68 1,kN 70 69,kB 71 67 70 .lss] (Y 71 ks (K.exit 2))) (Z (K.block 3 (K.wk zSW)) (K.ops [M 72 16,kBi 73 72 1 .add,M 16 73])))))) (G [M 160 15,kR 161 160] (Y 161 (G [kMb 6 false] kr) ks))))) (K.ops [M 65 14,kBi 66 65 1 .add,M 14 66])))))) (G [kC 162 11 [],M 6 162] kr)))))))
def qGM:Nat→Option (List (Nat×Nat)):=fun r=>match r with | 15=>some [(0,1),(1,1),(2,0),(3,1),(4,1),(5,1),(6,0),(7,1),(8,1),(9,0),(10,1),(11,1),(12,1),(13,0),(14,0),(15,0),(16,0),(17,302),(18,303),(19,0),(20,0),(21,0)] | _=>none
theorem qFM:qC Tryz.prog Tryz.f6.ntmps qGM (Tryz.f6.body.getD .skip)=some zYo.erase:=by kernel_rfl
@[simp] theorem qIV:zA Tryz.prog 6=true:=by kernel_rfl
set_option maxHeartbeats 8000000 in
set_option maxRecDepth 100000 in
theorem qN9 (l m:List Int)(n:Int)(hl:∀x∈l,w64 x=x)(hm:∀x∈m,w64 x=x)(hn:w64 n=n) :
 Ret Tryz.prog 6 [.sl l.length (yA l),.sl m.length (yA m),int n] [] (bl true) []:=by
 obtain⟨P,hP,rP⟩:=zX5 l hl;have hf:=hP.fit hl;have hU:=hP.uq hl;obtain⟨fP,p5,p8,pm⟩:=hP.fine hl;refine zH Tryz.func6 rfl qFM (rs:=[.slot 6]) (by kernel_rfl) ?_;unfold zYo;simp -implicitDefEqProofs;refine zQ rP (by simp) (by simp[zU]) ?_;simp -implicitDefEqProofs [zU];rcases zR1 hf m hm n hn with rc | ⟨d,hdm,hdk,rc⟩
 ·refine zQ rc (by simp[zU]) (by simp) ?_;simp -implicitDefEqProofs;refine zQ zNE (by simp) (by simp) ?_;simp -implicitDefEqProofs;exact zC 0 (by simp)
 refine zQ rc (by simp[zU]) (by simp) ?_;have hsm:=zMK hf hdm hm;obtain⟨s,q1,q2,q3,q4,q5,q6⟩:=zR0 hf hU hdm hdk (zHz P d m) (zTy hf hdm hm) (fun v hv=>(hsm v hv).1) (fuel:=3000) (by omega);have rt:=zV6 hf d.id (zBZ P d m) 3000 (by omega) hsm;generalize zBZ P d m=A at *
 generalize zC9 P d.id A 3000=r at *
 obtain⟨v,DS,NS,er⟩:=r;simp only at q1 q2 q3;have hD:d.id∈DS:=by rw[q1,zAT]; exact q4
 have hN:d.body.id∈NS:=by rw[q2,zAT]; exact q5
 have hS:∀x∈NS,∀d'∈P.defs,zA9 d'.kind=true→∀y∈zEI d'.body Id.zero,y.1.id=x→d'.id∈DS∧(d'.body.id=y.1.id∨y.2∈NS)∧(er=0→y.1.k=3→y.1.ref∈DS∧(dfn P y.1.ref).body.id∈NS):=by intro x hx d' hd' hb' y hy hyx;rw[q2,zAT]at hx;obtain⟨⟨e,⟨d2,u,a1,a2,a3,a4,a5⟩,he⟩,hg⟩:=q6 x hx;obtain⟨rfl,rfl⟩:=hU d' hd' hb' d2 a1 a2 y hy (e,u) a4 (hyx.trans he.symm);refine⟨by rw[q1,zAT]; exact a3,a5.imp (fun h=>h.symm) (fun h=>by rw[q2,zAT]; exact h),fun h0 hk=>?_⟩;rw[q1,q2,zAT,zAT];exact hg (by rw[←q3]; exact h0) d' hd' hb' _ hy hyx hk
 have hE:∀x∈NS,fdB P x P.defs.length=true:=by intro x hx;rw[q2,zAT]at hx;obtain⟨⟨e,⟨d2,u,a1,a2,a3,a4,a5⟩,he⟩,_⟩:=q6 x hx;unfold fdB;rw[List.take_length,List.any_eq_true];refine⟨d2,a1,?_⟩;rw[a2,zMb,Bool.true_and,List.find?_isSome];exact⟨(e,u),a4,by simpa using he⟩
 have hF:∀x∈NS,∀(k:Nat) (hk:k<P.defs.length) (y:Exp×Id),zA9 P.defs[k].kind=true→zGi x P.defs[k].body Id.zero=some y→P.defs[k].id∈DS∧(P.defs[k].body.id=y.1.id∨y.2∈NS)∧(er=0→y.1.k=3→y.1.ref∈DS∧(dfn P y.1.ref).body.id∈NS):=by intro x hx k hk y hb hy;rw[zMb]at hy;exact hS x hx _ (List.getElem_mem hk) hb y (List.mem_of_find?_eq_some hy) (by simpa using List.find?_some hy)
 clear q1 q2 q3 q4 q5 q6 hS;have hd9:=fP.defs;simp -implicitDefEqProofs [zO]
 intros
 refine zQ rt (by simp[zU,qF]) (by simp[zEj,zP]) ?_;simp -implicitDefEqProofs [zEj,zP];refine zQ (zGl DS d.id) (by simp[qF]) (by simp) ?_;simp -implicitDefEqProofs [hD];refine zQ (zGl NS d.body.id) (by simp[qF,zF]) (by simp) ?_;simp -implicitDefEqProofs [hN];refine qY (S:=Nat) (fun i=>[(7,.ptr 0 0),(12,.ptr 1 0),(13,int er),(14,int i)]) (fun _=>[.box (zU P),.box [.sl DS.length (zX DS),.sl NS.length (zX NS)]]) (fun i=>i≤NS.length) (fun i=>NS.length-i) 0 (by simp)
  (zR [0,3] 0 (by decide) (by simp) (by simp[zU]) (by simp)) ?_
 intro i hi;by_cases hil:i<NS.length
 ·have hxm:=List.getElem_mem hil;have hdN:=yE hil;have hE':=hE _ hxm;have hF':=hF _ hxm;generalize NS[i]=x at hdN hE' hF';simp -implicitDefEqProofs [hil];intro hln;refine qY (S:=Nat) (fun k=>[(7,.ptr 0 0),(12,.ptr 1 0),(13,int er),(14,int i),(15,bl (fdB P x k)),(16,int k)]) (fun _=>[.box (zU P),.box [.sl DS.length (zX DS),.sl NS.length (zX NS)]]) (fun k=>k≤P.defs.length) (fun k=>P.defs.length-k) 0 (by simp)
   (zR [0,1] 0 (by decide) (by simp) (by simp[zU]) (by simp[fdB])) ?_
  intro k hk;have hwk:IntKind.i64.wrap ((k:Int)+1)=(k:Int)+1:=IntWalk.i64_in _ (by omega);by_cases hkl:k<P.defs.length
  ·have hdr:=jV hkl;have hfd:=fP.get _ (List.getElem_mem hkl);have hsz:=hfd.size;have hfew:=zNO _ hfd.nice (by omega);have rn:=zJA x P.defs[k].body Id.zero hfew;have hF2:=hF' k hkl;have hst:=zU0 P x hkl;generalize P.defs[k]=dk at hdr rn hF2 hst;have hb31:k*31+31≤P.defs.length*31:=by omega
   simp -implicitDefEqProofs [zU,hkl]
   intros
   refine⟨_,_,yN 2,?_⟩;unfold zSW;simp -implicitDefEqProofs [zU,zO,hkl,hil,hdr,hdN];cases hfe:zGi x dk.body Id.zero with
   | none =>
    rw[hfe]at rn hst;simp only[Option.isSome_none,Bool.and_false,Bool.or_false]at hst;refine zAr rn (by simp[zF,qF,Id.zero]) (by simp[zGn,zF,qF]) ?_;simp -implicitDefEqProofs [zGn,zF,qF,zU,zO,hkl,hdr,hb31];refine zQ (zMf dk) (by simp[zO,zF]) (by simp) ?_;cases hb:zA9 dk.kind with
    | true =>
     simp -implicitDefEqProofs;exact zT (k+1) hkl (by omega) (zR [0,1] 0 (by decide) (by simp) (by simp[zU]) (by simp[hwk,hst]))
    | false =>
     simp -implicitDefEqProofs;exact zT (k+1) hkl (by omega) (zR [0,1] 0 (by decide) (by simp) (by simp[zU]) (by simp[hwk,hst]))
   | some y =>
    rw[hfe]at rn hst;refine zAr rn (by simp[zF,qF,Id.zero]) (by simp[zGn,zF,qF]) ?_;simp -implicitDefEqProofs [zGn,zF,qF,zU,zO,hkl,hdr,hb31];refine zQ (zMf dk) (by simp[zO,zF]) (by simp) ?_;cases hb:zA9 dk.kind with
    | false =>
     rw[hb]at hst;simp only[Bool.false_and,Bool.or_false]at hst;simp -implicitDefEqProofs;exact zT (k+1) hkl (by omega) (zR [0,1] 0 (by decide) (by simp) (by simp[zU]) (by simp[hwk,hst]))
    | true =>
     rw[hb]at hst;simp only[Option.isSome_some,Bool.true_and,Bool.or_true]at hst;obtain⟨c1,c2,c3⟩:=hF2 y hb hfe;by_cases hrt:dk.body.id=y.1.id;simp -implicitDefEqProofs [zU,zO,zF,qF,hkl,hdr,hb31,hrt];refine qO (zGl DS dk.id) (by simp[qF]) (by simp) ?_;simp -implicitDefEqProofs [c1]
     rotate_left
     have hup:=c2.resolve_left hrt;simp -implicitDefEqProofs [zU,zO,zF,qF,hkl,hdr,hb31,hrt];refine qO (zGl DS dk.id) (by simp[qF]) (by simp) ?_;simp -implicitDefEqProofs [c1];refine qO (zGl NS y.2) (by simp[qF]) (by simp) ?_;simp -implicitDefEqProofs [hup]
     all_goals
      by_cases her:er=0
      ·by_cases hk3:y.1.k=3
       ·obtain⟨c4,c5⟩:=c3 her hk3;simp -implicitDefEqProofs [her,hk3,zF,zU,qF];refine zQ (zF9 P (by omega) y.1.ref) (by simp[zU,qF]) (by simp[zBj]) ?_;simp -implicitDefEqProofs [zBj,zO];refine zQ (zGl DS y.1.ref) (by simp[qF]) (by simp) ?_;simp -implicitDefEqProofs [c4];refine zQ (zGl NS (dfn P y.1.ref).body.id) (by simp[qF,zF,dfn]) (by simp) ?_;simp -implicitDefEqProofs [c5];exact zT (k+1) hkl (by omega) (zR [0,1] 0 (by decide) (by simp) (by simp[zU]) (by simp[hwk,hst]))
       ·simp -implicitDefEqProofs [her,hk3,zF];exact zT (k+1) hkl (by omega) (zR [0,1] 0 (by decide) (by simp) (by simp[zU]) (by simp[hwk,hst]))
      ·simp -implicitDefEqProofs [her];exact zT (k+1) hkl (by omega) (zR [0,1] 0 (by decide) (by simp) (by simp[zU]) (by simp[hwk,hst]))
  ·have hke:k=P.defs.length:=by omega
   subst hke;simp -implicitDefEqProofs [zU,hE']
   intros
   exact zT (i+1) hil (by omega) (zR [0,1] 0 (by decide) (by simp) (by simp[zU]) (by simp[qD hil hln]))
 ·have hie:i=NS.length:=by omega
  subst hie;simp -implicitDefEqProofs
  intros
  refine zQ zNE (by simp) (by simp) ?_;simp -implicitDefEqProofs;exact zC 0 (by simp)
end Go.Proofs.YthglhccibdlccaaGreatDoor
