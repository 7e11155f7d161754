/-
  Values made of numbers, by the reference.
  The maker's calls.
-/
import Derived.Test.YthglhccibdlccaaGreatDoorX31
import Derived.Test.YthglhccibdlccaaGreatDoorX24
set_option linter.unusedVariables false
set_option linter.unusedSimpArgs false
namespace Go.Proofs.YthglhccibdlccaaGreatDoor
open Go.Abs
def qF7:K:=G [kO 5 0,kO 6 1,kZ 10 [ki,ki,kl],kMi 11 0] (G [M 25 2,M 26 3,kC 27 31 [(kt 25),(kt 26),(kc 1048576)],M 12 27] (G [M 28 3,kBi 29 28 1 .add,M 3 29] (Z (G [D 30 6 0,L 31 30 1,kQi 32 31 0 false] (Y 32 (Z (G [M 33 12,kBi 34 33 16 .rem,kQi 35 34 0 false] (Y 35 (G [M 36 12,kBi 37 36 16 .quo,kBi 38 37 3 .rem,⟨none,.bin (some 39) .sub (kc 1099511627776) (kt 38)⟩,kb 40 [ki,ki,kl] [(0,1,(kc 0)),(1,1,(kt 39))],M 41 3,S 10 40 3,M 11 41] kr) ks)) (Z (G [M 42 12,kBi 43 42 16 .rem,kQi 44 43 1 false] (Y 44 (G [M 45 12,kBi 46 45 16 .quo,kBi 47 46 3 .rem,⟨none,.bin (some 48) .add (kc (-1099511627776)) (kt 47)⟩,kb 49 [ki,ki,kl] [(0,1,(kc 0)),(1,1,(kt 48))],M 50 3,S 10 49 3,M 11 50] kr) ks)) (G [M 51 12,kBi 52 51 16 .quo,kBi 53 52 9 .rem,kBi 54 53 4 .sub,kb 55 [ki,ki,kl] [(0,1,(kc 0)),(1,1,(kt 54))],M 56 3,S 10 55 3,M 11 56] kr))) ks)) (Z (G [D 57 6 0,L 58 57 1,kQi 59 58 1 false] (Y 59 (G [M 60 12,kBi 61 60 2 .rem,kb 62 [ki,ki,kl] [(0,1,(kc 1)),(1,1,(kt 61))],M 63 3,S 10 62 3,M 11 63] kr) ks)) (G [kb 64 [ki,ki,kl] [(0,1,(kc 4))],kZ 13 [ki,ki,kl],S 13 64 3] (Z (G [D 65 6 0,L 66 65 1,kQi 67 66 2 false] (Y 67 (G [M 68 12,kBi 69 68 3 .rem,M 14 69] (Z (G [M 70 4,kBi 71 70 3 .gtr] (Y 71 (K.ops [kMi 14 0]) ks)) (Z (G [kMi 15 0] (K.block 0 (K.loop (Z (G [M 72 15,M 73 14,kB 74 72 73 .lss] (Y 74 ks (K.exit 0))) (Z (K.block 1 (Z (K.dops [(0,1,J 78 5 2),(1,1,D 79 6 4),(2,1,L 80 79 1),(3,1,kXi 81 80 5 0),(4,1,J 82 81 5),(5,0,M 83 2),(6,0,M 84 3),(7,0,
 M 85 4),(8,0,kBi 86 85 1 .add),(9,1,kC 87 120 [(kt 78),(kt 82),(kt 83),(kt 84),(kt 86)]),(10,0,M 77 87),(11,0,kE 88 77 0),(12,0,kE 89 77 1),(13,0,kZ 16 [ki,ki,kl]),(14,0,S 16 88 3),(15,0,M 17 89)]) (G [M 90 17,M 3 90] (K.ops [D 91 13 2,L 92 91 1,J 93 16 3,kd 94 47 3 1 [ki,ki,kl] [(0,3,(kt 93))],kP 95 47 3 40 92 94,D 96 13 2,S 96 95 1])))) (K.ops [M 75 15,kBi 76 75 1 .add,M 15 76])))))) (G [J 97 13 3,M 98 3,S 10 97 3,M 11 98] kr)))) ks)) (G [J 100 5 2,D 101 6 1,J 102 101 3,kC 103 26 [(kt 100),(kt 102)],M 99 103,kE 104 99 0,kE 105 99 1,kZ 18 kz0,S 18 104 31,M 19 105] (Z (G [D 106 18 3,L 107 106 1,kQi 108 107 1 false] (Y 108 (G [D 109 13 0,⟨none,.st none (kt 109) (kc 3) 1⟩] (G [M 110 12,D 111 18 8,L 112 111 1,kN 113 112,kB 114 110 113 .rem,D 115 13 1,S 115 114 1] (Z (K.dops [(0,1,J 117 5 2),(1,1,D 118 18 8),(2,1,L 119 118 1),(3,1,D 120 13 1),(4,1,L 121 120 1),(5,1,kX 122 119 121 11),(6,1,D 123 122 4),(7,1,J 124 123 5),(8,0,M 125 2),(9,0,M 126 3),(10,0,M 127 4),(11,0,kBi 128 127 1 .add),(12,1,kC 129 120 [(kt 117),(kt 124),(kt 125),(kt 126),(kt 128)]),(13,0,M 116 129),(14,0,kE 130 116 0),(15,0,kE 131 116 1),(16,0,kZ 20 [ki,ki,kl]),(17,0,S 20 130 3),(18,0,M 21 131)]) (G [J 132 20 3,kd 133 47 3 1 [ki,ki,kl] [(0,3,(kt 132))],D 134 13 2,S 134 133 1] (G [J 135 13 3,M 136 21,S 10 135 3,M 11 136] kr))))) ks)) (G [D 137 13 0,⟨none,.st none (kt 137) (kc 2) 1⟩] (Z (G [kMi 22 0] (K.block 2 (K.loop (Z (G [M 138 22,D 139 18 8,
 L 140 139 1,kN 141 140,kB 142 138 141 .lss] (Y 142 ks (K.exit 2))) (Z (K.block 3 (Z (K.dops [(0,1,J 146 5 2),(1,1,D 147 18 8),(2,1,L 148 147 1),(3,0,M 149 22),(4,1,kX 150 148 149 11),(5,1,D 151 150 4),(6,1,J 152 151 5),(7,0,M 153 2),(8,0,M 154 3),(9,0,M 155 4),(10,0,kBi 156 155 1 .add),(11,1,kC 157 120 [(kt 146),(kt 152),(kt 153),(kt 154),(kt 156)]),(12,0,M 145 157),(13,0,kE 158 145 0),(14,0,kE 159 145 1),(15,0,kZ 23 [ki,ki,kl]),(16,0,S 23 158 3),(17,0,M 24 159)]) (G [M 160 24,M 3 160] (K.ops [D 161 13 2,L 162 161 1,J 163 23 3,kd 164 47 3 1 [ki,ki,kl] [(0,3,(kt 163))],kP 165 47 3 40 162 164,D 166 13 2,S 166 165 1])))) (K.ops [M 143 22,kBi 144 143 1 .add,M 22 144])))))) (G [J 167 13 3,M 168 3,S 10 167 3,M 11 168] kr)))))))))))
theorem qMr:zL Tryz.prog Tryz.f120.ntmps (Tryz.f120.body.getD .skip)=some qF7.erase:=by kernel_rfl
@[simp] theorem qNz:zA Tryz.prog 120=true:=by kernel_rfl
def qF9:K:=G [kO 3 0,kO 4 1,kZ 6 [ki,ki,kl]] (G [J 10 3 2,J 11 4 5,M 12 2,kC 13 120 [(kt 10),(kt 11),(kt 12),(kc 0),(kc 1)],M 9 13,kE 14 9 0,kE 15 9 1,kZ 7 [ki,ki,kl],S 7 14 3,M 8 15] (Z (G [J 16 7 3,kC 17 121 [(kt 16)],kBi 18 17 256 .gtr,M 19 18,T 19 false (J 20 7 3),T 19 false (kC 21 122 [(kt 20)]),T 19 false (kBi 22 21 24 .gtr),kPt 23 19 22] (Y 23 (K.ops [J 25 3 2,J 26 4 5,kC 27 123 [(kt 25),(kt 26)],M 24 27,kE 28 24 0,kE 29 24 1,S 7 28 3]) ks)) (G [J 30 7 3,S 6 30 3] kr)))
theorem qMt:zL Tryz.prog Tryz.f87.ntmps (Tryz.f87.body.getD .skip)=some qF9.erase:=by kernel_rfl
@[simp] theorem qN7:zA Tryz.prog 87=true:=by kernel_rfl
def Wf (p:Prg):Nat→Typ→Prop
 | 0,_=>False
 | f+1,t=>validT p t=true∧(t.k=0∨t.k=1∨(t.k=2∧∃x,t.kids=[x]∧Wf p f x)∨(t.k=3∧((dfn p t.id).kind=0∨(dfn p t.id).kind=1)∧1≤(dfn p t.id).slots.length∧(dfn p t.id).slots.length≤3∧∀s∈(dfn p t.id).slots,Wf p f s.typ))
def zAR (g:Typ→Int→Val×Int):List Typ→Int→List Val×Int
 | [],a=>([],a)
 | t::l,a=>((g t a).1::(zAR g l (g t a).2).1,(zAR g l (g t a).2).2)
theorem zIE (g:Typ→Int→Val×Int):∀(l:List Typ) (t:Typ) (a:Int),zAR g (l++[t]) a=((zAR g l a).1++[(g t (zAR g l a).2).1],(g t (zAR g l a).2).2)
 | [],t,a=>rfl
 | x::l,t,a=>by simp only[List.cons_append,zAR,zIE g l t]
theorem zKJ (g:Typ→Int→Val×Int):∀(l:List Typ) (a:Int),(zAR g l a).1.length=l.length
 | [],a=>rfl
 | x::l,a=>by simp only[zAR,List.length_cons,zKJ g l]
def zV0 (x:Int):Int:=if x.tmod 16=0 then w64 (1099511627776-(x.tdiv 16).tmod 3) else if x.tmod 16=1 then w64 (-1099511627776+(x.tdiv 16).tmod 3) else w64 ((x.tdiv 16).tmod 9-4)
def yD (p:Prg)(l:List Int):Nat→Typ→Int→Int→Val×Int
 | 0,_,a,_=>(.mk 0 0 [],a)
 | f+1,t,a,d =>
  if t.k=0 then (.mk 0 (zV0 (atV l a 1048576)) [],w64 (a+1)) else if t.k=1 then (.mk 1 ((atV l a 1048576).tmod 2) [],w64 (a+1)) else
  if t.k=2 then (.mk 4 0 (zAR (fun t b=>yD p l f t b (w64 (d+1))) (List.replicate (if 3<d then 0 else ((atV l a 1048576).tmod 3).toNat) (t.kids.headD Typ.zero)) (w64 (a+1))).1,
   (zAR (fun t b=>yD p l f t b (w64 (d+1))) (List.replicate (if 3<d then 0 else ((atV l a 1048576).tmod 3).toNat) (t.kids.headD Typ.zero)) (w64 (a+1))).2)
  else if (dfn p t.id).kind=1 then
   (.mk 3 ((atV l a 1048576).tmod (dfn p t.id).slots.length) [(yD p l f ((((dfn p t.id).slots.map Slt.typ).getD ((atV l a 1048576).tmod (dfn p t.id).slots.length).toNat Typ.zero)) (w64 (a+1)) (w64 (d+1))).1],
    (yD p l f ((((dfn p t.id).slots.map Slt.typ).getD ((atV l a 1048576).tmod (dfn p t.id).slots.length).toNat Typ.zero)) (w64 (a+1)) (w64 (d+1))).2)
  else (.mk 2 0 (zAR (fun t b=>yD p l f t b (w64 (d+1))) ((dfn p t.id).slots.map Slt.typ) (w64 (a+1))).1,(zAR (fun t b=>yD p l f t b (w64 (d+1))) ((dfn p t.id).slots.map Slt.typ) (w64 (a+1))).2)
theorem zJ6 (p:Prg)(hL:p.defs.length≤1000000)(l:List Int)(hl:∀x∈l,w64 x=x):∀(f:Nat) (t:Typ) (a d:Int),Wf p f t →
 Ret Tryz.prog 120 [.agg (zU p),.agg (zB t),.sl l.length (yF l),int a,int d] [] (.tup [.agg (zI (yD p l f t a d).1),int (yD p l f t a d).2]) []
 | 0,t,a,d,h=>h.elim
 | f+1,t,a,d,h=>by
  unfold Wf at h;obtain⟨hv,h⟩:=h;refine zK Tryz.func120 rfl qMr (rs:=[.cell 10 3 true,.slot 11]) (by kernel_rfl) ?_;unfold qF7;have hx:=yS (i:=a) hl (show (0:Int)<1048576 by omega);simp[zU,zB];refine zR (zB2 l a 1048576 (by decide)) (by simp) (by simp) ?_;by_cases h0:t.k=0
  ·have e:yD p l (f+1) t a d=(.mk 0 (zV0 (atV l a 1048576)) [],w64 (a+1)):=by rw[yD,if_pos h0]
   rw[e];generalize atV l a 1048576=x at hx;have hw16:IntKind.i64.wrap (x.tdiv 16)=x.tdiv 16:=by rw[Int.tdiv_eq_ediv_of_nonneg hx.1]; exact IntWalk.i64_in _ (by omega)
   by_cases h16:x.tmod 16=0
   ·simp[h0,h16,hw16];exact zC 0 (by simp[zI,qG,zY,zM,zV0,h16,w64])
   by_cases h17:x.tmod 16=1
   ·simp[h0,h17,hw16];exact zC 0 (by simp[zI,qG,zY,zM,zV0,h17,w64])
   ·simp[h0,h16,h17,hw16];exact zC 0 (by simp[zI,qG,zY,zM,zV0,h16,h17,w64])
  by_cases h1:t.k=1
  ·have e:yD p l (f+1) t a d=(.mk 1 ((atV l a 1048576).tmod 2) [],w64 (a+1)):=by rw[yD,if_neg h0,if_pos h1]
   rw[e];generalize atV l a 1048576=x at hx;simp[h1];exact zC 0 (by simp[zI,qG,zY,zM,w64])
  by_cases h2:t.k=2
  ·obtain⟨_,y,hy,hwf⟩:=h.resolve_left h0|>.resolve_left h1|>.resolve_right (fun e=>by omega);have e:yD p l (f+1) t a d=(.mk 4 0 (zAR (fun t b=>yD p l f t b (w64 (d+1))) (List.replicate (if 3<d then 0 else ((atV l a 1048576).tmod 3).toNat) y) (w64 (a+1))).1,
    (zAR (fun t b=>yD p l f t b (w64 (d+1))) (List.replicate (if 3<d then 0 else ((atV l a 1048576).tmod 3).toNat) y) (w64 (a+1))).2):=by rw[yD,if_neg h0,if_neg h1,if_pos h2,hy]; rfl
   rw[e];clear e;have hih:∀b,Ret Tryz.prog 120 [.agg (zU p),.agg (zB y),.sl l.length (yF l),int b,int (w64 (d+1))] [] (.tup [.agg (zI (yD p l f y b (w64 (d+1))).1),int (yD p l f y b (w64 (d+1))).2]) []:=fun b=>zJ6 p hL l hl f y b _ hwf
   have hx3:0≤(atV l a 1048576).tmod 3∧(atV l a 1048576).tmod 3<3:=by rw[Int.tmod_eq_emod_of_nonneg hx.1]; omega
   generalize atV l a 1048576=x at hx hx3;generalize hg:(fun t b=>yD p l f t b (w64 (d+1)))=g;have hih:∀b,Ret Tryz.prog 120 [.agg (zU p),.agg (zB y),.sl l.length (yF l),int b,int (w64 (d+1))] [] (.tup [.agg (zI (g y b).1),int (g y b).2]) []:=by subst hg; exact hih
   clear hg;obtain⟨Q,hQ,hQ2⟩:∃Q:Nat,(if 3<d then 0 else (x.tmod 3).toNat)=Q∧Q≤2:=⟨_,rfl,by split<;>omega⟩;rw[hQ];have hsn:∀i,zAR g (List.replicate (i+1) y) (w64 (a+1))=((zAR g (List.replicate i y) (w64 (a+1))).1++[(g y (zAR g (List.replicate i y) (w64 (a+1))).2).1],(g y (zAR g (List.replicate i y) (w64 (a+1))).2).2):=fun i=>by rw[List.replicate_succ',zIE]
   have hln:∀i,(zAR g (List.replicate i y) (w64 (a+1))).1.length=i:=fun i=>by rw[zKJ,List.length_replicate]
   have hd3:3<d∨¬3<d:=by omega
   rcases hd3 with hd3 | hd3
   case' inl =>
    have hQ':(0:Int)=Q:=by rw[if_pos hd3]at hQ; omega
    simp[h2,hd3]
   case' inr =>
    have hQ':x.tmod 3=Q:=by rw[if_neg hd3]at hQ; omega
    simp[h2,hd3]
   all_goals
    refine qZ (S:=Nat) (fun i=>[(2,.sl l.length (yF l)),(3,int (zAR g (List.replicate i y) (w64 (a+1))).2),(4,int d),(5,.ptr 0 0),(6,.ptr 1 0),(10,.ptr 2 0),(13,.ptr 3 0),(14,int Q),(15,int i)])
     (fun i=>[.box (zU p),.box (zB t),.box [int 0,int 0,.nil],.box [int 4,int 0,.row 4 i],.row false 47 3 i (zV (zAR g (List.replicate i y) (w64 (a+1))).1)]) (fun i=>i≤Q) (fun i=>Q-i) 0 (by simp)
     ((zAf (l:=3) (o:=2) rfl rfl 47 3).trans (zS [0,1,2,3,4] 0 (by simp) (by simp) (by simp[zU,zB,h2,hy,zAR]) (by simp[zAR,w64,hQ']))) ?_
    intro i hi;by_cases hiQ:i<Q
    ·have hwi:IntKind.i64.wrap ((i:Int)+1)=(i:Int)+1:=IntWalk.i64_in _ (by omega);have hsn:=hsn i;have hln:=hln i;generalize zAR g (List.replicate i y) (w64 (a+1))=R at hsn hln;simp[hiQ,zU,zB,hy];refine zA3 (hih R.2) (by simp[zU,zB,w64,qN]) (by simp[zI]) ?_;simp[zIs,zI];refine⟨⟨by simp[maxLen]; omega,by omega⟩,?_⟩;exact zT (i+1) hiQ (by omega) (zS [0,1,2,3,4] 0 (by simp) (by simp) (by simp[zU,zB,hy,hsn]) (by simp[hwi,hsn]))
    ·have hiQ:i=Q:=by omega
     subst hiQ;have hln:=hln i;generalize zAR g (List.replicate i y) (w64 (a+1))=R at hln;simp;exact zC 1 (by simp[zI,hln,qG,zY,zM])
  obtain⟨_,gk,g1,g3,g4⟩:=h.resolve_left h0|>.resolve_left h1|>.resolve_left (fun e=>h2 e.1);simp[h0,h1,h2];refine zR (zIA p hL t.id) (by simp[zU,qX]) (by simp[zAL]) ?_;have hD:(yC p.defs t.id).getD .zero=dfn p t.id:=rfl;rcases gk with gk | gk
  ·have e:yD p l (f+1) t a d=(.mk 2 0 (zAR (fun t b=>yD p l f t b (w64 (d+1))) ((dfn p t.id).slots.map Slt.typ) (w64 (a+1))).1,(zAR (fun t b=>yD p l f t b (w64 (d+1))) ((dfn p t.id).slots.map Slt.typ) (w64 (a+1))).2):=by rw[yD,if_neg h0,if_neg h1,if_neg h2,if_neg (by omega)]
   rw[e];clear e;generalize dfn p t.id=D at hD g1 g3 g4 gk;obtain⟨TS,hTS⟩:∃TS,TS=D.slots.map Slt.typ:=⟨_,rfl⟩;have hTl:TS.length=D.slots.length:=by rw[hTS]; simp
   have hTg:∀i (h:i<D.slots.length),TS[i]?=some D.slots[i].typ:=fun i h=>by rw[hTS]; simp[h]
   have hih:∀i (h:i<D.slots.length) b,Ret Tryz.prog 120 [.agg (zU p),.agg (zB D.slots[i].typ),.sl l.length (yF l),int b,int (w64 (d+1))] [] (.tup [.agg (zI (yD p l f D.slots[i].typ b (w64 (d+1))).1),int (yD p l f D.slots[i].typ b (w64 (d+1))).2]) []:=fun i h b=>zJ6 p hL l hl f D.slots[i].typ b _ (g4 _ (List.getElem_mem h))
   obtain⟨g,hg⟩:∃g,g=fun t b=>yD p l f t b (w64 (d+1)):=⟨_,rfl⟩
   have hih:∀i (h:i<D.slots.length) b,Ret Tryz.prog 120 [.agg (zU p),.agg (zB D.slots[i].typ),.sl l.length (yF l),int b,int (w64 (d+1))] [] (.tup [.agg (zI (g D.slots[i].typ b).1),int (g D.slots[i].typ b).2]) []:=by subst hg; exact hih
   rw[←hTS,←hg];clear hg hTS;have hsn:∀i (h:i<D.slots.length),zAR g (TS.take (i+1)) (w64 (a+1))=((zAR g (TS.take i) (w64 (a+1))).1++[(g D.slots[i].typ (zAR g (TS.take i) (w64 (a+1))).2).1],(g D.slots[i].typ (zAR g (TS.take i) (w64 (a+1))).2).2):=fun i h=>by
    have h1:i<TS.length:=by omega
    have h2:=hTg i h;rw[List.getElem?_eq_getElem h1]at h2;rw[List.take_succ_eq_append_getElem h1,Option.some.inj h2,zIE]
   have hln:∀i,i≤D.slots.length→(zAR g (TS.take i) (w64 (a+1))).1.length=i:=fun i h=>by rw[zKJ,List.length_take]; omega
   have htk:TS.take D.slots.length=TS:=List.take_of_length_le (by omega);simp[zAL,hD,zP,gk];refine qZ (S:=Nat) (fun i=>[(2,.sl l.length (yF l)),(3,int (zAR g (TS.take i) (w64 (a+1))).2),(4,int d),(5,.ptr 0 0),(6,.ptr 1 0),(10,.ptr 2 0),(13,.ptr 3 0),(18,.ptr 4 0),(22,int i)])
    (fun i=>[.box (zU p),.box (zB t),.box [int 0,int 0,.nil],.box [int 2,int 0,.row 5 i],.box (zP D),.row false 47 3 i (zV (zAR g (TS.take i) (w64 (a+1))).1)]) (fun i=>i≤D.slots.length) (fun i=>D.slots.length-i) 0 (by simp)
    ((zAf (l:=3) (o:=2) rfl rfl 47 3).trans (zS [0,1,2,3,4,5] 0 (by simp) (by simp) (by simp[zU,zB,zP,gk,zAR]) (by simp[zAR,w64]))) ?_
   intro i hi;by_cases hiQ:i<D.slots.length
   ·have hwi:IntKind.i64.wrap ((i:Int)+1)=(i:Int)+1:=IntWalk.i64_in _ (by omega);have hsn:=hsn i hiQ;have hln:=hln i hi;have hih:=hih i hiQ;generalize zAR g (TS.take i) (w64 (a+1))=R at hsn hln;simp[hiQ,jL hiQ,zU,zP,zAd];intro _;refine zA3 (hih R.2) (by simp[zU,zB,w64,qN]) (by simp[zI]) ?_;simp[zIs,zI];refine⟨⟨by simp[maxLen]; omega,by omega⟩,?_⟩;exact zT (i+1) hiQ (by omega) (zS [0,1,2,3,4,5] 0 (by simp) (by simp) (by simp[zU,zB,zP,hsn]) (by simp[hwi,hsn]))
   ·have hiQ:i=D.slots.length:=by omega
    subst hiQ;have hln:=hln _ (Nat.le_refl _);rw[htk]at hln ⊢;generalize zAR g TS (w64 (a+1))=R at hln;simp[zP];exact fun _=>zC 1 (by simp[zI,hln,qG,zY,zM])
  ·have hlt:(atV l a 1048576).tmod ((dfn p t.id).slots.length:Int)=((atV l a 1048576) % ((dfn p t.id).slots.length:Int)):=Int.tmod_eq_emod_of_nonneg hx.1;have hl1:=Int.emod_nonneg (atV l a 1048576) (show ((dfn p t.id).slots.length:Int)≠0 by omega);have hl2:=Int.emod_lt_of_pos (atV l a 1048576) (show (0:Int)<((dfn p t.id).slots.length:Int) by omega);obtain⟨Q,hQ⟩:∃Q:Nat,(atV l a 1048576).tmod ((dfn p t.id).slots.length:Int)=(Q:Int):=⟨((atV l a 1048576).tmod ((dfn p t.id).slots.length:Int)).toNat,by omega⟩;have hQl:Q<(dfn p t.id).slots.length:=by omega
   have e:yD p l (f+1) t a d=(.mk 3 Q [(yD p l f (dfn p t.id).slots[Q].typ (w64 (a+1)) (w64 (d+1))).1],(yD p l f (dfn p t.id).slots[Q].typ (w64 (a+1)) (w64 (d+1))).2):=by rw[yD,if_neg h0,if_neg h1,if_neg h2,if_pos gk,hQ];simp[hQl]
   rw[e];have hih:=zJ6 p hL l hl f (dfn p t.id).slots[Q].typ (w64 (a+1)) (w64 (d+1)) (g4 _ (List.getElem_mem hQl));clear e hlt hl1 hl2;generalize dfn p t.id=D at hD g1 g3 g4 gk hQl hih hQ;have hn0:¬D.slots=[]:=fun e=>by rw[e]at g1; simp at g1
   simp[zAL,hD,zP,gk,hn0,hQ,hQl,jL hQl,zAd];intro _;refine zA3 hih (by simp[zU,zB,w64,qN]) (by simp[zI]) ?_;simp[zIs,zI];exact zC 1 (by simp[zI,qG,zY,zM])
def zD6 (p:Prg)(t:Typ)(l:List Int):Val:=if 256<zDc (yD p l 10 t 0 1).1∨24<zB5 (yD p l 10 t 0 1).1 then zAx p 5 t else (yD p l 10 t 0 1).1
theorem zWl (p:Prg)(hL:p.defs.length≤1000000)(l:List Int)(hl:∀x∈l,w64 x=x)(t:Typ)(hf:Wf p 10 t)(hz:Wz p 5 t):Ret Tryz.prog 87 [.agg (zU p),.agg (zB t),.sl l.length (yF l)] [] (.agg (zI (zD6 p t l))) []:=by
 refine zK Tryz.func87 rfl qMt (rs:=[.cell 6 3 true]) (by kernel_rfl) ?_;unfold qF9;simp[zU,zB];refine zR (zJ6 p hL l hl 10 t 0 1 hf) (by simp[zU,zB]) (by simp[zI]) ?_;have e:zD6 p t l=if 256<zDc (yD p l 10 t 0 1).1∨24<zB5 (yD p l 10 t 0 1).1 then zAx p 5 t else (yD p l 10 t 0 1).1:=rfl
 generalize (yD p l 10 t 0 1)=R at e;obtain⟨v,b⟩:=R;simp only at e;simp[zI];refine zR (zKD v) (by simp[zI]) (by simp) ?_;by_cases h1:256<zDc v
 ·rw[if_pos (.inl h1)]at e;rw[e];simp[h1];refine zR (zPe p hL 5 (by decide) t hz) (by simp[zU,zB]) (by simp[zI]) ?_;simp[zI];exact zC 0 (by simp[zI])
 ·simp[h1];refine zR (zJn v) (by simp[zI]) (by simp) ?_;by_cases h2:24<zB5 v
  ·rw[if_pos (.inr h2)]at e;rw[e];simp[h2];refine zR (zPe p hL 5 (by decide) t hz) (by simp[zU,zB]) (by simp[zI]) ?_;simp[zI];exact zC 0 (by simp[zI])
  ·rw[if_neg (by simp[h1,h2])]at e;rw[e];simp[h2];exact zC 0 (by simp[zI])
def qFb:K:=G [kO 6 1,kZ 10 kz1] (Z (G [kMi 11 0] (K.block 0 (K.loop (Z (G [M 16 11,M 17 0,kU 18 17,D 19 18 0,D 20 19 1,L 21 20 1,kN 22 21,kB 23 16 22 .lss] (Y 23 ks (K.exit 0))) (Z (K.block 1 (G [M 26 0,kU 27 26,D 28 27 0,D 29 28 1,L 30 29 1,M 31 11,kX 32 30 31 31,J 33 32 31,kZ 12 kz0,S 12 33 31] (G [D 34 12 3,L 35 34 1,kQi 36 35 2 false,M 37 36,T 37 true (M 38 0),T 37 true (M 39 11),T 37 true (kC 40 119 [(kt 38),(kt 39)]),kPf 41 37 40,M 42 41,T 42 true (D 43 12 9),T 42 true (J 44 43 5),T 42 true (J 45 6 5),T 42 true (kC 46 109 [(kt 44),(kt 45)]),kPf 47 42 46] (Y 47 (G [kMn 13] (Z (G [kMi 14 0] (K.block 2 (K.loop (Z (G [M 48 14,D 49 12 8,L 50 49 1,kN 51 50,kB 52 48 51 .lss] (Y 52 ks (K.exit 2))) (Z (K.block 3 (K.ops [M 55 13,M 56 0,D 57 12 8,L 58 57 1,M 59 14,kX 60 58 59 11,D 61 60 4,J 62 61 5,M 63 2,M 64 4,kBi 65 64 1 .sub,kC 66 34 [(kt 56),(kt 62),(kt 63),(kt 65)],kd 67 37 15 1 kz1 [(0,15,(kt 66))],kP 68 37 15 168 55 67,M 13 68])) (K.ops [M 53 14,kBi 54 53 1 .add,M 14 54])))))) (Z (K.wk (K.ops [M 69 0,M 70 13,kC 71 80 [(kt 69),(kc 3),(kc 0),(kt 70)],kZ 15 kz1,S 15 71 15])) (G [D 72 12 0,J 73 72 3,D 74 15 5,S 74 73 3] (G [J 75 15 15,S 10 75 15] kr))))) ks)))) (K.ops [M 24 11,kBi 25 24 1 .add,M 11 25])))))) (G [M 76 0,J 77 6 5,M 78 2,M 79 3,M 80 4,kC 81 86 [(kt 76),(kt 77),(kt 78),(kt 79),(kt 80)],S 10 81 15] kr))
theorem qLM:zL Tryz.prog Tryz.f85.ntmps (Tryz.f85.body.getD .skip)=some qFb.erase:=by kernel_rfl
@[simp] theorem qMI:zA Tryz.prog 85=true:=by kernel_rfl
abbrev zUc:FuncId:=85
def zTS (m:Mk)(t:Typ)(k:Nat):Bool:=match m.defs[k]? with
 | some d=>decide (d.kind=2)&&(zGW m k&&yL d.res t)
 | none=>false
set_option maxHeartbeats 4000000 in
theorem zQO {hs:List Hd}{R:Nat}{m:Mk}{env:List Bnd}{c depth:Int}{len:Nat}(hc:0≤c)(hl:Lim m (7*c+7))(x:Nat)(hk:zBd hs R c (depth-1) (fun r=>r≤R) len)
 (hx:Cx hs R m)(he:EnvOk hs R m.temp env)(h1:0<env.length)(h2:env.length≤len)(hd1 : -1000≤depth)(hd2:depth≤1000)(t:Typ)
 (hop:zA5 hs m.own opF m [.ptr 0 0,.agg (zB t),.sl env.length (zQ env),int x,int depth] env t (7*c+7)) :
 zA5 hs m.own zUc m [.ptr 0 0,.agg (zB t),.sl env.length (zQ env),int x,int depth] env t (7*c+7):=by
 have hdl:=hx.dlen;have hd100:=hx.len;have hd0:=hx.len0;have hN:0<m.defs.length:=by omega
 have wd:IntKind.i64.wrap (depth-1)=depth-1:=IntWalk.i64_in _ (by omega);obtain⟨i0,e,m',hi0,hlow,hfull,hhit,hA,hW,hS,hZ⟩:∃(i0:Nat) (e:Exp) (m':Mk),i0≤m.defs.length∧(∀i<i0,zTS m t i=false) ∧
  (i0=m.defs.length→Ret Tryz.prog opF [.ptr 0 0,.agg (zB t),.sl env.length (zQ env),int x,int depth] (mkS m) (.agg (zF e)) (mkS m')) ∧
  (∀(D:Dfn),m.defs[i0]?=some D→D.kind=2∧zGW m i0=true∧D.res=t∧∃(es:List Exp) (ms:Nat→Mk),es.length=D.slots.length∧ms 0=m∧Lim (ms es.length) 1 ∧
   (∀(j:Nat) (hj:j<es.length) (hj':j<D.slots.length),Ret Tryz.prog yU [.ptr 0 0,.agg (zB D.slots[j].typ),.sl env.length (zQ env),int (depth-1)] (mkS (ms j)) (.agg (zF es[j])) (mkS (ms (j+1)))) ∧
   e=.mk ⟨0,0,(ms es.length).temp⟩ 3 0 D.id Typ.zero es []∧m'={ms es.length with temp:=(ms es.length).temp+1,left:=(ms es.length).left-1}) ∧
  Adv m m' (7*c+7)∧WT hs m.own env e t∧Seg m.temp m'.temp (tmps e)∧e.num0:=by
  by_cases hex:∃i,i<m.defs.length∧zTS m t i=true
  ·obtain⟨k,hkm,hp,hlow⟩:=zRj hex;have hks:k<hs.length:=by omega
   have hget:=hx.get hkm;unfold zTS at hp;rw[List.getElem?_eq_getElem hkm]at hp;simp only[Bool.and_eq_true,decide_eq_true_eq]at hp;generalize hD:m.defs[k]=D at hget hp;obtain⟨hkind,hvis,hst⟩:=hp;have hres:=(zEq _ _).1 hst;have eid:hs[k].id=D.id:=by rw[hget]; rfl
   have eslots:hs[k].slots=D.slots:=by rw[hget]; rfl
   have eres:hs[k].res=D.res:=by rw[hget]; rfl
   have ekind:hs[k].kind=2:=by rw[hget]; exact hkind
   obtain⟨hs6,hsT⟩:=hx.slots k hks;rw[eslots]at hs6 hsT;have hsc:((D.slots.length:Int))*c≤6*c:=Int.mul_le_mul_of_nonneg_right (by omega) hc;obtain⟨es,ms,q1,q2,q3,q4,q5⟩:=zRg hk hc env h1 h2 (D.slots.map (·.typ)) m hx (hl.mono (by rw[List.length_map]; omega)) (fun t ht=>by obtain⟨s,hs',rfl⟩:=List.mem_map.1 ht;exact⟨R,hsT s hs',Nat.le_refl _⟩) he
   rw[List.length_map]at q1 q3 q4;have ha:=(q3 D.slots.length (Nat.le_refl _)).mono hsc;have hl1:Lim (ms es.length) 1:=by rw[q1]; exact Lim.adv (c:=6*c) (c':=1) (hl.mono (by omega)) ha
   refine⟨k,.mk ⟨0,0,(ms es.length).temp⟩ 3 0 D.id Typ.zero es [],{ms es.length with temp:=(ms es.length).temp+1,left:=(ms es.length).left-1},by omega,hlow,fun h=>by omega,fun D' hD'=>?_,by rw[q1]; exact(ha.trans (yR _)).mono (by omega),?_,
    by simp only[tmps]; rw[q1]; exact q4.append (Seg.one _) ha.temp1 (by omega),zCt (zH9 rfl fun j hj=>(q5 j hj (by rw[List.length_map]; omega)).2.2)⟩
   ·rw[List.getElem?_eq_getElem hkm,hD]at hD';injection hD' with hD'
    subst hD';refine⟨hkind,hvis,hres,es,ms,q1,q2,hl1,fun j hj hj'=>?_,rfl,rfl⟩;have:=(q5 j hj (by rw[List.length_map]; omega)).1;rw[List.getElem_map]at this;exact this
   ·have:=WT.call (own:=m.own) env ⟨0,0,(ms es.length).temp⟩ k hks es (zYz hvis) ekind (by rw[eslots,q1]) (fun j hj=>by
     have:=(q5 j hj (by rw[List.length_map]; omega)).2.1;rw[List.getElem_map]at this
     simpa only[eslots] using this)
    rw[eid,eres,hres]at this;exact this
  ·obtain⟨e,m',g1,g2,g3,g4,g5⟩:=hop;refine⟨m.defs.length,e,m',Nat.le_refl _,fun i hi=>?_,fun _=>g1,(fun D h=>by rw[List.getElem?_eq_none (Nat.le_refl _)]at h; cases h),g2,g3,g4,g5⟩;cases hp:zTS m t i
   ·rfl
   ·exact(hex ⟨i,hi,hp⟩).elim
 refine⟨e,m',?_,hA,hW,hS,hZ⟩;refine zH Tryz.func85 rfl qLM (rs:=[.cell 10 15 true]) (by kernel_rfl) ?_;unfold qFb;simp[mkS,mkB,zB];refine qZ (S:=Nat) (fun i=>[(0,.ptr 0 0),(2,.sl env.length (zQ env)),(3,int x),(4,int depth),(6,.ptr 2 0),(10,.ptr 3 0),(11,int i)])
  (fun _=>mkS m++[.box (zB t),.box (zF Exp.zero)]) (fun i=>i≤i0) (fun i=>i0-i) 0 (by simp)
  (zS [0,1,2,3] 0 (by decide) (by simp) (by simp[mkS,mkB,zB,zF,Exp.zero,Id.zero,Typ.zero]) (by simp)) ?_
 intro i hi;by_cases h:i<m.defs.length
 ·have w2:IntKind.i64.wrap ((i:Int)+1)=(i:Int)+1:=IntWalk.i64_in _ (by omega);have hlow':=fun hlt:i<i0=>hlow i hlt
  have hhit':i=i0→_:=fun e=>hhit m.defs[i] (by rw[←e,List.getElem?_eq_getElem h])
  unfold zTS at hlow';rw[List.getElem?_eq_getElem h]at hlow';have hsl:m.defs[i].slots.length≤6:=by have:=(hx.slots i (by omega)).1;rw[hx.get h]at this;exact this
  have hdr:=yB h;have hb31:i*31+31≤m.defs.length*31:=by omega
  generalize m.defs[i]=D at hlow' hhit' hsl hdr;by_cases hlt:i<i0
  ·have hno:=hlow' hlt;simp only at hno;by_cases hkd:D.kind=2
   ·simp[mkS,mkB,h,hdr,hb31,zP,hkd];refine zN (zLb m i h hx.mods) [0,1] (by decide) (by simp[mkS,mkB]) (by simp) ?_;cases hv:zGW m i
    ·simp[mkS,mkB];exact zT (i+1) (by omega) (by omega) (zS [0,1,2,3] 0 (by decide) (by simp) (by simp[mkS,mkB,zB,zF,Exp.zero,Id.zero,Typ.zero]) (by simp[w2]))
    ·have hsf:yL D.res t=false:=by simpa [hkd,hv] using hno
     simp[mkS,mkB,zP,zB];refine zR (zDv D.res t) (by simp[zB]) (by simp) ?_;rw[hsf];simp[mkS,mkB];exact zT (i+1) (by omega) (by omega) (zS [0,1,2,3] 0 (by decide) (by simp) (by simp[mkS,mkB,zB,zF,Exp.zero,Id.zero,Typ.zero]) (by simp[w2]))
   ·simp[mkS,mkB,h,hdr,hb31,zP,hkd];exact zT (i+1) (by omega) (by omega) (zS [0,1,2,3] 0 (by decide) (by simp) (by simp[mkS,mkB,zB,zF,Exp.zero,Id.zero,Typ.zero]) (by simp[w2]))
  ·have hie:i=i0:=by omega
   subst hie;obtain⟨hkd,hv,hres,es,ms,q1,q2,hln,g1,he1,he2⟩:=hhit' rfl;obtain⟨l1,l2,l3,l4,l5,l6,l7,l8⟩:=hln;subst he1 he2;simp[mkS,mkB,h,hdr,hb31,zP,hkd];refine zN (zLb m i h hx.mods) [0,1] (by decide) (by simp[mkS,mkB]) (by simp) ?_;rw[hv];simp[mkS,mkB,zP,zB];refine zR (zDv D.res t) (by simp[zB]) (by simp) ?_;rw[show yL D.res t=true from (zEq _ _).2 hres];simp[mkS,mkB];refine qZ (S:=Nat) (fun j=>[(0,.ptr 0 0),(2,.sl env.length (zQ env)),(4,int depth),(10,.ptr 3 0),(12,.ptr 4 0),(13,.row 5 j),(14,int j)])
    (fun j=>mkS (ms j)++[.box (zB t),.box (zF Exp.zero),.box (zP D),.row false 37 15 j (qL (es.take j))]) (fun j=>j≤es.length) (fun j=>es.length-j) 0 (by simp)
    ((yA (t:=13) (by simp) 37 15).trans (zS [0,1,2,3,4,5] 0 (by decide) (by simp) (by simp[mkS,mkB,zB,q2,zF,Exp.zero,Id.zero,Typ.zero,zP,hkd]) (by simp))) ?_
   intro j hj;by_cases hj2:j<es.length
   ·have hjd:j<D.slots.length:=by omega
    have g1':=g1 j hj2 hjd;have hst:qL (es.take (j+1))=qL (es.take j)++zF es[j]:=zAi hj2;have hw:IntKind.i64.wrap ((j:Int)+1)=(j:Int)+1:=IntWalk.i64_in _ (by omega);have hdS:List.drop (j*11+4) (jU D.slots)=(zAd D.slots[j]++jU (D.slots.drop (j+1))).drop 4:=by rw[←List.drop_drop,jL hjd]
    have hbS:j*11+4+5≤D.slots.length*11:=by omega
    simp[mkS,mkB,zP,hjd,hdS,hbS,zAd,wd];intro _;refine zN g1' [0,1] (by decide) (by simp[mkS,mkB]) (by simp[zB]) ?_;simp[mkS,mkB];refine⟨⟨by simp[maxLen]; omega,by omega⟩,?_⟩;exact zT (j+1) hj2 (by omega) (zS [0,1,2,3,4,5] 0 (by decide) (by simp) (by simp[mkS,mkB,zB,zF,Exp.zero,Id.zero,Typ.zero,hst,zP]) (by simp[hw]))
   ·have hje:j=es.length:=by omega
    subst hje;have hid:¬es.length<D.slots.length:=by omega
    simp[mkS,mkB,zP,hid];intro _;refine⟨qT [(0,.ptr 0 0),(10,.ptr 3 0),(12,.ptr 4 0),(13,.sl es.length (qL es))],mkS (ms es.length)++[.box (zB t),.box (zF Exp.zero),.box (zP D)],zS [0,1,2,3,4] 1 (by decide) (by simp) (by simp[mkS,mkB,zB,zF,Exp.zero,Id.zero,Typ.zero,zP]) (by simp),?_⟩;simp[mkS,mkB];refine zN (yH (ms es.length) 3 0 es l3 (by omega) (by omega) l6) [0,1] (by decide) (by simp[mkS,mkB]) (by simp) ?_;simp[mkS,mkB,zF,zP];exact zG [0,1] 0 (by decide) (by simp) (by simp) (by simp[zF])
 ·have hii:i=m.defs.length:=by omega
  have hi0':i0=m.defs.length:=by omega
  subst hii;simp[mkS,mkB,zB];refine zN (hfull hi0') [0,1] (by decide) (by simp[mkS,mkB]) (by simp[zB]) ?_;simp[mkS,mkB];exact zG [0,1] 0 (by decide) (by simp) (by simp) (by simp[zF])
end Go.Proofs.YthglhccibdlccaaGreatDoor
