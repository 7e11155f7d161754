/-
  Values made of numbers, by the reference.
  The maker's calls.
  The maker's expressions, walked.
  The maker's expressions, walked: what binds.
  The maker's expressions have the types that they are to have.
  The number of nodes, their numbers, their IDs.
  The maker's plans: what definitions are to be made.
  The reference's nodes, in preorder; the first node with an ID; same nodes and definitions.
  The maker's plans.
  The maker's plans: the types of records and variants; all plans.
  The maker's definitions before their bodies: what is known of them.
  The types of the maker's definitions are types of the program.
  The maker's bodies exist.
  The numbers of nodes become IDs: the data.
  The maker's programs, walked: the nodes get their IDs.
  The maker's programs, walked: the bodies are made.
  The maker's programs, walked: modules, definitions, slots.
  The maker's programs: what they are.
  What is proved: the maker of programs returns a typed program, whose nodes have IDs of their own.
  Types of values and of programs' expressions; a run keeps them.
  The generator of programs of records and converters, as data: its parts, and their types.
  The fields of a slot that an expression reads: two ways to find them.
  What a run asks is bounded by its fuel; the three evaluators have the same states, and the same values where nothing fails.
-/
import Derived.Test.YtdnelmeboihpkaaGreatDoorX13
import Derived.Test.YtdnelmeboihpkaaGreatDoorX12
set_option linter.unusedVariables false
set_option maxHeartbeats 8000000
set_option maxRecDepth 100000
set_option linter.unusedSimpArgs false
open Go.Proofs.Tryz (prog)
namespace Go.Proofs.YtdnelmeboihpkaaGreatDoor
open Go.Abs
def qHc:K:=G [kO 5 0,kO 6 1,kZ 10 [ki,ki,kl],kMi 11 0] (G [M 25 2,M 26 3,kC 27 38 [(kt 25),(kt 26),(kc 1048576)],M 12 27] (G [M 28 3,kBi 29 28 1 .add,M 3 29] (Z (G [D 30 6 0,L 31 30 1,kQi 32 31 0 false] (Y 32 (Z (G [M 33 12,kBi 34 33 16 .rem,kQi 35 34 0 false] (Y 35 (G [M 36 12,kBi 37 36 16 .quo,kBi 38 37 3 .rem,⟨none,.bin (some 39) .sub (kc 1099511627776) (kt 38)⟩,kb 40 [ki,ki,kl] [(0,1,(kc 0)),(1,1,(kt 39))],M 41 3,S 10 40 3,M 11 41] kr) ks)) (Z (G [M 42 12,kBi 43 42 16 .rem,kQi 44 43 1 false] (Y 44 (G [M 45 12,kBi 46 45 16 .quo,kBi 47 46 3 .rem,⟨none,.bin (some 48) .add (kc (-1099511627776)) (kt 47)⟩,kb 49 [ki,ki,kl] [(0,1,(kc 0)),(1,1,(kt 48))],M 50 3,S 10 49 3,M 11 50] kr) ks)) (G [M 51 12,kBi 52 51 16 .quo,kBi 53 52 9 .rem,kBi 54 53 4 .sub,kb 55 [ki,ki,kl] [(0,1,(kc 0)),(1,1,(kt 54))],M 56 3,S 10 55 3,M 11 56] kr))) ks)) (Z (G [D 57 6 0,L 58 57 1,kQi 59 58 1 false] (Y 59 (G [M 60 12,kBi 61 60 2 .rem,kb 62 [ki,ki,kl] [(0,1,(kc 1)),(1,1,(kt 61))],M 63 3,S 10 62 3,M 11 63] kr) ks)) (G [kb 64 [ki,ki,kl] [(0,1,(kc 4))],kZ 13 [ki,ki,kl],S 13 64 3] (Z (G [D 65 6 0,L 66 65 1,kQi 67 66 2 false] (Y 67 (G [M 68 12,kBi 69 68 3 .rem,M 14 69] (Z (G [M 70 4,kBi 71 70 3 .gtr] (Y 71 (K.ops [kMi 14 0]) ks)) (Z (G [kMi 15 0] (K.block 0 (K.loop (Z (G [M 72 15,M 73 14,kB 74 72 73 .lss] (Y 74 ks (K.exit 0))) (Z (K.block 1 (Z (K.dops [(0,1,J 78 5 2),(1,1,D 79 6 4),(2,1,L 80 79 1),(3,1,kXi 81 80 5 0),(4,1,J 82 81 5),(5,0,M 83 2),(6,0,M 84 3),(7,0,
 M 85 4),(8,0,kBi 86 85 1 .add),(9,1,kC 87 40 [(kt 78),(kt 82),(kt 83),(kt 84),(kt 86)]),(10,0,M 77 87),(11,0,kE 88 77 0),(12,0,kE 89 77 1),(13,0,kZ 16 [ki,ki,kl]),(14,0,S 16 88 3),(15,0,M 17 89)]) (G [M 90 17,M 3 90] (K.ops [D 91 13 2,L 92 91 1,J 93 16 3,kd 94 46 3 1 [ki,ki,kl] [(0,3,(kt 93))],kP 95 46 3 40 92 94,D 96 13 2,S 96 95 1])))) (K.ops [M 75 15,kBi 76 75 1 .add,M 15 76])))))) (G [J 97 13 3,M 98 3,S 10 97 3,M 11 98] kr)))) ks)) (G [J 100 5 2,D 101 6 1,J 102 101 3,kC 103 36 [(kt 100),(kt 102)],M 99 103,kE 104 99 0,kE 105 99 1,kZ 18 kz0,S 18 104 31,M 19 105] (Z (G [D 106 18 3,L 107 106 1,kQi 108 107 1 false] (Y 108 (G [D 109 13 0,⟨none,.st none (kt 109) (kc 3) 1⟩] (G [M 110 12,D 111 18 8,L 112 111 1,kN 113 112,kB 114 110 113 .rem,D 115 13 1,S 115 114 1] (Z (K.dops [(0,1,J 117 5 2),(1,1,D 118 18 8),(2,1,L 119 118 1),(3,1,D 120 13 1),(4,1,L 121 120 1),(5,1,kX 122 119 121 11),(6,1,D 123 122 4),(7,1,J 124 123 5),(8,0,M 125 2),(9,0,M 126 3),(10,0,M 127 4),(11,0,kBi 128 127 1 .add),(12,1,kC 129 40 [(kt 117),(kt 124),(kt 125),(kt 126),(kt 128)]),(13,0,M 116 129),(14,0,kE 130 116 0),(15,0,kE 131 116 1),(16,0,kZ 20 [ki,ki,kl]),(17,0,S 20 130 3),(18,0,M 21 131)]) (G [J 132 20 3,kd 133 46 3 1 [ki,ki,kl] [(0,3,(kt 132))],D 134 13 2,S 134 133 1] (G [J 135 13 3,M 136 21,S 10 135 3,M 11 136] kr))))) ks)) (G [D 137 13 0,⟨none,.st none (kt 137) (kc 2) 1⟩] (Z (G [kMi 22 0] (K.block 2 (K.loop (Z (G [M 138 22,D 139 18 8,
 L 140 139 1,kN 141 140,kB 142 138 141 .lss] (Y 142 ks (K.exit 2))) (Z (K.block 3 (Z (K.dops [(0,1,J 146 5 2),(1,1,D 147 18 8),(2,1,L 148 147 1),(3,0,M 149 22),(4,1,kX 150 148 149 11),(5,1,D 151 150 4),(6,1,J 152 151 5),(7,0,M 153 2),(8,0,M 154 3),(9,0,M 155 4),(10,0,kBi 156 155 1 .add),(11,1,kC 157 40 [(kt 146),(kt 152),(kt 153),(kt 154),(kt 156)]),(12,0,M 145 157),(13,0,kE 158 145 0),(14,0,kE 159 145 1),(15,0,kZ 23 [ki,ki,kl]),(16,0,S 23 158 3),(17,0,M 24 159)]) (G [M 160 24,M 3 160] (K.ops [D 161 13 2,L 162 161 1,J 163 23 3,kd 164 46 3 1 [ki,ki,kl] [(0,3,(kt 163))],kP 165 46 3 40 162 164,D 166 13 2,S 166 165 1])))) (K.ops [M 143 22,kBi 144 143 1 .add,M 22 144])))))) (G [J 167 13 3,M 168 3,S 10 167 3,M 11 168] kr)))))))))))
theorem qOn:zQ prog Tryz.f40.ntmps (Tryz.f40.body.getD .skip)=some qHc.erase:=by kernel_rfl
@[simp] theorem qPo:zB prog 40=true:=by kernel_rfl
def qHe:K:=G [kO 3 0,kO 4 1,kZ 6 [ki,ki,kl]] (G [J 10 3 2,J 11 4 5,M 12 2,kC 13 40 [(kt 10),(kt 11),(kt 12),(kc 0),(kc 1)],M 9 13,kE 14 9 0,kE 15 9 1,kZ 7 [ki,ki,kl],S 7 14 3,M 8 15] (Z (G [J 16 7 3,kC 17 41 [(kt 16)],kBi 18 17 256 .gtr,M 19 18,T 19 false (J 20 7 3),T 19 false (kC 21 42 [(kt 20)]),T 19 false (kBi 22 21 24 .gtr),kPt 23 19 22] (Y 23 (K.ops [J 25 3 2,J 26 4 5,kC 27 43 [(kt 25),(kt 26)],M 24 27,kE 28 24 0,kE 29 24 1,S 7 28 3]) ks)) (G [J 30 7 3,S 6 30 3] kr)))
theorem qOp:zQ prog Tryz.f14.ntmps (Tryz.f14.body.getD .skip)=some qHe.erase:=by kernel_rfl
@[simp] theorem qPv:zB prog 14=true:=by kernel_rfl
def Wf (p:Prg):Nat→Typ→Prop
 | 0,_=>False
 | f+1,t=>validT p t=true∧(t.k=0∨t.k=1∨(t.k=2∧∃x,t.kids=[x]∧Wf p f x)∨(t.k=3∧((dfn p t.id).kind=0∨(dfn p t.id).kind=1)∧1≤(dfn p t.id).slots.length∧(dfn p t.id).slots.length≤3∧∀s∈(dfn p t.id).slots,Wf p f s.typ))
def zAT (g:Typ→Int→Val×Int):List Typ→Int→List Val×Int
 | [],a=>([],a)
 | t::l,a=>((g t a).1::(zAT g l (g t a).2).1,(zAT g l (g t a).2).2)
theorem zJr (g:Typ→Int→Val×Int):∀(l:List Typ) (t:Typ) (a:Int),zAT g (l++[t]) a=((zAT g l a).1++[(g t (zAT g l a).2).1],(g t (zAT g l a).2).2)
 | [],t,a=>rfl
 | x::l,t,a=>by simp only[jB5,zAT,zJr g l t]
theorem zIy (g:Typ→Int→Val×Int):∀(l:List Typ) (a:Int),(zAT g l a).1.length=l.length
 | [],a=>rfl
 | x::l,a=>by simp only[zAT,jAl,zIy g l]
def zPU (x:Int):Int:=if x.tmod 16=0 then w64 (1099511627776-(x.tdiv 16).tmod 3) else if x.tmod 16=1 then w64 (-1099511627776+(x.tdiv 16).tmod 3) else w64 ((x.tdiv 16).tmod 9-4)
def zAi (p:Prg)(l:List Int):Nat→Typ→Int→Int→Val×Int
 | 0,_,a,_=>(.mk 0 0 [],a)
 | f+1,t,a,d =>
  if t.k=0 then (.mk 0 (zPU (atV l a 1048576)) [],w64 (a+1)) else if t.k=1 then (.mk 1 ((atV l a 1048576).tmod 2) [],w64 (a+1)) else
  if t.k=2 then (.mk 4 0 (zAT (fun t b=>zAi p l f t b (w64 (d+1))) (List.replicate (if 3<d then 0 else ((atV l a 1048576).tmod 3).toNat) (t.kids.headD Typ.zero)) (w64 (a+1))).1,
   (zAT (fun t b=>zAi p l f t b (w64 (d+1))) (List.replicate (if 3<d then 0 else ((atV l a 1048576).tmod 3).toNat) (t.kids.headD Typ.zero)) (w64 (a+1))).2)
  else if (dfn p t.id).kind=1 then
   (.mk 3 ((atV l a 1048576).tmod (dfn p t.id).slots.length) [(zAi p l f ((((dfn p t.id).slots.map Slt.typ).getD ((atV l a 1048576).tmod (dfn p t.id).slots.length).toNat Typ.zero)) (w64 (a+1)) (w64 (d+1))).1],
    (zAi p l f ((((dfn p t.id).slots.map Slt.typ).getD ((atV l a 1048576).tmod (dfn p t.id).slots.length).toNat Typ.zero)) (w64 (a+1)) (w64 (d+1))).2)
  else (.mk 2 0 (zAT (fun t b=>zAi p l f t b (w64 (d+1))) ((dfn p t.id).slots.map Slt.typ) (w64 (a+1))).1,(zAT (fun t b=>zAi p l f t b (w64 (d+1))) ((dfn p t.id).slots.map Slt.typ) (w64 (a+1))).2)
theorem zKs (p:Prg)(hL:p.defs.length≤1000000)(l:List Int)(hl:∀x∈l,w64 x=x):∀(f:Nat) (t:Typ) (a d:Int),Wf p f t →
 Ret prog 40 [.agg (zK p),.agg (zM t),.sl l.length (zAl l),int a,int d] [] (.tup [.agg (zC (zAi p l f t a d).1),int (zAi p l f t a d).2]) []
 | 0,t,a,d,h=>h.elim
 | f+1,t,a,d,h=>by
  unfold Wf at h;obtain⟨hv,h⟩:=h;refine zH Tryz.func40 rfl qOn (rs:=[.cell 10 3 true,.slot 11]) (by kernel_rfl) ?_;unfold qHc;have hx:=zAY (i:=a) hl (show (0:Int)<1048576 by omega);simp[zK,zM];refine qE (qA9 l a 1048576 (by decide)) (by simp) (by simp) ?_;by_cases h0:t.k=0
  ·have e:zAi p l (f+1) t a d=(.mk 0 (zPU (atV l a 1048576)) [],w64 (a+1)):=by rw[zAi,if_pos h0]
   rw[e];generalize atV l a 1048576=x at hx;have hw16:IntKind.i64.wrap (x.tdiv 16)=x.tdiv 16:=by rw[Int.tdiv_eq_ediv_of_nonneg hx.1]; exact IntWalk.i64_in _ (by omega)
   by_cases h16:x.tmod 16=0
   ·simp[h0,h16,hw16];exact zA 0 (by simp[zC,qV,qA,zR,zPU,h16,w64])
   by_cases h17:x.tmod 16=1
   ·simp[h0,h17,hw16];exact zA 0 (by simp[zC,qV,qA,zR,zPU,h17,w64])
   ·simp[h0,h16,h17,hw16];exact zA 0 (by simp[zC,qV,qA,zR,zPU,h16,h17,w64])
  by_cases h1:t.k=1
  ·have e:zAi p l (f+1) t a d=(.mk 1 ((atV l a 1048576).tmod 2) [],w64 (a+1)):=by rw[zAi,if_neg h0,if_pos h1]
   rw[e];generalize atV l a 1048576=x at hx;simp[h1];exact zA 0 (by simp[zC,qV,qA,zR,w64])
  by_cases h2:t.k=2
  ·obtain⟨_,y,hy,hwf⟩:=h.resolve_left h0|>.resolve_left h1|>.resolve_right (fun e=>by omega);have e:zAi p l (f+1) t a d=(.mk 4 0 (zAT (fun t b=>zAi p l f t b (w64 (d+1))) (List.replicate (if 3<d then 0 else ((atV l a 1048576).tmod 3).toNat) y) (w64 (a+1))).1,
    (zAT (fun t b=>zAi p l f t b (w64 (d+1))) (List.replicate (if 3<d then 0 else ((atV l a 1048576).tmod 3).toNat) y) (w64 (a+1))).2):=by rw[zAi,if_neg h0,if_neg h1,if_pos h2,hy]; rfl
   rw[e];clear e;have hih:∀b,Ret prog 40 [.agg (zK p),.agg (zM y),.sl l.length (zAl l),int b,int (w64 (d+1))] [] (.tup [.agg (zC (zAi p l f y b (w64 (d+1))).1),int (zAi p l f y b (w64 (d+1))).2]) []:=fun b=>zKs p hL l hl f y b _ hwf
   have hx3:0≤(atV l a 1048576).tmod 3∧(atV l a 1048576).tmod 3<3:=by rw[jD2 hx.1]; omega
   generalize atV l a 1048576=x at hx hx3;generalize hg:(fun t b=>zAi p l f t b (w64 (d+1)))=g;have hih:∀b,Ret prog 40 [.agg (zK p),.agg (zM y),.sl l.length (zAl l),int b,int (w64 (d+1))] [] (.tup [.agg (zC (g y b).1),int (g y b).2]) []:=by subst hg; exact hih
   clear hg;obtain⟨Q,hQ,hQ2⟩:∃Q:Nat,(if 3<d then 0 else (x.tmod 3).toNat)=Q∧Q≤2:=⟨_,rfl,by split<;>omega⟩;rw[hQ];have hsn:∀i,zAT g (List.replicate (i+1) y) (w64 (a+1))=((zAT g (List.replicate i y) (w64 (a+1))).1++[(g y (zAT g (List.replicate i y) (w64 (a+1))).2).1],(g y (zAT g (List.replicate i y) (w64 (a+1))).2).2):=fun i=>by rw[List.replicate_succ',zJr]
   have hln:∀i,(zAT g (List.replicate i y) (w64 (a+1))).1.length=i:=fun i=>by rw[zIy,List.length_replicate]
   have hd3:3<d∨¬3<d:=by omega
   rcases hd3 with hd3 | hd3
   case' inl =>
    have hQ':(0:Int)=Q:=by rw[if_pos hd3]at hQ; omega
    simp[h2,hd3]
   case' inr =>
    have hQ':x.tmod 3=Q:=by rw[if_neg hd3]at hQ; omega
    simp[h2,hd3]
   all_goals
    refine jR (S:=Nat) (fun i=>[(2,.sl l.length (zAl l)),(3,int (zAT g (List.replicate i y) (w64 (a+1))).2),(4,int d),(5,.ptr 0 0),(6,.ptr 1 0),(10,.ptr 2 0),(13,.ptr 3 0),(14,int Q),(15,int i)])
     (fun i=>[.box (zK p),.box (zM t),.box [int 0,int 0,.nil],.box [int 4,int 0,.row 4 i],.row false 46 3 i (zJ (zAT g (List.replicate i y) (w64 (a+1))).1)]) (fun i=>i≤Q) (fun i=>Q-i) 0 (by simp)
     ((zA9 (l:=3) (o:=2) rfl rfl 46 3).trans (zP [0,1,2,3,4] 0 (by simp) (by simp) (by simp[zK,zM,h2,hy,zAT]) (by simp[zAT,w64,hQ']))) ?_
    intro i hi;by_cases hiQ:i<Q
    ·have hwi:=zAz i (by omega);have hsn:=hsn i;have hln:=hln i;generalize zAT g (List.replicate i y) (w64 (a+1))=R at hsn hln;simp[hiQ,zK,zM,hy];refine zAn (hih R.2) (by simp[zK,zM,w64,zBx]) (by simp[zC]) ?_;simp[zDU,zC];refine⟨⟨by simp[maxLen]; omega,by omega⟩,?_⟩;exact zO (i+1) hiQ (by omega) (zP [0,1,2,3,4] 0 (by simp) (by simp) (by simp[zK,zM,hy,hsn]) (by simp[hwi,hsn]))
    ·have hiQ:i=Q:=by omega
     subst hiQ;have hln:=hln i;generalize zAT g (List.replicate i y) (w64 (a+1))=R at hln;simp;exact zA 1 (by simp[zC,hln,qV,qA,zR])
  obtain⟨_,gk,g1,g3,g4⟩:=h.resolve_left h0|>.resolve_left h1|>.resolve_left (fun e=>h2 e.1);simp[h0,h1,h2];refine qE (zEH p hL t.id) (by simp[zK,zG]) (by simp[zAS]) ?_;have hD:(qQ p.defs t.id).getD .zero=dfn p t.id:=rfl;rcases gk with gk | gk
  ·have e:zAi p l (f+1) t a d=(.mk 2 0 (zAT (fun t b=>zAi p l f t b (w64 (d+1))) ((dfn p t.id).slots.map Slt.typ) (w64 (a+1))).1,(zAT (fun t b=>zAi p l f t b (w64 (d+1))) ((dfn p t.id).slots.map Slt.typ) (w64 (a+1))).2):=by rw[zAi,if_neg h0,if_neg h1,if_neg h2,if_neg (by omega)]
   rw[e];clear e;generalize dfn p t.id=D at hD g1 g3 g4 gk;obtain⟨TS,hTS⟩:∃TS,TS=D.slots.map Slt.typ:=⟨_,rfl⟩;have hTl:TS.length=D.slots.length:=by rw[hTS]; simp
   have hTg:∀i (h:i<D.slots.length),TS[i]?=some D.slots[i].typ:=fun i h=>by rw[hTS]; simp[h]
   have hih:∀i (h:i<D.slots.length) b,Ret prog 40 [.agg (zK p),.agg (zM D.slots[i].typ),.sl l.length (zAl l),int b,int (w64 (d+1))] [] (.tup [.agg (zC (zAi p l f D.slots[i].typ b (w64 (d+1))).1),int (zAi p l f D.slots[i].typ b (w64 (d+1))).2]) []:=fun i h b=>zKs p hL l hl f D.slots[i].typ b _ (g4 _ (jA3 h))
   obtain⟨g,hg⟩:∃g,g=fun t b=>zAi p l f t b (w64 (d+1)):=⟨_,rfl⟩
   have hih:∀i (h:i<D.slots.length) b,Ret prog 40 [.agg (zK p),.agg (zM D.slots[i].typ),.sl l.length (zAl l),int b,int (w64 (d+1))] [] (.tup [.agg (zC (g D.slots[i].typ b).1),int (g D.slots[i].typ b).2]) []:=by subst hg; exact hih
   rw[←hTS,←hg];clear hg hTS;have hsn:∀i (h:i<D.slots.length),zAT g (TS.take (i+1)) (w64 (a+1))=((zAT g (TS.take i) (w64 (a+1))).1++[(g D.slots[i].typ (zAT g (TS.take i) (w64 (a+1))).2).1],(g D.slots[i].typ (zAT g (TS.take i) (w64 (a+1))).2).2):=fun i h=>by
    have h1:i<TS.length:=by omega
    have h2:=hTg i h;rw[jA2 h1]at h2;rw[jA9 h1,jAs h2,zJr]
   have hln:∀i,i≤D.slots.length→(zAT g (TS.take i) (w64 (a+1))).1.length=i:=fun i h=>by rw[zIy,jAp]; omega
   have htk:TS.take D.slots.length=TS:=jAk (by omega);simp[zAS,hD,zF,gk];refine jR (S:=Nat) (fun i=>[(2,.sl l.length (zAl l)),(3,int (zAT g (TS.take i) (w64 (a+1))).2),(4,int d),(5,.ptr 0 0),(6,.ptr 1 0),(10,.ptr 2 0),(13,.ptr 3 0),(18,.ptr 4 0),(22,int i)])
    (fun i=>[.box (zK p),.box (zM t),.box [int 0,int 0,.nil],.box [int 2,int 0,.row 5 i],.box (zF D),.row false 46 3 i (zJ (zAT g (TS.take i) (w64 (a+1))).1)]) (fun i=>i≤D.slots.length) (fun i=>D.slots.length-i) 0 (by simp)
    ((zA9 (l:=3) (o:=2) rfl rfl 46 3).trans (zP [0,1,2,3,4,5] 0 (by simp) (by simp) (by simp[zK,zM,zF,gk,zAT]) (by simp[zAT,w64]))) ?_
   intro i hi;by_cases hiQ:i<D.slots.length
   ·have hwi:=zAz i (by omega);have hsn:=hsn i hiQ;have hln:=hln i hi;have hih:=hih i hiQ;generalize zAT g (TS.take i) (w64 (a+1))=R at hsn hln;simp[hiQ,jV hiQ,zK,zF,yK];intro _;refine zAn (hih R.2) (by simp[zK,zM,w64,zBx]) (by simp[zC]) ?_;simp[zDU,zC];refine⟨⟨by simp[maxLen]; omega,by omega⟩,?_⟩;exact zO (i+1) hiQ (by omega) (zP [0,1,2,3,4,5] 0 (by simp) (by simp) (by simp[zK,zM,zF,hsn]) (by simp[hwi,hsn]))
   ·have hiQ:i=D.slots.length:=by omega
    subst hiQ;have hln:=hln _ (jA _);rw[htk]at hln ⊢;generalize zAT g TS (w64 (a+1))=R at hln;simp[zF];exact fun _=>zA 1 (by simp[zC,hln,qV,qA,zR])
  ·have hlt:(atV l a 1048576).tmod ((dfn p t.id).slots.length:Int)=((atV l a 1048576) % ((dfn p t.id).slots.length:Int)):=jD2 hx.1;have hl1:=Int.emod_nonneg (atV l a 1048576) (show ((dfn p t.id).slots.length:Int)≠0 by omega);have hl2:=Int.emod_lt_of_pos (atV l a 1048576) (show (0:Int)<((dfn p t.id).slots.length:Int) by omega);obtain⟨Q,hQ⟩:∃Q:Nat,(atV l a 1048576).tmod ((dfn p t.id).slots.length:Int)=(Q:Int):=⟨((atV l a 1048576).tmod ((dfn p t.id).slots.length:Int)).toNat,by omega⟩;have hQl:Q<(dfn p t.id).slots.length:=by omega
   have e:zAi p l (f+1) t a d=(.mk 3 Q [(zAi p l f (dfn p t.id).slots[Q].typ (w64 (a+1)) (w64 (d+1))).1],(zAi p l f (dfn p t.id).slots[Q].typ (w64 (a+1)) (w64 (d+1))).2):=by rw[zAi,if_neg h0,if_neg h1,if_neg h2,if_pos gk,hQ];simp[hQl]
   rw[e];have hih:=zKs p hL l hl f (dfn p t.id).slots[Q].typ (w64 (a+1)) (w64 (d+1)) (g4 _ (jA3 hQl));clear e hlt hl1 hl2;generalize dfn p t.id=D at hD g1 g3 g4 gk hQl hih hQ;have hn0:¬D.slots=[]:=fun e=>by rw[e]at g1; simp at g1
   simp[zAS,hD,zF,gk,hn0,hQ,hQl,jV hQl,yK];intro _;refine zAn hih (by simp[zK,zM,w64,zBx]) (by simp[zC]) ?_;simp[zDU,zC];exact zA 1 (by simp[zC,qV,qA,zR])
def zHB (p:Prg)(t:Typ)(l:List Int):Val:=if 256<zDN (zAi p l 10 t 0 1).1∨24<zCq (zAi p l 10 t 0 1).1 then zAC p 5 t else (zAi p l 10 t 0 1).1
theorem zXW (p:Prg)(hL:p.defs.length≤1000000)(l:List Int)(hl:∀x∈l,w64 x=x)(t:Typ)(hf:Wf p 10 t)(hz:Wz p 5 t):Ret prog 14 [.agg (zK p),.agg (zM t),.sl l.length (zAl l)] [] (.agg (zC (zHB p t l))) []:=by
 refine zH Tryz.func14 rfl qOp (rs:=[.cell 6 3 true]) (by kernel_rfl) ?_;unfold qHe;simp[zK,zM];refine qE (zKs p hL l hl 10 t 0 1 hf) (by simp[zK,zM]) (by simp[zC]) ?_;have e:zHB p t l=if 256<zDN (zAi p l 10 t 0 1).1∨24<zCq (zAi p l 10 t 0 1).1 then zAC p 5 t else (zAi p l 10 t 0 1).1:=rfl
 generalize (zAi p l 10 t 0 1)=R at e;obtain⟨v,b⟩:=R;simp only at e;simp[zC];refine qE (zLE v) (by simp[zC]) (by simp) ?_;by_cases h1:256<zDN v
 ·rw[if_pos (.inl h1)]at e;rw[e];simp[h1];refine qE (zQI p hL 5 (by decide) t hz) (by simp[zK,zM]) (by simp[zC]) ?_;simp[zC];exact zA 0 (by simp[zC])
 ·simp[h1];refine qE (zJU v) (by simp[zC]) (by simp) ?_;by_cases h2:24<zCq v
  ·rw[if_pos (.inr h2)]at e;rw[e];simp[h2];refine qE (zQI p hL 5 (by decide) t hz) (by simp[zK,zM]) (by simp[zC]) ?_;simp[zC];exact zA 0 (by simp[zC])
  ·rw[if_neg (by simp[h1,h2])]at e;rw[e];simp[h2];exact zA 0 (by simp[zC])
@[simp] theorem qO6:zB prog 137=true:=by kernel_rfl
@[simp] theorem qOT:zB prog 85=true:=by kernel_rfl
@[simp] theorem qFR {σ : St}:zDf 2002 σ = σ:=rfl
theorem zVz.mono {hs:List Hd}{R:Nat}{c c' depth:Int}{Q Q':Nat→Prop}{len len':Nat}(h:zVz hs R c depth Q len)(hc:c≤c')(hQ:∀r,Q' r→Q r)(hl:len'≤len):zVz hs R c' depth Q' len' :=
 fun m r t env hx hm hr hq he h1 h2=>(h m r t env hx (hm.mono hc) hr (hQ r hq) he h1 (by omega)).mono hc
@[simp] theorem qLN:zB prog 86=true:=by kernel_rfl
@[simp] theorem qLP:zB prog 87=true:=by kernel_rfl
@[simp] theorem qLY:zB prog 88=true:=by kernel_rfl
@[simp] theorem qKQ {d:Option Nat}{x:Operand}{n:Nat}{g:Bool}{env:Env}:zBg 2001 (.ld d x n g) env=zB8 1 (ev env x):=propext (zGI (by omega) (by omega))
@[simp] theorem qEi {d:Option Nat}{x:Operand}{l:List Operand}{env:Env}:zBg 1001 (.call d x l) env=True:=rfl
@[simp] theorem qFQ {σ : St}:zDf 2001 σ = σ:=rfl
theorem zXS (e:Exp):tmps e=zI7 e.kids++[e.id.c]:=by cases e; simp only[tmps,Exp.kids,Exp.id]
mutual
def qK2 (f:Int→Id):Exp→Exp
 | .mk i k n r t ks ns=>.mk (f i.c) k n (if k=2∧r.b=0 then f r.c else r) t (qBC f ks) ns
def qBC (f:Int→Id):List Exp→List Exp
 | []=>[]
 | e::l=>qK2 f e::qBC f l
end
@[simp] theorem qP1:zB prog 125=true:=by kernel_rfl
@[simp] theorem qOX:zB prog 127=true:=by kernel_rfl
@[simp] theorem qLK:zB prog 141=true:=by kernel_rfl
@[simp] theorem qPf:zB prog 84=true:=by kernel_rfl
structure Pln where
 kind:Int
 name:ByteArray
 types:List Typ
 names:List ByteArray
 most:List Int
 out:Typ
 mod:Int
def zIU (p:Pln):List A:=[int p.kind,.lit (.string p.name),.sl p.types.length (jY p.types),.sl p.names.length (zAL p.names),.sl p.most.length (zAl p.most),int p.out.k,int p.out.id.a,int p.out.id.b,int p.out.id.c,.sl p.out.kids.length (jY p.out.kids),int p.mod]
theorem zHr (p:Pln):qJ (zIU p):=by have h1:=yO p.types;have h2:=zB2 p.names;have h3:=yO p.out.kids;exact⟨by simp[zIU,h1.1,h2.1,h3.1],fun rf g=>by simp[zIU,h1.2,h2.2,h3.2]⟩
def zFR (l:List Pln):List A:=l.flatMap zIU
theorem zHN (l:List Pln):qJ (zFR l):=zBl zHr l
@[simp] theorem qBw (l:List Pln):jF (zFR l)=zFR l:=(zHN l).1
@[simp] theorem qGh {rf g}(l:List Pln):vwL rf g (zFR l)=zFR l:=(zHN l).2 _ _
@[simp] theorem qC3:zFR []=[]:=rfl
@[simp] theorem qC2 (l:List Pln):(zFR l).length=l.length*11:=by rw[zFR,zBU (k:=11) (fun _=>rfl)]
@[simp] theorem qIK (d:Pln):(zIU d).length=11:=rfl
@[simp] theorem qIJ (d:Pln):(zIU d).take 11=zIU d:=jAk (jA _)
@[simp] theorem qEX (d:Pln)(l:List A):(zIU d++l).take 11=zIU d:=by rw[jBr (by simp)]; exact jAk (by simp)
@[simp] theorem qF3 (d:Pln):jF (zIU d)=zIU d:=(zHr d).1
@[simp] theorem qNo (d:Pln) {rf g}:vwL rf g (zIU d)=zIU d:=(zHr d).2 _ _
section
variable (l:List Int)(mods:Int)
end
theorem zSX {k:Int}(h0:0≤k)(h1:k≤1000000000000000):idR k=⟨0,1+k / 32,k % 32⟩:=by unfold idR;have e1:k.tdiv 32=k / 32:=tdN h0;have e2:k.tmod 32=k % 32:=tmN h0;have w1:=jT (k.tdiv 32) (by omega);rw[w1,e2];have w2:=jT (1+k.tdiv 32) (by omega);rw[w2,e1]
theorem zSW {k j:Int}(h0:0≤k)(h1:k≤1000000000000000)(g0:0≤j)(g1:j≤1000000000000000)(h:idR k=idR j):k=j:=by
 rw[zSX h0 h1,zSX g0 g1]at h;injection h with _ h2 h3
 omega
def qKM (next:Int)(p:Pln)(k:Nat):Slt:=⟨idR (next+k),p.names.getD k ⟨#[]⟩,p.types.getD k zAU,if p.kind=4 then p.most.getD k 0 else 0,k⟩
def zSl (next:Int)(p:Pln):List Slt:=(List.range p.types.length).map (qKM next p)
def qPO (mods next:Int)(i:Nat)(p:Pln):Dfn:=⟨idR (mods+i),p.kind,idR p.mod,p.name,zSl next p,p.out,Exp.zero,0,[]⟩
def qBs (mods:Int)(ps:List Pln):Nat→Int
 | 0=>mods+ps.length
 | i+1=>qBs mods ps i+(match ps[i]? with | some p=>(p.types.length:Int) | none=>0)
def zWb (mods:Int)(ps:List Pln):List Dfn:=ps.mapIdx fun i p=>qPO mods (qBs mods ps i) i p
@[simp] theorem qER (mods:Int)(ps:List Pln):(zWb mods ps).length=ps.length:=by simp[zWb]
@[simp] theorem qDZ (next:Int)(p:Pln):(zSl next p).length=p.types.length:=by simp[zSl]
section
variable (l:List Int)(mods:Int)(hm:1≤mods)(hm2:mods≤2)(hl:∀x∈l,w64 x=x)
include hm hm2 hl
end
def qJp (mods:Int)(ps:List Pln):List Hd:=(zWb mods ps).map Dfn.hd
@[simp] theorem qJq (mods:Int)(ps:List Pln):(qJp mods ps).length=ps.length:=by simp[qJp]
section
variable (l:List Int)(mods:Int)(hm:1≤mods)(hm2:mods≤2)(hl:∀x∈l,w64 x=x)
include hm hm2 hl
end
end Go.Proofs.YtdnelmeboihpkaaGreatDoor
namespace Go.Proofs.YtdnelmeboihpkaaGreatDoor
open Go.Abs
def Dfn.wb (d:Dfn)(e:Exp):Dfn:={d with body:=e}
@[simp] theorem Dfn.hd_wb (d:Dfn)(e:Exp):(d.wb e).hd=d.hd:=rfl
def zWq (d:Dfn):List Bnd:=d.slots.map fun s=>⟨s.id,0,s.typ⟩
@[simp] theorem qIU (d:Dfn):(zWq d).length=d.slots.length:=by simp[zWq]
@[simp] theorem qMy (d:Dfn)(e:Exp):zWq (d.wb e)=zWq d:=rfl
section
variable {l:List Int}{mods:Int}(hm:1≤mods)(hm2:mods≤2)(hl:∀x∈l,w64 x=x)
include hm hm2 hl
end
end Go.Proofs.YtdnelmeboihpkaaGreatDoor
namespace Go.Abs
end Go.Abs
namespace Go.Proofs.YtdnelmeboihpkaaGreatDoor
open Go.Abs
def qDW:List Id→Int→List Int→List Id
 | ids,_,[]=>ids
 | ids,next,c::cs=>qDW (ids.set c.toNat (idR next)) (next+1) cs
@[simp] theorem zXC:∀(cs:List Int) (ids:List Id) (next:Int),(qDW ids next cs).length=ids.length
 | [],_,_=>rfl
 | _::cs,ids,next=>by simp only[qDW]; rw[zXC cs,jBl]
def zHi (d:Dfn):Bool:=!(decide (d.kind=0)||decide (d.kind=1))
end Go.Proofs.YtdnelmeboihpkaaGreatDoor
namespace Go.Proofs.YtdnelmeboihpkaaGreatDoor
open Go.Abs
@[simp] theorem qPg:zB prog 37=true:=by kernel_rfl
abbrev qJc (p:Prg):=fin [RS.cell 2 2 true] (zHe 0 (.agg (zK p)) [])
end Go.Proofs.YtdnelmeboihpkaaGreatDoor
namespace Go.Abs
section
variable {d:Option Nat}{x i:Operand}{n f:Nat}{g:Bool}{env:Env}{l:List Operand}
@[simp] theorem qGa (h1:4000≤f):zBg f (.ld d x n g) env=zB8 (f-4000) (ev env x):=propext (zQA h1)
@[simp] theorem qEl (h1:4000≤f):zBg f (.idx d x i n) env=isRow (ev env x):=propext (zN0 h1)
@[simp] theorem qFZ {o:Nat}(h1:6<f):zBg f (.addr d x o) env=True:=by
 unfold zBg;split
 ·omega
 ·omega
 ·split
  ·rfl
  ·split
   ·rfl
   ·split<;>rfl
@[simp] theorem qEk (h1:6<f):zBg f (.call d x l) env=True:=by
 unfold zBg;split
 ·omega
 ·omega
 ·split
  ·rfl
  ·split
   ·rfl
   ·split<;>rfl
@[simp] theorem qNa {σ : St}(h1:2<f):zDf f σ = σ:=by unfold zDf; rw[if_neg (by omega),if_neg (by omega)]
end
end Go.Abs
namespace Go.Proofs.YtdnelmeboihpkaaGreatDoor
open Go.Abs
section
variable {N:Nat}{i:Id}{k n:Int}{r:Id}{t:Typ}{ks:List Exp}{ns:List ByteArray}
end
inductive TyV (p:Prg):Typ→Val→Prop
 | int (n:Int) (h1 : -1099511627776≤n) (h2:n≤1099511627776):TyV p zAU (.mk 0 n [])
 | bool (n:Int) (h:n=0∨n=1):TyV p zAc (.mk 1 n [])
 | list (t:Typ) (vs:List Val) (h:∀v∈vs,TyV p t v):TyV p (zDo t) (.mk 4 0 vs)
 | record (id:Id) (d:Dfn) (vs:List Val) (hd:qQ p.defs id=some d) (hk:d.kind=0) (hl:vs.length=d.slots.length) (h:∀(j:Nat) (hj:j<vs.length),TyV p (d.slots[j]'(hl▸hj)).typ vs[j]):TyV p (jP id) (.mk 2 0 vs)
 | case (id:Id) (d:Dfn) (n:Nat) (v:Val) (hd:qQ p.defs id=some d) (hk:d.kind=1) (hn:n<d.slots.length) (h:TyV p d.slots[n].typ v):TyV p (jP id) (.mk 3 n [v])
theorem TyV.int_inv {p:Prg}{v:Val}(h:TyV p zAU v):∃n:Int,v=.mk 0 n []∧-1099511627776≤n∧n≤1099511627776:=by
 generalize ht:zAU=t at h;cases h with
 | int n h1 h2=>exact⟨n,rfl,h1,h2⟩
 | _=>simp at ht
theorem TyV.bool_inv {p:Prg}{v:Val}(h:TyV p zAc v):∃n:Int,v=.mk 1 n []∧(n=0∨n=1):=by
 generalize ht:zAc=t at h;cases h with
 | bool n h=>exact⟨n,rfl,h⟩
 | _=>simp at ht
theorem TyV.list_inv {p:Prg}{u:Typ}{v:Val}(h:TyV p (zDo u) v):∃vs:List Val,v=.mk 4 0 vs∧∀x∈vs,TyV p u x:=by
 generalize ht:zDo u=t at h;cases h with
 | list t vs h =>
  simp only[Typ.mk.injEq,jB6,and_true,true_and]at ht;subst ht;exact⟨vs,rfl,h⟩
 | _=>simp at ht
theorem TyV.def_inv {p:Prg}{r:Id}{d:Dfn}{v:Val}(hd:qQ p.defs r=some d)(h:TyV p (jP r) v) :
 (d.kind=0∧∃(vs:List Val) (hl:vs.length=d.slots.length),v=.mk 2 0 vs∧∀(j:Nat) (hj:j<vs.length),TyV p (d.slots[j]'(hl▸hj)).typ vs[j]) ∨
 (d.kind=1∧∃(n:Nat) (x:Val) (hn:n<d.slots.length),v=.mk 3 n [x]∧TyV p d.slots[n].typ x):=by
 generalize ht:jP r=t at h;cases h with
 | record id d' vs hd' hk hl h =>
  simp only[Typ.mk.injEq,and_true,true_and]at ht;subst ht;rw[hd]at hd';cases hd';exact .inl ⟨hk,vs,hl,rfl,h⟩
 | case id d' n x hd' hk hn h =>
  simp only[Typ.mk.injEq,and_true,true_and]at ht;subst ht;rw[hd]at hd';cases hd';exact .inr ⟨hk,n,x,hn,rfl,h⟩
 | _=>simp at ht
inductive TyL (p:Prg):List Typ→List Val→Prop
 | nil:TyL p [] []
 | cons (t:Typ) (ts:List Typ) (v:Val) (vs:List Val) (h:TyV p t v) (hs:TyL p ts vs):TyL p (t::ts) (v::vs)
theorem TyL.len {p:Prg}{ts:List Typ}{vs:List Val}(h:TyL p ts vs):vs.length=ts.length:=by
 induction h with
 | nil=>rfl
 | cons _ _ _ _ _ _ ih=>simp[ih]
theorem TyL.get {p:Prg}{ts:List Typ}{vs:List Val}(h:TyL p ts vs):∀(j:Nat) (hj:j<vs.length) (hj':j<ts.length),TyV p ts[j] vs[j]:=by
 induction h with
 | nil=>intro j hj; simp at hj
 | cons t ts v vs h hs ih =>
  intro j hj hj';cases j with
  | zero=>exact h
  | succ j=>exact ih j (by simpa using hj) (by simpa using hj')
theorem TyL.of {p:Prg}:∀{ts:List Typ} {vs:List Val} (hl:vs.length=ts.length) (_:∀(j:Nat) (hj:j<vs.length),TyV p (ts[j]'(hl▸hj)) vs[j]),TyL p ts vs
 | [],[],_,_=>.nil
 | t::ts,v::vs,hl,h=>.cons t ts v vs (h 0 (by simp)) (TyL.of (by simpa using hl) fun j hj=>h (j+1) (by simpa using hj))
 | [],v::vs,hl,_=>by simp at hl
 | t::ts,[],hl,_=>by simp at hl
inductive OpT:Int→List Typ→Typ→Prop
 | arith (n:Int) (h1:0≤n) (h2:n≤4):OpT n [zAU,zAU] zAU
 | less:OpT 5 [zAU,zAU] zAc
 | same (u:Typ):OpT 6 [u,u] zAc
 | andor (n:Int) (h:n=7∨n=8):OpT n [zAc,zAc] zAc
 | not:OpT 9 [zAc] zAc
 | join (t:Typ):OpT 10 [zDo t,zDo t] (zDo t)
 | len (t:Typ):OpT 11 [zDo t] zAU
theorem TyL.one {p:Prg}{t:Typ}{vs:List Val}(h:TyL p [t] vs):∃a,vs=[a]∧TyV p t a:=by
 cases h with
 | cons _ _ v vs h hs=>cases hs; exact⟨v,rfl,h⟩
theorem TyL.two {p:Prg}{t u:Typ}{vs:List Val}(h:TyL p [t,u] vs):∃a b,vs=[a,b]∧TyV p t a∧TyV p u b:=by
 cases h with
 | cons _ _ v vs h hs =>
  obtain⟨b,rfl,hb⟩:=hs.one;exact⟨v,b,rfl,h,hb⟩
theorem zI8 {p:Prg}(b:Bool):TyV p zAc (zCb b):=.bool _ (by cases b<;>simp)
theorem zFT (n:Int) : -1099511627776≤zBS n∧zBS n≤1099511627776:=by
 unfold zBS;split
 ·omega
 ·split<;>omega
theorem zT0 {a b:Int}(h1 : -1099511627776≤a)(h2:a≤1099511627776) : -1099511627776≤a.tdiv b∧a.tdiv b≤1099511627776:=by have h:=Int.natAbs_tdiv_le_natAbs a b;omega
theorem zVa {a b:Int}(h1 : -1099511627776≤a)(h2:a≤1099511627776)(hm:a.tmod b≠0)(hb:b≠0) : -1099511627775≤a.tdiv b:=by
 have hn:a.natAbs / b.natAbs=(a.tdiv b).natAbs:=by rw[Int.natAbs_tdiv]; rfl
 have hb2:2≤b.natAbs:=by
  rcases jAq b.natAbs 2 with h | h
  ·exfalso;have:b=1∨b = -1:=by omega
   rcases this with rfl | rfl
   ·simp at hm
   ·exact hm (by rw[Int.tmod_neg,Int.tmod_one])
  ·exact h
 have:a.natAbs / b.natAbs≤a.natAbs / 2:=Nat.div_le_div_left hb2 (by omega);omega
theorem zRl {a:Int}(b:Int)(h1 : -1099511627776≤a)(h2:a≤1099511627776) : -1099511627776≤zIR a b∧zIR a b≤1099511627776:=by
 unfold zIR;have h:=zT0 (b:=b) h1 h2;split
 ·omega
 ·rename_i hb;split
  ·rename_i hc;have:=zVa h1 h2 hc.1 hb;omega
  ·omega
theorem zZ8 (a b:Int):zOu a b=if b=0 then 0 else if a.tmod b≠0∧¬(a<0↔b<0) then a.tmod b+b else a.tmod b:=by
 unfold zOu zIR;by_cases hb:b=0
 ·simp[hb]
 ·rw[if_neg hb,if_neg hb,if_neg hb];have:=Int.mul_tdiv_add_tmod a b;split
  ·rw[Int.mul_sub]; omega
  ·omega
theorem zLH {a b:Int}(h1 : -1099511627776≤b)(h2:b≤1099511627776) : -1099511627776≤zOu a b∧zOu a b≤1099511627776:=by
 rw[zZ8];by_cases hb:b=0
 ·simp[hb]
 ·rw[if_neg hb];have h3:(a.tmod b).natAbs<b.natAbs:=by rw[Int.natAbs_tmod]; exact Nat.mod_lt _ (by omega)
  have h4:0≤a→0≤a.tmod b:=Int.tmod_nonneg b;have h5:a<0→a.tmod b≤0:=fun h=>by have:=Int.tmod_nonneg (a:=-a) b (by omega);rw[Int.neg_tmod]at this;omega
  split<;>omega
theorem zRS {n a b:Int}(a1 : -1099511627776≤a)(a2:a≤1099511627776)(b1 : -1099511627776≤b)(b2:b≤1099511627776) : -1099511627776≤zMn n a b∧zMn n a b≤1099511627776:=by
 unfold zMn;split
 ·exact zFT _
 ·split
  ·exact zFT _
  ·split
   ·exact zFT _
   ·split
    ·exact zRl b a1 a2
    ·exact zLH b1 b2
theorem zDP:∀(l:List Val),l.length≤qS l
 | []=>by simp[qS]
 | .mk _ _ l'::l=>by have:=zDP l; simp only[jAl,qS,zW]; omega
theorem zWY {v:Val}(h:zW v≤256):v.kids.length≤255:=by
 cases v with
 | mk k n l =>
  have:=zDP l;simp only[zW]at h;simp only[Val.kids];omega
theorem qKu {p:Prg}{n:Int}{ts:List Typ}{t:Typ}(h:OpT n ts t){vs:List Val}(hv:TyL p ts vs)(hs:∀v∈vs,zW v≤256):TyV p t (opV n vs)∧zW (opV n vs)≤1000:=by
 cases h with
 | arith n h1 h2 =>
  obtain⟨a,b,rfl,ha,hb⟩:=hv.two;obtain⟨x,rfl,x1,x2⟩:=ha.int_inv;obtain⟨y,rfl,y1,y2⟩:=hb.int_inv;simp only[opV,if_pos h2];have:=zRS (n:=n) x1 x2 y1 y2;exact⟨.int _ this.1 this.2,by simp[zW,qS]⟩
 | less =>
  obtain⟨a,b,rfl,ha,hb⟩:=hv.two;exact⟨zI8 _,by simp[opV,zCb,zW,qS]⟩
 | same u =>
  obtain⟨a,b,rfl,ha,hb⟩:=hv.two;exact⟨zI8 _,by simp[opV,zCb,zW,qS]⟩
 | andor n h =>
  obtain⟨a,b,rfl,ha,hb⟩:=hv.two;rcases h with rfl | rfl<;>exact⟨zI8 _,by simp[opV,zCb,zW,qS]⟩
 | not =>
  obtain⟨a,rfl,ha⟩:=hv.one;exact⟨zI8 _,by simp[opV,zCb,zW,qS]⟩
 | join t =>
  obtain⟨a,b,rfl,ha,hb⟩:=hv.two;obtain⟨x,rfl,hx⟩:=ha.list_inv;obtain⟨y,rfl,hy⟩:=hb.list_inv;refine⟨.list _ _ fun v hv=>?_,?_⟩
  ·rcases jAe.1 hv with h | h
   ·exact hx v h
   ·exact hy v h
  ·have h1:=hs (.mk 4 0 x) (by simp);have h2:=hs (.mk 4 0 y) (by simp);simp only[zW]at h1 h2;simp[opV,Val.kids,zW,zCn];omega
 | len t =>
  obtain⟨a,rfl,ha⟩:=hv.one;have:=zWY (hs a (by simp));exact⟨.int _ (by omega) (by omega),by simp[opV,zW,qS]⟩
inductive WE (p:Prg):List Bnd→Exp→Typ→Prop
 | int (env i n r u ns) (h1 : -1099511627776≤n) (h2:n≤1099511627776):WE p env (.mk i 0 n r u [] ns) zAU
 | bool (env i n r u ns) (h:n=0∨n=1):WE p env (.mk i 1 n r u [] ns) zAc
 | var (env i n r u ns t) (h:zC7 env r n=some t):WE p env (.mk i 2 n r u [] ns) t
 | call (env i n r u ks ns) (hn:ks.length≤32768) (d:Dfn) (hd:qQ p.defs r=some d) (hk:d.kind=2) (hl:ks.length=(d.slots.map Slt.typ).length) (hw:∀(j:Nat) (hj:j<ks.length),WE p env ks[j] ((d.slots.map Slt.typ)[j]'(hl▸hj))) :
  WE p env (.mk i 3 n r u ks ns) d.res
 | op (env i n r u ks ns) (hn:ks.length≤32768) (ts:List Typ) (t:Typ) (ho:OpT n ts t) (hl:ks.length=ts.length) (hw:∀(j:Nat) (hj:j<ks.length),WE p env ks[j] (ts[j]'(hl▸hj))):WE p env (.mk i 4 n r u ks ns) t
 | ite (env i n r u a b c ns t) (ha:WE p env a zAc) (hb:WE p env b t) (hc:WE p env c t):WE p env (.mk i 5 n r u [a,b,c] ns) t
 | lets (env i n r u a b ns v t) (hf:∀x∈env,x.id≠i) (ha:WE p env a v) (hb:WE p (env++[⟨i,0,v⟩]) b t):WE p env (.mk i 6 n r u [a,b] ns) t
 | record (env i n r u ks ns) (hn:ks.length≤32768) (d:Dfn) (hd:qQ p.defs r=some d) (hk:d.kind=0) (hl:ks.length=(d.slots.map Slt.typ).length) (hw:∀(j:Nat) (hj:j<ks.length),WE p env ks[j] ((d.slots.map Slt.typ)[j]'(hl▸hj))) :
  WE p env (.mk i 7 n r u ks ns) (jP r)
 | field (env i r u a ns) (d:Dfn) (j:Nat) (hd:qQ p.defs r=some d) (hk:d.kind=0) (hj:j<d.slots.length) (ha:WE p env a (jP r)):WE p env (.mk i 8 j r u [a] ns) d.slots[j].typ
 | case (env i r u a ns) (d:Dfn) (j:Nat) (hd:qQ p.defs r=some d) (hk:d.kind=1) (hj:j<d.slots.length) (ha:WE p env a d.slots[j].typ):WE p env (.mk i 9 j r u [a] ns) (jP r)
 | mtch (env i n r u a ks ns) (d:Dfn) (t:Typ) (hf:∀x∈env,x.id≠i) (hd:qQ p.defs r=some d) (hk:d.kind=1) (hl:ks.length=d.slots.length) (ha:WE p env a (jP r))
  (hw:∀(j:Nat) (hj:j<ks.length),WE p (env++[⟨i,j,(d.slots[j]'(hl▸hj)).typ⟩]) ks[j] t):WE p env (.mk i 10 n r u (a::ks) ns) t
 | list (env i n r u ks ns t) (hn:ks.length≤32768) (hw:∀(j:Nat) (hj:j<ks.length),WE p env ks[j] t):WE p env (.mk i 11 n r u ks ns) (zDo t)
 | fold (env i n r u l s b ns v t) (hf:∀x∈env,x.id≠i) (hl:WE p env l (zDo v)) (hs:WE p env s t) (hb:WE p (env++[⟨i,0,v⟩]++[⟨i,1,t⟩]) b t):WE p env (.mk i 12 n r u [l,s,b] ns) t
theorem zLs (B:List Bnd)(b:Bnd)(x:Id)(n:Int):zC7 (B++[b]) x n=if b.id=x∧b.n=n then some b.typ else zC7 B x n:=by
 unfold zC7;rw[List.reverse_append,List.reverse_singleton,jCv,jD8];by_cases h1:b.id=x
 ·by_cases h2:b.n=n<;>simp[h1,h2]
 ·simp[h1]
inductive EnvT (p:Prg):List Bnd→List EVar→Prop
 | nil:EnvT p [] []
 | snoc (B:List Bnd) (V:List EVar) (b:Bnd) (v:EVar) (h:EnvT p B V) (hi:v.id=b.id) (hn:v.n=b.n) (ht:TyV p b.typ v.v) (hz:zW v.v≤256):EnvT p (B++[b]) (V++[v])
theorem EnvT.find {p:Prg}{B:List Bnd}{V:List EVar}(h:EnvT p B V){x:Id}{n:Int}{t:Typ}:zC7 B x n=some t→TyV p t (zCH V x n)∧zW (zCH V x n)≤256:=by
 induction h with
 | nil=>intro h; simp[zC7]at h
 | snoc B V b v h hi hn ht hz ih =>
  rw[zLs,zKY,hi,hn];split
  ·intro e; cases e; exact⟨ht,hz⟩
  ·exact ih
theorem EnvT.push {p:Prg}{B:List Bnd}{V:List EVar}(h:EnvT p B V){i:Id}{n:Int}{t:Typ}{v:Val}(ht:TyV p t v∧zW v≤256):EnvT p (B++[⟨i,n,t⟩]) (V++[⟨i,n,v⟩]):=.snoc _ _ _ _ h rfl rfl ht.1 ht.2
theorem EnvT.len {p:Prg}{B:List Bnd}{V:List EVar}(h:EnvT p B V):V.length=B.length:=by
 induction h with
 | nil=>rfl
 | snoc _ _ _ _ _ _ _ _ _ ih=>simp[ih]
theorem EnvT.ids {p:Prg}{B:List Bnd}{V:List EVar}(h:EnvT p B V){i:Id}:(∀b∈B,b.id≠i)→∀v∈V,v.id≠i:=by
 induction h with
 | nil=>simp
 | snoc B V b v h hi hn ht hz ih =>
  intro hb x hx;rcases jAe.1 hx with hx | hx
  ·exact ih (fun y hy=>hb y (jBf _ hy)) x hx
  ·rw[jAh.1 hx,hi];exact hb b (by simp)
theorem EnvT.args {p:Prg}:∀{ss:List Slt} {vs:List Val},TyL p (ss.map Slt.typ) vs→(∀v∈vs,zW v≤256)→EnvT p (ss.map fun s=>⟨s.id,0,s.typ⟩) (zC2 ss vs):=by
 intro ss;induction ss using zGH with
 | nil =>
  intro vs h _;cases h;exact .nil
 | snoc ss s ih =>
  intro vs h hz;have hl:=h.len;simp only[jB2,jA7,jC2]at hl;obtain⟨ws,w,rfl⟩:∃ws w,vs=ws++[w]:=⟨vs.dropLast,vs.getLast (fun e=>by rw[e]at hl; simp at hl),(List.dropLast_concat_getLast _).symm⟩;simp only[jA7,jC2]at hl;have h1:TyL p (ss.map Slt.typ) ws:=TyL.of (by simp; omega) fun j hj=>by have:=h.get j (by simp; omega) (by simp; omega);rw[jBt hj]at this;rw[jBn]at this ⊢;rw[jBt (by omega)]at this;exact this
  have h2:TyV p s.typ w:=by
   have:=h.get ss.length (by simp; omega) (by simp);rw[jCw (by omega)]at this
   simpa [show ss.length-ws.length=0 by omega] using this
  have e:zC2 (ss++[s]) (ws++[w])=zC2 ss ws++[⟨s.id,0,w⟩]:=by unfold zC2;rw[List.zipWith_append (by omega)];rfl
  rw[e,jCk];exact(ih h1 fun v hv=>hz v (jBf _ hv)).push ⟨h2,hz w (by simp)⟩
def zT7 (p:Prg):Prop:=∀(r:Id) (d:Dfn),qQ p.defs r=some d→zHi d=true→WE p (zWq d) d.body d.res
section
variable {p:Prg}{ev:Evl}
def zDS (ev:Evl):Prop:=∀e V s,s.fail≠0→ev e V s=(vz,s)
def Snd (p:Prg)(ev:Evl):Prop:=∀e B V s t,WE p B e t→EnvT p B V→(ev e V s).2.fail=0→TyV p t (ev e V s).1∧zW (ev e V s).1≤256
theorem zEy (h:zDS ev)(V:List EVar):∀(l:List Exp) (s:XS),s.fail≠0→(qX ev V l s).2=s
 | [],s,_=>rfl
 | e::l,s,hs=>by simp only[qX,h e V s hs]; exact zEy h V l s hs
theorem zNB (h:zDS ev){V:List EVar}{e:Exp}{l:List Exp}{s:XS}(hs:(qX ev V (e::l) s).2.fail=0):(ev e V s).2.fail=0:=by
 by_cases hf:(ev e V s).2.fail=0
 ·exact hf
 ·simp only[qX]at hs;rw[zEy h V l _ hf]at hs;exact hs
theorem zDG (h:zDS ev)(V:List EVar)(i:Id)(b:Exp):∀(l:List Val) (r:Val×XS),r.2.fail≠0→(yL ev V i b l r).2=r.2
 | [],r,_=>rfl
 | x::l,r,hs=>by simp only[yL,h _ _ _ hs];exact zDG h V i b l _ hs
theorem zES (h:zDS ev)(k:Snd p ev){B:List Bnd}{V:List EVar}(hV:EnvT p B V):∀(l:List Exp) (ts:List Typ) (s:XS) (hl:l.length=ts.length),(∀(j:Nat) (hj:j<l.length),WE p B l[j] (ts[j]'(hl▸hj))) →
 (qX ev V l s).2.fail=0→TyL p ts (qX ev V l s).1∧∀v∈(qX ev V l s).1,zW v≤256
 | [],[],s,_,_,_=>⟨.nil,by simp[qX]⟩
 | [],t::ts,s,hl,_,_=>by simp at hl
 | e::l,[],s,hl,_,_=>by simp at hl
 | e::l,t::ts,s,hl,hw,hs=>by
  have h1:=k e B V s t (hw 0 (by simp)) hV (zNB h hs);have h2:=zES h k hV l ts (ev e V s).2 (by simpa using hl) (fun j hj=>hw (j+1) (by simpa using hj)) (by simpa only[qX] using hs);simp only[qX];refine⟨.cons _ _ _ _ h1.1 h2.1,fun v hv=>?_⟩;rcases jA5.1 hv with rfl | hv
  ·exact h1.2
  ·exact h2.2 v hv
theorem zLc (h:zDS ev)(k:Snd p ev){B:List Bnd}{V:List EVar}(hV:EnvT p B V){i:Id}{b:Exp}{u t:Typ}(hb:WE p (B++[⟨i,0,u⟩]++[⟨i,1,t⟩]) b t):∀(l:List Val) (r:Val×XS),(∀x∈l,TyV p u x∧zW x≤256) →
 (r.2.fail=0→TyV p t r.1∧zW r.1≤256)→(yL ev V i b l r).2.fail=0→TyV p t (yL ev V i b l r).1∧zW (yL ev V i b l r).1≤256
 | [],r,_,hr,hs=>hr hs
 | x::l,r,hl,hr,hs=>by
  simp only[yL]at hs ⊢;have h0:r.2.fail=0:=by
   by_cases hf:r.2.fail=0
   ·exact hf
   ·have e:=zDG h V i b l (vz,r.2) hf;rw[h _ _ _ hf,e]at hs;exact hs
  exact zLc h k hV hb l _ (fun y hy=>hl y (jAg _ hy)) (fun hf=>k b _ _ _ t hb ((hV.push (hl x (by simp))).push (hr h0)) hf) hs
theorem zDg {c:Bool}{s:XS}{v:Val}(h:s.fail=0):zf c s v=v:=by simp[zf,h]
theorem zXH {v:Val}(h:zW v≤10000000)(hb:¬zHJ v):zW v≤256:=by have h1:=zJt v (by omega);unfold zHJ at hb;omega
theorem zEA {v x:Val}(h:zW v≤256)(hx:x∈v.kids):zW x≤256:=by have:=zAB hx; omega
theorem zQ5 {l:List Val}(h:∀v∈l,zW v≤256)(hl:l.length≤32768):qS l≤8388608:=by have:=zEN h;have:l.length*256≤32768*256:=jB7 _ hl;omega
theorem up {t:Typ}{v:Val}(h:TyV p t v∧zW v≤256):TyV p t v∧zW v≤10000000:=⟨h.1,by omega⟩
theorem zQC (hp:zT7 p)(fl:Nat)(h:zDS ev)(k:Snd p ev){e:Exp}{B:List Bnd}{V:List EVar}{s:XS}{t:Typ}(he:WE p B e t)(hV:EnvT p B V)(hs:(qN p fl ev e V s).2.fail=0):TyV p t (qN p fl ev e V s).1∧zW (qN p fl ev e V s).1≤10000000:=by
 cases he with
 | int _ i n r u ns h1 h2=>exact⟨.int n h1 h2,by simp[qN,zW,qS]⟩
 | bool _ i n r u ns h=>exact⟨.bool n h,by simp[qN,zW,qS]⟩
 | var _ i n r u ns _ h =>
  have:=hV.find h;exact⟨this.1,by simp only[qN]; simp; omega⟩
 | call _ i n r u ks ns hn d hd hk hl hw =>
  have e:qN p fl ev (.mk i 3 n r u ks ns) V s=zBv ev d (qX ev V ks s).1 (qX ev V ks s).2:=by simp[qN,dfn,hd]
  rw[e]at hs ⊢;unfold zBv at hs ⊢;by_cases hf:(qX ev V ks s).2.fail=0
  ·rw[if_neg (by simp[hf])]at hs ⊢;have ha:=zES h k hV ks _ s hl hw hf;exact up (k _ _ _ _ _ (hp r d hd (by simp[zHi,hk])) (EnvT.args ha.1 ha.2) hs)
  ·rw[if_pos hf]at hs;exact(hf hs).elim
 | op _ i n r u ks ns hn ts _ ho hl hw =>
  have e:qN p fl ev (.mk i 4 n r u ks ns) V s=(zf true (qX ev V ks s).2 (opV n (qX ev V ks s).1),(qX ev V ks s).2):=by simp[qN]
  rw[e]at hs ⊢;have ha:=zES h k hV ks _ s hl hw hs;rw[zDg hs];have:=qKu ho ha.1 ha.2;exact⟨this.1,by simp only; omega⟩
 | record _ i n r u ks ns hn d hd hk hl hw =>
  have e:qN p fl ev (.mk i 7 n r u ks ns) V s=(zf (fl==1) (qX ev V ks s).2 (.mk 2 0 (qX ev V ks s).1),(qX ev V ks s).2):=by simp[qN]
  rw[e]at hs ⊢;obtain⟨ha,hz⟩:=zES h k hV ks _ s hl hw hs;rw[zDg hs];have hlen:=ha.len;rw[jB2]at hlen;refine⟨.record _ d _ hd hk hlen fun j hj=>?_,by have:=zQ5 hz (by rw[zAE]; exact hn); simp only[zW]; omega⟩;have:=ha.get j hj (by rw[jB2]; omega)
  rwa [jBn]at this
 | case _ i r u a ns d j hd hk hj ha =>
  have e:qN p fl ev (.mk i 9 j r u [a] ns) V s=(zf (fl==1) (ev a V s).2 (.mk 3 j [(ev a V s).1]),(ev a V s).2):=by simp[qN,qX]
  rw[e]at hs ⊢;rw[zDg hs];have:=k a B V s _ ha hV hs;exact⟨.case _ d j _ hd hk hj this.1,by simp only[zW,qS]; omega⟩
 | list _ i n r u ks ns t hn hw =>
  have e:qN p fl ev (.mk i 11 n r u ks ns) V s=(zf (fl==1) (qX ev V ks s).2 (.mk 4 0 (qX ev V ks s).1),(qX ev V ks s).2):=by simp[qN]
  rw[e]at hs ⊢;obtain⟨ha,hz⟩:=zES h k hV ks (List.replicate ks.length t) s (by simp) (fun j hj=>by rw[List.getElem_replicate]; exact hw j hj) hs;rw[zDg hs];refine⟨.list _ _ fun v hv=>?_,by have:=zQ5 hz (by rw[zAE]; exact hn); simp only[zW]; omega⟩;obtain⟨j,hj,rfl⟩:=jAo hv;have:=ha.get j hj (by rw[←ha.len]; exact hj)
  rwa [List.getElem_replicate]at this
 | ite _ i n r u a b c ns _ ha hb hc =>
  have e:qN p fl ev (.mk i 5 n r u [a,b,c] ns) V s=if (ev a V s).2.fail≠0 then (vz,(ev a V s).2) else ev ([a,b,c].getD (if (ev a V s).1.n=1 then 1 else 2) .zero) V (ev a V s).2:=by simp[qN,yY]
  rw[e]at hs ⊢;by_cases hf:(ev a V s).2.fail=0
  ·rw[if_neg (by simp[hf])]at hs ⊢;by_cases hn:(ev a V s).1.n=1
   ·simp only[if_pos hn]at hs ⊢;exact up (k b B V _ _ hb hV hs)
   ·simp only[if_neg hn]at hs ⊢;exact up (k c B V _ _ hc hV hs)
  ·rw[if_pos hf]at hs;exact(hf hs).elim
 | lets _ i n r u a b ns v _ hfr ha hb =>
  have e:qN p fl ev (.mk i 6 n r u [a,b] ns) V s=if (ev a V s).2.fail≠0 then (vz,(ev a V s).2) else ev b (V++[⟨i,0,(ev a V s).1⟩]) (ev a V s).2:=by simp[qN,yY]
  rw[e]at hs ⊢;by_cases hf:(ev a V s).2.fail=0
  ·rw[if_neg (by simp[hf])]at hs ⊢;exact up (k b _ _ _ _ hb (hV.push (k a B V s _ ha hV hf)) hs)
  ·rw[if_pos hf]at hs;exact(hf hs).elim
 | field _ i r u a ns d j hd hk hj ha =>
  have e:qN p fl ev (.mk i 8 j r u [a] ns) V s=if (ev a V s).2.fail≠0 then (vz,(ev a V s).2) else ((ev a V s).1.kids.getD j vz,(ev a V s).2):=by simp[qN,yY]
  rw[e]at hs ⊢;by_cases hf:(ev a V s).2.fail=0
  ·rw[if_neg (by simp[hf])]at hs ⊢;obtain⟨hty,hz⟩:=k a B V s _ ha hV hf;rcases hty.def_inv hd with ⟨_,vs,hl,h1,h2⟩ | ⟨h1,_⟩
   ·rw[h1]at hz ⊢;have hjl:j<vs.length:=by omega
    simp only[Val.kids,jBk,jA2 hjl,jBg];exact up ⟨h2 j hjl,zEA hz (jA3 hjl)⟩
   ·omega
  ·rw[if_pos hf]at hs;exact(hf hs).elim
 | mtch _ i n r u a ks ns d _ hfr hd hk hl ha hw =>
  have e:qN p fl ev (.mk i 10 n r u (a::ks) ns) V s=if (ev a V s).2.fail≠0 then (vz,(ev a V s).2) else ev ((a::ks).getD (1+(ev a V s).1.n).toNat .zero) (V++[⟨i,(ev a V s).1.n,(ev a V s).1.kids.headD vz⟩]) (ev a V s).2:=by simp[qN,yY]
  rw[e]at hs ⊢;by_cases hf:(ev a V s).2.fail=0
  ·rw[if_neg (by simp[hf])]at hs ⊢;obtain⟨hty,hz⟩:=k a B V s _ ha hV hf;rcases hty.def_inv hd with ⟨h1,_⟩ | ⟨_,m,x,hm,h1,h2⟩
   ·omega
   ·have hmk:m<ks.length:=by omega
    have e2:(1+(m:Int)).toNat=m+1:=by omega
    rw[h1]at hs hz ⊢;simp only[Val.n,Val.kids,jD9,e2,List.getD_cons_succ,jBk,jBb,jA2 hmk,jBg]at hs ⊢;exact up (k _ _ _ _ _ (hw m hmk) (hV.push ⟨h2,zEA hz (by simp[Val.kids])⟩) hs)
  ·rw[if_pos hf]at hs;exact(hf hs).elim
 | fold _ i n r u l s' b ns v _ hfr hl' hs' hb =>
  have e:qN p fl ev (.mk i 12 n r u [l,s',b] ns) V s=if (ev l V s).2.fail≠0 then (vz,(ev l V s).2) else yL ev V i b (ev l V s).1.kids (ev s' V (ev l V s).2):=by simp[qN,yY]
  rw[e]at hs ⊢;by_cases hf:(ev l V s).2.fail=0
  ·rw[if_neg (by simp[hf])]at hs ⊢;obtain⟨hty,hz⟩:=k l B V s _ hl' hV hf;obtain⟨vs,h1,h2⟩:=hty.list_inv;rw[h1]at hs hz ⊢;exact up (zLc h k hV hb vs _ (fun x hx=>⟨h2 x hx,zEA hz hx⟩) (fun hg=>k s' B V _ _ hs' hV hg) hs)
  ·rw[if_pos hf]at hs;exact(hf hs).elim
theorem zBn (p:Prg)(fl:Nat):∀m,zDS (qH p fl m)
 | 0=>fun e V s h=>by rw[qH,if_pos h]
 | m+1=>fun e V s h=>by rw[qH,if_pos h]
theorem zEC (hp:zT7 p)(fl:Nat):∀m,Snd p (qH p fl m)
 | 0=>fun e B V s t he hV hs=>by
  rw[qH]at hs;split at hs
  ·rename_i h; exact(h hs).elim
  ·simp[zE1]at hs
 | m+1=>fun e B V s t he hV hs=>by
  rw[qH]at hs ⊢;split at hs
  ·rename_i h; exact(h hs).elim
  ·split at hs
   ·simp[zE1]at hs
   ·rename_i h1 h2;rw[if_neg h1,if_neg h2];simp only[zPn]at hs ⊢;have hk:zCF (qN p fl (qH p fl m) e V (zAF e s))=(qN p fl (qH p fl m) e V (zAF e s)).2∧(qN p fl (qH p fl m) e V (zAF e s)).2.fail=0∧¬zHJ (qN p fl (qH p fl m) e V (zAF e s)).1:=by
     unfold zCF at hs ⊢;split at hs
     ·simp[zNM]at hs
     ·rename_i h3;rw[if_neg h3];exact⟨rfl,hs,fun hb=>h3 ⟨hs,hb⟩⟩
    rw[zDg hs];have:=zQC hp fl (zBn p fl m) (zEC hp fl m) he hV hk.2.1;exact⟨this.1,zXH this.2 hk.2.2⟩
end
structure Gm where
 at_:Int
 next:Int
def Gm.tick (m:Gm):Gm:=⟨m.at_+1,m.next⟩
def yP (m:Gm)(k n:Int)(r:Id)(ks:List Exp):Exp×Gm:=(.mk (idR m.next) k n r .zero ks [],⟨m.at_,m.next+1⟩)
def zMh (m:Gm)(k:Nat)(d s:Id):Exp×Gm:=yP (yP m 2 0 s []).2 8 k d [(yP m 2 0 s []).1]
def zFG (n:Nat)(x:Int)(i:Nat):Nat:=(i+x.toNat) % n
def zGZ (ss:List Slt)(t x:Int):Option Nat :=
 if 4<x then ((List.range ss.length).find? fun i=>match ss[zFG ss.length x i]? with | some s=>decide (s.typ.k=t) | none=>false).map (zFG ss.length x) else none
theorem zLa {ss:List Slt}{t x:Int}{k:Nat}(h:zGZ ss t x=some k):∃s,ss[k]?=some s∧s.typ.k=t:=by
 unfold zGZ at h;split at h
 ·rw[jAa]at h;obtain⟨i,h1,rfl⟩:=h;have h2:=jDa h1;split at h2
  ·exact⟨_,by assumption,by simpa using h2⟩
  ·cases h2
 ·cases h
section
variable (l:List Int)
def gN (m:Gm)(n:Int):Int:=atV l m.at_ n
def zGd (t:Int)(m:Gm):Exp×Gm:=if t=1 then yP m.tick 1 (gN l m 2) Id.zero [] else yP m.tick 0 (gN l m 4-1) Id.zero []
def zUd (f:Gm→Exp×Gm)(m:Gm)(n:Int):Exp×Gm:=yP (f (f m).2).2 4 n Id.zero [(f m).1,(f (f m).2).1]
def gIf (f g:Gm→Exp×Gm)(m:Gm):Exp×Gm:=yP (g (g (f m).2).2).2 5 0 Id.zero [(f m).1,(g (f m).2).1,(g (g (f m).2).2).1]
def zFj (d:Dfn)(s:Id)(t:Int)(m:Gm):Exp×Gm :=
 match zGZ d.slots t (gN l m 12)with
 | some k=>zMh m.tick k d.id s
 | none=>zGd l t m.tick
def zAM (d:Dfn)(s:Id):Nat→Int→Gm→Exp×Gm
 | 0,t,m=>zFj l d s t m
 | n+1,t,m =>
  match zGZ d.slots t (gN l m 12)with
  | some k=>zMh m.tick k d.id s
  | none =>
   if gN l m 12<3∧t=0 then zUd (zAM d s n t) m.tick (gN l m 12)
   else if gN l m 12<2 then zUd (zAM d s n t) m.tick (7+gN l m 12)
   else if gN l m 12=3 then gIf (zFj l d s 1) (zAM d s n t) m.tick
   else zGd l t m.tick
def zGL (to from_:Dfn)(s:Id)(i:Nat)(m:Gm):Exp×Gm :=
 match to.slots[i]?,from_.slots[i]? with
 | some u,some v=>if v.typ.k=u.typ.k then (if 0<gN l m 3 then zMh m.tick i from_.id s else zAM l from_ s 2 u.typ.k m.tick) else zAM l from_ s 2 u.typ.k m
 | some u,none=>zAM l from_ s 2 u.typ.k m
 | none,_=>(.zero,m)
def zBW (to from_:Dfn)(s:Id):Nat→Gm→List Exp×Gm
 | 0,m=>([],m)
 | n+1,m=>((zBW to from_ s n m).1++[(zGL l to from_ s n (zBW to from_ s n m).2).1],(zGL l to from_ s n (zBW to from_ s n m).2).2)
def zFk (to from_:Dfn)(s:Id)(m:Gm):Exp×Gm:=yP (zBW l to from_ s to.slots.length m).2 7 0 to.id (zBW l to from_ s to.slots.length m).1
theorem zE4 (to from_:Dfn)(s:Id)(m:Gm):∀n,(zBW l to from_ s n m).1.length=n
 | 0=>rfl
 | n+1=>by simp[zBW,zE4 to from_ s m n]
def tK (t:Int):Typ:=if t=1 then zAc else zAU
structure Flat (p:Prg)(d:Dfn):Prop where
 find:qQ p.defs d.id=some d
 kind:d.kind=0
 flat:∀s∈d.slots,s.typ=zAU∨s.typ=zAc
 few:d.slots.length≤6
theorem Flat.typ {p:Prg}{d:Dfn}(h:Flat p d){s:Slt}(hs:s∈d.slots):s.typ=tK s.typ.k∧(s.typ.k=0∨s.typ.k=1):=by rcases h.flat s hs with e | e<;>rw[e]<;>simp[tK,Typ.k]
end
def zOC (p:Prg)(t:Typ):Prop:=t=zAU∨t=zAc∨∃d,Flat p d∧t=jP d.id
inductive WF (p:Prg)(B:List Bnd):Exp→Typ→Prop
 | int (i n r u ns) (h1 : -1099511627776≤n) (h2:n≤1099511627776):WF p B (.mk i 0 n r u [] ns) zAU
 | bool (i n r u ns) (h:n=0∨n=1):WF p B (.mk i 1 n r u [] ns) zAc
 | var (i n r u ns t) (h:zC7 B r n=some t) (ht:zOC p t):WF p B (.mk i 2 n r u [] ns) t
 | arith (i n r u a b ns) (h1:0≤n) (h2:n≤4) (ha:WF p B a zAU) (hb:WF p B b zAU):WF p B (.mk i 4 n r u [a,b] ns) zAU
 | andor (i n r u a b ns) (h:n=7∨n=8) (ha:WF p B a zAc) (hb:WF p B b zAc):WF p B (.mk i 4 n r u [a,b] ns) zAc
 | ite (i n r u a b c ns t) (ha:WF p B a zAc) (hb:WF p B b t) (hc:WF p B c t):WF p B (.mk i 5 n r u [a,b,c] ns) t
 | record (i n r u ks ns) (hn:ks.length≤32768) (d:Dfn) (hd:Flat p d) (hr:d.id=r) (hl:ks.length=(d.slots.map Slt.typ).length) (hw:∀(j:Nat) (hj:j<ks.length),WF p B ks[j] ((d.slots.map Slt.typ)[j]'(hl▸hj))) :
  WF p B (.mk i 7 n r u ks ns) (jP r)
 | field (i r u a ns) (d:Dfn) (j:Nat) (hd:Flat p d) (hr:d.id=r) (hj:j<d.slots.length) (ha:WF p B a (jP r)):WF p B (.mk i 8 j r u [a] ns) d.slots[j].typ
theorem WF.flat {p:Prg}{B:List Bnd}{e:Exp}{t:Typ}(h:WF p B e t):zOC p t:=by
 induction h with
 | int=>exact .inl rfl
 | bool=>exact .inr (.inl rfl)
 | var _ _ _ _ _ _ _ ht=>exact ht
 | arith=>exact .inl rfl
 | andor=>exact .inr (.inl rfl)
 | ite _ _ _ _ _ _ _ _ _ _ _ _ _ h _=>exact h
 | record _ _ _ _ _ _ _ d hd hr _ _ _=>exact .inr (.inr ⟨d,hd,by rw[hr]⟩)
 | field _ _ _ _ _ d j hd _ hj _ _ =>
  rcases hd.flat _ (jA3 hj)with e | e<;>rw[e]
  ·exact .inl rfl
  ·exact .inr (.inl rfl)
theorem WF.we {p:Prg}{B:List Bnd}{e:Exp}{t:Typ}(h:WF p B e t):WE p B e t:=by
 induction h with
 | int i n r u ns h1 h2=>exact .int _ _ _ _ _ _ h1 h2
 | bool i n r u ns h=>exact .bool _ _ _ _ _ _ h
 | var i n r u ns t h ht=>exact .var _ _ _ _ _ _ _ h
 | arith i n r u a b ns h1 h2 _ _ ha hb =>
  exact .op _ _ _ _ _ _ _ (by simp) [zAU,zAU] zAU (.arith n h1 h2) rfl fun j hj=>by
   match j,hj with
   | 0,_=>exact ha
   | 1,_=>exact hb
 | andor i n r u a b ns h _ _ ha hb =>
  exact .op _ _ _ _ _ _ _ (by simp) [zAc,zAc] zAc (.andor n h) rfl fun j hj=>by
   match j,hj with
   | 0,_=>exact ha
   | 1,_=>exact hb
 | ite _ _ _ _ _ _ _ _ _ _ _ _ ha hb hc=>exact .ite _ _ _ _ _ _ _ _ _ _ ha hb hc
 | record i n r u ks ns hn d hd hr hl _ ih=>subst hr; exact .record _ _ _ _ _ _ _ hn d hd.find hd.kind hl ih
 | field i r u a ns d j hd hr hj _ ih=>subst hr; exact .field _ _ _ _ _ _ d j hd.find hd.kind hj ih
theorem zP6 {l:List Int}(hl:∀x∈l,w64 x=x){p:Prg}(m:Gm){t:Int}(ht:t=0∨t=1)(B:List Bnd):WF p B (zGd l t m).1 (tK t):=by
 have h4:=zAY hl (i:=m.at_) (most:=4) (by omega);have h2:=zAY hl (i:=m.at_) (most:=2) (by omega);rcases ht with rfl | rfl
 ·exact .int _ _ _ _ _ (by unfold gN; omega) (by unfold gN; omega)
 ·exact .bool _ _ _ _ _ (by unfold gN; omega)
theorem zSU {p:Prg}{f:Gm→Exp×Gm}{B:List Bnd}{t:Int}(ht:t=0∨t=1)(hf:∀m,WF p B (f m).1 (tK t)){n:Int}(hn:t=0∧0≤n∧n≤4∨t=1∧(n=7∨n=8))(m:Gm):WF p B (zUd f m n).1 (tK t):=by
 rcases hn with ⟨rfl,h⟩ | ⟨rfl,h⟩
 ·exact .arith _ _ _ _ _ _ _ h.1 h.2 (hf _) (hf _)
 ·exact .andor _ _ _ _ _ _ _ h (hf _) (hf _)
section
variable {l:List Int}(hl:∀x∈l,w64 x=x){p:Prg}{d:Dfn}(hd:Flat p d)(s:Id)
include hd
theorem zNV (m:Gm){k:Nat}{u:Slt}(hk:d.slots[k]?=some u):WF p [⟨s,0,jP d.id⟩] (zMh m k d.id s).1 u.typ:=by obtain⟨hk',rfl⟩:=jA1.1 hk;exact .field _ _ _ _ _ d k hd rfl hk' (.var _ _ _ _ _ _ (by simp[zC7]) (.inr (.inr ⟨d,hd,rfl⟩)))
include hl
theorem zMP (m:Gm){t:Int}(ht:t=0∨t=1):WF p [⟨s,0,jP d.id⟩] (zFj l d s t m).1 (tK t):=by
 unfold zFj;split
 ·rename_i k hk;obtain⟨u,h1,h2⟩:=zLa hk;have h3:=zNV hd s m.tick h1;rw[(hd.typ (jC4 h1)).1,h2]at h3;exact h3
 ·exact zP6 hl _ ht _
theorem zE5:∀(n:Nat) (m:Gm) {t:Int},t=0∨t=1→WF p [⟨s,0,jP d.id⟩] (zAM l d s n t m).1 (tK t)
 | 0,m,_,ht=>zMP hl hd s m ht
 | n+1,m,t,ht=>by
  have h12:0≤gN l m 12∧gN l m 12<12:=zAY hl (by omega);unfold zAM;split
  ·rename_i k hk;obtain⟨u,h1,h2⟩:=zLa hk;have h3:=zNV hd s m.tick h1;rw[(hd.typ (jC4 h1)).1,h2]at h3;exact h3
  ·split
   ·rename_i h;exact zSU ht (fun m=>zE5 n m ht) (.inl ⟨h.2,h12.1,by omega⟩) _
   ·split
    ·rename_i h0 h;have ht1:t=1:=by rcases ht with rfl | rfl; exact(h0 ⟨by omega,rfl⟩).elim; rfl
     exact zSU ht (fun m=>zE5 n m ht) (.inr ⟨ht1,by omega⟩) _
    ·split
     ·exact .ite _ _ _ _ _ _ _ _ _ (zMP hl hd s _ (.inr rfl)) (zE5 n _ ht) (zE5 n _ ht)
     ·exact zP6 hl _ ht _
theorem zYX {to:Dfn}(hto:Flat p to){i:Nat}(hi:i<to.slots.length)(m:Gm):WF p [⟨s,0,jP d.id⟩] (zGL l to d s i m).1 to.slots[i].typ:=by
 have h1:=hto.typ (jA3 hi);have hp:=fun m=>zE5 hl hd s 2 m h1.2
 rw[←h1.1]at hp;unfold zGL;rw[jA2 hi];cases hv:d.slots[i]? with
 | none=>exact hp _
 | some v =>
  simp only;split
  ·rename_i e;split
   ·have h3:=zNV hd s m.tick hv;have h4:=(hd.typ (jC4 hv)).1;rw[h4,e,←h1.1]at h3;exact h3
   ·exact hp _
  ·exact hp _
theorem zP4 {to:Dfn}(hto:Flat p to)(m:Gm):∀(n:Nat),n≤to.slots.length→∀(j:Nat) (hj:j<(zBW l to d s n m).1.length) (hj':j<to.slots.length),WF p [⟨s,0,jP d.id⟩] (zBW l to d s n m).1[j] to.slots[j].typ
 | 0,_,j,hj,_=>by simp[zBW]at hj
 | n+1,hn,j,hj,hj'=>by
  have hlen:=zE4 l to d s m n;by_cases h:j<n
  ·have:=zP4 hto m n (by omega) j (by omega) hj';simp only[zBW];rw[jBt (by omega)];exact this
  ·have hjn:j=n:=by rw[zE4]at hj; omega
   subst hjn;simp only[zBW];rw[jCw (by omega)];simp only[hlen,jC1,jDi];exact zYX hl hd s hto hj' _
theorem zNW {to:Dfn}(hto:Flat p to)(m:Gm):WF p [⟨s,0,jP d.id⟩] (zFk l to d s m).1 (jP to.id):=by
 have hlen:=zE4 l to d s m to.slots.length;have h6:=hto.few;exact .record _ _ _ _ _ _ (by omega) to hto rfl (by simp[hlen]) fun j hj=>by rw[jBn];exact zP4 hl hd s hto m _ (jA _) j hj (by omega)
end
def isS (s:Id)(k:Exp):Bool:=decide (k.k=2)&&decide (k.ref=s)
mutual
def zCt (s:Id):Exp→Bool→Bool
 | .mk _ k _ r _ ks _,field=>(decide (k=2)&&decide (r=s)&&!field)||zCc s (decide (k=8)) ks
def zCc (s:Id)(f:Bool):List Exp→Bool
 | []=>false
 | e::l=>zCt s e (f&&isS s e)||zCc s f l
end
mutual
def zDc (s:Id):Exp→List Int
 | .mk _ k n _ _ ks _=>zDv s (decide (k=8)) n ks
def zDv (s:Id)(f:Bool)(n:Int):List Exp→List Int
 | []=>[]
 | e::l=>(if (f&&isS s e)=true then [n] else [])++zDc s e++zDv s f n l
end
def qQk:List Int→Int→List Int
 | [],n=>[n]
 | x::l,n=>if x<n then x::qQk l n else if x=n then x::l else n::x::l
structure Bn (c:Nat)(m:Int)(s:XS):Prop where
 ns:s.ns.length+s.fuel.toNat≤c
 ds:s.ds.length+s.fuel.toNat≤c
 fu:s.fuel≤m
structure Bd (c:Nat)(m:Int)(s:XS):Prop where
 ns:s.ns.length+s.fuel.toNat≤c
 ds:s.ds.length+s.fuel.toNat≤c
 fu:s.fuel≤m
 ok:s.fail=0→s.ds.length+s.fuel.toNat+1≤c
theorem Bd.mono {c:Nat}{m m':Int}{s:XS}(h:Bd c m s)(hm:m≤m'):Bd c m' s:=⟨h.ns,h.ds,by have:=h.fu; omega,h.ok⟩
theorem Bn.fail {c:Nat}{m:Int}{s:XS}(h:Bn c m s){x:Int}(hx:x≠0):Bd c m {s with fail:=x}:=⟨h.ns,h.ds,h.fu,fun e=>(hx e).elim⟩
theorem Bn.tick {c:Nat}{m:Int}{s:XS}(h:Bn c m s)(e:Exp)(hf:¬s.fuel≤0):Bd c (m-1) (zAF e s):=by obtain⟨h1,h2,h3⟩:=h;unfold zAF;exact⟨by simp only[List.length_append,List.length_singleton]; omega,by dsimp only; omega,by dsimp only; omega,fun _=>by dsimp only; omega⟩
theorem Bd.def {c:Nat}{m:Int}{s:XS}(h:Bd c m s)(d:Id)(hf:s.fail=0):Bn c m {s with ds:=s.ds++[d]}:=by have:=h.ok hf;exact⟨h.ns,by simp only[jA7,jC2]; omega,h.fu⟩
section
variable {p:Prg}{ev:Evl}{c:Nat}{m:Int}
end
def Eqv (r r':Val×XS):Prop:=r.2=r'.2∧(r.2.fail=0→r.1=r'.1)
theorem Eqv.rfl' (r:Val×XS):Eqv r r:=⟨rfl,fun _=>rfl⟩
theorem Eqv.eq {r r':Val×XS}(h:Eqv r r')(hf:r.2.fail=0):r'=r:=Prod.ext (h.2 hf).symm h.1.symm
section
variable {p:Prg}{f g:Evl}
end
end Go.Proofs.YtdnelmeboihpkaaGreatDoor
