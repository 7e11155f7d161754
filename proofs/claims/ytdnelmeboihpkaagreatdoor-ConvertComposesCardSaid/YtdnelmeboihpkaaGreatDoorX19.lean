/-
  The second generator's maker, walked: its small functions, its parts.
  domain.tuples: lists of values, one by one.
  The reference's Paths.
  convert.Field.
  The second generator's records of fields, walked.
-/
import Derived.Test.YtdnelmeboihpkaaGreatDoorX15
import Derived.Test.YtdnelmeboihpkaaGreatDoorX18
import Derived.Test.YtdnelmeboihpkaaGreatDoorX13
set_option linter.unusedVariables false
set_option maxHeartbeats 8000000
set_option maxRecDepth 100000
set_option linter.unusedSimpArgs false
open Go.Proofs.Tryz (prog)
namespace Go.Proofs.YtdnelmeboihpkaaGreatDoor
open Go.Abs
def qHu:K:=G [kZ 2 [ki,ki,ki]] (G [M 3 0,kBi 4 3 32 .quo,⟨none,.bin (some 5) .add (kc 1) (kt 4)⟩,M 6 0,kBi 7 6 32 .rem,kb 8 [ki,ki,ki] [(1,1,(kt 5)),(2,1,(kt 7))],S 2 8 3] kr)
theorem qO5:zQ prog Tryz.f64.ntmps (Tryz.f64.body.getD .skip)=some qHu.erase:=by kernel_rfl
@[simp] theorem qPr:zB prog 64=true:=by kernel_rfl
def qAF:K:=G [kMi 4 0] (G [M 5 0,kU 6 5,D 7 6 1,L 8 7 1,kBi 9 8 1 .add,kU 10 5,D 11 10 1,S 11 9 1] (Z (K.dops [(0,0,M 12 0),(1,0,kU 13 12),(2,0,D 14 13 0),(3,0,L 15 14 1),(4,0,M 16 0),(5,0,kU 17 16),(6,0,D 18 17 1),(7,0,L 19 18 1),(8,0,kBi 20 19 1 .sub),(9,0,M 21 1),(10,0,kC 22 38 [(kt 15),(kt 20),(kt 21)]),(11,0,M 4 22)]) kr))
theorem qI0:zQ prog Tryz.f65.ntmps (Tryz.f65.body.getD .skip)=some qAF.erase:=by kernel_rfl
@[simp] theorem qMe:zB prog 65=true:=by kernel_rfl
def zVF:K:=G [kO 8 3,kZ 10 kz1] (G [M 11 0,kU 12 11,D 13 12 2,L 14 13 1,kBi 15 14 1 .add,kU 16 11,D 17 16 2,S 17 15 1] (Z (K.dops [(0,0,M 18 0),(1,0,kU 19 18),(2,0,D 20 19 2),(3,0,L 21 20 1),(4,0,kBi 22 21 1 .sub),(5,0,kC 23 64 [(kt 22)]),(6,0,M 24 1),(7,0,M 25 2),(8,0,J 26 8 3),(9,0,M 27 4),(10,0,kb 28 kz1 [(0,3,(kt 23)),(3,1,(kt 24)),(4,1,(kt 25)),(5,3,(kt 26)),(13,1,(kt 27))]),(11,0,S 10 28 15)]) kr))
theorem qC7:zQ prog Tryz.f66.ntmps (Tryz.f66.body.getD .skip)=some zVF.erase:=by kernel_rfl
@[simp] theorem qIM:zB prog 66=true:=by kernel_rfl
def zVG:K:=G [kO 6 1,kO 7 2,kO 8 3,kZ 10 kz1] (G [M 18 0,kC 19 65 [(kt 18),(kc 12)],M 11 19] (Z (G [kMi 12 0] (K.block 0 (K.loop (Z (G [M 20 12,D 21 7 8,L 22 21 1,kN 23 22,kB 24 20 23 .lss,M 25 24,T 25 true (M 26 11),T 25 true (kBi 27 26 3 .gtr),kPf 28 25 27] (Y 28 ks (K.exit 0))) (Z (K.block 1 (G [M 31 12,M 32 11,kB 33 31 32 .add,D 34 7 8,L 35 34 1,kN 36 35,kB 37 33 36 .rem,M 13 37] (Z (K.dops [(0,0,D 38 7 8),(1,0,L 39 38 1),(2,0,M 40 13),(3,0,kX 41 39 40 11),(4,0,D 42 41 4),(5,0,D 43 42 0),(6,0,L 44 43 1),(7,0,D 45 6 0),(8,0,L 46 45 1),(9,0,kQ 47 44 46 false),(10,0,M 48 47),(11,0,T 48 true (M 49 11)),(12,0,T 48 true (kBi 50 49 4 .gtr)),(13,0,kPf 51 48 50)]) (Y 51 (Z (K.dops [(0,0,M 52 0),(1,0,M 53 13),(2,2,D 54 7 0),(3,2001,J 55 54 3),(4,0,M 56 0),(5,0,J 57 8 3),(6,1001,kC 58 66 [(kt 56),(kc 2),(kc 0),(kt 57),(.const kl)]),(7,0,kd 59 39 15 1 kz1 [(0,15,(kt 58))]),(8,4,kC 60 66 [(kt 52),(kc 8),(kt 53),(kt 55),(kt 59)]),(9,0,S 10 60 15)]) kr) ks)))) (K.ops [M 29 12,kBi 30 29 1 .add,M 12 30])))))) (Z (G [M 61 11,kBi 62 61 3 .lss,M 63 62,T 63 true (M 64 4),T 63 true (kBi 65 64 0 .gtr),kPf 66 63 65,M 67 66,T 67 true (D 68 6 0),T 67 true (L 69 68 1),T 67 true (kQi 70 69 0 false),kPf 71 67 70] (Y 71 (G [M 72 0,J 73 6 5,J 74 7 31,J 75 8 3,M 76 4,kBi 77 76 1 .sub,kC 78 68 [(kt 72),(kt 73),(kt 74),(kt 75),(kt 77)],kZ 14 kz1,S 14 78 15] (Z (K.dops [(0,0,M 79 0),(1,0,kd 80 3 1 3 [ki,ki,ki] [(0,1,(kc 0)),(1,1,(kc 1)),(2,1,(kc 2))]),(2,0,M 81 11),(3,2,kX 82 80 81 1),(4,2,
 L 83 82 1),(5,0,kb 84 [ki,ki,ki] []),(6,2001,J 85 14 15),(7,0,M 86 0),(8,0,J 87 6 5),(9,0,J 88 7 31),(10,0,J 89 8 3),(11,0,M 90 4),(12,0,kBi 91 90 1 .sub),(13,1001,kC 92 68 [(kt 86),(kt 87),(kt 88),(kt 89),(kt 91)]),(14,0,kd 93 39 15 2 kz6 [(0,15,(kt 85)),(15,15,(kt 92))]),(15,4,kC 94 66 [(kt 79),(kc 4),(kt 83),(kt 84),(kt 93)]),(16,0,S 10 94 15)]) kr)) ks)) (Z (G [M 95 11,kBi 96 95 2 .lss,M 97 96,T 97 true (M 98 4),T 97 true (kBi 99 98 0 .gtr),kPf 100 97 99] (Y 100 (G [M 101 0,J 102 6 5,J 103 7 31,J 104 8 3,M 105 4,kBi 106 105 1 .sub,kC 107 68 [(kt 101),(kt 102),(kt 103),(kt 104),(kt 106)],kZ 15 kz1,S 15 107 15] (Z (K.dops [(0,0,M 108 0),(1,0,kd 109 3 1 2 [ki,ki] [(0,1,(kc 7)),(1,1,(kc 8))]),(2,0,M 110 11),(3,2,kX 111 109 110 1),(4,2,L 112 111 1),(5,0,kb 113 [ki,ki,ki] []),(6,2001,J 114 15 15),(7,0,M 115 0),(8,0,J 116 6 5),(9,0,J 117 7 31),(10,0,J 118 8 3),(11,0,M 119 4),(12,0,kBi 120 119 1 .sub),(13,1001,kC 121 68 [(kt 115),(kt 116),(kt 117),(kt 118),(kt 120)]),(14,0,kd 122 39 15 2 kz6 [(0,15,(kt 114)),(15,15,(kt 121))]),(15,4,kC 123 66 [(kt 108),(kc 4),(kt 112),(kt 113),(kt 122)]),(16,0,S 10 123 15)]) kr)) ks)) (Z (G [M 124 11,kQi 125 124 3 false,M 126 125,T 126 true (M 127 4),T 126 true (kBi 128 127 0 .gtr),kPf 129 126 128] (Y 129 (G [M 130 0,kb 131 kz2 [(0,1,(kc 1))],J 132 7 31,J 133 8 3,kC 134 68 [(kt 130),(kt 131),(kt 132),(kt 133),(kc 0)],kZ 16 kz1,S 16 134 15] (G [M 135 0,J 136 6 5,J 137 7 31,J 138 8 3,
 M 139 4,kBi 140 139 1 .sub,kC 141 68 [(kt 135),(kt 136),(kt 137),(kt 138),(kt 140)],kZ 17 kz1,S 17 141 15] (Z (K.dops [(0,0,M 142 0),(1,0,kb 143 [ki,ki,ki] []),(2,2001,J 144 16 15),(3,2001,J 145 17 15),(4,0,M 146 0),(5,0,J 147 6 5),(6,0,J 148 7 31),(7,0,J 149 8 3),(8,0,M 150 4),(9,0,kBi 151 150 1 .sub),(10,1001,kC 152 68 [(kt 146),(kt 147),(kt 148),(kt 149),(kt 151)]),(11,0,kd 153 39 15 3 kz4 [(0,15,(kt 144)),(15,15,(kt 145)),(30,15,(kt 152))]),(12,4,kC 154 66 [(kt 142),(kc 5),(kc 0),(kt 143),(kt 153)]),(13,0,S 10 154 15)]) kr))) ks)) (Z (G [D 155 6 0,L 156 155 1,kQi 157 156 1 false] (Y 157 (G [M 158 0,M 159 0,kC 160 65 [(kt 159),(kc 2)],kb 161 [ki,ki,ki] [],kC 162 66 [(kt 158),(kc 1),(kt 160),(kt 161),(.const kl)],S 10 162 15] kr) ks)) (G [M 163 0,M 164 0,kC 165 65 [(kt 164),(kc 4)],kBi 166 165 1 .sub,kb 167 [ki,ki,ki] [],kC 168 66 [(kt 163),(kc 0),(kt 166),(kt 167),(.const kl)],S 10 168 15] kr)))))))
def qD6:Nat→Option (List (Nat×Nat)):=fun r=>match r with | 7=>some [(0,0),(1,0),(2,2),(3,2001),(4,0),(5,0),(6,1001),(7,0),(8,4),(9,0)] | 10=>some [(0,0),(1,0),(2,0),(3,2),(4,2),(5,0),(6,2001),(7,0),(8,0),(9,0),(10,0),(11,0),(12,0),(13,1001),(14,0),(15,4),(16,0)] | 13=>some [(0,0),(1,0),(2,0),(3,2),(4,2),(5,0),(6,2001),(7,0),(8,0),(9,0),(10,0),(11,0),(12,0),(13,1001),(14,0),(15,4),(16,0)] | 17=>some [(0,0),(1,0),(2,2001),(3,2001),(4,0),(5,0),(6,0),(7,0),(8,0),(9,0),(10,1001),(11,0),(12,4),(13,0)] | _=>none
theorem qC8:qG prog Tryz.f68.ntmps qD6 (Tryz.f68.body.getD .skip)=some zVG.erase:=by kernel_rfl
@[simp] theorem qIN:zB prog 68=true:=by kernel_rfl
theorem zGg (k:Int):Ret prog 64 [int k] [] (.agg (zF (idR k))) []:=by refine zI Tryz.func64 rfl qO5 (rs:=[.cell 2 3 true]) (by kernel_rfl) ?_;unfold qHu;simp -implicitDefEqProofs;exact zA 0 (by simp[zF,idR])
def gB (l:List Int)(m:Gm):List A:=[.sl l.length (zA3 l),int m.at_,int m.next]
def gS (l:List Int)(m:Gm):St:=[.box (gB l m)]
def Gm.Ok (m:Gm)(c:Int):Prop:=0≤m.at_∧m.at_+c≤1000000∧0≤m.next∧m.next+c≤1000000
def Gst (m m':Gm)(c:Int):Prop:=m.at_≤m'.at_∧m'.at_≤m.at_+c∧m.next≤m'.next∧m'.next≤m.next+c
theorem Gst.refl (m:Gm){c:Int}(h:0≤c):Gst m m c:=by unfold Gst; omega
theorem Gst.trans {a b m:Gm}{c d e:Int}(h1:Gst a b c)(h2:Gst b m d)(h:c+d≤e):Gst a m e:=by unfold Gst at *; omega
theorem Gst.mono {a b:Gm}{c d:Int}(h1:Gst a b c)(h:c≤d):Gst a b d:=by unfold Gst at *; omega
theorem Gm.Ok.adv {a b:Gm}{c d e:Int}(h:a.Ok e)(h1:Gst a b c)(h2:c+d≤e):b.Ok d:=by unfold Gst Gm.Ok at *; omega
theorem Gm.Ok.mono {a:Gm}{c d:Int}(h:a.Ok c)(h1:d≤c):a.Ok d:=by unfold Gm.Ok at *; omega
theorem qC (m:Gm):Gst m m.tick 1:=by simp only[Gst,Gm.tick]; omega
theorem zBU (m:Gm)(k n:Int)(r:Id)(ks:List Exp):Gst m (yV m k n r ks).2 1:=by simp only[Gst,yV]; omega
theorem zOr (m:Gm)(k:Nat)(d s:Id):Gst m (zMy m k d s).2 2:=(zBU m _ _ _ _).trans (zBU _ _ _ _ _) (by omega)
theorem zPT (l:List Int)(t:Int)(m:Gm):Gst m (zGf l t m).2 2:=by
 unfold zGf;split
 ·exact(qC m).trans (zBU _ _ _ _ _) (by omega)
 ·exact(qC m).trans (zBU _ _ _ _ _) (by omega)
theorem zNl (l:List Int)(d:Dfn)(s:Id)(t:Int)(m:Gm):Gst m (zFk l d s t m).2 3:=by
 unfold zFk;split
 ·exact(qC m).trans (zOr _ _ _ _) (by omega)
 ·exact(qC m).trans (zPT _ _ _) (by omega)
def gC:Nat→Int
 | 0=>3
 | n+1=>2*gC n+5
theorem zOq:∀n,3≤gC n
 | 0=>by simp[gC]
 | n+1=>by have:=zOq n; simp only[gC]; omega
theorem zTt {f:Gm→Exp×Gm}{c:Int}(hf:∀m,Gst m (f m).2 c)(m:Gm)(n:Int):Gst m (zU2 f m n).2 (2*c+1) :=
 (((hf m).trans (hf _) (jAe _)).trans (zBU _ _ _ _ _) (by omega))
theorem qD1 {f g:Gm→Exp×Gm}{c b:Int}(hf:∀m,Gst m (f m).2 b)(hg:∀m,Gst m (g m).2 c)(m:Gm):Gst m (gIf f g m).2 (b+2*c+1) :=
 ((((hf m).trans (hg _) (jAe _)).trans (hg _) (jAe _)).trans (zBU _ _ _ _ _) (by omega))
theorem zBV (l:List Int)(d:Dfn)(s:Id):∀(n:Nat) (t:Int) (m:Gm),Gst m (zAK l d s n t m).2 (gC n)
 | 0,t,m=>zNl l d s t m
 | n+1,t,m=>by
  have ih:=zBV l d s n t;have h3:=zOq n;unfold zAK;simp only[gC];split
  ·exact(qC m).trans (zOr _ _ _ _) (by omega)
  ·split
   ·exact(qC m).trans (zTt ih _ _) (by omega)
   ·split
    ·exact(qC m).trans (zTt ih _ _) (by omega)
    ·split
     ·exact(qC m).trans (qD1 (zNl l d s 1) ih _) (by omega)
     ·exact(qC m).trans (zPT _ _ _) (by omega)
section
variable {l:List Int}
theorem zB2 (m:Gm)(n:Int)(hn:0<n)(h:m.Ok 1):Ret prog 65 [.ptr 0 0,int n] (gS l m) (int (gN l m n)) (gS l m.tick):=by obtain⟨h1,h2,h3,h4⟩:=h;refine zI Tryz.func65 rfl qI0 (rs:=[.slot 4]) (by kernel_rfl) ?_;unfold qAF;have w1:=jP (m.at_+1) (by omega);have w2:=jP m.at_ (by omega);simp -implicitDefEqProofs [gS,gB,w1,w2];refine qU (zPm l m.at_ n hn) (by simp) (by simp) ?_;simp -implicitDefEqProofs;exact zL [0] 0 (by decide) (by simp) (by simp[Gm.tick]) (by simp[gN])
theorem zB9 (hl:∀x∈l,w64 x=x)(m:Gm){n:Int}(hn:0<n):0≤gN l m n∧gN l m n<n:=zAz hl hn
theorem zBa (m:Gm)(k n:Int)(r:Id)(ks:List Exp)(h:m.Ok 1):Ret prog 66 [.ptr 0 0,int k,int n,.agg (zF r),.sl ks.length (jR ks)] (gS l m) (.agg (zV (yV m k n r ks).1)) (gS l (yV m k n r ks).2):=by obtain⟨h1,h2,h3,h4⟩:=h;refine zI Tryz.func66 rfl qC7 (rs:=[.cell 10 15 true]) (by kernel_rfl) ?_;unfold zVF;have w1:=jP (m.next+1) (by omega);have w2:=jP m.next (by omega);simp -implicitDefEqProofs [gS,gB,w1,w2,zF];refine qU (zGg m.next) (by simp) (by simp[zF]) ?_;simp -implicitDefEqProofs [zF];exact zL [0] 0 (by decide) (by simp) (by simp[yV]) (by simp[zV,yV,Typ.zero,Typ.k,Typ.id,Typ.kids,Id.zero])
theorem zRJ {ss:List Slt}{t x:Int}(h:∀i,i<ss.length→∀s,ss[zFH ss.length x i]?=some s→¬(s.typ.k=t∧4<x)):zHh ss t x=none:=by
 unfold zHh;split
 ·rename_i h4;rw[Option.map_eq_none_iff,jCx];intro i hi;rw[jCh]at hi;split
  ·rename_i s hs;intro hh;exact h i hi s hs ⟨by simpa using hh,h4⟩
  ·simp
 ·rfl
theorem zU0 {ss:List Slt}{t x:Int}{i:Nat}(hi:i<ss.length){s:Slt}(hs:ss[zFH ss.length x i]?=some s)(h1:s.typ.k=t)(h4:4<x)(hb:∀j,j<i→∀u,ss[zFH ss.length x j]?=some u→¬u.typ.k=t):zHh ss t x=some (zFH ss.length x i):=by
 unfold zHh;rw[if_pos h4];refine jAb.2 ⟨i,?_,rfl⟩;rw[List.find?_eq_some_iff_getElem];refine⟨by simp[hs,h1],i,by simpa using hi,by simp,fun j hj=>?_⟩;simp only[List.getElem_range];cases hu:ss[zFH ss.length x j]? with
 | none=>rfl
 | some u=>simp[hb j hj u hu]
theorem qLk {t:Int}(ht:t=0∨t=1):(tK t).k=t:=by rcases ht with rfl | rfl<;>rfl
theorem zYj {t:Int}(ht:t=0∨t=1):zM (tK t)=[int t,int 0,int 0,int 0,.sl 0 []]:=by rcases ht with rfl | rfl<;>rfl
theorem zAT:zV Exp.zero=[int 0,int 0,int 0,int 0,int 0,int 0,int 0,int 0,int 0,int 0,int 0,int 0,.sl 0 [],.sl 0 [],.sl 0 []]:=rfl
def qHG (ss:List Slt)(t:Int)(X:Int)(i:Nat):Prop:=i≤ss.length∧∀j,j<i→∀u,ss[zFH ss.length X j]?=some u→¬(u.typ.k=t∧4<X)
def zNX (l:List Int)(d:Dfn)(s:Id)(n:Nat):Prop:=∀(m:Gm) (t:Int),t=0∨t=1→m.Ok (gC n) →
 Ret prog 68 [.ptr 0 0,.agg (zM (tK t)),.agg (zG d),.agg (zF s),int n] (gS l m) (.agg (zV (zAK l d s n t m).1)) (gS l (zAK l d s n t m).2)
theorem zN8 (hl:∀x∈l,w64 x=x)(d:Dfn)(s:Id)(hfew:d.slots.length≤6)(N:Nat)(hN:N≤2)(ih:∀n,N=n+1→zNX l d s n∧zNX l d s 0):zNX l d s N:=by
 intro m t ht hok;have hc3:=zOq N;have hok':=hok;obtain⟨x0,x1⟩:=zB9 hl m (n:=12) (by omega);obtain⟨X,hX⟩:∃X:Nat,gN l m 12=X:=⟨(gN l m 12).toNat,by omega⟩;have htk:=qLk ht;have htd:=zYj ht;have hg:∀q,q=zAK l d s N t m→Ret prog 68 [.ptr 0 0,.agg (zM (tK t)),.agg (zG d),.agg (zF s),int N] (gS l m) (.agg (zV q.1)) (gS l q.2):=by
  intro q hq;refine qP Tryz.func68 rfl qC8 (rs:=[.cell 10 15 true]) (by kernel_rfl) ?_;unfold zVG;simp -implicitDefEqProofs [gS,gB,htd];refine jO (zB2 (l:=l) m 12 (by omega) (hok'.mono (by omega))) [0] (by decide) (by simp[gS,gB]) (by simp) ?_;simp -implicitDefEqProofs [gS,gB];rw[hX];rw[hX]at x1;refine jQ (S:=Nat) (fun i=>[(0,.ptr 0 0),(4,int N),(6,.ptr 1 0),(7,.ptr 2 0),(8,.ptr 3 0),(10,.ptr 4 0),(11,int X),(12,int i)])
   (fun i=>gS l m.tick++[.box (zM (tK t)),.box (zG d),.box (zF s),.box (zV Exp.zero)]) (qHG d.slots t X) (fun i=>d.slots.length-i) 0 ⟨by omega,fun j hj=>by omega⟩
   (zT [0,1,2,3,4] 0 (by decide) (by simp) (by simp[gS,gB,htd,zAT,Gm.tick]) (by simp)) ?_
  rintro i ⟨hi,hno⟩;by_cases hin:i<d.slots.length∧(3:Int)<X
  ·obtain⟨h1,h3⟩:=hin;have hw:=jP ((i:Int)+X) (by omega);have hk:zFH d.slots.length X i<d.slots.length:=Nat.mod_lt _ (by omega);have hne:d.slots≠[]:=fun e=>by rw[e]at h1; simp at h1
   have hmod:((i:Int)+X).tmod d.slots.length=((zFH d.slots.length X i:Nat):Int):=by rw[jCw (by omega)];simp[zFH]
   have hget:d.slots[zFH d.slots.length X i]?=some d.slots[zFH d.slots.length X i]:=jA2 hk;have hnext:¬(d.slots[zFH d.slots.length X i].typ.k=t∧(4:Int)<X)→∀j,j<i+1→∀u,d.slots[zFH d.slots.length X j]?=some u→¬(u.typ.k=t∧4<(X:Int)):=fun hh j hj u hu=>by
    by_cases e:j=i
    ·subst e; rw[hget]at hu; cases hu; exact hh
    ·exact hno j (by omega) u hu
   have hhit:d.slots[zFH d.slots.length X i].typ.k=t→(4:Int)<X→zHh d.slots t (gN l m 12)=some (zFH d.slots.length X i):=fun a b=>by rw[hX];exact zU0 h1 hget a b fun j hj u hu e=>hno j hj u hu ⟨e,b⟩
   generalize zFH d.slots.length X i=k at hk hmod hget hnext hhit;by_cases h5:d.slots[k].typ.k=t
   ·by_cases h4:(4:Int)<X
    ·have hq2:q=zMy m.tick k d.id s:=by cases N<;>rw[hq,zAK]<;>simp only[zFk,hhit h5 h4]
     have g1:=zBa (l:=l) m.tick 2 0 s [] (hok'.adv (qC m) (by omega));have g2:=zBa (l:=l) (yV m.tick 2 0 s []).2 8 k d.id [(yV m.tick 2 0 s []).1] (hok'.adv ((qC m).trans (zBU _ _ _ _ _) (jAe _)) (by omega));simp -implicitDefEqProofs [gS,gB,htd,zG,h1,h3,h4,h5,hw,hmod,hk,hne,jW hk,yQ];intro _;refine zBz g1 [0] (by decide) (by simp[gS,gB]) (by simp) (by decide) (by simp) (by simp[gS]) ?_;simp -implicitDefEqProofs [gS,gB];refine zAY g2 [0] (by decide) (by simp[gS,gB]) (by simp[qE,zF]) ?_;simp -implicitDefEqProofs [gS,gB];rw[hq2];exact zL [0] 0 (by decide) (by simp) (by simp[zMy]) (by simp[zMy,zV])
    ·simp -implicitDefEqProofs [gS,gB,htd,zG,h1,h3,h4,h5,hw,hmod,hk,hne,jW hk,yQ];exact fun _=>zR (i+1) ⟨h1,hnext (fun hh=>h4 hh.2)⟩ (by omega) (zT [0,1,2,3,4] 0 (by decide) (by simp) (by simp[gS,gB,htd,zAT,zG]) (by simp[qD h1 (show d.slots.length≤maxLen by simp[maxLen]; omega)]))
   ·simp -implicitDefEqProofs [gS,gB,htd,zG,h1,h3,h5,hw,hmod,hk,hne,jW hk,yQ];exact fun _=>zR (i+1) ⟨h1,hnext (fun hh=>h5 hh.1)⟩ (by omega) (zT [0,1,2,3,4] 0 (by decide) (by simp) (by simp[gS,gB,htd,zAT,zG]) (by simp[qD h1 (show d.slots.length≤maxLen by simp[maxLen]; omega)]))
  ·have hnone:zHh d.slots t (gN l m 12)=none:=by
    rw[hX];refine zRJ fun j hj u hu=>?_
    by_cases h3:(3:Int)<X
    ·exact hno j (by omega) u hu
    ·omega
   have hexit:(¬i<d.slots.length∧(0:Int)≤X)∨(i<d.slots.length∧¬(3:Int)<X):=by omega
   cases N with
   | zero =>
    have hq3:q=zGf l t m.tick:=by rw[hq,zAK]; simp only[zFk,hnone]
    rcases ht with rfl | rfl
    ·have hq2:q=yV m.tick.tick 0 (gN l m.tick 4-1) Id.zero []:=by rw[hq3,zGf]; simp
     have n1:=zB2 (l:=l) m.tick 4 (by omega) (hok'.adv (qC m) (by omega));have g:=zBa (l:=l) m.tick.tick 0 (gN l m.tick 4-1) Id.zero [] (hok'.adv ((qC m).trans (qC _) (jAe _)) (by omega));obtain⟨v0,v1⟩:=zB9 hl m.tick (n:=4) (by omega);have hv:=jP (gN l m.tick 4-1) (by omega);have hcs:((X:Int)<2∧(X:Int)<3∧¬(X:Int)=3)∨(¬(X:Int)<2∧(X:Int)<3∧¬(X:Int)=3)∨(¬(X:Int)<2∧¬(X:Int)<3∧(X:Int)=3)∨(¬(X:Int)<2∧¬(X:Int)<3∧¬(X:Int)=3):=by omega
     rcases hcs with ⟨hB,hX3,hX4⟩ | ⟨hB,hX3,hX4⟩ | ⟨hB,hX3,hX4⟩ | ⟨hB,hX3,hX4⟩<;>rcases hexit with ⟨hE,hE2⟩ | ⟨hE,hE2⟩ <;>
      (simp -implicitDefEqProofs [gS,gB,htd,zG,hE,hE2,hB,hX3,hX4]
       intro _;refine jO n1 [0] (by decide) (by simp[gS,gB]) (by simp) ?_;simp -implicitDefEqProofs [gS,gB,hv];refine jO g [0] (by decide) (by simp[gS,gB]) (by simp[zF,Id.zero]) ?_;simp -implicitDefEqProofs [gS,gB];rw[hq2];exact zL [0] 0 (by decide) (by simp) (by simp) (by simp[yV,zV]))
    ·have hq2:q=yV m.tick.tick 1 (gN l m.tick 2) Id.zero []:=by rw[hq3,zGf]; simp
     have n1:=zB2 (l:=l) m.tick 2 (by omega) (hok'.adv (qC m) (by omega));have g:=zBa (l:=l) m.tick.tick 1 (gN l m.tick 2) Id.zero [] (hok'.adv ((qC m).trans (qC _) (jAe _)) (by omega));obtain⟨v0,v1⟩:=zB9 hl m.tick (n:=2) (by omega);have hcs:((X:Int)<2∧(X:Int)<3∧¬(X:Int)=3)∨(¬(X:Int)<2∧(X:Int)<3∧¬(X:Int)=3)∨(¬(X:Int)<2∧¬(X:Int)<3∧(X:Int)=3)∨(¬(X:Int)<2∧¬(X:Int)<3∧¬(X:Int)=3):=by omega
     rcases hcs with ⟨hB,hX3,hX4⟩ | ⟨hB,hX3,hX4⟩ | ⟨hB,hX3,hX4⟩ | ⟨hB,hX3,hX4⟩<;>rcases hexit with ⟨hE,hE2⟩ | ⟨hE,hE2⟩ <;>
      (simp -implicitDefEqProofs [gS,gB,htd,zG,hE,hE2,hB,hX3,hX4]
       intro _;refine jO n1 [0] (by decide) (by simp[gS,gB]) (by simp) ?_;simp -implicitDefEqProofs [gS,gB];refine jO g [0] (by decide) (by simp[gS,gB]) (by simp[zF,Id.zero]) ?_;simp -implicitDefEqProofs [gS,gB];rw[hq2];exact zL [0] 0 (by decide) (by simp) (by simp) (by simp[yV,zV]))
   | succ n =>
    obtain⟨ih,ih0⟩:=ih n rfl;have hc3:=zOq n;have hok':m.Ok (2*gC n+5):=hok;have hwn:=jP (n:Int) (by omega);have h0n:(0:Int)<(n:Int)+1:=by omega
    obtain⟨a,ha⟩:∃a,a=zAK l d s n t m.tick:=⟨_,rfl⟩;have c1:=ih m.tick t ht (hok'.adv (qC m) (by omega));have sa:=zBV l d s n t m.tick;rw[←ha]at c1 sa;obtain⟨b,hb⟩:∃b,b=zAK l d s n t a.2:=⟨_,rfl⟩;have c2:=ih a.2 t ht (hok'.adv ((qC m).trans sa (jAe _)) (by omega));have sb:=zBV l d s n t a.2;rw[←hb]at c2 sb;have okb:b.2.Ok 1:=hok'.adv (((qC m).trans sa (jAe _)).trans sb (jAe _)) (by omega);by_cases hA:(X:Int)<3∧t=0
    ·obtain⟨hA1,hA2⟩:=hA;subst hA2;have hq2:q=yV b.2 4 X Id.zero [a.1,b.1]:=by rw[hq,zAK,hnone];simp only[hX];rw[if_pos ⟨hA1,trivial⟩,zU2,←ha,←hb]
     have g:=zBa (l:=l) b.2 4 X Id.zero [a.1,b.1] okb;rcases hexit with ⟨hE,hE2⟩ | ⟨hE,hE2⟩
     ·simp -implicitDefEqProofs [gS,gB,htd,zG,hE,hE2,h0n,hwn,hA1];intro _;refine jO c1 [0] (by decide) (by simp[gS,gB]) (by simp[htd,zG,zF]) ?_;simp -implicitDefEqProofs [gS,gB];obtain rfl | rfl | rfl:X=0∨X=1∨X=2:=by omega
      ·simp -implicitDefEqProofs [gS,gB,htd,zG,h0n,hwn];refine zBz c2 [0] (by decide) (by simp[gS,gB]) (by simp[htd,zG,zF]) (by decide) (by simp) (by simp[gS]) ?_;simp -implicitDefEqProofs [gS,gB];refine zAY g [0] (by decide) (by simp[gS,gB]) (by simp[qE,zF,Id.zero]) ?_;simp -implicitDefEqProofs [gS,gB];rw[hq2];exact zL [0] 0 (by decide) (by simp) (by simp) (by simp[yV,zV])
      ·simp -implicitDefEqProofs [gS,gB,htd,zG,h0n,hwn];refine zBz c2 [0] (by decide) (by simp[gS,gB]) (by simp[htd,zG,zF]) (by decide) (by simp) (by simp[gS]) ?_;simp -implicitDefEqProofs [gS,gB];refine zAY g [0] (by decide) (by simp[gS,gB]) (by simp[qE,zF,Id.zero]) ?_;simp -implicitDefEqProofs [gS,gB];rw[hq2];exact zL [0] 0 (by decide) (by simp) (by simp) (by simp[yV,zV])
      ·simp -implicitDefEqProofs [gS,gB,htd,zG,h0n,hwn];refine zBz c2 [0] (by decide) (by simp[gS,gB]) (by simp[htd,zG,zF]) (by decide) (by simp) (by simp[gS]) ?_;simp -implicitDefEqProofs [gS,gB];refine zAY g [0] (by decide) (by simp[gS,gB]) (by simp[qE,zF,Id.zero]) ?_;simp -implicitDefEqProofs [gS,gB];rw[hq2];exact zL [0] 0 (by decide) (by simp) (by simp) (by simp[yV,zV])
     ·simp -implicitDefEqProofs [gS,gB,htd,zG,hE,hE2,h0n,hwn,hA1];intro _;refine jO c1 [0] (by decide) (by simp[gS,gB]) (by simp[htd,zG,zF]) ?_;simp -implicitDefEqProofs [gS,gB];obtain rfl | rfl | rfl:X=0∨X=1∨X=2:=by omega
      ·simp -implicitDefEqProofs [gS,gB,htd,zG,h0n,hwn];refine zBz c2 [0] (by decide) (by simp[gS,gB]) (by simp[htd,zG,zF]) (by decide) (by simp) (by simp[gS]) ?_;simp -implicitDefEqProofs [gS,gB];refine zAY g [0] (by decide) (by simp[gS,gB]) (by simp[qE,zF,Id.zero]) ?_;simp -implicitDefEqProofs [gS,gB];rw[hq2];exact zL [0] 0 (by decide) (by simp) (by simp) (by simp[yV,zV])
      ·simp -implicitDefEqProofs [gS,gB,htd,zG,h0n,hwn];refine zBz c2 [0] (by decide) (by simp[gS,gB]) (by simp[htd,zG,zF]) (by decide) (by simp) (by simp[gS]) ?_;simp -implicitDefEqProofs [gS,gB];refine zAY g [0] (by decide) (by simp[gS,gB]) (by simp[qE,zF,Id.zero]) ?_;simp -implicitDefEqProofs [gS,gB];rw[hq2];exact zL [0] 0 (by decide) (by simp) (by simp) (by simp[yV,zV])
      ·simp -implicitDefEqProofs [gS,gB,htd,zG,h0n,hwn];refine zBz c2 [0] (by decide) (by simp[gS,gB]) (by simp[htd,zG,zF]) (by decide) (by simp) (by simp[gS]) ?_;simp -implicitDefEqProofs [gS,gB];refine zAY g [0] (by decide) (by simp[gS,gB]) (by simp[qE,zF,Id.zero]) ?_;simp -implicitDefEqProofs [gS,gB];rw[hq2];exact zL [0] 0 (by decide) (by simp) (by simp) (by simp[yV,zV])
    ·by_cases hB:(X:Int)<2
     ·have ht1:t=1:=by omega
      subst ht1;have hX3:(X:Int)<3:=by omega
      have hq2:q=yV b.2 4 (7+X) Id.zero [a.1,b.1]:=by rw[hq,zAK,hnone];simp only[hX];rw[if_neg (by omega),if_pos hB,zU2,←ha,←hb]
      have g:=zBa (l:=l) b.2 4 (7+X) Id.zero [a.1,b.1] okb;rcases hexit with ⟨hE,hE2⟩ | ⟨hE,hE2⟩
      ·simp -implicitDefEqProofs [gS,gB,htd,zG,hE,hE2,h0n,hwn,hB,hX3];intro _;refine jO c1 [0] (by decide) (by simp[gS,gB]) (by simp[htd,zG,zF]) ?_;simp -implicitDefEqProofs [gS,gB];obtain rfl | rfl:X=0∨X=1:=by omega
       ·simp -implicitDefEqProofs [gS,gB,htd,zG,h0n,hwn];refine zBz c2 [0] (by decide) (by simp[gS,gB]) (by simp[htd,zG,zF]) (by decide) (by simp) (by simp[gS]) ?_;simp -implicitDefEqProofs [gS,gB];refine zAY g [0] (by decide) (by simp[gS,gB]) (by simp[qE,zF,Id.zero]) ?_;simp -implicitDefEqProofs [gS,gB];rw[hq2];exact zL [0] 0 (by decide) (by simp) (by simp) (by simp[yV,zV])
       ·simp -implicitDefEqProofs [gS,gB,htd,zG,h0n,hwn];refine zBz c2 [0] (by decide) (by simp[gS,gB]) (by simp[htd,zG,zF]) (by decide) (by simp) (by simp[gS]) ?_;simp -implicitDefEqProofs [gS,gB];refine zAY g [0] (by decide) (by simp[gS,gB]) (by simp[qE,zF,Id.zero]) ?_;simp -implicitDefEqProofs [gS,gB];rw[hq2];exact zL [0] 0 (by decide) (by simp) (by simp) (by simp[yV,zV])
      ·simp -implicitDefEqProofs [gS,gB,htd,zG,hE,hE2,h0n,hwn,hB,hX3];intro _;refine jO c1 [0] (by decide) (by simp[gS,gB]) (by simp[htd,zG,zF]) ?_;simp -implicitDefEqProofs [gS,gB];obtain rfl | rfl:X=0∨X=1:=by omega
       ·simp -implicitDefEqProofs [gS,gB,htd,zG,h0n,hwn];refine zBz c2 [0] (by decide) (by simp[gS,gB]) (by simp[htd,zG,zF]) (by decide) (by simp) (by simp[gS]) ?_;simp -implicitDefEqProofs [gS,gB];refine zAY g [0] (by decide) (by simp[gS,gB]) (by simp[qE,zF,Id.zero]) ?_;simp -implicitDefEqProofs [gS,gB];rw[hq2];exact zL [0] 0 (by decide) (by simp) (by simp) (by simp[yV,zV])
       ·simp -implicitDefEqProofs [gS,gB,htd,zG,h0n,hwn];refine zBz c2 [0] (by decide) (by simp[gS,gB]) (by simp[htd,zG,zF]) (by decide) (by simp) (by simp[gS]) ?_;simp -implicitDefEqProofs [gS,gB];refine zAY g [0] (by decide) (by simp[gS,gB]) (by simp[qE,zF,Id.zero]) ?_;simp -implicitDefEqProofs [gS,gB];rw[hq2];exact zL [0] 0 (by decide) (by simp) (by simp) (by simp[yV,zV])
     ·by_cases hX4:(X:Int)=3
      ·have hX3:¬(X:Int)<3:=by omega
       clear c1 c2 sa sb okb;clear hb;clear b;clear ha;clear a;have c0:=ih0 m.tick 1 (.inr rfl) (hok'.adv (qC m) (by simp only[gC]; omega));have s0:=zBV l d s 0 1 m.tick;obtain⟨c,hc⟩:∃c,c=zAK l d s 0 1 m.tick:=⟨_,rfl⟩;rw[←hc]at c0 s0;have d1:=ih c.2 t ht (hok'.adv ((qC m).trans s0 (jAe _)) (by simp only[gC]; omega));have s1:=zBV l d s n t c.2;obtain⟨a,ha⟩:∃a,a=zAK l d s n t c.2:=⟨_,rfl⟩;rw[←ha]at d1 s1;have d2:=ih a.2 t ht (hok'.adv (((qC m).trans s0 (jAe _)).trans s1 (jAe _)) (by simp only[gC]; omega));have s2:=zBV l d s n t a.2;obtain⟨b,hb⟩:∃b,b=zAK l d s n t a.2:=⟨_,rfl⟩;rw[←hb]at d2 s2;have g:=zBa (l:=l) b.2 5 0 Id.zero [c.1,a.1,b.1] (hok'.adv ((((qC m).trans s0 (jAe _)).trans s1 (jAe _)).trans s2 (jAe _)) (by simp only[gC]; omega));have hq2:q=yV b.2 5 0 Id.zero [c.1,a.1,b.1]:=by have e0:zFk l d s 1 m.tick=c:=hc.symm;rw[hq,zAK,hnone];simp only[hX];rw[if_neg (by omega),if_neg (by omega),if_pos hX4,gIf];simp only[e0,←ha,←hb]
       rcases hexit with ⟨hE,hE2⟩ | ⟨hE,hE2⟩
       ·simp -implicitDefEqProofs [gS,gB,htd,zG,hE,hE2,h0n,hwn,hB,hX3,hX4];intro _;refine jO c0 [0] (by decide) (by simp[gS,gB]) (by simp[zM,zAd,tK,zG,zF,Typ.k,Typ.id,Typ.kids]) ?_;simp -implicitDefEqProofs [gS,gB,htd,zG,h0n,hwn];refine jO d1 [0] (by decide) (by simp[gS,gB]) (by simp[htd,zG,zF]) ?_;simp -implicitDefEqProofs [gS,gB,htd,zG,h0n,hwn];refine zBz d2 [0] (by decide) (by simp[gS,gB]) (by simp[htd,zG,zF]) (by decide) (by simp) (by simp[gS]) ?_;simp -implicitDefEqProofs [gS,gB];refine zAY g [0] (by decide) (by simp[gS,gB]) (by simp[qE,zV,zF,Id.zero]) ?_;simp -implicitDefEqProofs [gS,gB];rw[hq2];exact zL [0] 0 (by decide) (by simp) (by simp) (by simp[yV,zV])
       ·simp -implicitDefEqProofs [gS,gB,htd,zG,hE,hE2,h0n,hwn,hB,hX3,hX4];intro _;refine jO c0 [0] (by decide) (by simp[gS,gB]) (by simp[zM,zAd,tK,zG,zF,Typ.k,Typ.id,Typ.kids]) ?_;simp -implicitDefEqProofs [gS,gB,htd,zG,h0n,hwn];refine jO d1 [0] (by decide) (by simp[gS,gB]) (by simp[htd,zG,zF]) ?_;simp -implicitDefEqProofs [gS,gB,htd,zG,h0n,hwn];refine zBz d2 [0] (by decide) (by simp[gS,gB]) (by simp[htd,zG,zF]) (by decide) (by simp) (by simp[gS]) ?_;simp -implicitDefEqProofs [gS,gB];refine zAY g [0] (by decide) (by simp[gS,gB]) (by simp[qE,zV,zF,Id.zero]) ?_;simp -implicitDefEqProofs [gS,gB];rw[hq2];exact zL [0] 0 (by decide) (by simp) (by simp) (by simp[yV,zV])
      ·clear c1 c2 sa sb okb;clear hb;clear b;clear ha;clear a;have hq3:q=zGf l t m.tick:=by rw[hq,zAK,hnone];simp only[hX];rw[if_neg (by omega),if_neg (by omega),if_neg hX4]
       rcases ht with rfl | rfl
       ·have hq2:q=yV m.tick.tick 0 (gN l m.tick 4-1) Id.zero []:=by rw[hq3,zGf]; simp
        have n1:=zB2 (l:=l) m.tick 4 (by omega) (hok'.adv (qC m) (by omega));have g:=zBa (l:=l) m.tick.tick 0 (gN l m.tick 4-1) Id.zero [] (hok'.adv ((qC m).trans (qC _) (jAe _)) (by omega));obtain⟨v0,v1⟩:=zB9 hl m.tick (n:=4) (by omega);have hv:=jP (gN l m.tick 4-1) (by omega);have hcs:(¬(X:Int)<2∧¬(X:Int)<3∧¬(X:Int)=3):=by omega
        rcases hcs with ⟨hB,hX3,hX4⟩<;>rcases hexit with ⟨hE,hE2⟩ | ⟨hE,hE2⟩ <;>
         (simp -implicitDefEqProofs [gS,gB,htd,zG,hE,hE2,hB,hX3,hX4,h0n]
          intro _;refine jO n1 [0] (by decide) (by simp[gS,gB]) (by simp) ?_;simp -implicitDefEqProofs [gS,gB,hv];refine jO g [0] (by decide) (by simp[gS,gB]) (by simp[zF,Id.zero]) ?_;simp -implicitDefEqProofs [gS,gB];rw[hq2];exact zL [0] 0 (by decide) (by simp) (by simp) (by simp[yV,zV]))
       ·have hq2:q=yV m.tick.tick 1 (gN l m.tick 2) Id.zero []:=by rw[hq3,zGf]; simp
        have n1:=zB2 (l:=l) m.tick 2 (by omega) (hok'.adv (qC m) (by omega));have g:=zBa (l:=l) m.tick.tick 1 (gN l m.tick 2) Id.zero [] (hok'.adv ((qC m).trans (qC _) (jAe _)) (by omega));obtain⟨v0,v1⟩:=zB9 hl m.tick (n:=2) (by omega);have hcs:(¬(X:Int)<2∧(X:Int)<3∧¬(X:Int)=3)∨(¬(X:Int)<2∧¬(X:Int)<3∧¬(X:Int)=3):=by omega
        rcases hcs with ⟨hB,hX3,hX4⟩ | ⟨hB,hX3,hX4⟩<;>rcases hexit with ⟨hE,hE2⟩ | ⟨hE,hE2⟩ <;>
         (simp -implicitDefEqProofs [gS,gB,htd,zG,hE,hE2,hB,hX3,hX4,h0n]
          intro _;refine jO n1 [0] (by decide) (by simp[gS,gB]) (by simp) ?_;simp -implicitDefEqProofs [gS,gB];refine jO g [0] (by decide) (by simp[gS,gB]) (by simp[zF,Id.zero]) ?_;simp -implicitDefEqProofs [gS,gB];rw[hq2];exact zL [0] 0 (by decide) (by simp) (by simp) (by simp[yV,zV]))
 exact hg _ rfl
theorem zI1 (hl:∀x∈l,w64 x=x)(d:Dfn)(s:Id)(hfew:d.slots.length≤6):∀n:Nat,n≤2→zNX l d s n
 | 0,h=>zN8 hl d s hfew 0 h (fun n e=>by omega)
 | n+1,h=>zN8 hl d s hfew (n+1) h fun k e=>by
  have:k=n:=by omega
  subst this;exact⟨zI1 hl d s hfew k (by omega),zI1 hl d s hfew 0 (by omega)⟩
end
def qCj:K:=G [kMn 2] (Z (G [M 3 0,⟨none,.isn (some 4) false (kt 3)⟩] (Y 4 (G [kMn 2] kr) ks)) (G [kd 5 46 3 0 [] [],M 6 0,kP 7 46 3 40 5 6,M 2 7] kr))
theorem qIs:zQ prog Tryz.f155.ntmps (Tryz.f155.body.getD .skip)=some qCj.erase:=by kernel_rfl
@[simp] theorem qOT:zB prog 155=true:=by kernel_rfl
def qH5:K:=G [kO 1 0,⟨none,.mov (some 2) (.const .nilFunc)⟩] (G [⟨none,.clo (some 3) 154 [] [(kt 1)]⟩,M 2 3] kr)
theorem qOG:zQ prog Tryz.f118.ntmps (Tryz.f118.body.getD .skip)=some qH5.erase:=by kernel_rfl
@[simp] theorem qPO:zB prog 118=true:=by kernel_rfl
def qCp:K:=G [kO 2 0] (Z (G [L 6 1 1,kN 7 6,kQi 8 7 0 false] (Y 8 (G [L 9 2 1,⟨none,.call (some 10) (kt 9) [(.const kl)]⟩] kr) ks)) (G [L 11 1 1,L 12 1 1,kN 13 12,kBi 14 13 1 .sub,⟨none,.slc (some 15) (kt 11) 1 none (some (kt 14)) none⟩,kC 16 118 [(kt 15)]] (K.block 0 (K.rng (kt 16) [17] (K.ops [M 3 17]) (K.block 1 (G [L 18 1 1,L 19 1 1,kN 20 19,kBi 21 20 1 .sub,kX 22 18 21 1,L 23 22 1,kN 24 23,kMi 25 0] (K.block 2 (K.loop (G [kB 26 25 24 .lss] (Z (Y 26 ks (K.exit 2)) (Z (K.block 3 (G [kX 27 23 25 3,J 28 27 3,kZ 5 [ki,ki,kl],S 5 28 3] (Z (K.dops [(0,1,L 29 2 1),(1,0,M 30 3),(3,1,J 32 5 3),(4,0,kd 33 46 3 1 [ki,ki,kl] [(0,3,(kt 32))]),(2,3,kC 31 155 [(kt 30)]),(5,0,kP 34 46 3 40 31 33),(6,4,⟨none,.call (some 35) (kt 29) [(kt 34)]⟩),(7,0,kR 36 35)]) (Y 36 kr ks)))) (K.ops [kBi 37 25 1 .add,M 25 37]))))))))))))
def qQv:Nat→Option (List (Nat×Nat)):=fun r=>match r with | 8=>some [(0,1),(1,0),(3,1),(4,0),(2,3),(5,0),(6,4),(7,0)] | _=>none
theorem qI9:qG prog Tryz.f154.ntmps qQv (Tryz.f154.body.getD .skip)=some qCp.erase:=by kernel_rfl
@[simp] theorem zRw:zB prog 154=true:=by kernel_rfl
mutual
theorem zUb:∀(v:Val) (k:Nat),(zGZ v).bnd k=true
 | .mk a n l,k=>by simp only[zGZ,A.bnd];exact zHo l k
theorem zHo:∀(l:List Val) (k:Nat),zBm k (zN l)=true
 | [],k=>by simp
 | v::l,k=>by have h:=zUb v k;rw[zP0]at h;simp only[A.bnd]at h;simp[h,zHo l k]
end
attribute [simp] zHo
def yB (l:List (List Val)):List A:=l.map fun vs=>.sl vs.length (zN vs)
@[simp] theorem zR3 (l:List (List Val)):(yB l).length=l.length:=by simp[yB]
@[simp] theorem qDa:yB []=[]:=rfl
@[simp] theorem qBs (v:List Val)(l:List (List Val)):yB (v::l)=.sl v.length (zN v)::yB l:=rfl
@[simp] theorem zHd (a b:List (List Val)):yB (a++b)=yB a++yB b:=by simp[yB]
theorem zFc:∀(l:List (List Val)),qJ (yB l)
 | []=>qJ.nil
 | v::l=>qJ.sl (zBy v) (zFc l)
@[simp] theorem qBO (l:List (List Val)):jF (yB l)=yB l:=(zFc l).1
@[simp] theorem qGB {rf g}(l:List (List Val)):vwL rf g (yB l)=yB l:=(zFc l).2 _ _
@[simp] theorem zRt:∀(l:List (List Val)) (k:Nat),zBm k (yB l)=true
 | [],k=>by simp
 | v::l,k=>by simp[zRt l k]
theorem zUl:Ret prog 155 [.nil] [] .nil []:=by refine zI Tryz.func155 rfl qIs (rs:=[.slot 2]) (by kernel_rfl) ?_;unfold qCj;simp -implicitDefEqProofs;exact zA 0 (by simp)
theorem zWu (l:List Val)(h:l≠[])(hb:l.length*40≤140737488355328)(hm:l.length≤maxLen):Ret prog 155 [.sl l.length (zN l)] [] (.row 0 l.length) [.row false 46 3 l.length (zN l)]:=by refine zI Tryz.func155 rfl qIs (rs:=[.slot 2]) (by kernel_rfl) ?_;unfold qCj;simp -implicitDefEqProofs [h];refine⟨⟨hm,hb⟩,?_⟩;exact zL [0] 0 (by simp) (by simp) (by simp) (by simp)
theorem zJ8 (l:List (List Val)):Ret prog 118 [.sl l.length (yB l)] [] (.clo 154 [] [.rptr [.sl l.length (yB l)]]) []:=by refine zI Tryz.func118 rfl qOG (rs:=[.slot 2]) (by kernel_rfl) ?_;unfold qH5;simp -implicitDefEqProofs;exact zA 1 (by simp)
def zEb (l:List Val):A:=if l=[] then .nil else .sl l.length (zN l)
@[simp] theorem zYn:zEb []=.nil:=rfl
theorem zNU {l:List Val}(h:l≠[]):zEb l=.sl l.length (zN l):=by simp[zEb,h]
@[simp] theorem qHZ (l:List Val)(k:Nat):(zEb l).bnd k=true:=by unfold zEb; split<;>simp
@[simp] theorem zYN (l:List Val):cellsOf (zEb l)=some [zEb l]:=by unfold zEb; split<;>simp
@[simp] theorem qNJ {rf g}(l:List Val):vw rf g (zEb l)=zEb l:=by unfold zEb; split<;>simp
@[simp] theorem qFW (l:List Val):nrm0 (zEb l)=.sl l.length (zN l):=by unfold zEb; split<;>simp_all
def zCj (acc:List (List Val))(last:List Val):List (List Val):=acc.flatMap fun h=>last.map fun x=>h++[x]
def zAh (l:List (List Val)):List (List Val):=l.foldl zCj [[]]
@[simp] theorem zVk:zAh []=[[]]:=rfl
theorem zHE (l:List (List Val))(last:List Val):zAh (l++[last])=zCj (zAh l) last:=by simp[zAh]
theorem zNC:∀(l:List (List Val)) (acc:List (List Val)) (n:Nat),(∀t∈acc,t.length=n)→∀t∈l.foldl zCj acc,t.length=n+l.length
 | [],acc,n,h,t,ht=>by simpa using h t ht
 | a::l,acc,n,h,t,ht=>by
  have:=zNC l (zCj acc a) (n+1) (fun s hs=>by simp only[zCj,List.mem_flatMap,jAm]at hs;obtain⟨u,hu,x,_,rfl⟩:=hs;simp[h u hu]) t ht
  simp only[jAk];omega
theorem zVj {l:List (List Val)}{t:List Val}(h:t∈zAh l):t.length=l.length:=by have:=zNC l [[]] 0 (by simp) t h;omega
theorem zCB (acc:List (List Val))(last:List Val):(zCj acc last).length=acc.length*last.length:=by
 induction acc with
 | nil=>simp[zCj]
 | cons a acc ih =>
  have e:zCj (a::acc) last=last.map (fun x=>a++[x])++zCj acc last:=by simp[zCj]
  rw[e]; simp[ih,jBj,jCs]
theorem zVw {acc:List (List Val)}{last:List Val}{i j:Nat}(hi:i<acc.length)(hj:j<last.length):(zCj acc last)[i*last.length+j]?=some (acc[i]++[last[j]]):=by
 induction acc generalizing i with
 | nil=>simp at hi
 | cons a acc ih =>
  have e:zCj (a::acc) last=last.map (fun x=>a++[x])++zCj acc last:=by simp[zCj]
  rw[e];cases i with
  | zero=>rw[jAc (by simpa using hj)]; simp[hj]
  | succ i =>
   have hi':i<acc.length:=by simpa using hi
   rw[jAo (by simp[jBj])];have:(i+1)*last.length+j-(last.map fun x=>a++[x]).length=i*last.length+j:=by simp[jBj]; omega
   rw[this,ih hi'];rfl
theorem zT1:∀(n:Nat) (l:List (List Val)),l.length=n→n≤1000000→zSR prog 154 [] [.rptr [.sl l.length (yB l)]] ((zAh l).map fun t=>[zEb t]):=by
 intro n;induction n with
 | zero =>
  intro l hl _;have hl0:l=[]:=jC3 hl;subst hl0;refine zGj fun b m T hT hY=>?_
  simp only[zVk,jAd,jBg,jAk,jBo,zYn]at hT hY ⊢;have h0:=hT 0 (by simp);have h1:=hT 1 (by simp);refine qP Tryz.func154 rfl qI9 (rs:=[]) (by kernel_rfl) ?_;unfold qCp;simp -implicitDefEqProofs [h0.1,zAm h0.1];refine zIU h0 h1 (hY 0 (by simp)) (by simp) ?_;simp -implicitDefEqProofs;exact zOJ h1 (by simp)
 | succ n ih =>
  intro l hl hn;obtain⟨l',last,rfl⟩:∃l' last,l=l'++[last]:=⟨l.dropLast,l.getLast (by intro h; simp[h]at hl),by rw[List.dropLast_concat_getLast]⟩;have hl':l'.length=n:=by simpa using hl
  refine zGj fun b m T hT hY=>?_
  have hXl:((zAh (l'++[last])).map fun t=>[zEb t]).length=(zAh l').length*last.length:=by rw[jB5,zHE,zCB]
  rw[hXl]at hT ⊢;have h0:=hT 0 (jAy _);refine qP Tryz.func154 rfl qI9 (rs:=[]) (by kernel_rfl) ?_;unfold qCp;have hw:IntKind.i64.wrap (l'.length:Int)=l'.length:=zYv (by simp[maxLen]; omega);have hne:¬((l'.length:Int)+1=0):=by omega
  simp -implicitDefEqProofs [h0.1,zAm h0.1,hw,hne];intro hmx;refine⟨by omega,?_⟩;refine qA (zJ8 l') (by simp) (by simp) ?_;simp -implicitDefEqProofs;have hCl:∀j,j≤(zAh l').length*last.length→Cl (m+1) (T j++[.box [yv b]]):=fun j hj=>(hT j hj).app rfl (by simp)
  have hbd:∀i,i≤(zAh l').length→i*last.length≤(zAh l').length*last.length:=fun i hi=>jB7 _ hi
  refine⟨[(1,.rptr [.sl (l'.length+1) (yB l'++[.sl last.length (zN last)])]),(2,.ptr m 0),(16,.clo 154 [] [.rptr [.sl l'.length (yB l')]])],m+1,(zAh l').map (fun t=>[zEb t]),fun j=>T (j*last.length)++[.box [yv b]],154,[],
   [.rptr [.sl l'.length (yB l')]],by simp,zRw,ih l' hl' (by omega),?_,by omega,?_,by simp,by simp,?_,?_⟩
  ·simp only[Nat.zero_mul];exact zIX (τ:=[]) (by simp) (by simp[h0.1]) (by simp) (by simp[h0.1]) (by rw[(hCl 0 (jAy _)).1]; exact(hCl 0 (jAy _)).2)
  ·intro i hi;exact hCl _ (hbd i (by simpa using hi))
  ·intro i hi b' M r r';simp only[jB5]at hi;have hd:(yB l'++[A.sl last.length (zN last)]).drop l'.length=[A.sl last.length (zN last)]:=by rw[←zR3 l']; simp
   simp -implicitDefEqProofs [hw,hd];intro _;refine⟨by omega,?_⟩;intro hlm;have hCl2:∀j r,i*last.length+j≤(zAh l').length*last.length→Cl (m+2) (T (i*last.length+j)++[.box [yv b],AObj.lp b' r M
    [(1,A.rptr [A.sl (l'.length+1) (yB l'++[A.sl last.length (zN last)])]),(2,A.ptr m 0),
     (16,A.clo 154 [] [A.rptr [A.sl l'.length (yB l')]])]]):=fun j r hj=>(hT _ hj).app rfl (by simp)
   have hij:∀j,j≤last.length→i*last.length+j≤(zAh l').length*last.length:=fun j hj=>by have:=jB7 last.length (Nat.succ_le_of_lt hi);rw[jBj]at this;omega
   have hTi:(T (i*last.length)).length=m:=(hT _ (hij 0 (jAy _))).1;refine jQ (S:=Nat) (fun j=>[(2,.ptr m 0),(3,zEb (zAh l')[i]),(23,.sl last.length (zN last)),(24,int last.length),(25,int j)]) (fun j=>T (i*last.length+j)++[.box [yv b],AObj.lp b' r' M
    [(1,A.rptr [A.sl (l'.length+1) (yB l'++[A.sl last.length (zN last)])]),(2,A.ptr m 0),
     (16,A.clo 154 [] [A.rptr [A.sl l'.length (yB l')]])]]) (fun j=>j≤last.length) (fun j=>last.length-j) 0 (by simp)
    (zIX (τ:=[]) (by simp) (by simp[hTi]) (by simp) (by simp[hTi]) (by rw[(hCl2 0 r' (hij 0 (jAy _))).1]; exact(hCl2 0 r' (hij 0 (jAy _))).2)) ?_
   intro j hj;simp -implicitDefEqProofs;refine jE (fun h=>?_) (fun h=>?_)<;>simp at h
   ·have hTj:=hT _ (hij j hj);simp -implicitDefEqProofs [h,jI h,hTj.1,zAm hTj.1,zAc hTj.1,zAO hTj.1,zIC hTj.1,zHV];have hgl:i*last.length+j<(zCj (zAh l') last).length:=by rw[zCB];have:=hij (j+1) h;omega
    have hge:(zCj (zAh l') last)[i*last.length+j]=(zAh l')[i]++[last[j]]:=by
     have:=zVw hi h;rw[jA2 hgl]at this
     simpa using this
    have hTj1:=hT (i*last.length+(j+1)) (hij (j+1) h);have hyj:zC0 prog b [.sl ((zAh l')[i].length+1) (zN ((zAh l')[i]++[last[j]]))] (T (i*last.length+j)) fun o τ=>o=.ret (.lit (.bool true))∧τ = T (i*last.length+(j+1)):=by
     have:=hY (i*last.length+j) (by simpa [zHE] using hgl);simp only[zHE,jBl,hge]at this;rw[zNU (by simp)]at this
     simpa [jBf] using this
    have hlen:(zAh l')[i].length=n:=by rw[zVj (jA3 hi),hl']
    by_cases hh:(zAh l')[i]=[]
    ·refine zOi zUl (by simp[hh]) ?_;simp -implicitDefEqProofs [hTj.1,zAm hTj.1,zAc hTj.1,zAO hTj.1,zIC hTj.1];refine⟨by simp[maxLen],?_⟩;simp only[hh,jBo,jAr,jCa,zDa,zKR]at hyj;refine exY (k:=3) rfl hTj hTj1 (by simp) hyj ?_;simp -implicitDefEqProofs;refine zR (j+1) h (by omega) (zIX (τ:=[.box (zC last[j]),.row true 46 3 1 (zC last[j])]) (by simp[zC]) (by simp[hTj1.1]) (by simp[hh,qD h hlm]) (by simp[hTj1.1]) (by rw[(hCl2 (j+1) r' (hij (j+1) h)).1]; exact(hCl2 (j+1) r' (hij (j+1) h)).2))
    ·refine zOi (zWu _ hh (by omega) (by simp[maxLen]; omega)) (by simp[zNU hh]) ?_;simp -implicitDefEqProofs [hTj.1,zAm hTj.1,zAc hTj.1,zAO hTj.1,zIC hTj.1];refine⟨by simp[maxLen]; omega,?_⟩;simp only[zBg,zDa,zKR]at hyj;refine exY (k:=3) rfl hTj hTj1 (by simp) hyj ?_;simp -implicitDefEqProofs;refine zR (j+1) h (by omega) (zIX (τ:=[.box (zC last[j]),.row true 46 3 ((zAh l')[i].length+1) (zN (zAh l')[i]++zC last[j])]) (by simp[zC]) (by simp[hTj1.1]) (by simp[qD h hlm]) (by simp[hTj1.1]) (by rw[(hCl2 (j+1) r' (hij (j+1) h)).1]; exact(hCl2 (j+1) r' (hij (j+1) h)).2))
   ·have:j=last.length:=by omega
    subst this;simp -implicitDefEqProofs;exact Wk.here (by rw[jBj])
  ·simp -implicitDefEqProofs;exact zOJ (hT _ (jA _)) (by simp)
@[simp] theorem zVY:∀(X:List (List Val)) (k:Nat),zBm k (X.map zEb)=true
 | [],k=>rfl
 | t::X,k=>by simp[zVY X k]
@[simp] theorem qAo {rf g}:∀(X:List (List Val)),vwL rf g (X.map zEb)=X.map zEb
 | []=>by simp
 | t::X=>by simp[qAo X]
@[simp] theorem qMd:zB prog 55=true:=by kernel_rfl
def qRe (out R:List (List Id))(x:Id)(k:Nat):List (List Id):=out++(R.take k).map (x::·)
@[simp] theorem qPC:zB prog 21=true:=by kernel_rfl
mutual
theorem zTs (D D':List A)(u:Slt)(hD:D.drop 8=.sl 1 (yQ u)::D')(hv:∀rf g,vwL rf g D=D)(hn:jF D=D):∀e:Exp,zVA D u.id e
 | .mk i k n r t ks ns=>zU1 D D' u hD hv hn _ (zPN D D' u hD hv hn ks)
theorem zPN (D D':List A)(u:Slt)(hD:D.drop 8=.sl 1 (yQ u)::D')(hv:∀rf g,vwL rf g D=D)(hn:jF D=D):∀(l:List Exp),∀k∈l,zVA D u.id k
 | [],k,hk=>by cases hk
 | e::l,k,hk=>by
  rcases jA6.1 hk with h | h
  ·rw[h]; exact zTs D D' u hD hv hn e
  ·exact zPN D D' u hD hv hn l k h
end
def qA8:K:=G [kO 2 0,kO 3 1,kZ 4 kz0,kMb 5 false] (G [J 9 2 2,D 10 3 1,J 11 10 3,kC 12 96 [(kt 9),(kt 11)],M 8 12,kE 13 8 0,kE 14 8 1,kZ 6 kz0,S 6 13 31,M 7 14] (Z (K.wk (K.dops [(0,0,J 15 6 31),(1,0,M 16 7),(2,0,M 17 16),(3,0,T 17 true (D 18 3 0)),(4,0,T 17 true (L 19 18 1)),(5,0,T 17 true (kQi 20 19 3 false)),(6,0,kPf 21 17 20),(7,0,M 22 21),(8,2,T 22 true (D 23 6 3)),(9,2,T 22 true (L 24 23 1)),(10,0,T 22 true (kQi 25 24 0 false)),(11,0,kPf 26 22 25),(12,0,S 4 15 31),(13,0,M 5 26)])) kr))
def qJ6:Nat→Option (List (Nat×Nat)):=fun r=>match r with | 2=>some [(0,0),(1,0),(2,0),(3,0),(4,0),(5,0),(6,0),(7,0),(8,2),(9,2),(10,0),(11,0),(12,0),(13,0)] | _=>none
theorem qIp:qG prog Tryz.f57.ntmps qJ6 (Tryz.f57.body.getD .skip)=some qA8.erase:=by kernel_rfl
@[simp] theorem qLX:zB prog 57=true:=by kernel_rfl
def zM7 (p:Prg)(t:Typ):Bool:=(qY p.defs t.id).isSome&&(decide (t.k=3)&&decide (((qY p.defs t.id).getD .zero).kind=0))
theorem zNH (p:Prg)(t:Typ):Ret prog 57 [.agg (zK p),.agg (zM t)] [] (.tup [.agg (zG ((qY p.defs t.id).getD .zero)),bl (zM7 p t)]) []:=by
 have hP:=eP p;have hdf:=zDL p t.id;unfold zM7;unfold zAZ at hdf;generalize (qY p.defs t.id).getD .zero=d at *
 generalize (qY p.defs t.id).isSome=b at *
 refine qP Tryz.func57 rfl qIp (rs:=[.cell 4 31 true,.slot 5]) (by kernel_rfl) ?_;unfold qA8;simp -implicitDefEqProofs [hP,zM];refine qA hdf (by simp[zK,zF]) (by simp) ?_;simp -implicitDefEqProofs [zG];refine⟨_,_,zT (l:=[(3,.rptr (zM t)),(4,.ptr 0 0),(6,.rptr (zG d)),(7,bl b)]) (σ':=[.box (kz0.map qS)]) [2] 1 (by simp) (by simp) (by simp) (by simp[zG,zM]),?_⟩;cases b
 ·simp -implicitDefEqProofs [zG];exact zA 0 (by simp[zG])
 ·by_cases h0:t.k=3
  ·by_cases h1:d.kind=0
   ·simp -implicitDefEqProofs [zG,zM,h0,h1];exact zA 0 (by simp[zG,h0,h1])
   ·simp -implicitDefEqProofs [zG,zM,h0,h1];exact zA 0 (by simp[zG,h0,h1])
  ·simp -implicitDefEqProofs [zG,zM,h0];exact zA 0 (by simp[zG,h0])
def zRk:K:=(G [L 80 16 1,J 81 13 15,⟨none,.call (some 82) (kt 80) [(kt 81),(.const (.bool false))]⟩] (G [kMn 17] (Z (G [D 83 9 8,L 84 83 1,kN 85 84,kMi 86 0] (K.block 0 (K.loop (G [kB 87 86 85 .lss] (Z (Y 87 ks (K.exit 0)) (Z (K.block 1 (G [M 88 86,M 18 88] (G [L 89 15 1,M 90 89,T 90 false (L 91 14 1),T 90 false (M 92 18),⟨some (90,false),.mop (some 93) (.get 1 (.bool false) false) [(kt 91),(kt 92)]⟩,kPt 94 90 93] (Y 94 (K.ops [M 95 17,M 96 18,kd 97 3 1 1 [ki] [(0,1,(kt 96))],kP 98 3 1 8 95 97,M 17 98]) ks)))) (K.ops [kBi 99 86 1 .add,M 86 99]))))))) (G [M 100 17,M 6 100] kr))))
def zRj:K:=(G [⟨none,.mop (some 78) (.mk 1) []⟩,kZ 14 [(.map none)],S 14 78 1] (G [kZ 15 [(.bool false)],⟨none,.st none (kt 15) (.const (.bool false)) 1⟩] (G [kZ 16 [.nilFunc]] (G [⟨none,.clo (some 79) 58 [] [(kt 7),(kt 15),(kt 14),(kt 16)]⟩,S 16 79 1] (K.wk zRk)))))
def qA2:K:=G [kO 3 0,kO 4 1,kMn 6] (G [J 20 3 2,J 21 4 3,kC 22 56 [(kt 20),(kt 21)],M 19 22,kE 23 19 0,kE 24 19 1,kZ 7 kz0,S 7 23 31,M 8 24] (Z (G [M 25 8,kR 26 25] (Y 26 (G [kMn 6] kr) ks)) (Z (K.dops [(0,1,J 28 3 2),(1,1,D 29 7 8),(2,1,L 30 29 1),(3,1,kXi 31 30 11 0),(4,1,D 32 31 4),(5,1,J 33 32 5),(6,1,kC 34 57 [(kt 28),(kt 33)]),(7,0,M 27 34),(8,0,kE 35 27 0),(9,0,kE 36 27 1),(10,0,kZ 9 kz0),(11,0,S 9 35 31),(12,0,M 10 36)]) (G [J 38 3 2,D 39 7 9,J 40 39 5,kC 41 57 [(kt 38),(kt 40)],M 37 41,kE 42 37 0,kE 43 37 1,kZ 11 kz0,S 11 42 31,M 12 43] (Z (G [M 44 10,kR 45 44,M 46 45,T 46 false (M 47 12),T 46 false (kR 48 47),kPt 49 46 48,M 50 49,T 50 false (M 51 2),T 50 false (kBi 52 51 0 .lss),kPt 53 50 52,M 54 53,T 54 false (M 55 2),T 54 false (D 56 11 8),T 54 false (L 57 56 1),T 54 false (kN 58 57),T 54 false (kB 59 55 58 .geq),kPt 60 54 59] (Y 60 (G [kMn 6] kr) ks)) (G [D 61 7 14,J 62 61 15,kZ 13 kz1,S 13 62 15] (Z (G [D 63 13 3,L 64 63 1,kQi 65 64 7 false,M 66 65,T 66 true (M 67 2),T 66 true (D 68 13 13),T 66 true (L 69 68 1),T 66 true (kN 70 69),T 66 true (kB 71 67 70 .lss),kPf 72 66 71] (Y 72 (K.ops [D 73 13 13,L 74 73 1,M 75 2,kX 76 74 75 15,J 77 76 15,S 13 77 15]) ks)) (K.wk zRj))))))))
theorem qIj:zQ prog Tryz.f24.ntmps (Tryz.f24.body.getD .skip)=some qA2.erase:=by kernel_rfl
@[simp] theorem qLS:zB prog 24=true:=by kernel_rfl
def zFP (e:Exp)(to:Int):Exp:=if e.k=7∧to<e.kids.length then e.kids.getD to.toNat .zero else e
def zH0 (p:Prg)(conv:Id)(to:Int):List Int:=match qY p.defs conv with
 | none=>[]
 | some d=>if d.kind=5 then (match d.slots with
  | [u]=>if zM7 p u.typ=true∧zM7 p d.res=true∧0≤to∧to<((qY p.defs d.res.id).getD .zero).slots.length then zGL u.id (zFP d.body to) ((qY p.defs u.typ.id).getD .zero).slots.length else []
  | _=>[]) else []
@[simp] theorem qJI (x:Int):zA3 [x]=[int x]:=rfl
@[simp] theorem qF8:zA3 []=[]:=rfl
def zQ9 (s:Id)(e:Exp)(i:Nat):List Int:=(zHI i).filter fun x=>zE2 s e false||decide (x∈zJs s e)
theorem zQF (i:Nat):zHI (i+1)=zHI i++[(i:Int)]:=by simp[zHI,List.range_succ]
theorem zVh (s:Id)(e:Exp)(i:Nat):zQ9 s e (i+1)=zQ9 s e i++(if (zE2 s e false||decide ((i:Int)∈zJs s e))=true then [(i:Int)] else []):=by
 unfold zQ9;rw[zQF,List.filter_append]
 congr 1
 rw[List.filter_cons,List.filter_nil]
theorem zXG (s:Id)(e:Exp)(i:Nat):(zQ9 s e i).length≤i:=by
 have:=jDg (fun x=>zE2 s e false||decide (x∈zJs s e)) (zHI i)
 simpa [zQ9,zHI] using this
abbrev qDx (l:List Int):=fin [RS.slot 6] (zGS 0 (.sl l.length (zA3 l)) [])
theorem qJ0 (D D':List A)(u:Slt)(hD:D.drop 8=.sl 1 (yQ u)::D')(hv:∀rf g,vwL rf g D=D)(hn:jF D=D)(a:Dfn)(ha:a.slots.length≤1000)(e:Exp) :
 wpK prog 0 zRk (qDx (zGL u.id e a.slots.length)) (qN [(9,.rptr (zG a)),(13,.rptr (zV e)),(14,.ptr 1 0),(15,.ptr 0 0),(16,.ptr 3 0)]) (fvS D false []):=by
 have hc:=zTs D D' u hD hv hn e false false [];have hmem:∀x,x∈(zJs u.id e).foldl adI []↔x∈zJs u.id e:=fun x=>by rw[zPe]; simp
 have hpl:zGL u.id e a.slots.length=zQ9 u.id e a.slots.length:=rfl;rw[hpl];rw[jC4]at hc;unfold zRk;simp -implicitDefEqProofs [fvS];refine jO hc [0,1,2,3] (by decide) (by simp[fvS,hv]) (by simp[fvA,hv,zV]) ?_;generalize hM:(zJs u.id e).foldl adI []=M at *
 have hst:=zVh u.id e;have hpn:=zXG u.id e;have hp0:zQ9 u.id e 0=[]:=rfl;generalize zE2 u.id e false=W at *
 generalize zQ9 u.id e=pl at *
 simp -implicitDefEqProofs [fvS,zG];intro hmx;refine jQ (S:=Nat) (fun i=>[(14,.ptr 1 0),(15,.ptr 0 0),(17,.row 4 (pl i).length),(85,int a.slots.length),(86,int i)]) (fun i=>fvS D W M++[.row false 3 1 (pl i).length (zA3 (pl i))]) (fun i=>i≤a.slots.length) (fun i=>a.slots.length-i) 0 (by simp)
  ((zAE (t:=17) (by simp) 3 1).trans (zT [0,1,2,3,4] 0 (by simp) (by decide) (by simp[fvS,hv,hp0]) (by simp[hp0]))) ?_
 intro i hi;by_cases h:i<a.slots.length
 ·have hw:=qD h hmx;have hg:=zZ7 i M;have hst:=hst i;have hpn:=hpn i;have hmi:=hmem i;cases W
  ·by_cases hm:(i:Int)∈zJs u.id e
   ·have hm2:(i:Int)∈M:=hmi.2 hm;rw[if_pos (by simp[hm])]at hst;simp -implicitDefEqProofs [fvS,h,hg,hm2];refine⟨⟨by simp[maxLen]; omega,by omega⟩,?_⟩;exact zR (i+1) h (by omega) (zT [0,1,2,3,4] 0 (by simp) (by decide) (by simp[fvS,hv,hst,zGi]) (by simp[hst,hw]))
   ·have hm2:¬(i:Int)∈M:=fun hh=>hm (hmi.1 hh)
    rw[if_neg (by simp[hm])]at hst;simp -implicitDefEqProofs [fvS,h,hg,hm2];exact zR (i+1) h (by omega) (zT [0,1,2,3,4] 0 (by simp) (by decide) (by simp[fvS,hv,hst,zGi]) (by simp[hst,hw]))
  ·rw[if_pos (by simp)]at hst;simp -implicitDefEqProofs [fvS,h];refine⟨⟨by simp[maxLen]; omega,by omega⟩,?_⟩;exact zR (i+1) h (by omega) (zT [0,1,2,3,4] 0 (by simp) (by decide) (by simp[fvS,hv,hst,zGi]) (by simp[hst,hw]))
 ·have hie:i=a.slots.length:=by omega
  subst hie;simp -implicitDefEqProofs [fvS];exact zA 1 (by simp)
theorem zWZ (D D':List A)(u:Slt)(hD:D.drop 8=.sl 1 (yQ u)::D')(hv:∀rf g,vwL rf g D=D)(hn:jF D=D)(a:Dfn)(ha:a.slots.length≤1000)(e:Exp) :
 wpK prog 0 zRj (qDx (zGL u.id e a.slots.length)) (qN [(7,.rptr D),(9,.rptr (zG a)),(13,.rptr (zV e))]) []:=by
 have hV:=qJ0 D D' u hD hv hn a ha e;generalize qDx (zGL u.id e a.slots.length)=Q at *
 unfold zRj;simp -implicitDefEqProofs;have hw:=zMn (n0:=0) (env:=qN [(9,.rptr (zG a)),(13,.rptr (zV e)),(14,.ptr 1 0),(15,.ptr 0 0),(16,.ptr 3 0)]) (l:=2) (nk:=1) (fr:=true) (es:=mki []) (σ:=[.box [bl false],.box [.map 2],.mp true 1 (mki []),.box [.clo 58 [] [.rptr D,.ptr 0 0,.ptr 1 0,.ptr 3 0]]]) rfl;refine⟨_,_,zAD.trans (zT [2,1,0,3] 0 (by simp) (by decide) ?_ ?_) hw,hV⟩
 ·simp[hv,mki]
 ·simp[hv,zG,zV]
theorem zUj (u:Slt):yT [u]=yQ u:=by simp[yT]
theorem zMN (p:Prg)(hb:∀d∈p.defs,d.slots.length≤1000)(conv:Id)(to:Int):Ret prog 24 [.agg (zK p),.agg (zF conv),int to] [] (.sl (zH0 p conv to).length (zA3 (zH0 p conv to))) []:=by
 have hP:=eP p;have hcon:=zIb p conv
 unfold zP4 at hcon;have hz:∀id,((qY p.defs id).getD .zero).slots.length≤1000:=fun id=>by
  cases h:qY p.defs id with
  | none=>simp[Dfn.zero]
  | some d=>exact hb d (zAk h).1
 have hfv:∀L,zH0 p conv to=L→Ret prog 24 [.agg (zK p),.agg (zF conv),int to] [] (.sl L.length (zA3 L)) []:=by
  intro L hL;refine zI Tryz.func24 rfl qIj (rs:=[.slot 6]) (by kernel_rfl) ?_;unfold qA2;simp -implicitDefEqProofs [hP,zF];refine qA hcon (by simp[hP,zF]) (by simp) ?_;cases hc:((qY p.defs conv).isSome&&zFX ((qY p.defs conv).getD .zero))
  ·have hnil:L=[]:=by
    rw[←hL];unfold zH0;unfold zFX at hc;cases hd:qY p.defs conv with
    | none=>rfl
    | some d =>
     rw[hd]at hc;simp only[Option.isSome_some,jBa,jBu,jCo,decide_eq_false_iff_not]at hc;simp only;by_cases h5:d.kind=5
     ·rw[if_pos h5];split
      ·rename_i u hu; rw[hu]at hc; simp at hc; exact(hc h5).elim
      ·rfl
     ·rw[if_neg h5]
   subst hnil;simp -implicitDefEqProofs [zG];exact zA 0 (by simp)
  ·obtain⟨d,u,hd,h5,hu⟩:∃d u,qY p.defs conv=some d∧d.kind=5∧d.slots=[u]:=by
    cases hd:qY p.defs conv with
    | none=>rw[hd]at hc; simp at hc
    | some d =>
     rw[hd]at hc;simp only[Option.isSome_some,jBa,jBu,zFX,jA4,decide_eq_true_eq]at hc;obtain⟨u,hu⟩:=List.length_eq_one_iff.1 hc.2;exact⟨d,u,rfl,hc.1,hu⟩
   have hL2:L=if zM7 p u.typ=true∧zM7 p d.res=true∧0≤to∧to<((qY p.defs d.res.id).getD .zero).slots.length then zGL u.id (zFP d.body to) ((qY p.defs u.typ.id).getD .zero).slots.length else []:=by rw[←hL];unfold zH0;rw[hd];simp only[if_pos h5,hu]
   have r1:=zNH p u.typ;have r2:=zNH p d.res;have ha:=hz u.typ.id;rw[hd,jBa];generalize (qY p.defs u.typ.id).getD .zero=a at *
   generalize (qY p.defs d.res.id).getD .zero=b at *
   have hcs:yT d.slots=yQ u:=by rw[hu,zUj]
   have hul:d.slots.length=1:=by rw[hu]; rfl
   simp -implicitDefEqProofs [zG,hcs,hul,yQ];refine yX r1 (by simp[hP,zM]) (by simp[zG]) ?_;simp -implicitDefEqProofs [zG];refine qA r2 (by simp[hP,zM]) (by simp[zG]) ?_;simp -implicitDefEqProofs [zG];have hD:(zG d).drop 8=.sl 1 (yQ u)::(zG d).drop 9:=by have:(zG d).drop 8=.sl d.slots.length (yT d.slots)::(zG d).drop 9:=rfl;rw[this,hul,hcs]
   by_cases g1:zM7 p u.typ=true
   ·by_cases g2:zM7 p d.res=true
    ·by_cases g3:to<0
     ·rw[if_neg (by omega)]at hL2;subst hL2;simp -implicitDefEqProofs [g1,g2,g3];exact zA 0 (by simp)
     ·by_cases g4:to<(b.slots.length:Int)
      ·rw[if_pos ⟨g1,g2,by omega,g4⟩]at hL2;have g4':¬(b.slots.length:Int)≤to:=by omega
       subst hL2;by_cases h7:d.body.k=7
       ·by_cases hk:to<(d.body.kids.length:Int)
        ·obtain⟨n,rfl⟩:∃n:Nat,to=n:=⟨to.toNat,by omega⟩;have hn:n<d.body.kids.length:=by omega
         have hE:zFP d.body n=d.body.kids[n]:=by unfold zFP;rw[if_pos ⟨h7,hk⟩,jCk,jBk,jA2 hn]; rfl
         have hne:¬d.body.kids=[]:=fun e=>by rw[e]at hn; simp at hn
         rw[hE];generalize hEE:d.body.kids[n]=E;have hdr:=zBr hn;rw[hEE]at hdr;simp -implicitDefEqProofs [g1,g2,g3,g4,g4',zG,h7,hk,hn,hne,hdr,zV];exact fun _ _=>⟨qN [(7,.rptr (zG d)),(9,.rptr (zG a)),(13,.rptr (zV E))],[],zT [] 1 (by simp) (by decide) (by simp) (by simp[zG,zV,hcs,hul,yQ,h7]),zWZ (zG d) _ u hD (fun rf g=>(zA2 d).2 _ _) (zA2 d).1 a ha E⟩
        ·have hE:zFP d.body to=d.body:=by unfold zFP;rw[if_neg (fun h=>hk h.2)]
         rw[hE];have fin:=zWZ (zG d) _ u hD (fun rf g=>(zA2 d).2 _ _) (zA2 d).1 a ha d.body;simp -implicitDefEqProofs [g1,g2,g3,g4,g4',zG,h7,hk];exact fun _ _=>⟨qN [(7,.rptr (zG d)),(9,.rptr (zG a)),(13,.rptr (zV d.body))],[],zT [] 1 (by simp) (by decide) (by simp) (by simp[zG,zV,hcs,hul,yQ,h7]),fin⟩
       ·have hE:zFP d.body to=d.body:=by unfold zFP;rw[if_neg (fun h=>h7 h.1)]
        rw[hE];have fin:=zWZ (zG d) _ u hD (fun rf g=>(zA2 d).2 _ _) (zA2 d).1 a ha d.body;simp -implicitDefEqProofs [g1,g2,g3,g4,g4',zG,h7];exact fun _=>⟨qN [(7,.rptr (zG d)),(9,.rptr (zG a)),(13,.rptr (zV d.body))],[],zT [] 1 (by simp) (by decide) (by simp) (by simp[zG,zV,hcs,hul,yQ]),fin⟩
      ·have g4':(b.slots.length:Int)≤to:=by omega
       rw[if_neg (by omega)]at hL2;subst hL2;simp -implicitDefEqProofs [g1,g2,g3,g4,g4',zG]
       first | exact fun _=>zA 0 (by simp) | exact zA 0 (by simp)
    ·have g2':zM7 p d.res=false:=by simpa using g2
     rw[if_neg (fun h=>g2 h.2.1)]at hL2;subst hL2;simp -implicitDefEqProofs [g1,g2'];exact zA 0 (by simp)
   ·have g1':zM7 p u.typ=false:=by simpa using g1
    rw[if_neg (fun h=>g1 h.1)]at hL2;subst hL2;simp -implicitDefEqProofs [g1'];exact zA 0 (by simp)
 exact hfv _ rfl
def zPb:K:=G [kO 5 1,kO 6 2,kO 7 3,kZ 8 kz1] (G [kMn 9] (Z (G [kMi 10 0] (K.block 0 (K.loop (Z (G [M 13 10,D 14 5 8,L 15 14 1,kN 16 15,kB 17 13 16 .lss] (Y 17 ks (K.exit 0))) (Z (K.block 1 (G [⟨none,.mov (some 11) (kc (-1))⟩] (Z (G [kMi 12 0] (K.block 2 (K.loop (Z (G [M 20 12,D 21 6 8,L 22 21 1,kN 23 22,kB 24 20 23 .lss] (Y 24 ks (K.exit 2))) (Z (K.block 3 (Z (K.dops [(0,0,M 27 12),(1,0,M 28 10),(2,0,kQ 29 27 28 false),(3,0,M 30 29),(4,0,T 30 true (D 31 6 8)),(5,0,T 30 true (L 32 31 1)),(6,0,T 30 true (M 33 12)),(7,0,T 30 true (kX 34 32 33 11)),(8,0,T 30 true (D 35 34 4)),(9,0,T 30 true (D 36 35 0)),(10,0,T 30 true (L 37 36 1)),(11,0,T 30 true (D 38 5 8)),(12,0,T 30 true (L 39 38 1)),(13,0,T 30 true (M 40 10)),(14,0,T 30 true (kX 41 39 40 11)),(15,0,T 30 true (D 42 41 4)),(16,0,T 30 true (D 43 42 0)),(17,0,T 30 true (L 44 43 1)),(18,0,T 30 true (kQ 45 37 44 false)),(19,0,kPf 46 30 45)]) (Y 46 (K.ops [M 47 12,M 11 47]) ks))) (K.ops [M 25 12,kBi 26 25 1 .add,M 12 26])))))) (G [M 48 11,kBi 49 48 0 .geq,M 50 49,T 50 true (M 51 0),T 50 true (kC 52 65 [(kt 51),(kc 3)]),T 50 true (kBi 53 52 0 .gtr),kPf 54 50 53] (Y 54 (K.dops [(0,0,M 55 9),(1,0,M 56 0),(2,0,M 57 11),(3,2,D 58 6 0),(4,2001,J 59 58 3),(5,0,M 60 0),(6,0,J 61 7 3),(7,1001,kC 62 66 [(kt 60),(kc 2),(kc 0),(kt 61),(.const kl)]),(8,0,kd 63 39 15 1 kz1 [(0,15,(kt 62))]),(9,4,kC 64 66 [(kt 56),(kc 8),(kt 57),(kt 59),(kt 63)]),(10,0,kd 65 39 15 1 kz1 [(0,15,(kt 64))]),(11,0,kP 66 39 15 168 55 65),(12,0,M 9 66)]) (K.dops [(0,0,
 M 67 9),(1,0,M 68 0),(2,0,D 69 5 8),(3,0,L 70 69 1),(4,0,M 71 10),(5,0,kX 72 70 71 11),(6,0,D 73 72 4),(7,0,J 74 73 5),(8,0,J 75 6 31),(9,0,J 76 7 3),(10,4,kC 77 68 [(kt 68),(kt 74),(kt 75),(kt 76),(kc 2)]),(11,0,kd 78 39 15 1 kz1 [(0,15,(kt 77))]),(12,0,kP 79 39 15 168 67 78),(13,0,M 9 79)])))))) (K.ops [M 18 10,kBi 19 18 1 .add,M 10 19])))))) (Z (K.wk (K.ops [M 80 0,D 81 5 0,J 82 81 3,M 83 9,kC 84 66 [(kt 80),(kc 7),(kc 0),(kt 82),(kt 83)],S 8 84 15])) kr)))
def zXn:Nat→Option (List (Nat×Nat)):=fun r=>match r with | 12=>some [(0,0),(1,0),(2,0),(3,2),(4,2001),(5,0),(6,0),(7,1001),(8,0),(9,4),(10,0),(11,0),(12,0)] | 13=>some [(0,0),(1,0),(2,0),(3,0),(4,0),(5,0),(6,0),(7,0),(8,0),(9,0),(10,4),(11,0),(12,0),(13,0)] | _=>none
theorem zWb:qG prog Tryz.f67.ntmps zXn (Tryz.f67.body.getD .skip)=some zPb.erase:=by kernel_rfl
@[simp] theorem qCF:zB prog 67=true:=by kernel_rfl
section
variable {l:List Int}
theorem zZr (to fro:Dfn)(s:Id)(i:Nat)(m:Gm):Gst m (zGU l to fro s i m).2 28:=by
 unfold zGU;split
 ·split
  ·split
   ·exact(qC m).trans (zOr _ _ _ _) (by omega)
   ·exact(qC m).trans (zBV _ _ _ _ _ _) (by simp[gC])
  ·exact(zBV _ _ _ _ _ _).mono (by simp[gC])
 ·exact(zBV _ _ _ _ _ _).mono (by simp[gC])
 ·exact Gst.refl _ (by omega)
theorem zLv (to fro:Dfn)(s:Id)(m:Gm):∀n:Nat,Gst m (zBT l to fro s n m).2 (28*n)
 | 0=>Gst.refl _ (by omega)
 | n+1=>by simp only[zBT];exact(zLv to fro s m n).trans (zZr _ _ _ _ _) (by omega)
theorem zK6 (to fro:Dfn)(s:Id)(m:Gm)(h:to.slots.length≤6):Gst m (zFl l to fro s m).2 170 :=
 (zLv to fro s m _).trans (zBU _ _ _ _ _) (by omega)
def smK (to fro:Dfn)(i:Nat)(k:Nat):Int:=if i<k then (match to.slots[i]?,fro.slots[i]? with
 | some u,some v=>if v.typ.k=u.typ.k then (i:Int) else -1
 | _,_=>-1) else -1
theorem qLj (to fro:Dfn)(i:Nat):smK to fro i 0 = -1:=rfl
theorem zTP {to fro:Dfn}{i:Nat}(h1:i<to.slots.length)(h2:i<fro.slots.length)(h:fro.slots[i].typ.k=to.slots[i].typ.k){k:Nat}(hk:i<k):smK to fro i k=i:=by simp[smK,hk,h1,h2,h]
theorem zXZ {to fro:Dfn}{i:Nat}(h1:i<to.slots.length)(h2:i<fro.slots.length)(h:fro.slots[i].typ.k≠to.slots[i].typ.k)(k:Nat):smK to fro i k = -1:=by simp[smK,h1,h2,h]
theorem qAe {to fro:Dfn}{i:Nat}(h2:¬i<fro.slots.length)(k:Nat):smK to fro i k = -1:=by
 have:fro.slots[i]?=none:=by simp; omega
 unfold smK;rw[this];split
 ·split<;>simp_all
 ·rfl
theorem zYa {to fro:Dfn}{i k:Nat}(h:k≠i):smK to fro i (k+1)=smK to fro i k:=by
 unfold smK;by_cases e:i<k
 ·rw[if_pos e,if_pos (by omega)]
 ·rw[if_neg e,if_neg (by omega)]
theorem zMW (hl:∀x∈l,w64 x=x)(to fro:Dfn)(s:Id)(h1:to.slots.length≤6)(h2:fro.slots.length≤6)(hf:∀u∈to.slots,u.typ=tK u.typ.k∧(u.typ.k=0∨u.typ.k=1))(m:Gm)(hok:m.Ok 170) :
 Ret prog 67 [.ptr 0 0,.agg (zG to),.agg (zG fro),.agg (zF s)] (gS l m) (.agg (zV (zFl l to fro s m).1)) (gS l (zFl l to fro s m).2):=by
 refine qP Tryz.func67 rfl zWb (rs:=[.cell 8 15 true]) (by kernel_rfl) ?_;unfold zPb;simp -implicitDefEqProofs [gS,gB];refine jQ (S:=Nat) (fun i=>[(0,.ptr 0 0),(5,.ptr 1 0),(6,.ptr 2 0),(7,.ptr 3 0),(8,.ptr 4 0),(9,.row 5 i),(10,int i)])
  (fun i=>gS l (zBT l to fro s i m).2++[.box (zG to),.box (zG fro),.box (zF s),.box (zV Exp.zero),.row false 39 15 i (jR (zBT l to fro s i m).1)]) (fun i=>i≤to.slots.length) (fun i=>to.slots.length-i) 0 (by simp)
  ((zAE (t:=9) (by simp) 39 15).trans (zT [0,1,2,3,4,5] 0 (by decide) (by simp) (by simp[gS,gB,zAT,zBT]) (by simp))) ?_
 intro i hi;have hst:=zLv (l:=l) to fro s m i;have hkl:=zE8 l to fro s m i;generalize hmi:(zBT l to fro s i m).2=mi at hst;generalize hki:(zBT l to fro s i m).1=ki at hkl;by_cases hi2:i<to.slots.length
 ·have hok1:mi.Ok 29:=hok.adv hst (by omega);have hkid:zBT l to fro s (i+1) m=(ki++[(zGU l to fro s i mi).1],(zGU l to fro s i mi).2):=by simp only[zBT,hmi,hki]
  have hu:=hf _ (jA3 hi2);have hut:zM to.slots[i].typ=[int to.slots[i].typ.k,int 0,int 0,int 0,.sl 0 []]:=by rw[hu.1,zYj hu.2];rw[qLk hu.2]
  have hne:to.slots≠[]:=fun e=>by rw[e]at hi2; simp at hi2
  have hwi:=zA9 i (by omega);simp -implicitDefEqProofs [gS,gB,zG,hi2];intro _;refine jQ (S:=Nat) (fun k=>[(0,.ptr 0 0),(5,.ptr 1 0),(6,.ptr 2 0),(7,.ptr 3 0),(8,.ptr 4 0),(9,.row 5 i),(10,int i),(11,int (smK to fro i k)),(12,int k)])
   (fun k=>gS l mi++[.box (zG to),.box (zG fro),.box (zF s),.box (zV Exp.zero),.row false 39 15 i (jR ki)]) (fun k=>k≤fro.slots.length) (fun k=>fro.slots.length-k) 0 (by simp)
   (zT [0,1,2,3,4,5] 0 (by decide) (by simp) (by simp[gS,gB,zAT,zG]) (by simp[qLj])) ?_
  intro k hk;by_cases hk2:k<fro.slots.length
  ·have hne2:fro.slots≠[]:=fun e=>by rw[e]at hk2; simp at hk2
   have hwk:=qD hk2 (show fro.slots.length≤maxLen by simp[maxLen]; omega);by_cases hki2:k=i
   ·subst hki2;by_cases hkk:fro.slots[k].typ.k=to.slots[k].typ.k
    ·simp -implicitDefEqProofs [gS,gB,zG,hk2,hne,hne2,jW hk2,jW hi2,yQ,hkk,hi2];exact fun _=>zR (k+1) hk2 (by omega) (zT [0,1,2,3,4,5] 0 (by decide) (by simp) (by simp[gS,gB,zAT,zG]) (by simp[hwk,zTP hi2 hk2 hkk]))
    ·have e1:=zXZ hi2 hk2 hkk;simp -implicitDefEqProofs [gS,gB,zG,hk2,hne,hne2,jW hk2,jW hi2,yQ,hkk,hi2];exact fun _=>zR (k+1) hk2 (by omega) (zT [0,1,2,3,4,5] 0 (by decide) (by simp) (by simp[gS,gB,zAT,zG]) (by simp[hwk,e1]))
   ·have hki3:¬(k:Int)=i:=by omega
    simp -implicitDefEqProofs [gS,gB,zG,hk2,hki2,hki3];exact fun _=>zR (k+1) hk2 (by omega) (zT [0,1,2,3,4,5] 0 (by decide) (by simp) (by simp[gS,gB,zAT,zG]) (by simp[hwk,zYa hki2]))
  ·have hkE:k=fro.slots.length:=by omega
   subst hkE;have happ:∀(q:Exp×Gm),zGU l to fro s i mi=q→jR (zBT l to fro s (i+1) m).1=jR ki++zV q.1:=fun q hq=>by rw[hkid,hq]; simp[zMt,qE]
   have happ2:∀(q:Exp×Gm),zGU l to fro s i mi=q→(zBT l to fro s (i+1) m).2=q.2:=fun q hq=>by rw[hkid,hq]
   by_cases hA:∃h:i<fro.slots.length,fro.slots[i].typ.k=to.slots[i].typ.k
   ·obtain⟨hif,hkk⟩:=hA;have e1:=zTP hi2 hif hkk (k:=fro.slots.length) hif;simp -implicitDefEqProofs [gS,gB,zG,e1];intro _;refine jO (zB2 (l:=l) mi 3 (by omega) (hok1.mono (by omega))) [0] (by decide) (by simp[gS,gB]) (by simp) ?_;by_cases hN:0<gN l mi 3
    ·have hq:zGU l to fro s i mi=zMy mi.tick i fro.id s:=by unfold zGU;rw[jA2 hi2,jA2 hif];simp only[if_pos hkk,if_pos hN]
     have g1:=zBa (l:=l) mi.tick 2 0 s [] (hok1.adv (qC mi) (by omega));have g2:=zBa (l:=l) (yV mi.tick 2 0 s []).2 8 i fro.id [(yV mi.tick 2 0 s []).1] (hok1.adv ((qC mi).trans (zBU _ _ _ _ _) (jAe _)) (by omega));simp -implicitDefEqProofs [gS,gB,zG,hN];refine zBz g1 [0] (by decide) (by simp[gS,gB]) (by simp) (by decide) (by simp) (by simp[gS]) ?_;simp -implicitDefEqProofs [gS,gB];refine zAY g2 [0] (by decide) (by simp[gS,gB]) (by simp[qE,zF]) ?_;simp -implicitDefEqProofs [gS,gB];refine⟨⟨by simp[maxLen]; omega,by omega⟩,?_⟩;exact zR (i+1) hi2 (by omega) (zT [0,1,2,3,4,5] 0 (by decide) (by simp) (by simp[gS,gB,zAT,zG,happ _ hq,happ2 _ hq,zMy]) (by simp[hwi]))
    ·have hq:zGU l to fro s i mi=zAK l fro s 2 to.slots[i].typ.k mi.tick:=by unfold zGU;rw[jA2 hi2,jA2 hif];simp only[if_pos hkk,if_neg hN]
     have g:=zI1 hl fro s h2 2 (by omega) mi.tick to.slots[i].typ.k hu.2 (hok1.adv (qC mi) (by simp[gC]));rw[←hu.1]at g;simp -implicitDefEqProofs [gS,gB,zG,hN,hi2,hne,jW hi2,yQ];refine zAY g [0] (by decide) (by simp[gS,gB]) (by simp[zG,zF,zM]) ?_;simp -implicitDefEqProofs [gS,gB];refine⟨⟨by simp[maxLen]; omega,by omega⟩,?_⟩;exact zR (i+1) hi2 (by omega) (zT [0,1,2,3,4,5] 0 (by decide) (by simp) (by simp[gS,gB,zAT,zG,happ _ hq,happ2 _ hq]) (by simp[hwi]))
   ·have e1:smK to fro i fro.slots.length = -1:=by
     by_cases hif:i<fro.slots.length
     ·exact zXZ hi2 hif (fun e=>hA ⟨hif,e⟩) _
     ·exact qAe hif _
    have hq:zGU l to fro s i mi=zAK l fro s 2 to.slots[i].typ.k mi:=by
     unfold zGU;rw[jA2 hi2];by_cases hif:i<fro.slots.length
     ·rw[jA2 hif];simp only[if_neg (fun e=>hA ⟨hif,e⟩)]
     ·have:fro.slots[i]?=none:=by simp; omega
      rw[this]
    have g:=zI1 hl fro s h2 2 (by omega) mi to.slots[i].typ.k hu.2 (hok1.mono (by simp[gC]));rw[←hu.1]at g;simp -implicitDefEqProofs [gS,gB,zG,e1,hi2,hne,jW hi2,yQ];intro _;refine zAY g [0] (by decide) (by simp[gS,gB]) (by simp[zG,zF,zM]) ?_;simp -implicitDefEqProofs [gS,gB];refine⟨⟨by simp[maxLen]; omega,by omega⟩,?_⟩;exact zR (i+1) hi2 (by omega) (zT [0,1,2,3,4,5] 0 (by decide) (by simp) (by simp[gS,gB,zAT,zG,happ _ hq,happ2 _ hq]) (by simp[hwi]))
 ·have hie:i=to.slots.length:=by omega
  subst hie;have g:=zBa (l:=l) mi 7 0 to.id ki (hok.adv hst (by omega));have hrec:zFl l to fro s m=yV mi 7 0 to.id ki:=by simp only[zFl,hmi,hki]
  simp -implicitDefEqProofs [gS,gB,zG];intro _;refine⟨qN [(0,.ptr 0 0),(5,.ptr 1 0),(8,.ptr 4 0),(9,.sl to.slots.length (jR ki))],gS l mi++[.box (zG to),.box (zG fro),.box (zF s),.box (zV Exp.zero)],zT [0,1,2,3,4] 1 (by decide) (by simp) (by simp[gS,gB,zG,zAT]) (by simp),?_⟩;simp -implicitDefEqProofs [gS,gB,zG];refine jO g [0] (by decide) (by simp[gS,gB]) (by simp[zF,hkl]) ?_;simp -implicitDefEqProofs [gS,gB];rw[hrec];exact zL [0] 0 (by decide) (by simp) (by simp) (by simp[yV,zV])
end
end Go.Proofs.YtdnelmeboihpkaaGreatDoor
