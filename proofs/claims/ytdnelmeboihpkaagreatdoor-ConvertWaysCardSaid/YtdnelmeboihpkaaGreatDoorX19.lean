/-
  The second generator's maker, walked: its small functions, its parts.
  domain.tuples: lists of values, one by one.
  The reference's Paths.
  convert.Field.
  The second generator's records of fields, walked.
-/
import Derived.Test.YtdnelmeboihpkaaGreatDoorX15
import Derived.Test.YtdnelmeboihpkaaGreatDoorX18
import Derived.Test.YtdnelmeboihpkaaGreatDoorX14
set_option linter.unusedVariables false
set_option maxHeartbeats 8000000
set_option maxRecDepth 100000
set_option linter.unusedSimpArgs false
open Go.Proofs.Tryz (prog)
namespace Go.Proofs.YtdnelmeboihpkaaGreatDoor
open Go.Abs
def qET:K:=G [kZ 2 [ki,ki,ki]] (G [M 3 0,kBi 4 3 32 .quo,⟨none,.bin (some 5) .add (kc 1) (kt 4)⟩,M 6 0,kBi 7 6 32 .rem,kb 8 [ki,ki,ki] [(1,1,(kt 5)),(2,1,(kt 7))],S 2 8 3] kr)
theorem qLZ:zR prog Tryz.f64.ntmps (Tryz.f64.body.getD .skip)=some qET.erase:=by kernel_rfl
@[simp] theorem qMF:zA prog 64=true:=by kernel_rfl
def zYu:K:=G [kMi 4 0] (G [M 5 0,kU 6 5,D 7 6 1,L 8 7 1,kBi 9 8 1 .add,kU 10 5,D 11 10 1,S 11 9 1] (Z (K.dops [(0,0,M 12 0),(1,0,kU 13 12),(2,0,D 14 13 0),(3,0,L 15 14 1),(4,0,M 16 0),(5,0,kU 17 16),(6,0,D 18 17 1),(7,0,L 19 18 1),(8,0,kBi 20 19 1 .sub),(9,0,M 21 1),(10,0,kC 22 38 [(kt 15),(kt 20),(kt 21)]),(11,0,M 4 22)]) kr))
theorem qFW:zR prog Tryz.f65.ntmps (Tryz.f65.body.getD .skip)=some zYu.erase:=by kernel_rfl
@[simp] theorem qJ7:zA prog 65=true:=by kernel_rfl
def zTN:K:=G [kO 8 3,kZ 10 kz1] (G [M 11 0,kU 12 11,D 13 12 2,L 14 13 1,kBi 15 14 1 .add,kU 16 11,D 17 16 2,S 17 15 1] (Z (K.dops [(0,0,M 18 0),(1,0,kU 19 18),(2,0,D 20 19 2),(3,0,L 21 20 1),(4,0,kBi 22 21 1 .sub),(5,0,kC 23 64 [(kt 22)]),(6,0,M 24 1),(7,0,M 25 2),(8,0,J 26 8 3),(9,0,M 27 4),(10,0,kb 28 kz1 [(0,3,(kt 23)),(3,1,(kt 24)),(4,1,(kt 25)),(5,3,(kt 26)),(13,1,(kt 27))]),(11,0,S 10 28 15)]) kr))
theorem qAe:zR prog Tryz.f66.ntmps (Tryz.f66.body.getD .skip)=some zTN.erase:=by kernel_rfl
@[simp] theorem qGs:zA prog 66=true:=by kernel_rfl
def zTO:K:=G [kO 6 1,kO 7 2,kO 8 3,kZ 10 kz1] (G [M 18 0,kC 19 65 [(kt 18),(kc 12)],M 11 19] (Z (G [kMi 12 0] (K.block 0 (K.loop (Z (G [M 20 12,D 21 7 8,L 22 21 1,kN 23 22,kB 24 20 23 .lss,M 25 24,T 25 true (M 26 11),T 25 true (kBi 27 26 3 .gtr),kPf 28 25 27] (Y 28 ks (K.exit 0))) (Z (K.block 1 (G [M 31 12,M 32 11,kB 33 31 32 .add,D 34 7 8,L 35 34 1,kN 36 35,kB 37 33 36 .rem,M 13 37] (Z (K.dops [(0,0,D 38 7 8),(1,0,L 39 38 1),(2,0,M 40 13),(3,0,kX 41 39 40 11),(4,0,D 42 41 4),(5,0,D 43 42 0),(6,0,L 44 43 1),(7,0,D 45 6 0),(8,0,L 46 45 1),(9,0,kQ 47 44 46 false),(10,0,M 48 47),(11,0,T 48 true (M 49 11)),(12,0,T 48 true (kBi 50 49 4 .gtr)),(13,0,kPf 51 48 50)]) (Y 51 (Z (K.dops [(0,0,M 52 0),(1,0,M 53 13),(2,2,D 54 7 0),(3,2001,J 55 54 3),(4,0,M 56 0),(5,0,J 57 8 3),(6,1001,kC 58 66 [(kt 56),(kc 2),(kc 0),(kt 57),(.const kl)]),(7,0,kd 59 39 15 1 kz1 [(0,15,(kt 58))]),(8,4,kC 60 66 [(kt 52),(kc 8),(kt 53),(kt 55),(kt 59)]),(9,0,S 10 60 15)]) kr) ks)))) (K.ops [M 29 12,kBi 30 29 1 .add,M 12 30])))))) (Z (G [M 61 11,kBi 62 61 3 .lss,M 63 62,T 63 true (M 64 4),T 63 true (kBi 65 64 0 .gtr),kPf 66 63 65,M 67 66,T 67 true (D 68 6 0),T 67 true (L 69 68 1),T 67 true (kQi 70 69 0 false),kPf 71 67 70] (Y 71 (G [M 72 0,J 73 6 5,J 74 7 31,J 75 8 3,M 76 4,kBi 77 76 1 .sub,kC 78 68 [(kt 72),(kt 73),(kt 74),(kt 75),(kt 77)],kZ 14 kz1,S 14 78 15] (Z (K.dops [(0,0,M 79 0),(1,0,kd 80 3 1 3 [ki,ki,ki] [(0,1,(kc 0)),(1,1,(kc 1)),(2,1,(kc 2))]),(2,0,M 81 11),(3,2,kX 82 80 81 1),(4,2,
 L 83 82 1),(5,0,kb 84 [ki,ki,ki] []),(6,2001,J 85 14 15),(7,0,M 86 0),(8,0,J 87 6 5),(9,0,J 88 7 31),(10,0,J 89 8 3),(11,0,M 90 4),(12,0,kBi 91 90 1 .sub),(13,1001,kC 92 68 [(kt 86),(kt 87),(kt 88),(kt 89),(kt 91)]),(14,0,kd 93 39 15 2 kz6 [(0,15,(kt 85)),(15,15,(kt 92))]),(15,4,kC 94 66 [(kt 79),(kc 4),(kt 83),(kt 84),(kt 93)]),(16,0,S 10 94 15)]) kr)) ks)) (Z (G [M 95 11,kBi 96 95 2 .lss,M 97 96,T 97 true (M 98 4),T 97 true (kBi 99 98 0 .gtr),kPf 100 97 99] (Y 100 (G [M 101 0,J 102 6 5,J 103 7 31,J 104 8 3,M 105 4,kBi 106 105 1 .sub,kC 107 68 [(kt 101),(kt 102),(kt 103),(kt 104),(kt 106)],kZ 15 kz1,S 15 107 15] (Z (K.dops [(0,0,M 108 0),(1,0,kd 109 3 1 2 [ki,ki] [(0,1,(kc 7)),(1,1,(kc 8))]),(2,0,M 110 11),(3,2,kX 111 109 110 1),(4,2,L 112 111 1),(5,0,kb 113 [ki,ki,ki] []),(6,2001,J 114 15 15),(7,0,M 115 0),(8,0,J 116 6 5),(9,0,J 117 7 31),(10,0,J 118 8 3),(11,0,M 119 4),(12,0,kBi 120 119 1 .sub),(13,1001,kC 121 68 [(kt 115),(kt 116),(kt 117),(kt 118),(kt 120)]),(14,0,kd 122 39 15 2 kz6 [(0,15,(kt 114)),(15,15,(kt 121))]),(15,4,kC 123 66 [(kt 108),(kc 4),(kt 112),(kt 113),(kt 122)]),(16,0,S 10 123 15)]) kr)) ks)) (Z (G [M 124 11,kQi 125 124 3 false,M 126 125,T 126 true (M 127 4),T 126 true (kBi 128 127 0 .gtr),kPf 129 126 128] (Y 129 (G [M 130 0,kb 131 kz2 [(0,1,(kc 1))],J 132 7 31,J 133 8 3,kC 134 68 [(kt 130),(kt 131),(kt 132),(kt 133),(kc 0)],kZ 16 kz1,S 16 134 15] (G [M 135 0,J 136 6 5,J 137 7 31,J 138 8 3,
 M 139 4,kBi 140 139 1 .sub,kC 141 68 [(kt 135),(kt 136),(kt 137),(kt 138),(kt 140)],kZ 17 kz1,S 17 141 15] (Z (K.dops [(0,0,M 142 0),(1,0,kb 143 [ki,ki,ki] []),(2,2001,J 144 16 15),(3,2001,J 145 17 15),(4,0,M 146 0),(5,0,J 147 6 5),(6,0,J 148 7 31),(7,0,J 149 8 3),(8,0,M 150 4),(9,0,kBi 151 150 1 .sub),(10,1001,kC 152 68 [(kt 146),(kt 147),(kt 148),(kt 149),(kt 151)]),(11,0,kd 153 39 15 3 kz4 [(0,15,(kt 144)),(15,15,(kt 145)),(30,15,(kt 152))]),(12,4,kC 154 66 [(kt 142),(kc 5),(kc 0),(kt 143),(kt 153)]),(13,0,S 10 154 15)]) kr))) ks)) (Z (G [D 155 6 0,L 156 155 1,kQi 157 156 1 false] (Y 157 (G [M 158 0,M 159 0,kC 160 65 [(kt 159),(kc 2)],kb 161 [ki,ki,ki] [],kC 162 66 [(kt 158),(kc 1),(kt 160),(kt 161),(.const kl)],S 10 162 15] kr) ks)) (G [M 163 0,M 164 0,kC 165 65 [(kt 164),(kc 4)],kBi 166 165 1 .sub,kb 167 [ki,ki,ki] [],kC 168 66 [(kt 163),(kc 0),(kt 166),(kt 167),(.const kl)],S 10 168 15] kr)))))))
def qBb:Nat→Option (List (Nat×Nat)):=fun r=>match r with | 7=>some [(0,0),(1,0),(2,2),(3,2001),(4,0),(5,0),(6,1001),(7,0),(8,4),(9,0)] | 10=>some [(0,0),(1,0),(2,0),(3,2),(4,2),(5,0),(6,2001),(7,0),(8,0),(9,0),(10,0),(11,0),(12,0),(13,1001),(14,0),(15,4),(16,0)] | 13=>some [(0,0),(1,0),(2,0),(3,2),(4,2),(5,0),(6,2001),(7,0),(8,0),(9,0),(10,0),(11,0),(12,0),(13,1001),(14,0),(15,4),(16,0)] | 17=>some [(0,0),(1,0),(2,2001),(3,2001),(4,0),(5,0),(6,0),(7,0),(8,0),(9,0),(10,1001),(11,0),(12,4),(13,0)] | _=>none
theorem qAf:qE prog Tryz.f68.ntmps qBb (Tryz.f68.body.getD .skip)=some zTO.erase:=by kernel_rfl
@[simp] theorem qGt:zA prog 68=true:=by kernel_rfl
theorem zFE (k:Int):Ret prog 64 [int k] [] (.agg (zC (idR k))) []:=by refine zI Tryz.func64 rfl qLZ (rs:=[.cell 2 3 true]) (by kernel_rfl) ?_;unfold qET;simp -implicitDefEqProofs;exact zB 0 (by simp[zC,idR])
def gB (l:List Int)(m:Gm):List A:=[.sl l.length (zAM l),int m.at_,int m.next]
def gS (l:List Int)(m:Gm):St:=[.box (gB l m)]
def Gm.Ok (m:Gm)(c:Int):Prop:=0≤m.at_∧m.at_+c≤1000000∧0≤m.next∧m.next+c≤1000000
def Gst (m m':Gm)(c:Int):Prop:=m.at_≤m'.at_∧m'.at_≤m.at_+c∧m.next≤m'.next∧m'.next≤m.next+c
theorem Gst.refl (m:Gm){c:Int}(h:0≤c):Gst m m c:=by unfold Gst; omega
theorem Gst.trans {a b m:Gm}{c d e:Int}(h1:Gst a b c)(h2:Gst b m d)(h:c+d≤e):Gst a m e:=by unfold Gst at *; omega
theorem Gst.mono {a b:Gm}{c d:Int}(h1:Gst a b c)(h:c≤d):Gst a b d:=by unfold Gst at *; omega
theorem Gm.Ok.adv {a b:Gm}{c d e:Int}(h:a.Ok e)(h1:Gst a b c)(h2:c+d≤e):b.Ok d:=by unfold Gst Gm.Ok at *; omega
theorem Gm.Ok.mono {a:Gm}{c d:Int}(h:a.Ok c)(h1:d≤c):a.Ok d:=by unfold Gm.Ok at *; omega
theorem zY (m:Gm):Gst m m.tick 1:=by simp only[Gst,Gm.tick]; omega
theorem zBF (m:Gm)(k n:Int)(r:Id)(ks:List Exp):Gst m (yN m k n r ks).2 1:=by simp only[Gst,yN]; omega
theorem zMW (m:Gm)(k:Nat)(d s:Id):Gst m (zLn m k d s).2 2:=(zBF m _ _ _ _).trans (zBF _ _ _ _ _) (by omega)
theorem zO7 (l:List Int)(t:Int)(m:Gm):Gst m (zFD l t m).2 2:=by
 unfold zFD;split
 ·exact(zY m).trans (zBF _ _ _ _ _) (by omega)
 ·exact(zY m).trans (zBF _ _ _ _ _) (by omega)
theorem zLV (l:List Int)(d:Dfn)(s:Id)(t:Int)(m:Gm):Gst m (zEH l d s t m).2 3:=by
 unfold zEH;split
 ·exact(zY m).trans (zMW _ _ _ _) (by omega)
 ·exact(zY m).trans (zO7 _ _ _) (by omega)
def gC:Nat→Int
 | 0=>3
 | n+1=>2*gC n+5
theorem zMV:∀n,3≤gC n
 | 0=>by simp[gC]
 | n+1=>by have:=zMV n; simp only[gC]; omega
theorem zRE {f:Gm→Exp×Gm}{c:Int}(hf:∀m,Gst m (f m).2 c)(m:Gm)(n:Int):Gst m (zSE f m n).2 (2*c+1) :=
 (((hf m).trans (hf _) (jAf _)).trans (zBF _ _ _ _ _) (by omega))
theorem qAX {f g:Gm→Exp×Gm}{c b:Int}(hf:∀m,Gst m (f m).2 b)(hg:∀m,Gst m (g m).2 c)(m:Gm):Gst m (gIf f g m).2 (b+2*c+1) :=
 ((((hf m).trans (hg _) (jAf _)).trans (hg _) (jAf _)).trans (zBF _ _ _ _ _) (by omega))
theorem zBG (l:List Int)(d:Dfn)(s:Id):∀(n:Nat) (t:Int) (m:Gm),Gst m (zAC l d s n t m).2 (gC n)
 | 0,t,m=>zLV l d s t m
 | n+1,t,m=>by
  have ih:=zBG l d s n t;have h3:=zMV n;unfold zAC;simp only[gC];split
  ·exact(zY m).trans (zMW _ _ _ _) (by omega)
  ·split
   ·exact(zY m).trans (zRE ih _ _) (by omega)
   ·split
    ·exact(zY m).trans (zRE ih _ _) (by omega)
    ·split
     ·exact(zY m).trans (qAX (zLV l d s 1) ih _) (by omega)
     ·exact(zY m).trans (zO7 _ _ _) (by omega)
section
variable {l:List Int}
theorem zBq (m:Gm)(n:Int)(hn:0<n)(h:m.Ok 1):Ret prog 65 [.ptr 0 0,int n] (gS l m) (int (gN l m n)) (gS l m.tick):=by obtain⟨h1,h2,h3,h4⟩:=h;refine zI Tryz.func65 rfl qFW (rs:=[.slot 4]) (by kernel_rfl) ?_;unfold zYu;have w1:=jS (m.at_+1) (by omega);have w2:=jS m.at_ (by omega);simp -implicitDefEqProofs [gS,gB,w1,w2];refine qK (qFq l m.at_ n hn) (by simp) (by simp) ?_;simp -implicitDefEqProofs;exact zH [0] 0 (by decide) (by simp) (by simp[Gm.tick]) (by simp[gN])
theorem zBb (hl:∀x∈l,w64 x=x)(m:Gm){n:Int}(hn:0<n):0≤gN l m n∧gN l m n<n:=zBQ hl hn
theorem zAL (m:Gm)(k n:Int)(r:Id)(ks:List Exp)(h:m.Ok 1):Ret prog 66 [.ptr 0 0,int k,int n,.agg (zC r),.sl ks.length (jP ks)] (gS l m) (.agg (zT (yN m k n r ks).1)) (gS l (yN m k n r ks).2):=by obtain⟨h1,h2,h3,h4⟩:=h;refine zI Tryz.func66 rfl qAe (rs:=[.cell 10 15 true]) (by kernel_rfl) ?_;unfold zTN;have w1:=jS (m.next+1) (by omega);have w2:=jS m.next (by omega);simp -implicitDefEqProofs [gS,gB,w1,w2,zC];refine qK (zFE m.next) (by simp) (by simp[zC]) ?_;simp -implicitDefEqProofs [zC];exact zH [0] 0 (by decide) (by simp) (by simp[yN]) (by simp[zT,yN,Typ.zero,Typ.k,Typ.id,Typ.kids,Id.zero])
theorem zQo {ss:List Slt}{t x:Int}(h:∀i,i<ss.length→∀s,ss[zFl ss.length x i]?=some s→¬(s.typ.k=t∧4<x)):zGC ss t x=none:=by
 unfold zGC;split
 ·rename_i h4;rw[Option.map_eq_none_iff,jCy];intro i hi;rw[jCi]at hi;split
  ·rename_i s hs;intro hh;exact h i hi s hs ⟨by simpa using hh,h4⟩
  ·simp
 ·rfl
theorem zSC {ss:List Slt}{t x:Int}{i:Nat}(hi:i<ss.length){s:Slt}(hs:ss[zFl ss.length x i]?=some s)(h1:s.typ.k=t)(h4:4<x)(hb:∀j,j<i→∀u,ss[zFl ss.length x j]?=some u→¬u.typ.k=t):zGC ss t x=some (zFl ss.length x i):=by
 unfold zGC;rw[if_pos h4];refine jAe.2 ⟨i,?_,rfl⟩;rw[List.find?_eq_some_iff_getElem];refine⟨by simp[hs,h1],i,by simpa using hi,by simp,fun j hj=>?_⟩;simp only[List.getElem_range];cases hu:ss[zFl ss.length x j]? with
 | none=>rfl
 | some u=>simp[hb j hj u hu]
theorem qIE {t:Int}(ht:t=0∨t=1):(tK t).k=t:=by rcases ht with rfl | rfl<;>rfl
theorem zWi {t:Int}(ht:t=0∨t=1):zU (tK t)=[int t,int 0,int 0,int 0,.sl 0 []]:=by rcases ht with rfl | rfl<;>rfl
theorem zAF:zT Exp.zero=[int 0,int 0,int 0,int 0,int 0,int 0,int 0,int 0,int 0,int 0,int 0,int 0,.sl 0 [],.sl 0 [],.sl 0 []]:=rfl
def qFl (ss:List Slt)(t:Int)(X:Int)(i:Nat):Prop:=i≤ss.length∧∀j,j<i→∀u,ss[zFl ss.length X j]?=some u→¬(u.typ.k=t∧4<X)
def zME (l:List Int)(d:Dfn)(s:Id)(n:Nat):Prop:=∀(m:Gm) (t:Int),t=0∨t=1→m.Ok (gC n) →
 Ret prog 68 [.ptr 0 0,.agg (zU (tK t)),.agg (zG d),.agg (zC s),int n] (gS l m) (.agg (zT (zAC l d s n t m).1)) (gS l (zAC l d s n t m).2)
theorem zMq (hl:∀x∈l,w64 x=x)(d:Dfn)(s:Id)(hfew:d.slots.length≤6)(N:Nat)(hN:N≤2)(ih:∀n,N=n+1→zME l d s n∧zME l d s 0):zME l d s N:=by
 intro m t ht hok;have hc3:=zMV N;have hok':=hok;obtain⟨x0,x1⟩:=zBb hl m (n:=12) (by omega);obtain⟨X,hX⟩:∃X:Nat,gN l m 12=X:=⟨(gN l m 12).toNat,by omega⟩;have htk:=qIE ht;have htd:=zWi ht;have hg:∀q,q=zAC l d s N t m→Ret prog 68 [.ptr 0 0,.agg (zU (tK t)),.agg (zG d),.agg (zC s),int N] (gS l m) (.agg (zT q.1)) (gS l q.2):=by
  intro q hq;refine qL Tryz.func68 rfl qAf (rs:=[.cell 10 15 true]) (by kernel_rfl) ?_;unfold zTO;simp -implicitDefEqProofs [gS,gB,htd];refine jJ (zBq (l:=l) m 12 (by omega) (hok'.mono (by omega))) [0] (by decide) (by simp[gS,gB]) (by simp) ?_;simp -implicitDefEqProofs [gS,gB];rw[hX];rw[hX]at x1;refine jM (S:=Nat) (fun i=>[(0,.ptr 0 0),(4,int N),(6,.ptr 1 0),(7,.ptr 2 0),(8,.ptr 3 0),(10,.ptr 4 0),(11,int X),(12,int i)])
   (fun i=>gS l m.tick++[.box (zU (tK t)),.box (zG d),.box (zC s),.box (zT Exp.zero)]) (qFl d.slots t X) (fun i=>d.slots.length-i) 0 ⟨by omega,fun j hj=>by omega⟩
   (zO [0,1,2,3,4] 0 (by decide) (by simp) (by simp[gS,gB,htd,zAF,Gm.tick]) (by simp)) ?_
  rintro i ⟨hi,hno⟩;by_cases hin:i<d.slots.length∧(3:Int)<X
  ·obtain⟨h1,h3⟩:=hin;have hw:=jS ((i:Int)+X) (by omega);have hk:zFl d.slots.length X i<d.slots.length:=Nat.mod_lt _ (by omega);have hne:d.slots≠[]:=fun e=>by rw[e]at h1; simp at h1
   have hmod:((i:Int)+X).tmod d.slots.length=((zFl d.slots.length X i:Nat):Int):=by rw[jDe (by omega)];simp[zFl]
   have hget:d.slots[zFl d.slots.length X i]?=some d.slots[zFl d.slots.length X i]:=jA2 hk;have hnext:¬(d.slots[zFl d.slots.length X i].typ.k=t∧(4:Int)<X)→∀j,j<i+1→∀u,d.slots[zFl d.slots.length X j]?=some u→¬(u.typ.k=t∧4<(X:Int)):=fun hh j hj u hu=>by
    by_cases e:j=i
    ·subst e; rw[hget]at hu; cases hu; exact hh
    ·exact hno j (by omega) u hu
   have hhit:d.slots[zFl d.slots.length X i].typ.k=t→(4:Int)<X→zGC d.slots t (gN l m 12)=some (zFl d.slots.length X i):=fun a b=>by rw[hX];exact zSC h1 hget a b fun j hj u hu e=>hno j hj u hu ⟨e,b⟩
   generalize zFl d.slots.length X i=k at hk hmod hget hnext hhit;by_cases h5:d.slots[k].typ.k=t
   ·by_cases h4:(4:Int)<X
    ·have hq2:q=zLn m.tick k d.id s:=by cases N<;>rw[hq,zAC]<;>simp only[zEH,hhit h5 h4]
     have g1:=zAL (l:=l) m.tick 2 0 s [] (hok'.adv (zY m) (by omega));have g2:=zAL (l:=l) (yN m.tick 2 0 s []).2 8 k d.id [(yN m.tick 2 0 s []).1] (hok'.adv ((zY m).trans (zBF _ _ _ _ _) (jAf _)) (by omega));simp -implicitDefEqProofs [gS,gB,htd,zG,h1,h3,h4,h5,hw,hmod,hk,hne,yC hk,yG];intro _;refine zBo g1 [0] (by decide) (by simp[gS,gB]) (by simp) (by decide) (by simp) (by simp[gS]) ?_;simp -implicitDefEqProofs [gS,gB];refine zAK g2 [0] (by decide) (by simp[gS,gB]) (by simp[zW,zC]) ?_;simp -implicitDefEqProofs [gS,gB];rw[hq2];exact zH [0] 0 (by decide) (by simp) (by simp[zLn]) (by simp[zLn,zT])
    ·simp -implicitDefEqProofs [gS,gB,htd,zG,h1,h3,h4,h5,hw,hmod,hk,hne,yC hk,yG];exact fun _=>zP (i+1) ⟨h1,hnext (fun hh=>h4 hh.2)⟩ (by omega) (zO [0,1,2,3,4] 0 (by decide) (by simp) (by simp[gS,gB,htd,zAF,zG]) (by simp[qP h1 (show d.slots.length≤maxLen by simp[maxLen]; omega)]))
   ·simp -implicitDefEqProofs [gS,gB,htd,zG,h1,h3,h5,hw,hmod,hk,hne,yC hk,yG];exact fun _=>zP (i+1) ⟨h1,hnext (fun hh=>h5 hh.1)⟩ (by omega) (zO [0,1,2,3,4] 0 (by decide) (by simp) (by simp[gS,gB,htd,zAF,zG]) (by simp[qP h1 (show d.slots.length≤maxLen by simp[maxLen]; omega)]))
  ·have hnone:zGC d.slots t (gN l m 12)=none:=by
    rw[hX];refine zQo fun j hj u hu=>?_
    by_cases h3:(3:Int)<X
    ·exact hno j (by omega) u hu
    ·omega
   have hexit:(¬i<d.slots.length∧(0:Int)≤X)∨(i<d.slots.length∧¬(3:Int)<X):=by omega
   cases N with
   | zero =>
    have hq3:q=zFD l t m.tick:=by rw[hq,zAC]; simp only[zEH,hnone]
    rcases ht with rfl | rfl
    ·have hq2:q=yN m.tick.tick 0 (gN l m.tick 4-1) Id.zero []:=by rw[hq3,zFD]; simp
     have n1:=zBq (l:=l) m.tick 4 (by omega) (hok'.adv (zY m) (by omega));have g:=zAL (l:=l) m.tick.tick 0 (gN l m.tick 4-1) Id.zero [] (hok'.adv ((zY m).trans (zY _) (jAf _)) (by omega));obtain⟨v0,v1⟩:=zBb hl m.tick (n:=4) (by omega);have hv:=jS (gN l m.tick 4-1) (by omega);have hcs:((X:Int)<2∧(X:Int)<3∧¬(X:Int)=3)∨(¬(X:Int)<2∧(X:Int)<3∧¬(X:Int)=3)∨(¬(X:Int)<2∧¬(X:Int)<3∧(X:Int)=3)∨(¬(X:Int)<2∧¬(X:Int)<3∧¬(X:Int)=3):=by omega
     rcases hcs with ⟨hB,hX3,hX4⟩ | ⟨hB,hX3,hX4⟩ | ⟨hB,hX3,hX4⟩ | ⟨hB,hX3,hX4⟩<;>rcases hexit with ⟨hE,hE2⟩ | ⟨hE,hE2⟩ <;>
      (simp -implicitDefEqProofs [gS,gB,htd,zG,hE,hE2,hB,hX3,hX4]
       intro _;refine jJ n1 [0] (by decide) (by simp[gS,gB]) (by simp) ?_;simp -implicitDefEqProofs [gS,gB,hv];refine jJ g [0] (by decide) (by simp[gS,gB]) (by simp[zC,Id.zero]) ?_;simp -implicitDefEqProofs [gS,gB];rw[hq2];exact zH [0] 0 (by decide) (by simp) (by simp) (by simp[yN,zT]))
    ·have hq2:q=yN m.tick.tick 1 (gN l m.tick 2) Id.zero []:=by rw[hq3,zFD]; simp
     have n1:=zBq (l:=l) m.tick 2 (by omega) (hok'.adv (zY m) (by omega));have g:=zAL (l:=l) m.tick.tick 1 (gN l m.tick 2) Id.zero [] (hok'.adv ((zY m).trans (zY _) (jAf _)) (by omega));obtain⟨v0,v1⟩:=zBb hl m.tick (n:=2) (by omega);have hcs:((X:Int)<2∧(X:Int)<3∧¬(X:Int)=3)∨(¬(X:Int)<2∧(X:Int)<3∧¬(X:Int)=3)∨(¬(X:Int)<2∧¬(X:Int)<3∧(X:Int)=3)∨(¬(X:Int)<2∧¬(X:Int)<3∧¬(X:Int)=3):=by omega
     rcases hcs with ⟨hB,hX3,hX4⟩ | ⟨hB,hX3,hX4⟩ | ⟨hB,hX3,hX4⟩ | ⟨hB,hX3,hX4⟩<;>rcases hexit with ⟨hE,hE2⟩ | ⟨hE,hE2⟩ <;>
      (simp -implicitDefEqProofs [gS,gB,htd,zG,hE,hE2,hB,hX3,hX4]
       intro _;refine jJ n1 [0] (by decide) (by simp[gS,gB]) (by simp) ?_;simp -implicitDefEqProofs [gS,gB];refine jJ g [0] (by decide) (by simp[gS,gB]) (by simp[zC,Id.zero]) ?_;simp -implicitDefEqProofs [gS,gB];rw[hq2];exact zH [0] 0 (by decide) (by simp) (by simp) (by simp[yN,zT]))
   | succ n =>
    obtain⟨ih,ih0⟩:=ih n rfl;have hc3:=zMV n;have hok':m.Ok (2*gC n+5):=hok;have hwn:=jS (n:Int) (by omega);have h0n:(0:Int)<(n:Int)+1:=by omega
    obtain⟨a,ha⟩:∃a,a=zAC l d s n t m.tick:=⟨_,rfl⟩;have c1:=ih m.tick t ht (hok'.adv (zY m) (by omega));have sa:=zBG l d s n t m.tick;rw[←ha]at c1 sa;obtain⟨b,hb⟩:∃b,b=zAC l d s n t a.2:=⟨_,rfl⟩;have c2:=ih a.2 t ht (hok'.adv ((zY m).trans sa (jAf _)) (by omega));have sb:=zBG l d s n t a.2;rw[←hb]at c2 sb;have okb:b.2.Ok 1:=hok'.adv (((zY m).trans sa (jAf _)).trans sb (jAf _)) (by omega);by_cases hA:(X:Int)<3∧t=0
    ·obtain⟨hA1,hA2⟩:=hA;subst hA2;have hq2:q=yN b.2 4 X Id.zero [a.1,b.1]:=by rw[hq,zAC,hnone];simp only[hX];rw[if_pos ⟨hA1,trivial⟩,zSE,←ha,←hb]
     have g:=zAL (l:=l) b.2 4 X Id.zero [a.1,b.1] okb;rcases hexit with ⟨hE,hE2⟩ | ⟨hE,hE2⟩
     ·simp -implicitDefEqProofs [gS,gB,htd,zG,hE,hE2,h0n,hwn,hA1];intro _;refine jJ c1 [0] (by decide) (by simp[gS,gB]) (by simp[htd,zG,zC]) ?_;simp -implicitDefEqProofs [gS,gB];obtain rfl | rfl | rfl:X=0∨X=1∨X=2:=by omega
      ·simp -implicitDefEqProofs [gS,gB,htd,zG,h0n,hwn];refine zBo c2 [0] (by decide) (by simp[gS,gB]) (by simp[htd,zG,zC]) (by decide) (by simp) (by simp[gS]) ?_;simp -implicitDefEqProofs [gS,gB];refine zAK g [0] (by decide) (by simp[gS,gB]) (by simp[zW,zC,Id.zero]) ?_;simp -implicitDefEqProofs [gS,gB];rw[hq2];exact zH [0] 0 (by decide) (by simp) (by simp) (by simp[yN,zT])
      ·simp -implicitDefEqProofs [gS,gB,htd,zG,h0n,hwn];refine zBo c2 [0] (by decide) (by simp[gS,gB]) (by simp[htd,zG,zC]) (by decide) (by simp) (by simp[gS]) ?_;simp -implicitDefEqProofs [gS,gB];refine zAK g [0] (by decide) (by simp[gS,gB]) (by simp[zW,zC,Id.zero]) ?_;simp -implicitDefEqProofs [gS,gB];rw[hq2];exact zH [0] 0 (by decide) (by simp) (by simp) (by simp[yN,zT])
      ·simp -implicitDefEqProofs [gS,gB,htd,zG,h0n,hwn];refine zBo c2 [0] (by decide) (by simp[gS,gB]) (by simp[htd,zG,zC]) (by decide) (by simp) (by simp[gS]) ?_;simp -implicitDefEqProofs [gS,gB];refine zAK g [0] (by decide) (by simp[gS,gB]) (by simp[zW,zC,Id.zero]) ?_;simp -implicitDefEqProofs [gS,gB];rw[hq2];exact zH [0] 0 (by decide) (by simp) (by simp) (by simp[yN,zT])
     ·simp -implicitDefEqProofs [gS,gB,htd,zG,hE,hE2,h0n,hwn,hA1];intro _;refine jJ c1 [0] (by decide) (by simp[gS,gB]) (by simp[htd,zG,zC]) ?_;simp -implicitDefEqProofs [gS,gB];obtain rfl | rfl | rfl:X=0∨X=1∨X=2:=by omega
      ·simp -implicitDefEqProofs [gS,gB,htd,zG,h0n,hwn];refine zBo c2 [0] (by decide) (by simp[gS,gB]) (by simp[htd,zG,zC]) (by decide) (by simp) (by simp[gS]) ?_;simp -implicitDefEqProofs [gS,gB];refine zAK g [0] (by decide) (by simp[gS,gB]) (by simp[zW,zC,Id.zero]) ?_;simp -implicitDefEqProofs [gS,gB];rw[hq2];exact zH [0] 0 (by decide) (by simp) (by simp) (by simp[yN,zT])
      ·simp -implicitDefEqProofs [gS,gB,htd,zG,h0n,hwn];refine zBo c2 [0] (by decide) (by simp[gS,gB]) (by simp[htd,zG,zC]) (by decide) (by simp) (by simp[gS]) ?_;simp -implicitDefEqProofs [gS,gB];refine zAK g [0] (by decide) (by simp[gS,gB]) (by simp[zW,zC,Id.zero]) ?_;simp -implicitDefEqProofs [gS,gB];rw[hq2];exact zH [0] 0 (by decide) (by simp) (by simp) (by simp[yN,zT])
      ·simp -implicitDefEqProofs [gS,gB,htd,zG,h0n,hwn];refine zBo c2 [0] (by decide) (by simp[gS,gB]) (by simp[htd,zG,zC]) (by decide) (by simp) (by simp[gS]) ?_;simp -implicitDefEqProofs [gS,gB];refine zAK g [0] (by decide) (by simp[gS,gB]) (by simp[zW,zC,Id.zero]) ?_;simp -implicitDefEqProofs [gS,gB];rw[hq2];exact zH [0] 0 (by decide) (by simp) (by simp) (by simp[yN,zT])
    ·by_cases hB:(X:Int)<2
     ·have ht1:t=1:=by omega
      subst ht1;have hX3:(X:Int)<3:=by omega
      have hq2:q=yN b.2 4 (7+X) Id.zero [a.1,b.1]:=by rw[hq,zAC,hnone];simp only[hX];rw[if_neg (by omega),if_pos hB,zSE,←ha,←hb]
      have g:=zAL (l:=l) b.2 4 (7+X) Id.zero [a.1,b.1] okb;rcases hexit with ⟨hE,hE2⟩ | ⟨hE,hE2⟩
      ·simp -implicitDefEqProofs [gS,gB,htd,zG,hE,hE2,h0n,hwn,hB,hX3];intro _;refine jJ c1 [0] (by decide) (by simp[gS,gB]) (by simp[htd,zG,zC]) ?_;simp -implicitDefEqProofs [gS,gB];obtain rfl | rfl:X=0∨X=1:=by omega
       ·simp -implicitDefEqProofs [gS,gB,htd,zG,h0n,hwn];refine zBo c2 [0] (by decide) (by simp[gS,gB]) (by simp[htd,zG,zC]) (by decide) (by simp) (by simp[gS]) ?_;simp -implicitDefEqProofs [gS,gB];refine zAK g [0] (by decide) (by simp[gS,gB]) (by simp[zW,zC,Id.zero]) ?_;simp -implicitDefEqProofs [gS,gB];rw[hq2];exact zH [0] 0 (by decide) (by simp) (by simp) (by simp[yN,zT])
       ·simp -implicitDefEqProofs [gS,gB,htd,zG,h0n,hwn];refine zBo c2 [0] (by decide) (by simp[gS,gB]) (by simp[htd,zG,zC]) (by decide) (by simp) (by simp[gS]) ?_;simp -implicitDefEqProofs [gS,gB];refine zAK g [0] (by decide) (by simp[gS,gB]) (by simp[zW,zC,Id.zero]) ?_;simp -implicitDefEqProofs [gS,gB];rw[hq2];exact zH [0] 0 (by decide) (by simp) (by simp) (by simp[yN,zT])
      ·simp -implicitDefEqProofs [gS,gB,htd,zG,hE,hE2,h0n,hwn,hB,hX3];intro _;refine jJ c1 [0] (by decide) (by simp[gS,gB]) (by simp[htd,zG,zC]) ?_;simp -implicitDefEqProofs [gS,gB];obtain rfl | rfl:X=0∨X=1:=by omega
       ·simp -implicitDefEqProofs [gS,gB,htd,zG,h0n,hwn];refine zBo c2 [0] (by decide) (by simp[gS,gB]) (by simp[htd,zG,zC]) (by decide) (by simp) (by simp[gS]) ?_;simp -implicitDefEqProofs [gS,gB];refine zAK g [0] (by decide) (by simp[gS,gB]) (by simp[zW,zC,Id.zero]) ?_;simp -implicitDefEqProofs [gS,gB];rw[hq2];exact zH [0] 0 (by decide) (by simp) (by simp) (by simp[yN,zT])
       ·simp -implicitDefEqProofs [gS,gB,htd,zG,h0n,hwn];refine zBo c2 [0] (by decide) (by simp[gS,gB]) (by simp[htd,zG,zC]) (by decide) (by simp) (by simp[gS]) ?_;simp -implicitDefEqProofs [gS,gB];refine zAK g [0] (by decide) (by simp[gS,gB]) (by simp[zW,zC,Id.zero]) ?_;simp -implicitDefEqProofs [gS,gB];rw[hq2];exact zH [0] 0 (by decide) (by simp) (by simp) (by simp[yN,zT])
     ·by_cases hX4:(X:Int)=3
      ·have hX3:¬(X:Int)<3:=by omega
       clear c1 c2 sa sb okb;clear hb;clear b;clear ha;clear a;have c0:=ih0 m.tick 1 (.inr rfl) (hok'.adv (zY m) (by simp only[gC]; omega));have s0:=zBG l d s 0 1 m.tick;obtain⟨c,hc⟩:∃c,c=zAC l d s 0 1 m.tick:=⟨_,rfl⟩;rw[←hc]at c0 s0;have d1:=ih c.2 t ht (hok'.adv ((zY m).trans s0 (jAf _)) (by simp only[gC]; omega));have s1:=zBG l d s n t c.2;obtain⟨a,ha⟩:∃a,a=zAC l d s n t c.2:=⟨_,rfl⟩;rw[←ha]at d1 s1;have d2:=ih a.2 t ht (hok'.adv (((zY m).trans s0 (jAf _)).trans s1 (jAf _)) (by simp only[gC]; omega));have s2:=zBG l d s n t a.2;obtain⟨b,hb⟩:∃b,b=zAC l d s n t a.2:=⟨_,rfl⟩;rw[←hb]at d2 s2;have g:=zAL (l:=l) b.2 5 0 Id.zero [c.1,a.1,b.1] (hok'.adv ((((zY m).trans s0 (jAf _)).trans s1 (jAf _)).trans s2 (jAf _)) (by simp only[gC]; omega));have hq2:q=yN b.2 5 0 Id.zero [c.1,a.1,b.1]:=by have e0:zEH l d s 1 m.tick=c:=hc.symm;rw[hq,zAC,hnone];simp only[hX];rw[if_neg (by omega),if_neg (by omega),if_pos hX4,gIf];simp only[e0,←ha,←hb]
       rcases hexit with ⟨hE,hE2⟩ | ⟨hE,hE2⟩
       ·simp -implicitDefEqProofs [gS,gB,htd,zG,hE,hE2,h0n,hwn,hB,hX3,hX4];intro _;refine jJ c0 [0] (by decide) (by simp[gS,gB]) (by simp[zU,zAd,tK,zG,zC,Typ.k,Typ.id,Typ.kids]) ?_;simp -implicitDefEqProofs [gS,gB,htd,zG,h0n,hwn];refine jJ d1 [0] (by decide) (by simp[gS,gB]) (by simp[htd,zG,zC]) ?_;simp -implicitDefEqProofs [gS,gB,htd,zG,h0n,hwn];refine zBo d2 [0] (by decide) (by simp[gS,gB]) (by simp[htd,zG,zC]) (by decide) (by simp) (by simp[gS]) ?_;simp -implicitDefEqProofs [gS,gB];refine zAK g [0] (by decide) (by simp[gS,gB]) (by simp[zW,zT,zC,Id.zero]) ?_;simp -implicitDefEqProofs [gS,gB];rw[hq2];exact zH [0] 0 (by decide) (by simp) (by simp) (by simp[yN,zT])
       ·simp -implicitDefEqProofs [gS,gB,htd,zG,hE,hE2,h0n,hwn,hB,hX3,hX4];intro _;refine jJ c0 [0] (by decide) (by simp[gS,gB]) (by simp[zU,zAd,tK,zG,zC,Typ.k,Typ.id,Typ.kids]) ?_;simp -implicitDefEqProofs [gS,gB,htd,zG,h0n,hwn];refine jJ d1 [0] (by decide) (by simp[gS,gB]) (by simp[htd,zG,zC]) ?_;simp -implicitDefEqProofs [gS,gB,htd,zG,h0n,hwn];refine zBo d2 [0] (by decide) (by simp[gS,gB]) (by simp[htd,zG,zC]) (by decide) (by simp) (by simp[gS]) ?_;simp -implicitDefEqProofs [gS,gB];refine zAK g [0] (by decide) (by simp[gS,gB]) (by simp[zW,zT,zC,Id.zero]) ?_;simp -implicitDefEqProofs [gS,gB];rw[hq2];exact zH [0] 0 (by decide) (by simp) (by simp) (by simp[yN,zT])
      ·clear c1 c2 sa sb okb;clear hb;clear b;clear ha;clear a;have hq3:q=zFD l t m.tick:=by rw[hq,zAC,hnone];simp only[hX];rw[if_neg (by omega),if_neg (by omega),if_neg hX4]
       rcases ht with rfl | rfl
       ·have hq2:q=yN m.tick.tick 0 (gN l m.tick 4-1) Id.zero []:=by rw[hq3,zFD]; simp
        have n1:=zBq (l:=l) m.tick 4 (by omega) (hok'.adv (zY m) (by omega));have g:=zAL (l:=l) m.tick.tick 0 (gN l m.tick 4-1) Id.zero [] (hok'.adv ((zY m).trans (zY _) (jAf _)) (by omega));obtain⟨v0,v1⟩:=zBb hl m.tick (n:=4) (by omega);have hv:=jS (gN l m.tick 4-1) (by omega);have hcs:(¬(X:Int)<2∧¬(X:Int)<3∧¬(X:Int)=3):=by omega
        rcases hcs with ⟨hB,hX3,hX4⟩<;>rcases hexit with ⟨hE,hE2⟩ | ⟨hE,hE2⟩ <;>
         (simp -implicitDefEqProofs [gS,gB,htd,zG,hE,hE2,hB,hX3,hX4,h0n]
          intro _;refine jJ n1 [0] (by decide) (by simp[gS,gB]) (by simp) ?_;simp -implicitDefEqProofs [gS,gB,hv];refine jJ g [0] (by decide) (by simp[gS,gB]) (by simp[zC,Id.zero]) ?_;simp -implicitDefEqProofs [gS,gB];rw[hq2];exact zH [0] 0 (by decide) (by simp) (by simp) (by simp[yN,zT]))
       ·have hq2:q=yN m.tick.tick 1 (gN l m.tick 2) Id.zero []:=by rw[hq3,zFD]; simp
        have n1:=zBq (l:=l) m.tick 2 (by omega) (hok'.adv (zY m) (by omega));have g:=zAL (l:=l) m.tick.tick 1 (gN l m.tick 2) Id.zero [] (hok'.adv ((zY m).trans (zY _) (jAf _)) (by omega));obtain⟨v0,v1⟩:=zBb hl m.tick (n:=2) (by omega);have hcs:(¬(X:Int)<2∧(X:Int)<3∧¬(X:Int)=3)∨(¬(X:Int)<2∧¬(X:Int)<3∧¬(X:Int)=3):=by omega
        rcases hcs with ⟨hB,hX3,hX4⟩ | ⟨hB,hX3,hX4⟩<;>rcases hexit with ⟨hE,hE2⟩ | ⟨hE,hE2⟩ <;>
         (simp -implicitDefEqProofs [gS,gB,htd,zG,hE,hE2,hB,hX3,hX4,h0n]
          intro _;refine jJ n1 [0] (by decide) (by simp[gS,gB]) (by simp) ?_;simp -implicitDefEqProofs [gS,gB];refine jJ g [0] (by decide) (by simp[gS,gB]) (by simp[zC,Id.zero]) ?_;simp -implicitDefEqProofs [gS,gB];rw[hq2];exact zH [0] 0 (by decide) (by simp) (by simp) (by simp[yN,zT]))
 exact hg _ rfl
theorem zHR (hl:∀x∈l,w64 x=x)(d:Dfn)(s:Id)(hfew:d.slots.length≤6):∀n:Nat,n≤2→zME l d s n
 | 0,h=>zMq hl d s hfew 0 h (fun n e=>by omega)
 | n+1,h=>zMq hl d s hfew (n+1) h fun k e=>by
  have:k=n:=by omega
  subst this;exact⟨zHR hl d s hfew k (by omega),zHR hl d s hfew 0 (by omega)⟩
end
def zZI:K:=G [kMn 2] (Z (G [M 3 0,⟨none,.isn (some 4) false (kt 3)⟩] (Y 4 (G [kMn 2] kr) ks)) (G [kd 5 46 3 0 [] [],M 6 0,kP 7 46 3 40 5 6,M 2 7] kr))
theorem qFO:zR prog Tryz.f155.ntmps (Tryz.f155.body.getD .skip)=some zZI.erase:=by kernel_rfl
@[simp] theorem qMs:zA prog 155=true:=by kernel_rfl
def qEY:K:=G [kO 1 0,⟨none,.mov (some 2) (.const .nilFunc)⟩] (G [⟨none,.clo (some 3) 154 [] [(kt 1)]⟩,M 2 3] kr)
theorem qMe:zR prog Tryz.f118.ntmps (Tryz.f118.body.getD .skip)=some qEY.erase:=by kernel_rfl
@[simp] theorem qNn:zA prog 118=true:=by kernel_rfl
def zZN:K:=G [kO 2 0] (Z (G [L 6 1 1,kN 7 6,kQi 8 7 0 false] (Y 8 (G [L 9 2 1,⟨none,.call (some 10) (kt 9) [(.const kl)]⟩] kr) ks)) (G [L 11 1 1,L 12 1 1,kN 13 12,kBi 14 13 1 .sub,⟨none,.slc (some 15) (kt 11) 1 none (some (kt 14)) none⟩,kC 16 118 [(kt 15)]] (K.block 0 (K.rng (kt 16) [17] (K.ops [M 3 17]) (K.block 1 (G [L 18 1 1,L 19 1 1,kN 20 19,kBi 21 20 1 .sub,kX 22 18 21 1,L 23 22 1,kN 24 23,kMi 25 0] (K.block 2 (K.loop (G [kB 26 25 24 .lss] (Z (Y 26 ks (K.exit 2)) (Z (K.block 3 (G [kX 27 23 25 3,J 28 27 3,kZ 5 [ki,ki,kl],S 5 28 3] (Z (K.dops [(0,1,L 29 2 1),(1,0,M 30 3),(3,1,J 32 5 3),(4,0,kd 33 46 3 1 [ki,ki,kl] [(0,3,(kt 32))]),(2,3,kC 31 155 [(kt 30)]),(5,0,kP 34 46 3 40 31 33),(6,4,⟨none,.call (some 35) (kt 29) [(kt 34)]⟩),(7,0,kR 36 35)]) (Y 36 kr ks)))) (K.ops [kBi 37 25 1 .add,M 25 37]))))))))))))
def qNL:Nat→Option (List (Nat×Nat)):=fun r=>match r with | 8=>some [(0,1),(1,0),(3,1),(4,0),(2,3),(5,0),(6,4),(7,0)] | _=>none
theorem qGe:qE prog Tryz.f154.ntmps qNL (Tryz.f154.body.getD .skip)=some zZN.erase:=by kernel_rfl
@[simp] theorem zPS:zA prog 154=true:=by kernel_rfl
mutual
theorem zSn:∀(v:Val) (k:Nat),(zG4 v).bnd k=true
 | .mk a n l,k=>by simp only[zG4,A.bnd];exact zGK l k
theorem zGK:∀(l:List Val) (k:Nat),zBe k (zK l)=true
 | [],k=>by simp
 | v::l,k=>by have h:=zSn v k;rw[zOb]at h;simp only[A.bnd]at h;simp[h,zGK l k]
end
attribute [simp] zGK
def jW (l:List (List Val)):List A:=l.map fun vs=>.sl vs.length (zK vs)
@[simp] theorem zPZ (l:List (List Val)):(jW l).length=l.length:=by simp[jW]
@[simp] theorem qA8:jW []=[]:=rfl
@[simp] theorem zYW (v:List Val)(l:List (List Val)):jW (v::l)=.sl v.length (zK v)::jW l:=rfl
@[simp] theorem zG8 (a b:List (List Val)):jW (a++b)=jW a++jW b:=by simp[jW]
theorem zEA:∀(l:List (List Val)),qF (jW l)
 | []=>qF.nil
 | v::l=>qF.sl (zBn v) (zEA l)
@[simp] theorem zZy (l:List (List Val)):qV (jW l)=jW l:=(zEA l).1
@[simp] theorem qEl {rf g}(l:List (List Val)):vwL rf g (jW l)=jW l:=(zEA l).2 _ _
@[simp] theorem zPN:∀(l:List (List Val)) (k:Nat),zBe k (jW l)=true
 | [],k=>by simp
 | v::l,k=>by simp[zPN l k]
theorem zSx:Ret prog 155 [.nil] [] .nil []:=by refine zI Tryz.func155 rfl qFO (rs:=[.slot 2]) (by kernel_rfl) ?_;unfold zZI;simp -implicitDefEqProofs;exact zB 0 (by simp)
theorem zUz (l:List Val)(h:l≠[])(hb:l.length*40≤140737488355328)(hm:l.length≤maxLen):Ret prog 155 [.sl l.length (zK l)] [] (.row 0 l.length) [.row false 46 3 l.length (zK l)]:=by refine zI Tryz.func155 rfl qFO (rs:=[.slot 2]) (by kernel_rfl) ?_;unfold zZI;simp -implicitDefEqProofs [h];refine⟨⟨hm,hb⟩,?_⟩;exact zH [0] 0 (by simp) (by simp) (by simp) (by simp)
theorem zIK (l:List (List Val)):Ret prog 118 [.sl l.length (jW l)] [] (.clo 154 [] [.rptr [.sl l.length (jW l)]]) []:=by refine zI Tryz.func118 rfl qMe (rs:=[.slot 2]) (by kernel_rfl) ?_;unfold qEY;simp -implicitDefEqProofs;exact zB 1 (by simp)
def zD5 (l:List Val):A:=if l=[] then .nil else .sl l.length (zK l)
@[simp] theorem zWk:zD5 []=.nil:=rfl
theorem zMA {l:List Val}(h:l≠[]):zD5 l=.sl l.length (zK l):=by simp[zD5,h]
@[simp] theorem qF5 (l:List Val)(k:Nat):(zD5 l).bnd k=true:=by unfold zD5; split<;>simp
@[simp] theorem zWE (l:List Val):cellsOf (zD5 l)=some [zD5 l]:=by unfold zD5; split<;>simp
@[simp] theorem qLo {rf g}(l:List Val):vw rf g (zD5 l)=zD5 l:=by unfold zD5; split<;>simp
@[simp] theorem qD6 (l:List Val):nrm0 (zD5 l)=.sl l.length (zK l):=by unfold zD5; split<;>simp_all
def zBP (acc:List (List Val))(last:List Val):List (List Val):=acc.flatMap fun h=>last.map fun x=>h++[x]
def zAa (l:List (List Val)):List (List Val):=l.foldl zBP [[]]
@[simp] theorem zTz:zAa []=[[]]:=rfl
theorem zHi (l:List (List Val))(last:List Val):zAa (l++[last])=zBP (zAa l) last:=by simp[zAa]
theorem zMt:∀(l:List (List Val)) (acc:List (List Val)) (n:Nat),(∀t∈acc,t.length=n)→∀t∈l.foldl zBP acc,t.length=n+l.length
 | [],acc,n,h,t,ht=>by simpa using h t ht
 | a::l,acc,n,h,t,ht=>by
  have:=zMt l (zBP acc a) (n+1) (fun s hs=>by simp only[zBP,List.mem_flatMap,jAm]at hs;obtain⟨u,hu,x,_,rfl⟩:=hs;simp[h u hu]) t ht
  simp only[jAl];omega
theorem zTy {l:List (List Val)}{t:List Val}(h:t∈zAa l):t.length=l.length:=by have:=zMt l [[]] 0 (by simp) t h;omega
theorem zCw (acc:List (List Val))(last:List Val):(zBP acc last).length=acc.length*last.length:=by
 induction acc with
 | nil=>simp[zBP]
 | cons a acc ih =>
  have e:zBP (a::acc) last=last.map (fun x=>a++[x])++zBP acc last:=by simp[zBP]
  rw[e]; simp[ih,jBh,jCn]
theorem zTB {acc:List (List Val)}{last:List Val}{i j:Nat}(hi:i<acc.length)(hj:j<last.length):(zBP acc last)[i*last.length+j]?=some (acc[i]++[last[j]]):=by
 induction acc generalizing i with
 | nil=>simp at hi
 | cons a acc ih =>
  have e:zBP (a::acc) last=last.map (fun x=>a++[x])++zBP acc last:=by simp[zBP]
  rw[e];cases i with
  | zero=>rw[jAd (by simpa using hj)]; simp[hj]
  | succ i =>
   have hi':i<acc.length:=by simpa using hi
   rw[jAp (by simp[jBh])];have:(i+1)*last.length+j-(last.map fun x=>a++[x]).length=i*last.length+j:=by simp[jBh]; omega
   rw[this,ih hi'];rfl
theorem zRJ:∀(n:Nat) (l:List (List Val)),l.length=n→n≤1000000→zRq prog 154 [] [.rptr [.sl l.length (jW l)]] ((zAa l).map fun t=>[zD5 t]):=by
 intro n;induction n with
 | zero =>
  intro l hl _;have hl0:l=[]:=jBn hl;subst hl0;refine zFH fun b m T hT hY=>?_
  simp only[zTz,jA9,jBb,jAl,jBx,zWk]at hT hY ⊢;have h0:=hT 0 (by simp);have h1:=hT 1 (by simp);refine qL Tryz.func154 rfl qGe (rs:=[]) (by kernel_rfl) ?_;unfold zZN;simp -implicitDefEqProofs [h0.1,zAc h0.1];refine zIp h0 h1 (hY 0 (by simp)) (by simp) ?_;simp -implicitDefEqProofs;exact zNx h1 (by simp)
 | succ n ih =>
  intro l hl hn;obtain⟨l',last,rfl⟩:∃l' last,l=l'++[last]:=⟨l.dropLast,l.getLast (by intro h; simp[h]at hl),by rw[List.dropLast_concat_getLast]⟩;have hl':l'.length=n:=by simpa using hl
  refine zFH fun b m T hT hY=>?_
  have hXl:((zAa (l'++[last])).map fun t=>[zD5 t]).length=(zAa l').length*last.length:=by rw[jB5,zHi,zCw]
  rw[hXl]at hT ⊢;have h0:=hT 0 (jAs _);refine qL Tryz.func154 rfl qGe (rs:=[]) (by kernel_rfl) ?_;unfold zZN;have hw:IntKind.i64.wrap (l'.length:Int)=l'.length:=zWs (by simp[maxLen]; omega);have hne:¬((l'.length:Int)+1=0):=by omega
  simp -implicitDefEqProofs [h0.1,zAc h0.1,hw,hne];intro hmx;refine⟨by omega,?_⟩;refine qD (zIK l') (by simp) (by simp) ?_;simp -implicitDefEqProofs;have hCl:∀j,j≤(zAa l').length*last.length→Cl (m+1) (T j++[.box [yv b]]):=fun j hj=>(hT j hj).app rfl (by simp)
  have hbd:∀i,i≤(zAa l').length→i*last.length≤(zAa l').length*last.length:=fun i hi=>jBa _ hi
  refine⟨[(1,.rptr [.sl (l'.length+1) (jW l'++[.sl last.length (zK last)])]),(2,.ptr m 0),(16,.clo 154 [] [.rptr [.sl l'.length (jW l')]])],m+1,(zAa l').map (fun t=>[zD5 t]),fun j=>T (j*last.length)++[.box [yv b]],154,[],
   [.rptr [.sl l'.length (jW l')]],by simp,zPS,ih l' hl' (by omega),?_,by omega,?_,by simp,by simp,?_,?_⟩
  ·simp only[Nat.zero_mul];exact zIt (τ:=[]) (by simp) (by simp[h0.1]) (by simp) (by simp[h0.1]) (by rw[(hCl 0 (jAs _)).1]; exact(hCl 0 (jAs _)).2)
  ·intro i hi;exact hCl _ (hbd i (by simpa using hi))
  ·intro i hi b' M r r';simp only[jB5]at hi;have hd:(jW l'++[A.sl last.length (zK last)]).drop l'.length=[A.sl last.length (zK last)]:=by rw[←zPZ l']; simp
   simp -implicitDefEqProofs [hw,hd];intro _;refine⟨by omega,?_⟩;intro hlm;have hCl2:∀j r,i*last.length+j≤(zAa l').length*last.length→Cl (m+2) (T (i*last.length+j)++[.box [yv b],AObj.lp b' r M
    [(1,A.rptr [A.sl (l'.length+1) (jW l'++[A.sl last.length (zK last)])]),(2,A.ptr m 0),
     (16,A.clo 154 [] [A.rptr [A.sl l'.length (jW l')]])]]):=fun j r hj=>(hT _ hj).app rfl (by simp)
   have hij:∀j,j≤last.length→i*last.length+j≤(zAa l').length*last.length:=fun j hj=>by have:=jBa last.length (Nat.succ_le_of_lt hi);rw[jBh]at this;omega
   have hTi:(T (i*last.length)).length=m:=(hT _ (hij 0 (jAs _))).1;refine jM (S:=Nat) (fun j=>[(2,.ptr m 0),(3,zD5 (zAa l')[i]),(23,.sl last.length (zK last)),(24,int last.length),(25,int j)]) (fun j=>T (i*last.length+j)++[.box [yv b],AObj.lp b' r' M
    [(1,A.rptr [A.sl (l'.length+1) (jW l'++[A.sl last.length (zK last)])]),(2,A.ptr m 0),
     (16,A.clo 154 [] [A.rptr [A.sl l'.length (jW l')]])]]) (fun j=>j≤last.length) (fun j=>last.length-j) 0 (by simp)
    (zIt (τ:=[]) (by simp) (by simp[hTi]) (by simp) (by simp[hTi]) (by rw[(hCl2 0 r' (hij 0 (jAs _))).1]; exact(hCl2 0 r' (hij 0 (jAs _))).2)) ?_
   intro j hj;simp -implicitDefEqProofs;refine qR (fun h=>?_) (fun h=>?_)<;>simp at h
   ·have hTj:=hT _ (hij j hj);simp -implicitDefEqProofs [h,jL h,hTj.1,zAc hTj.1,yY hTj.1,zAE hTj.1,zHZ hTj.1,zHw];have hgl:i*last.length+j<(zBP (zAa l') last).length:=by rw[zCw];have:=hij (j+1) h;omega
    have hge:(zBP (zAa l') last)[i*last.length+j]=(zAa l')[i]++[last[j]]:=by
     have:=zTB hi h;rw[jA2 hgl]at this
     simpa using this
    have hTj1:=hT (i*last.length+(j+1)) (hij (j+1) h);have hyj:zCg prog b [.sl ((zAa l')[i].length+1) (zK ((zAa l')[i]++[last[j]]))] (T (i*last.length+j)) fun o τ=>o=.ret (.lit (.bool true))∧τ = T (i*last.length+(j+1)):=by
     have:=hY (i*last.length+j) (by simpa [zHi] using hgl);simp only[zHi,jBr,hge]at this;rw[zMA (by simp)]at this
     simpa [jBg] using this
    have hlen:(zAa l')[i].length=n:=by rw[zTy (jA3 hi),hl']
    by_cases hh:(zAa l')[i]=[]
    ·refine zMO zSx (by simp[hh]) ?_;simp -implicitDefEqProofs [hTj.1,zAc hTj.1,yY hTj.1,zAE hTj.1,zHZ hTj.1];refine⟨by simp[maxLen],?_⟩;simp only[hh,jBx,jAq,jBj,zD9,zJO]at hyj;refine exY (k:=3) rfl hTj hTj1 (by simp) hyj ?_;simp -implicitDefEqProofs;refine zP (j+1) h (by omega) (zIt (τ:=[.box (zF last[j]),.row true 46 3 1 (zF last[j])]) (by simp[zF]) (by simp[hTj1.1]) (by simp[hh,qP h hlm]) (by simp[hTj1.1]) (by rw[(hCl2 (j+1) r' (hij (j+1) h)).1]; exact(hCl2 (j+1) r' (hij (j+1) h)).2))
    ·refine zMO (zUz _ hh (by omega) (by simp[maxLen]; omega)) (by simp[zMA hh]) ?_;simp -implicitDefEqProofs [hTj.1,zAc hTj.1,yY hTj.1,zAE hTj.1,zHZ hTj.1];refine⟨by simp[maxLen]; omega,?_⟩;simp only[zAV,zD9,zJO]at hyj;refine exY (k:=3) rfl hTj hTj1 (by simp) hyj ?_;simp -implicitDefEqProofs;refine zP (j+1) h (by omega) (zIt (τ:=[.box (zF last[j]),.row true 46 3 ((zAa l')[i].length+1) (zK (zAa l')[i]++zF last[j])]) (by simp[zF]) (by simp[hTj1.1]) (by simp[qP h hlm]) (by simp[hTj1.1]) (by rw[(hCl2 (j+1) r' (hij (j+1) h)).1]; exact(hCl2 (j+1) r' (hij (j+1) h)).2))
   ·have:j=last.length:=by omega
    subst this;simp -implicitDefEqProofs;exact Wk.here (by rw[jBh])
  ·simp -implicitDefEqProofs;exact zNx (hT _ (jA _)) (by simp)
@[simp] theorem zUm:∀(X:List (List Val)) (k:Nat),zBe k (X.map zD5)=true
 | [],k=>rfl
 | t::X,k=>by simp[zUm X k]
@[simp] theorem zXU {rf g}:∀(X:List (List Val)),vwL rf g (X.map zD5)=X.map zD5
 | []=>by simp
 | t::X=>by simp[zXU X]
theorem zGM {P:Program} {σ : St}{f:FuncId}{l n:Nat}{e:TypeId}{sz:Nat}{cs:List A}(pre:List A)(hσ : σ[l]?=some (.row false e sz n cs)){Q:Out→St→Prop}(h:yV P f (pre++[.sl n cs]) (σ.set l (.row true e sz n cs)) Q):yV P f (pre++[.row l n]) σ Q:=by
 intro H L w vs hs hvs;obtain⟨us,ws,rfl,h0,h00⟩:=zQ.split hvs;obtain⟨v,vs',rfl,h1,h2⟩:=zS h00;have:=qY h2;subst this;obtain⟨H',hn,hr⟩:=zNn hs hσ h1;refine(h H' L w (us++[v]) hn.st (zQ.append (zQ.mono hn.step.hle hn.lle pre h0) (qH hr jF))).mono fun e w' hh=>?_
 obtain⟨o,σ',H2,L2,g1,g2,g3⟩:=hh;exact⟨o,σ',H2,L2,g1,hn.trans g2,g3⟩
@[simp] theorem qJ6:zA prog 55=true:=by kernel_rfl
def qO4 (out R:List (List Id))(x:Id)(k:Nat):List (List Id):=out++(R.take k).map (x::·)
theorem zLH {L:List Edg}{to:Id}:∀(n:Nat) (at_:Id) (met:List Id),∀q∈zAs L to n at_ met,q.length≤n
 | 0,at_,met,q,h=>by
  unfold zAs at h;split at h
  ·simp at h; simp[h]
  ·cases h
 | n+1,at_,met,q,h=>by
  unfold zAs at h;split at h
  ·simp at h; simp[h]
  ·rw[List.mem_flatMap]at h;obtain⟨e,_,h⟩:=h;split at h
   ·rw[jAm]at h;obtain⟨q',h',rfl⟩:=h;have:=zLH n e.to (met++[e.to]) q' h';simp; omega
   ·cases h
@[simp] theorem qNb:zA prog 21=true:=by kernel_rfl
mutual
theorem zRD (D D':List A)(u:Slt)(hD:D.drop 8=.sl 1 (yG u)::D')(hv:∀rf g,vwL rf g D=D)(hn:qV D=D):∀e:Exp,zTK D u.id e
 | .mk i k n r t ks ns=>zSD D D' u hD hv hn _ (zO1 D D' u hD hv hn ks)
theorem zO1 (D D':List A)(u:Slt)(hD:D.drop 8=.sl 1 (yG u)::D')(hv:∀rf g,vwL rf g D=D)(hn:qV D=D):∀(l:List Exp),∀k∈l,zTK D u.id k
 | [],k,hk=>by cases hk
 | e::l,k,hk=>by
  rcases jA7.1 hk with h | h
  ·rw[h]; exact zRD D D' u hD hv hn e
  ·exact zO1 D D' u hD hv hn l k h
end
def zYn:K:=G [kO 2 0,kO 3 1,kZ 4 kz0,kMb 5 false] (G [J 9 2 2,D 10 3 1,J 11 10 3,kC 12 96 [(kt 9),(kt 11)],M 8 12,kE 13 8 0,kE 14 8 1,kZ 6 kz0,S 6 13 31,M 7 14] (Z (K.wk (K.dops [(0,0,J 15 6 31),(1,0,M 16 7),(2,0,M 17 16),(3,0,T 17 true (D 18 3 0)),(4,0,T 17 true (L 19 18 1)),(5,0,T 17 true (kQi 20 19 3 false)),(6,0,kPf 21 17 20),(7,0,M 22 21),(8,2,T 22 true (D 23 6 3)),(9,2,T 22 true (L 24 23 1)),(10,0,T 22 true (kQi 25 24 0 false)),(11,0,kPf 26 22 25),(12,0,S 4 15 31),(13,0,M 5 26)])) kr))
def qHc:Nat→Option (List (Nat×Nat)):=fun r=>match r with | 2=>some [(0,0),(1,0),(2,0),(3,0),(4,0),(5,0),(6,0),(7,0),(8,2),(9,2),(10,0),(11,0),(12,0),(13,0)] | _=>none
theorem qFL:qE prog Tryz.f57.ntmps qHc (Tryz.f57.body.getD .skip)=some zYn.erase:=by kernel_rfl
@[simp] theorem qJz:zA prog 57=true:=by kernel_rfl
def zLw (p:Prg)(t:Typ):Bool:=(qT p.defs t.id).isSome&&(decide (t.k=3)&&decide (((qT p.defs t.id).getD .zero).kind=0))
theorem zMx (p:Prg)(t:Typ):Ret prog 57 [.agg (zM p),.agg (zU t)] [] (.tup [.agg (zG ((qT p.defs t.id).getD .zero)),bl (zLw p t)]) []:=by
 have hP:=eP p;have hdf:=zDn p t.id;unfold zLw;unfold zBL at hdf;generalize (qT p.defs t.id).getD .zero=d at *
 generalize (qT p.defs t.id).isSome=b at *
 refine qL Tryz.func57 rfl qFL (rs:=[.cell 4 31 true,.slot 5]) (by kernel_rfl) ?_;unfold zYn;simp -implicitDefEqProofs [hP,zU];refine qD hdf (by simp[zM,zC]) (by simp) ?_;simp -implicitDefEqProofs [zG];refine⟨_,_,zO (l:=[(3,.rptr (zU t)),(4,.ptr 0 0),(6,.rptr (zG d)),(7,bl b)]) (σ':=[.box (kz0.map qS)]) [2] 1 (by simp) (by simp) (by simp) (by simp[zG,zU]),?_⟩;cases b
 ·simp -implicitDefEqProofs [zG];exact zB 0 (by simp[zG])
 ·by_cases h0:t.k=3
  ·by_cases h1:d.kind=0
   ·simp -implicitDefEqProofs [zG,zU,h0,h1];exact zB 0 (by simp[zG,h0,h1])
   ·simp -implicitDefEqProofs [zG,zU,h0,h1];exact zB 0 (by simp[zG,h0,h1])
  ·simp -implicitDefEqProofs [zG,zU,h0];exact zB 0 (by simp[zG,h0])
def zPF:K:=(G [L 80 16 1,J 81 13 15,⟨none,.call (some 82) (kt 80) [(kt 81),(.const (.bool false))]⟩] (G [kMn 17] (Z (G [D 83 9 8,L 84 83 1,kN 85 84,kMi 86 0] (K.block 0 (K.loop (G [kB 87 86 85 .lss] (Z (Y 87 ks (K.exit 0)) (Z (K.block 1 (G [M 88 86,M 18 88] (G [L 89 15 1,M 90 89,T 90 false (L 91 14 1),T 90 false (M 92 18),⟨some (90,false),.mop (some 93) (.get 1 (.bool false) false) [(kt 91),(kt 92)]⟩,kPt 94 90 93] (Y 94 (K.ops [M 95 17,M 96 18,kd 97 3 1 1 [ki] [(0,1,(kt 96))],kP 98 3 1 8 95 97,M 17 98]) ks)))) (K.ops [kBi 99 86 1 .add,M 86 99]))))))) (G [M 100 17,M 6 100] kr))))
def zPE:K:=(G [⟨none,.mop (some 78) (.mk 1) []⟩,kZ 14 [(.map none)],S 14 78 1] (G [kZ 15 [(.bool false)],⟨none,.st none (kt 15) (.const (.bool false)) 1⟩] (G [kZ 16 [.nilFunc]] (G [⟨none,.clo (some 79) 58 [] [(kt 7),(kt 15),(kt 14),(kt 16)]⟩,S 16 79 1] (K.wk zPF)))))
def zYh:K:=G [kO 3 0,kO 4 1,kMn 6] (G [J 20 3 2,J 21 4 3,kC 22 56 [(kt 20),(kt 21)],M 19 22,kE 23 19 0,kE 24 19 1,kZ 7 kz0,S 7 23 31,M 8 24] (Z (G [M 25 8,kR 26 25] (Y 26 (G [kMn 6] kr) ks)) (Z (K.dops [(0,1,J 28 3 2),(1,1,D 29 7 8),(2,1,L 30 29 1),(3,1,kXi 31 30 11 0),(4,1,D 32 31 4),(5,1,J 33 32 5),(6,1,kC 34 57 [(kt 28),(kt 33)]),(7,0,M 27 34),(8,0,kE 35 27 0),(9,0,kE 36 27 1),(10,0,kZ 9 kz0),(11,0,S 9 35 31),(12,0,M 10 36)]) (G [J 38 3 2,D 39 7 9,J 40 39 5,kC 41 57 [(kt 38),(kt 40)],M 37 41,kE 42 37 0,kE 43 37 1,kZ 11 kz0,S 11 42 31,M 12 43] (Z (G [M 44 10,kR 45 44,M 46 45,T 46 false (M 47 12),T 46 false (kR 48 47),kPt 49 46 48,M 50 49,T 50 false (M 51 2),T 50 false (kBi 52 51 0 .lss),kPt 53 50 52,M 54 53,T 54 false (M 55 2),T 54 false (D 56 11 8),T 54 false (L 57 56 1),T 54 false (kN 58 57),T 54 false (kB 59 55 58 .geq),kPt 60 54 59] (Y 60 (G [kMn 6] kr) ks)) (G [D 61 7 14,J 62 61 15,kZ 13 kz1,S 13 62 15] (Z (G [D 63 13 3,L 64 63 1,kQi 65 64 7 false,M 66 65,T 66 true (M 67 2),T 66 true (D 68 13 13),T 66 true (L 69 68 1),T 66 true (kN 70 69),T 66 true (kB 71 67 70 .lss),kPf 72 66 71] (Y 72 (K.ops [D 73 13 13,L 74 73 1,M 75 2,kX 76 74 75 15,J 77 76 15,S 13 77 15]) ks)) (K.wk zPE))))))))
theorem qFF:zR prog Tryz.f24.ntmps (Tryz.f24.body.getD .skip)=some zYh.erase:=by kernel_rfl
@[simp] theorem qJu:zA prog 24=true:=by kernel_rfl
def zFu (e:Exp)(to:Int):Exp:=if e.k=7∧to<e.kids.length then e.kids.getD to.toNat .zero else e
def zGW (p:Prg)(conv:Id)(to:Int):List Int:=match qT p.defs conv with
 | none=>[]
 | some d=>if d.kind=5 then (match d.slots with
  | [u]=>if zLw p u.typ=true∧zLw p d.res=true∧0≤to∧to<((qT p.defs d.res.id).getD .zero).slots.length then zGt u.id (zFu d.body to) ((qT p.defs u.typ.id).getD .zero).slots.length else []
  | _=>[]) else []
@[simp] theorem qHn (x:Int):zAM [x]=[int x]:=rfl
@[simp] theorem qDi:zAM []=[]:=rfl
def zPj (s:Id)(e:Exp)(i:Nat):List Int:=(zHm i).filter fun x=>zDW s e false||decide (x∈zI7 s e)
theorem zPm (i:Nat):zHm (i+1)=zHm i++[(i:Int)]:=by simp[zHm,List.range_succ]
theorem zTw (s:Id)(e:Exp)(i:Nat):zPj s e (i+1)=zPj s e i++(if (zDW s e false||decide ((i:Int)∈zI7 s e))=true then [(i:Int)] else []):=by
 unfold zPj;rw[zPm,List.filter_append]
 congr 1
 rw[List.filter_cons,List.filter_nil]
theorem zVG (s:Id)(e:Exp)(i:Nat):(zPj s e i).length≤i:=by
 have:=jDd (fun x=>zDW s e false||decide (x∈zI7 s e)) (zHm i)
 simpa [zPj,zHm] using this
abbrev qAT (l:List Int):=fin [RS.slot 6] (zFq 0 (.sl l.length (zAM l)) [])
theorem qGY (D D':List A)(u:Slt)(hD:D.drop 8=.sl 1 (yG u)::D')(hv:∀rf g,vwL rf g D=D)(hn:qV D=D)(a:Dfn)(ha:a.slots.length≤1000)(e:Exp) :
 wpK prog 0 zPF (qAT (zGt u.id e a.slots.length)) (qU [(9,.rptr (zG a)),(13,.rptr (zT e)),(14,.ptr 1 0),(15,.ptr 0 0),(16,.ptr 3 0)]) (fvS D false []):=by
 have hc:=zRD D D' u hD hv hn e false false [];have hmem:∀x,x∈(zI7 u.id e).foldl adI []↔x∈zI7 u.id e:=fun x=>by rw[zNG]; simp
 have hpl:zGt u.id e a.slots.length=zPj u.id e a.slots.length:=rfl;rw[hpl];rw[jC9]at hc;unfold zPF;simp -implicitDefEqProofs [fvS];refine jJ hc [0,1,2,3] (by decide) (by simp[fvS,hv]) (by simp[fvA,hv,zT]) ?_;generalize hM:(zI7 u.id e).foldl adI []=M at *
 have hst:=zTw u.id e;have hpn:=zVG u.id e;have hp0:zPj u.id e 0=[]:=rfl;generalize zDW u.id e false=W at *
 generalize zPj u.id e=pl at *
 simp -implicitDefEqProofs [fvS,zG];intro hmx;refine jM (S:=Nat) (fun i=>[(14,.ptr 1 0),(15,.ptr 0 0),(17,.row 4 (pl i).length),(85,int a.slots.length),(86,int i)]) (fun i=>fvS D W M++[.row false 3 1 (pl i).length (zAM (pl i))]) (fun i=>i≤a.slots.length) (fun i=>a.slots.length-i) 0 (by simp)
  ((zA9 (t:=17) (by simp) 3 1).trans (zO [0,1,2,3,4] 0 (by simp) (by decide) (by simp[fvS,hv,hp0]) (by simp[hp0]))) ?_
 intro i hi;by_cases h:i<a.slots.length
 ·have hw:=qP h hmx;have hg:=zXu i M;have hst:=hst i;have hpn:=hpn i;have hmi:=hmem i;cases W
  ·by_cases hm:(i:Int)∈zI7 u.id e
   ·have hm2:(i:Int)∈M:=hmi.2 hm;rw[if_pos (by simp[hm])]at hst;simp -implicitDefEqProofs [fvS,h,hg,hm2];refine⟨⟨by simp[maxLen]; omega,by omega⟩,?_⟩;exact zP (i+1) h (by omega) (zO [0,1,2,3,4] 0 (by simp) (by decide) (by simp[fvS,hv,hst,zFG]) (by simp[hst,hw]))
   ·have hm2:¬(i:Int)∈M:=fun hh=>hm (hmi.1 hh)
    rw[if_neg (by simp[hm])]at hst;simp -implicitDefEqProofs [fvS,h,hg,hm2];exact zP (i+1) h (by omega) (zO [0,1,2,3,4] 0 (by simp) (by decide) (by simp[fvS,hv,hst,zFG]) (by simp[hst,hw]))
  ·rw[if_pos (by simp)]at hst;simp -implicitDefEqProofs [fvS,h];refine⟨⟨by simp[maxLen]; omega,by omega⟩,?_⟩;exact zP (i+1) h (by omega) (zO [0,1,2,3,4] 0 (by simp) (by decide) (by simp[fvS,hv,hst,zFG]) (by simp[hst,hw]))
 ·have hie:i=a.slots.length:=by omega
  subst hie;simp -implicitDefEqProofs [fvS];exact zB 1 (by simp)
theorem zUZ (D D':List A)(u:Slt)(hD:D.drop 8=.sl 1 (yG u)::D')(hv:∀rf g,vwL rf g D=D)(hn:qV D=D)(a:Dfn)(ha:a.slots.length≤1000)(e:Exp) :
 wpK prog 0 zPE (qAT (zGt u.id e a.slots.length)) (qU [(7,.rptr D),(9,.rptr (zG a)),(13,.rptr (zT e))]) []:=by
 have hV:=qGY D D' u hD hv hn a ha e;generalize qAT (zGt u.id e a.slots.length)=Q at *
 unfold zPE;simp -implicitDefEqProofs;have hw:=zLc (n0:=0) (env:=qU [(9,.rptr (zG a)),(13,.rptr (zT e)),(14,.ptr 1 0),(15,.ptr 0 0),(16,.ptr 3 0)]) (l:=2) (nk:=1) (fr:=true) (es:=mki []) (σ:=[.box [bl false],.box [.map 2],.mp true 1 (mki []),.box [.clo 58 [] [.rptr D,.ptr 0 0,.ptr 1 0,.ptr 3 0]]]) rfl;refine⟨_,_,zA4.trans (zO [2,1,0,3] 0 (by simp) (by decide) ?_ ?_) hw,hV⟩
 ·simp[hv,mki]
 ·simp[hv,zG,zT]
theorem zSv (u:Slt):yI [u]=yG u:=by simp[yI]
theorem zL8 (p:Prg)(hb:∀d∈p.defs,d.slots.length≤1000)(conv:Id)(to:Int):Ret prog 24 [.agg (zM p),.agg (zC conv),int to] [] (.sl (zGW p conv to).length (zAM (zGW p conv to))) []:=by
 have hP:=eP p;have hcon:=zH2 p conv
 unfold zOh at hcon;have hz:∀id,((qT p.defs id).getD .zero).slots.length≤1000:=fun id=>by
  cases h:qT p.defs id with
  | none=>simp[Dfn.zero]
  | some d=>exact hb d (zAz h).1
 have hfv:∀L,zGW p conv to=L→Ret prog 24 [.agg (zM p),.agg (zC conv),int to] [] (.sl L.length (zAM L)) []:=by
  intro L hL;refine zI Tryz.func24 rfl qFF (rs:=[.slot 6]) (by kernel_rfl) ?_;unfold zYh;simp -implicitDefEqProofs [hP,zC];refine qD hcon (by simp[hP,zC]) (by simp) ?_;cases hc:((qT p.defs conv).isSome&&zF3 ((qT p.defs conv).getD .zero))
  ·have hnil:L=[]:=by
    rw[←hL];unfold zGW;unfold zF3 at hc;cases hd:qT p.defs conv with
    | none=>rfl
    | some d =>
     rw[hd]at hc;simp only[Option.isSome_some,jB9,jC1,jCk,decide_eq_false_iff_not]at hc;simp only;by_cases h5:d.kind=5
     ·rw[if_pos h5];split
      ·rename_i u hu; rw[hu]at hc; simp at hc; exact(hc h5).elim
      ·rfl
     ·rw[if_neg h5]
   subst hnil;simp -implicitDefEqProofs [zG];exact zB 0 (by simp)
  ·obtain⟨d,u,hd,h5,hu⟩:∃d u,qT p.defs conv=some d∧d.kind=5∧d.slots=[u]:=by
    cases hd:qT p.defs conv with
    | none=>rw[hd]at hc; simp at hc
    | some d =>
     rw[hd]at hc;simp only[Option.isSome_some,jB9,jC1,zF3,jA6,decide_eq_true_eq]at hc;obtain⟨u,hu⟩:=List.length_eq_one_iff.1 hc.2;exact⟨d,u,rfl,hc.1,hu⟩
   have hL2:L=if zLw p u.typ=true∧zLw p d.res=true∧0≤to∧to<((qT p.defs d.res.id).getD .zero).slots.length then zGt u.id (zFu d.body to) ((qT p.defs u.typ.id).getD .zero).slots.length else []:=by rw[←hL];unfold zGW;rw[hd];simp only[if_pos h5,hu]
   have r1:=zMx p u.typ;have r2:=zMx p d.res;have ha:=hz u.typ.id;rw[hd,jB9];generalize (qT p.defs u.typ.id).getD .zero=a at *
   generalize (qT p.defs d.res.id).getD .zero=b at *
   have hcs:yI d.slots=yG u:=by rw[hu,zSv]
   have hul:d.slots.length=1:=by rw[hu]; rfl
   simp -implicitDefEqProofs [zG,hcs,hul,yG];refine zAJ r1 (by simp[hP,zU]) (by simp[zG]) ?_;simp -implicitDefEqProofs [zG];refine qD r2 (by simp[hP,zU]) (by simp[zG]) ?_;simp -implicitDefEqProofs [zG];have hD:(zG d).drop 8=.sl 1 (yG u)::(zG d).drop 9:=by have:(zG d).drop 8=.sl d.slots.length (yI d.slots)::(zG d).drop 9:=rfl;rw[this,hul,hcs]
   by_cases g1:zLw p u.typ=true
   ·by_cases g2:zLw p d.res=true
    ·by_cases g3:to<0
     ·rw[if_neg (by omega)]at hL2;subst hL2;simp -implicitDefEqProofs [g1,g2,g3];exact zB 0 (by simp)
     ·by_cases g4:to<(b.slots.length:Int)
      ·rw[if_pos ⟨g1,g2,by omega,g4⟩]at hL2;have g4':¬(b.slots.length:Int)≤to:=by omega
       subst hL2;by_cases h7:d.body.k=7
       ·by_cases hk:to<(d.body.kids.length:Int)
        ·obtain⟨n,rfl⟩:∃n:Nat,to=n:=⟨to.toNat,by omega⟩;have hn:n<d.body.kids.length:=by omega
         have hE:zFu d.body n=d.body.kids[n]:=by unfold zFu;rw[if_pos ⟨h7,hk⟩,jCv,jBk,jA2 hn]; rfl
         have hne:¬d.body.kids=[]:=fun e=>by rw[e]at hn; simp at hn
         rw[hE];generalize hEE:d.body.kids[n]=E;have hdr:=zBh hn;rw[hEE]at hdr;simp -implicitDefEqProofs [g1,g2,g3,g4,g4',zG,h7,hk,hn,hne,hdr,zT];exact fun _ _=>⟨qU [(7,.rptr (zG d)),(9,.rptr (zG a)),(13,.rptr (zT E))],[],zO [] 1 (by simp) (by decide) (by simp) (by simp[zG,zT,hcs,hul,yG,h7]),zUZ (zG d) _ u hD (fun rf g=>(zAy d).2 _ _) (zAy d).1 a ha E⟩
        ·have hE:zFu d.body to=d.body:=by unfold zFu;rw[if_neg (fun h=>hk h.2)]
         rw[hE];have fin:=zUZ (zG d) _ u hD (fun rf g=>(zAy d).2 _ _) (zAy d).1 a ha d.body;simp -implicitDefEqProofs [g1,g2,g3,g4,g4',zG,h7,hk];exact fun _ _=>⟨qU [(7,.rptr (zG d)),(9,.rptr (zG a)),(13,.rptr (zT d.body))],[],zO [] 1 (by simp) (by decide) (by simp) (by simp[zG,zT,hcs,hul,yG,h7]),fin⟩
       ·have hE:zFu d.body to=d.body:=by unfold zFu;rw[if_neg (fun h=>h7 h.1)]
        rw[hE];have fin:=zUZ (zG d) _ u hD (fun rf g=>(zAy d).2 _ _) (zAy d).1 a ha d.body;simp -implicitDefEqProofs [g1,g2,g3,g4,g4',zG,h7];exact fun _=>⟨qU [(7,.rptr (zG d)),(9,.rptr (zG a)),(13,.rptr (zT d.body))],[],zO [] 1 (by simp) (by decide) (by simp) (by simp[zG,zT,hcs,hul,yG]),fin⟩
      ·have g4':(b.slots.length:Int)≤to:=by omega
       rw[if_neg (by omega)]at hL2;subst hL2;simp -implicitDefEqProofs [g1,g2,g3,g4,g4',zG]
       first | exact fun _=>zB 0 (by simp) | exact zB 0 (by simp)
    ·have g2':zLw p d.res=false:=by simpa using g2
     rw[if_neg (fun h=>g2 h.2.1)]at hL2;subst hL2;simp -implicitDefEqProofs [g1,g2'];exact zB 0 (by simp)
   ·have g1':zLw p u.typ=false:=by simpa using g1
    rw[if_neg (fun h=>g1 h.1)]at hL2;subst hL2;simp -implicitDefEqProofs [g1'];exact zB 0 (by simp)
 exact hfv _ rfl
def zND:K:=G [kO 5 1,kO 6 2,kO 7 3,kZ 8 kz1] (G [kMn 9] (Z (G [kMi 10 0] (K.block 0 (K.loop (Z (G [M 13 10,D 14 5 8,L 15 14 1,kN 16 15,kB 17 13 16 .lss] (Y 17 ks (K.exit 0))) (Z (K.block 1 (G [⟨none,.mov (some 11) (kc (-1))⟩] (Z (G [kMi 12 0] (K.block 2 (K.loop (Z (G [M 20 12,D 21 6 8,L 22 21 1,kN 23 22,kB 24 20 23 .lss] (Y 24 ks (K.exit 2))) (Z (K.block 3 (Z (K.dops [(0,0,M 27 12),(1,0,M 28 10),(2,0,kQ 29 27 28 false),(3,0,M 30 29),(4,0,T 30 true (D 31 6 8)),(5,0,T 30 true (L 32 31 1)),(6,0,T 30 true (M 33 12)),(7,0,T 30 true (kX 34 32 33 11)),(8,0,T 30 true (D 35 34 4)),(9,0,T 30 true (D 36 35 0)),(10,0,T 30 true (L 37 36 1)),(11,0,T 30 true (D 38 5 8)),(12,0,T 30 true (L 39 38 1)),(13,0,T 30 true (M 40 10)),(14,0,T 30 true (kX 41 39 40 11)),(15,0,T 30 true (D 42 41 4)),(16,0,T 30 true (D 43 42 0)),(17,0,T 30 true (L 44 43 1)),(18,0,T 30 true (kQ 45 37 44 false)),(19,0,kPf 46 30 45)]) (Y 46 (K.ops [M 47 12,M 11 47]) ks))) (K.ops [M 25 12,kBi 26 25 1 .add,M 12 26])))))) (G [M 48 11,kBi 49 48 0 .geq,M 50 49,T 50 true (M 51 0),T 50 true (kC 52 65 [(kt 51),(kc 3)]),T 50 true (kBi 53 52 0 .gtr),kPf 54 50 53] (Y 54 (K.dops [(0,0,M 55 9),(1,0,M 56 0),(2,0,M 57 11),(3,2,D 58 6 0),(4,2001,J 59 58 3),(5,0,M 60 0),(6,0,J 61 7 3),(7,1001,kC 62 66 [(kt 60),(kc 2),(kc 0),(kt 61),(.const kl)]),(8,0,kd 63 39 15 1 kz1 [(0,15,(kt 62))]),(9,4,kC 64 66 [(kt 56),(kc 8),(kt 57),(kt 59),(kt 63)]),(10,0,kd 65 39 15 1 kz1 [(0,15,(kt 64))]),(11,0,kP 66 39 15 168 55 65),(12,0,M 9 66)]) (K.dops [(0,0,
 M 67 9),(1,0,M 68 0),(2,0,D 69 5 8),(3,0,L 70 69 1),(4,0,M 71 10),(5,0,kX 72 70 71 11),(6,0,D 73 72 4),(7,0,J 74 73 5),(8,0,J 75 6 31),(9,0,J 76 7 3),(10,4,kC 77 68 [(kt 68),(kt 74),(kt 75),(kt 76),(kc 2)]),(11,0,kd 78 39 15 1 kz1 [(0,15,(kt 77))]),(12,0,kP 79 39 15 168 67 78),(13,0,M 9 79)])))))) (K.ops [M 18 10,kBi 19 18 1 .add,M 10 19])))))) (Z (K.wk (K.ops [M 80 0,D 81 5 0,J 82 81 3,M 83 9,kC 84 66 [(kt 80),(kc 7),(kc 0),(kt 82),(kt 83)],S 8 84 15])) kr)))
def zVn:Nat→Option (List (Nat×Nat)):=fun r=>match r with | 12=>some [(0,0),(1,0),(2,0),(3,2),(4,2001),(5,0),(6,0),(7,1001),(8,0),(9,4),(10,0),(11,0),(12,0)] | 13=>some [(0,0),(1,0),(2,0),(3,0),(4,0),(5,0),(6,0),(7,0),(8,0),(9,0),(10,4),(11,0),(12,0),(13,0)] | _=>none
theorem zUp:qE prog Tryz.f67.ntmps zVn (Tryz.f67.body.getD .skip)=some zND.erase:=by kernel_rfl
@[simp] theorem qAn:zA prog 67=true:=by kernel_rfl
section
variable {l:List Int}
theorem zXe (to fro:Dfn)(s:Id)(i:Nat)(m:Gm):Gst m (zGz l to fro s i m).2 28:=by
 unfold zGz;split
 ·split
  ·split
   ·exact(zY m).trans (zMW _ _ _ _) (by omega)
   ·exact(zY m).trans (zBG _ _ _ _ _ _) (by simp[gC])
  ·exact(zBG _ _ _ _ _ _).mono (by simp[gC])
 ·exact(zBG _ _ _ _ _ _).mono (by simp[gC])
 ·exact Gst.refl _ (by omega)
theorem zKn (to fro:Dfn)(s:Id)(m:Gm):∀n:Nat,Gst m (zBE l to fro s n m).2 (28*n)
 | 0=>Gst.refl _ (by omega)
 | n+1=>by simp only[zBE];exact(zKn to fro s m n).trans (zXe _ _ _ _ _) (by omega)
theorem zJ7 (to fro:Dfn)(s:Id)(m:Gm)(h:to.slots.length≤6):Gst m (zEI l to fro s m).2 170 :=
 (zKn to fro s m _).trans (zBF _ _ _ _ _) (by omega)
def smK (to fro:Dfn)(i:Nat)(k:Nat):Int:=if i<k then (match to.slots[i]?,fro.slots[i]? with
 | some u,some v=>if v.typ.k=u.typ.k then (i:Int) else -1
 | _,_=>-1) else -1
theorem qID (to fro:Dfn)(i:Nat):smK to fro i 0 = -1:=rfl
theorem zSf {to fro:Dfn}{i:Nat}(h1:i<to.slots.length)(h2:i<fro.slots.length)(h:fro.slots[i].typ.k=to.slots[i].typ.k){k:Nat}(hk:i<k):smK to fro i k=i:=by simp[smK,hk,h1,h2,h]
theorem zVX {to fro:Dfn}{i:Nat}(h1:i<to.slots.length)(h2:i<fro.slots.length)(h:fro.slots[i].typ.k≠to.slots[i].typ.k)(k:Nat):smK to fro i k = -1:=by simp[smK,h1,h2,h]
theorem zXQ {to fro:Dfn}{i:Nat}(h2:¬i<fro.slots.length)(k:Nat):smK to fro i k = -1:=by
 have:fro.slots[i]?=none:=by simp; omega
 unfold smK;rw[this];split
 ·split<;>simp_all
 ·rfl
theorem zVY {to fro:Dfn}{i k:Nat}(h:k≠i):smK to fro i (k+1)=smK to fro i k:=by
 unfold smK;by_cases e:i<k
 ·rw[if_pos e,if_pos (by omega)]
 ·rw[if_neg e,if_neg (by omega)]
theorem zLK (hl:∀x∈l,w64 x=x)(to fro:Dfn)(s:Id)(h1:to.slots.length≤6)(h2:fro.slots.length≤6)(hf:∀u∈to.slots,u.typ=tK u.typ.k∧(u.typ.k=0∨u.typ.k=1))(m:Gm)(hok:m.Ok 170) :
 Ret prog 67 [.ptr 0 0,.agg (zG to),.agg (zG fro),.agg (zC s)] (gS l m) (.agg (zT (zEI l to fro s m).1)) (gS l (zEI l to fro s m).2):=by
 refine qL Tryz.func67 rfl zUp (rs:=[.cell 8 15 true]) (by kernel_rfl) ?_;unfold zND;simp -implicitDefEqProofs [gS,gB];refine jM (S:=Nat) (fun i=>[(0,.ptr 0 0),(5,.ptr 1 0),(6,.ptr 2 0),(7,.ptr 3 0),(8,.ptr 4 0),(9,.row 5 i),(10,int i)])
  (fun i=>gS l (zBE l to fro s i m).2++[.box (zG to),.box (zG fro),.box (zC s),.box (zT Exp.zero),.row false 39 15 i (jP (zBE l to fro s i m).1)]) (fun i=>i≤to.slots.length) (fun i=>to.slots.length-i) 0 (by simp)
  ((zA9 (t:=9) (by simp) 39 15).trans (zO [0,1,2,3,4,5] 0 (by decide) (by simp) (by simp[gS,gB,zAF,zBE]) (by simp))) ?_
 intro i hi;have hst:=zKn (l:=l) to fro s m i;have hkl:=zEd l to fro s m i;generalize hmi:(zBE l to fro s i m).2=mi at hst;generalize hki:(zBE l to fro s i m).1=ki at hkl;by_cases hi2:i<to.slots.length
 ·have hok1:mi.Ok 29:=hok.adv hst (by omega);have hkid:zBE l to fro s (i+1) m=(ki++[(zGz l to fro s i mi).1],(zGz l to fro s i mi).2):=by simp only[zBE,hmi,hki]
  have hu:=hf _ (jA3 hi2);have hut:zU to.slots[i].typ=[int to.slots[i].typ.k,int 0,int 0,int 0,.sl 0 []]:=by rw[hu.1,zWi hu.2];rw[qIE hu.2]
  have hne:to.slots≠[]:=fun e=>by rw[e]at hi2; simp at hi2
  have hwi:=zA0 i (by omega);simp -implicitDefEqProofs [gS,gB,zG,hi2];intro _;refine jM (S:=Nat) (fun k=>[(0,.ptr 0 0),(5,.ptr 1 0),(6,.ptr 2 0),(7,.ptr 3 0),(8,.ptr 4 0),(9,.row 5 i),(10,int i),(11,int (smK to fro i k)),(12,int k)])
   (fun k=>gS l mi++[.box (zG to),.box (zG fro),.box (zC s),.box (zT Exp.zero),.row false 39 15 i (jP ki)]) (fun k=>k≤fro.slots.length) (fun k=>fro.slots.length-k) 0 (by simp)
   (zO [0,1,2,3,4,5] 0 (by decide) (by simp) (by simp[gS,gB,zAF,zG]) (by simp[qID])) ?_
  intro k hk;by_cases hk2:k<fro.slots.length
  ·have hne2:fro.slots≠[]:=fun e=>by rw[e]at hk2; simp at hk2
   have hwk:=qP hk2 (show fro.slots.length≤maxLen by simp[maxLen]; omega);by_cases hki2:k=i
   ·subst hki2;by_cases hkk:fro.slots[k].typ.k=to.slots[k].typ.k
    ·simp -implicitDefEqProofs [gS,gB,zG,hk2,hne,hne2,yC hk2,yC hi2,yG,hkk,hi2];exact fun _=>zP (k+1) hk2 (by omega) (zO [0,1,2,3,4,5] 0 (by decide) (by simp) (by simp[gS,gB,zAF,zG]) (by simp[hwk,zSf hi2 hk2 hkk]))
    ·have e1:=zVX hi2 hk2 hkk;simp -implicitDefEqProofs [gS,gB,zG,hk2,hne,hne2,yC hk2,yC hi2,yG,hkk,hi2];exact fun _=>zP (k+1) hk2 (by omega) (zO [0,1,2,3,4,5] 0 (by decide) (by simp) (by simp[gS,gB,zAF,zG]) (by simp[hwk,e1]))
   ·have hki3:¬(k:Int)=i:=by omega
    simp -implicitDefEqProofs [gS,gB,zG,hk2,hki2,hki3];exact fun _=>zP (k+1) hk2 (by omega) (zO [0,1,2,3,4,5] 0 (by decide) (by simp) (by simp[gS,gB,zAF,zG]) (by simp[hwk,zVY hki2]))
  ·have hkE:k=fro.slots.length:=by omega
   subst hkE;have happ:∀(q:Exp×Gm),zGz l to fro s i mi=q→jP (zBE l to fro s (i+1) m).1=jP ki++zT q.1:=fun q hq=>by rw[hkid,hq]; simp[zLi,zW]
   have happ2:∀(q:Exp×Gm),zGz l to fro s i mi=q→(zBE l to fro s (i+1) m).2=q.2:=fun q hq=>by rw[hkid,hq]
   by_cases hA:∃h:i<fro.slots.length,fro.slots[i].typ.k=to.slots[i].typ.k
   ·obtain⟨hif,hkk⟩:=hA;have e1:=zSf hi2 hif hkk (k:=fro.slots.length) hif;simp -implicitDefEqProofs [gS,gB,zG,e1];intro _;refine jJ (zBq (l:=l) mi 3 (by omega) (hok1.mono (by omega))) [0] (by decide) (by simp[gS,gB]) (by simp) ?_;by_cases hN:0<gN l mi 3
    ·have hq:zGz l to fro s i mi=zLn mi.tick i fro.id s:=by unfold zGz;rw[jA2 hi2,jA2 hif];simp only[if_pos hkk,if_pos hN]
     have g1:=zAL (l:=l) mi.tick 2 0 s [] (hok1.adv (zY mi) (by omega));have g2:=zAL (l:=l) (yN mi.tick 2 0 s []).2 8 i fro.id [(yN mi.tick 2 0 s []).1] (hok1.adv ((zY mi).trans (zBF _ _ _ _ _) (jAf _)) (by omega));simp -implicitDefEqProofs [gS,gB,zG,hN];refine zBo g1 [0] (by decide) (by simp[gS,gB]) (by simp) (by decide) (by simp) (by simp[gS]) ?_;simp -implicitDefEqProofs [gS,gB];refine zAK g2 [0] (by decide) (by simp[gS,gB]) (by simp[zW,zC]) ?_;simp -implicitDefEqProofs [gS,gB];refine⟨⟨by simp[maxLen]; omega,by omega⟩,?_⟩;exact zP (i+1) hi2 (by omega) (zO [0,1,2,3,4,5] 0 (by decide) (by simp) (by simp[gS,gB,zAF,zG,happ _ hq,happ2 _ hq,zLn]) (by simp[hwi]))
    ·have hq:zGz l to fro s i mi=zAC l fro s 2 to.slots[i].typ.k mi.tick:=by unfold zGz;rw[jA2 hi2,jA2 hif];simp only[if_pos hkk,if_neg hN]
     have g:=zHR hl fro s h2 2 (by omega) mi.tick to.slots[i].typ.k hu.2 (hok1.adv (zY mi) (by simp[gC]));rw[←hu.1]at g;simp -implicitDefEqProofs [gS,gB,zG,hN,hi2,hne,yC hi2,yG];refine zAK g [0] (by decide) (by simp[gS,gB]) (by simp[zG,zC,zU]) ?_;simp -implicitDefEqProofs [gS,gB];refine⟨⟨by simp[maxLen]; omega,by omega⟩,?_⟩;exact zP (i+1) hi2 (by omega) (zO [0,1,2,3,4,5] 0 (by decide) (by simp) (by simp[gS,gB,zAF,zG,happ _ hq,happ2 _ hq]) (by simp[hwi]))
   ·have e1:smK to fro i fro.slots.length = -1:=by
     by_cases hif:i<fro.slots.length
     ·exact zVX hi2 hif (fun e=>hA ⟨hif,e⟩) _
     ·exact zXQ hif _
    have hq:zGz l to fro s i mi=zAC l fro s 2 to.slots[i].typ.k mi:=by
     unfold zGz;rw[jA2 hi2];by_cases hif:i<fro.slots.length
     ·rw[jA2 hif];simp only[if_neg (fun e=>hA ⟨hif,e⟩)]
     ·have:fro.slots[i]?=none:=by simp; omega
      rw[this]
    have g:=zHR hl fro s h2 2 (by omega) mi to.slots[i].typ.k hu.2 (hok1.mono (by simp[gC]));rw[←hu.1]at g;simp -implicitDefEqProofs [gS,gB,zG,e1,hi2,hne,yC hi2,yG];intro _;refine zAK g [0] (by decide) (by simp[gS,gB]) (by simp[zG,zC,zU]) ?_;simp -implicitDefEqProofs [gS,gB];refine⟨⟨by simp[maxLen]; omega,by omega⟩,?_⟩;exact zP (i+1) hi2 (by omega) (zO [0,1,2,3,4,5] 0 (by decide) (by simp) (by simp[gS,gB,zAF,zG,happ _ hq,happ2 _ hq]) (by simp[hwi]))
 ·have hie:i=to.slots.length:=by omega
  subst hie;have g:=zAL (l:=l) mi 7 0 to.id ki (hok.adv hst (by omega));have hrec:zEI l to fro s m=yN mi 7 0 to.id ki:=by simp only[zEI,hmi,hki]
  simp -implicitDefEqProofs [gS,gB,zG];intro _;refine⟨qU [(0,.ptr 0 0),(5,.ptr 1 0),(8,.ptr 4 0),(9,.sl to.slots.length (jP ki))],gS l mi++[.box (zG to),.box (zG fro),.box (zC s),.box (zT Exp.zero)],zO [0,1,2,3,4] 1 (by decide) (by simp) (by simp[gS,gB,zG,zAF]) (by simp),?_⟩;simp -implicitDefEqProofs [gS,gB,zG];refine jJ g [0] (by decide) (by simp[gS,gB]) (by simp[zC,hkl]) ?_;simp -implicitDefEqProofs [gS,gB];rw[hrec];exact zH [0] 0 (by decide) (by simp) (by simp) (by simp[yN,zT])
end
end Go.Proofs.YtdnelmeboihpkaaGreatDoor
