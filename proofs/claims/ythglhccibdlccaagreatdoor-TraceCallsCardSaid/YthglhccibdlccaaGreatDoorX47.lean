/-
  The reference's evaluator: values.
  The reference's tracer: nodes.
-/
import Derived.Test.YthglhccibdlccaaGreatDoorX46
import Derived.Test.YthglhccibdlccaaGreatDoorX45
set_option linter.unusedVariables false
set_option linter.unusedSimpArgs false
namespace Go.Proofs.YthglhccibdlccaaGreatDoor
open Go.Abs
section
variable {p:Prg}{F:Int}{c:Nat}{m:Int}{ev:Evl}{e:Exp}{V:List EVar}{s:XS}
def zGE:K:=G [kO 4 1,kZ 6 [ki,ki,kl]] (Z (G [D 14 4 3,L 15 14 1] (K.block 0 (G [kQi 17 15 0 false,M 16 17] (Y 16 (G [D 18 4 4,L 19 18 1,kb 20 [ki,ki,kl] [(1,1,(kt 19))],S 6 20 3] kr) (G [kQi 22 15 1 false,M 21 22] (Y 21 (G [D 23 4 4,L 24 23 1,kb 25 [ki,ki,kl] [(0,1,(kc 1)),(1,1,(kt 24))],S 6 25 3] kr) (G [kQi 27 15 2 false,M 26 27] (Y 26 (G [M 28 2,D 29 4 5,J 30 29 3,D 31 4 4,L 32 31 1,kC 33 159 [(kt 28),(kt 30),(kt 32)],S 6 33 3] kr) (G [kQi 35 15 3 false,M 34 35] (Y 34 (G [M 36 0,D 37 4 13,L 38 37 1,M 39 2,kC 40 175 [(kt 36),(kt 38),(kt 39)],M 7 40] (Z (K.dops [(0,0,M 42 0),(1,0,kU 43 42),(2,1,D 44 43 0),(3,1,J 45 44 2),(4,1,D 46 4 5),(5,1,J 47 46 3),(6,1,kC 48 26 [(kt 45),(kt 47)]),(7,0,M 41 48),(8,0,kE 49 41 0),(9,0,kE 50 41 1),(10,0,kZ 8 kz0),(11,0,S 8 49 31),(12,0,M 9 50)]) (G [M 51 0,J 52 8 31,M 53 7,kC 54 99 [(kt 51),(kt 52),(kt 53)],S 6 54 3] kr))) (G [kQi 56 15 7 false,M 55 56] (Y 55 (G [M 57 0,D 58 4 13,L 59 58 1,M 60 2,kC 61 175 [(kt 57),(kt 59),(kt 60)],kb 62 [ki,ki,kl] [(0,1,(kc 2)),(2,1,(kt 61))],S 6 62 3] kr) (G [kQi 64 15 9 false,M 63 64] (Y 63 (Z (K.dops [(0,2,D 65 4 4),(1,2001,L 66 65 1),(2,0,M 67 0),(3,0,D 68 4 13),(4,0,L 69 68 1),(5,0,M 70 2),(6,1001,kC 71 175 [(kt 67),(kt 69),(kt 70)]),(7,0,kb 72 [ki,ki,kl] [(0,1,(kc 3)),(1,1,(kt 66)),(2,1,(kt 71))]),(8,0,S 6 72 3)]) kr) (G [kQi 74 15 11 false,M 73 74] (Y 73 (G [M 75 0,D 76 4 13,L 77 76 1,M 78 2,kC 79 175 [(kt 75),(kt 77),(kt 78)],kb 80 [ki,ki,kl] [(0,1,(kc 4)),(2,1,(kt 79))],S 6 80 3] kr) (G [kQi 82 15 4 false,
 M 81 82] (Y 81 (G [M 83 0,D 84 4 13,L 85 84 1,M 86 2,kC 87 175 [(kt 83),(kt 85),(kt 86)],M 10 87] (Z (G [M 88 0,kU 89 88,D 90 89 4,L 91 90 1,kQi 92 91 0 true] (Y 92 (G [kb 93 [ki,ki,kl] [],S 6 93 3] kr) ks)) (G [D 94 4 4,L 95 94 1,M 96 10,kC 97 161 [(kt 95),(kt 96)],S 6 97 3] kr))) ks)))))))))))))))))) (G [M 98 0,D 99 4 13,L 100 99 1,kXi 101 100 15 0,J 102 101 15,M 103 2,kC 104 137 [(kt 98),(kt 102),(kt 103)],kZ 11 [ki,ki,kl],S 11 104 3] (Z (G [M 105 0,kU 106 105,D 107 106 4,L 108 107 1,kQi 109 108 0 true] (Y 109 (G [kb 110 [ki,ki,kl] [],S 6 110 3] kr) ks)) (Z (G [D 111 4 3,L 112 111 1] (K.block 1 (G [kQi 114 112 5 false,M 113 114] (Y 113 (G [M 115 0,D 116 4 13,L 117 116 1,D 118 11 1,L 119 118 1,⟨none,.bin (some 120) .sub (kc 2) (kt 119)⟩,kX 121 117 120 15,J 122 121 15,M 123 2,kC 124 137 [(kt 115),(kt 122),(kt 123)],S 6 124 3] kr) (G [kQi 126 112 6 false,M 125 126] (Y 125 (Z (K.dops [(0,0,M 127 0),(1,0,D 128 4 13),(2,0,L 129 128 1),(3,0,kXi 130 129 15 1),(4,0,J 131 130 15),(5,0,M 132 2),(6,0,D 133 4 0),(7,0,J 134 133 3),(8,0,J 135 11 3),(9,0,kC 136 101 [(kt 132),(kt 134),(kc 0),(kt 135)]),(10,4,kC 137 137 [(kt 127),(kt 131),(kt 136)]),(11,0,S 6 137 3)]) kr) (G [kQi 139 112 8 false,M 138 139] (Y 138 (G [D 140 11 2,L 141 140 1,D 142 4 4,L 143 142 1,kX 144 141 143 3,J 145 144 3,S 6 145 3] kr) (G [kQi 147 112 10 false,M 146 147] (Y 146 (Z (K.dops [(0,0,M 148 0),(1,0,D 149 4 13),(2,0,L 150 149 1),(3,0,D 151 11 1),(4,0,
 L 152 151 1),(5,0,⟨none,.bin (some 153) .add (kc 1) (kt 152)⟩),(6,0,kX 154 150 153 15),(7,0,J 155 154 15),(8,0,M 156 2),(9,0,D 157 4 0),(10,0,J 158 157 3),(11,0,D 159 11 1),(12,0,L 160 159 1),(13,0,D 161 11 2),(14,0,L 162 161 1),(15,0,kXi 163 162 3 0),(16,0,J 164 163 3),(17,0,kC 165 101 [(kt 156),(kt 158),(kt 160),(kt 164)]),(18,4,kC 166 137 [(kt 148),(kt 155),(kt 165)]),(19,0,S 6 166 3)]) kr) ks)))))))))) (G [M 167 0,D 168 4 13,L 169 168 1,kXi 170 169 15 1,J 171 170 15,M 172 2,kC 173 137 [(kt 167),(kt 171),(kt 172)],kZ 12 [ki,ki,kl],S 12 173 3] (Z (G [kMi 13 0] (K.block 2 (K.loop (Z (G [M 174 13,D 175 11 2,L 176 175 1,kN 177 176,kB 178 174 177 .lss] (Y 178 ks (K.exit 2))) (Z (K.block 3 (K.dops [(0,0,M 181 0),(1,0,D 182 4 13),(2,0,L 183 182 1),(3,0,kXi 184 183 15 2),(4,0,J 185 184 15),(5,0,M 186 2),(6,0,D 187 4 0),(7,0,J 188 187 3),(8,0,D 189 11 2),(9,0,L 190 189 1),(10,0,M 191 13),(11,0,kX 192 190 191 3),(12,0,J 193 192 3),(13,0,kC 194 101 [(kt 186),(kt 188),(kc 0),(kt 193)]),(14,0,D 195 4 0),(15,0,J 196 195 3),(16,0,J 197 12 3),(17,0,kC 198 101 [(kt 194),(kt 196),(kc 1),(kt 197)]),(18,4,kC 199 137 [(kt 181),(kt 185),(kt 198)]),(19,0,S 12 199 3)])) (K.ops [M 179 13,kBi 180 179 1 .add,M 13 180])))))) (G [J 200 12 3,S 6 200 3] kr)))))))
def qMV:Nat→Option (List (Nat×Nat)):=fun r=>match r with | 10=>some [(0,0),(1,0),(2,1),(3,1),(4,1),(5,1),(6,1),(7,0),(8,0),(9,0),(10,0),(11,0),(12,0)] | 15=>some [(0,2),(1,2001),(2,0),(3,0),(4,0),(5,0),(6,1001),(7,0),(8,0)] | 30=>some [(0,0),(1,0),(2,0),(3,0),(4,0),(5,0),(6,0),(7,0),(8,0),(9,0),(10,4),(11,0)] | 34=>some [(0,0),(1,0),(2,0),(3,0),(4,0),(5,0),(6,0),(7,0),(8,0),(9,0),(10,0),(11,0),(12,0),(13,0),(14,0),(15,0),(16,0),(17,0),(18,4),(19,0)] | 39=>some [(0,0),(1,0),(2,0),(3,0),(4,0),(5,0),(6,0),(7,0),(8,0),(9,0),(10,0),(11,0),(12,0),(13,0),(14,0),(15,0),(16,0),(17,0),(18,4),(19,0)] | _=>none
theorem zHp:qJ Tryz.prog Tryz.f158.ntmps qMV (Tryz.f158.body.getD .skip)=some zGE.erase:=by kernel_rfl
@[simp] theorem qOk:zC Tryz.prog 158=true:=by kernel_rfl
abbrev UVa (p:Prg)(F:Int)(e:Exp)(V:List EVar)(s:XS)(r:Val×XS):Prop:=Ret Tryz.prog 158 [.ptr 0 0,.agg (zH e),.sl V.length (jQ V)] (uS p F s) (.agg (zI r.1)) (uS p F r.2)
theorem zPK (hk:e.k=0):UVa p F e V s (.mk 0 e.n [],s):=by have hP:=eP p;refine zJ Tryz.func158 rfl zHp (rs:=[.cell 6 3 true]) (by kernel_rfl) ?_;unfold zGE;simp[uS,hP,zH,hk];exact zF [0] 0 (by decide) (by simp) (by simp) (by simp[zI,zU,zO,zG])
theorem zNP (hk:e.k=1):UVa p F e V s (.mk 1 e.n [],s):=by have hP:=eP p;refine zJ Tryz.func158 rfl zHp (rs:=[.cell 6 3 true]) (by kernel_rfl) ?_;unfold zGE;simp[uS,hP,zH,hk];exact zF [0] 0 (by decide) (by simp) (by simp) (by simp[zI,zU,zO,zG])
theorem zPn (hk:e.k=2)(hV:V.length≤1000000):UVa p F e V s (zDb V e.ref e.n,s):=by have hP:=eP p;refine zJ Tryz.func158 rfl zHp (rs:=[.cell 6 3 true]) (by kernel_rfl) ?_;unfold zGE;simp[uS,hP,zH,hk];refine zR (zNq V e.ref e.n hV) (by simp[qL]) (by simp[zI]) ?_;simp[zI];exact zF [0] 0 (by decide) (by simp) (by simp) (by simp[zI])
section
variable {A:List Val×XS}(hA:Ret Tryz.prog 175 [.ptr 0 0,.sl e.kids.length (qR e.kids),.sl V.length (jQ V)] (uS p F s) (.sl A.1.length (zZ A.1)) (uS p F A.2))
include hA
theorem zP8 (hk:e.k=7):UVa p F e V s (.mk 2 0 A.1,A.2):=by have hP:=eP p;refine zJ Tryz.func158 rfl zHp (rs:=[.cell 6 3 true]) (by kernel_rfl) ?_;unfold zGE;simp[uS,hP,zH,hk];refine zM hA [0] (by decide) (by simp[uS,hP]) (by simp) ?_;simp[uS,hP];exact zF [0] 0 (by decide) (by simp) (by simp) (by simp[zI,zU,zO,zG])
theorem zNo (hk:e.k=11):UVa p F e V s (.mk 4 0 A.1,A.2):=by have hP:=eP p;refine zJ Tryz.func158 rfl zHp (rs:=[.cell 6 3 true]) (by kernel_rfl) ?_;unfold zGE;simp[uS,hP,zH,hk];refine zM hA [0] (by decide) (by simp[uS,hP]) (by simp) ?_;simp[uS,hP];exact zF [0] 0 (by decide) (by simp) (by simp) (by simp[zI,zU,zO,zG])
theorem zOq (hk:e.k=9):UVa p F e V s (.mk 3 e.n A.1,A.2):=by have hP:=eP p;refine zJ Tryz.func158 rfl zHp (rs:=[.cell 6 3 true]) (by kernel_rfl) ?_;unfold zGE;simp[uS,hP,zH,hk];refine yX hA [0] (by decide) (by simp[uS,hP]) (by simp) (by simp) (by simp) (by simp[uS]) ?_;simp[uS,hP];exact zF [0] 0 (by decide) (by simp) (by simp) (by simp[zI,zU,zO,zG])
theorem zSs {v:Val}(hk:e.k=4)(hv:A.2.fail=0→v=opV e.n A.1∧∃ts t,OpT e.n ts t∧TyL p ts A.1∧∀v∈A.1,qE v≤256)(hz:A.2.fail≠0→v=vz):UVa p F e V s (v,A.2):=by
 have hP:=eP p;obtain⟨vs,s1⟩:=A;simp only at hA hv hz ⊢;refine zJ Tryz.func158 rfl zHp (rs:=[.cell 6 3 true]) (by kernel_rfl) ?_;unfold zGE;simp[uS,hP,zH,hk];refine zM hA [0] (by decide) (by simp[uS,hP]) (by simp) ?_;by_cases hf:s1.fail=0
 ·obtain⟨rfl,ts,t,ho,ht,hs⟩:=hv hf;simp[uS,hP,hf];refine zR (zVw ho ht hs) (by simp) (by simp[zI]) ?_;simp[zI];exact zF [0] 0 (by decide) (by simp) (by simp[hf]) (by simp[zI])
 ·obtain rfl:=hz hf;simp[uS,hP,hf];exact zF [0] 0 (by decide) (by simp) (by simp) (by simp[zI,zU,zO,zG])
theorem zOU {d:Dfn}{r:Val×XS}(hL:p.defs.length≤1000000)(hk:e.k=3)(hd:yL p.defs e.ref=some d)
 (hb:Ret Tryz.prog 99 [.ptr 0 0,.agg (zP d),.sl A.1.length (zZ A.1)] (uS p F A.2) (.agg (zI r.1)) (uS p F r.2)):UVa p F e V s r:=by
 have hP:=eP p;refine zJ Tryz.func158 rfl zHp (rs:=[.cell 6 3 true]) (by kernel_rfl) ?_;unfold zGE;simp[uS,hP,zH,hk];refine zM hA [0] (by decide) (by simp[uS,hP]) (by simp) ?_;simp[uS,hP];refine zAn (zB0 p hL e.ref) (by simp[zQ,qL]) (by simp[zAh]) ?_;simp[zAh,hd,zP];refine zM hb [0] (by decide) (by simp[uS,hP]) (by simp[zP]) ?_;simp[uS,hP,zI];exact zF [0] 0 (by decide) (by simp) (by simp) (by simp[zI])
end
abbrev UBr (p:Prg)(F:Int)(ev:Evl)(e:Exp)(V:List EVar)(s:XS):Prop:=UVa p F e V s (qG ev e V s)
theorem zFA (h:UIh p F c m ev){a:Exp}{ks:List Exp}(hk:e.k=5∨e.k=6∨e.k=8∨e.k=10∨e.k=12)(hks:e.kids=a::ks)(hA:Adm p a V s)(hB:Bn c m s)(hVl:V.length+2*m≤100000)(hf:(ev a V s).2.fail≠0):UBr p F ev e V s:=by
 have hr:=h.ok a V s hA hB hVl;have hx:qG ev e V s=(vz,(ev a V s).2):=by unfold qG; rw[hks]; simp[hf]
 unfold UBr;rw[hx];generalize ev a V s=r at hr hf;have n0:¬e.k=0:=by omega
 have n1:¬e.k=1:=by omega
 have n2:¬e.k=2:=by omega
 have n3:¬e.k=3:=by omega
 have n7:¬e.k=7:=by omega
 have n9:¬e.k=9:=by omega
 have n11:¬e.k=11:=by omega
 have n4:¬e.k=4:=by omega
 refine zJ Tryz.func158 rfl zHp (rs:=[.cell 6 3 true]) (by kernel_rfl) ?_;unfold zGE;have hP:=eP p;simp[uS,hP,zH,hks,zL,n0,n1,n2,n3,n7,n9,n11,n4];refine zM hr [0] (by decide) (by simp[uS,hP]) (by simp[zH]) ?_;simp[uS,hP,zI,hf];exact zF [0] 0 (by decide) (by simp) (by simp) (by simp[zI,zU,zO,zG])
set_option maxHeartbeats 1000000 in
theorem zXs (h:UIh p F c m ev){B:List Bnd}{a b d:Exp}{t:Typ}(hk:e.k=5)(hks:e.kids=[a,b,d])(ha:WE p B a jP)(hb:WE p B b t)(hd:WE p B d t)(hV:EnvT p B V)(hN:NdV V)(hB:Bn c m s)(hVl:V.length+2*m≤100000):UBr p F ev e V s:=by
 by_cases hf:(ev a V s).2.fail=0
 ·have hr:=h.ok a V s (.of ha hV hN) hB hVl;have hB1:=(h.bd a V s hB).bn;have hty:=(h.snd a B V s _ ha hV hf).1.bool_inv;have hx:qG ev e V s=ev (if (ev a V s).1.n=1 then b else d) V (ev a V s).2:=by unfold qG;rw[hks];simp only[List.headD_cons,hf,hk];by_cases hn:(ev a V s).1.n=1<;>simp[hn]
  unfold UBr;rw[hx];clear hx;generalize ev a V s=r at *
  obtain⟨v,s1⟩:=r;simp only at *
  have r1:=h.ok b V s1 (.of hb hV hN) hB1 hVl;have r2:=h.ok d V s1 (.of hd hV hN) hB1 hVl;obtain⟨x,rfl,hxx⟩:=hty;have w2:IntKind.i64.wrap 2=2:=by decide
  have w1:IntKind.i64.wrap 1=1:=by decide
  refine zJ Tryz.func158 rfl zHp (rs:=[.cell 6 3 true]) (by kernel_rfl) ?_;unfold zGE;have hP:=eP p;simp[uS,hP,zH,hks,zL,hk];refine zM hr [0] (by decide) (by simp[uS,hP]) (by simp[zH]) ?_;rcases hxx with rfl | rfl
  ·simp[uS,hP,zI,hf,zU,zO,zG,w2];refine zM r2 [0] (by decide) (by simp[uS,hP,hf]) (by simp[zH]) ?_;simp[uS,hP,zI];exact zF [0] 0 (by decide) (by simp) (by simp) (by simp[zI])
  ·simp[uS,hP,zI,hf,zU,zO,zG,w1];refine zM r1 [0] (by decide) (by simp[uS,hP,hf]) (by simp[zH]) ?_;simp[uS,hP,zI];exact zF [0] 0 (by decide) (by simp) (by simp) (by simp[zI])
 ·exact zFA h (.inl hk) hks (.of ha hV hN) hB hVl hf
set_option maxHeartbeats 1000000 in
theorem zXa (h:UIh p F c m ev){B:List Bnd}{a b:Exp}{u t:Typ}(hk:e.k=6)(hks:e.kids=[a,b])(hfr:∀x∈B,x.id≠e.id)(ha:WE p B a u)(hb:WE p (B++[⟨e.id,0,u⟩]) b t)(hV:EnvT p B V)(hN:NdV V)(hB:Bn c m s)(hVl:V.length+2+2*m≤100000)(hm:0≤m):UBr p F ev e V s:=by
 by_cases hf:(ev a V s).2.fail=0
 ·have hr:=h.ok a V s (.of ha hV hN) hB (by omega);have hB1:=(h.bd a V s hB).bn;have hty:=h.snd a B V s _ ha hV hf;have hfv:=hV.ids hfr;have hx:qG ev e V s=ev b (V++[⟨e.id,0,(ev a V s).1⟩]) (ev a V s).2:=by unfold qG;rw[hks];simp[hf,hk]
  unfold UBr;rw[hx];clear hx;generalize ev a V s=r at *
  obtain⟨v,s1⟩:=r;simp only at *
  have r1:=h.ok b (V++[⟨e.id,0,v⟩]) s1 (.of hb (hV.push hty) (hN.push (.of hfv 0))) hB1 (by simp; omega);have wi:=zBT V ⟨e.id,0,v⟩ (by omega);generalize ev b (V++[⟨e.id,0,v⟩]) s1=r' at *
  refine zJ Tryz.func158 rfl zHp (rs:=[.cell 6 3 true]) (by kernel_rfl) ?_;unfold zGE;have hP:=eP p;simp[uS,hP,zH,hks,zL,hk];refine zM hr [0] (by decide) (by simp[uS,hP]) (by simp[zH]) ?_;simp[uS,hP,zI,hf];refine qI wi (by simp[qL,zI]) (by simp) ?_;simp;refine yT r1 [0] (by decide) (by simp[uS,hP,hf]) (by simp[zH]) ?_;simp[uS,hP,zI];exact zF [0] 0 (by decide) (by simp) (by simp) (by simp[zI])
 ·exact zFA h (.inr (.inl hk)) hks (.of ha hV hN) hB (by omega) hf
set_option maxHeartbeats 1000000 in
theorem zRU (h:UIh p F c m ev){B:List Bnd}{a:Exp}{d:Dfn}{j:Nat}(hk:e.k=8)(hn:e.n=j)(hks:e.kids=[a])(hd:yL p.defs e.ref=some d)(hdk:d.kind=0)(hj:j<d.slots.length)(ha:WE p B a (zA9 e.ref))(hV:EnvT p B V)(hN:NdV V)(hB:Bn c m s)(hVl:V.length+2*m≤100000):UBr p F ev e V s:=by
 by_cases hf:(ev a V s).2.fail=0
 ·have hr:=h.ok a V s (.of ha hV hN) hB hVl;have hty:=(h.snd a B V s _ ha hV hf).1.def_inv hd;have hx:qG ev e V s=((ev a V s).1.kids.getD j vz,(ev a V s).2):=by unfold qG;rw[hks];simp[hf,hk,hn]
  unfold UBr;rw[hx];clear hx;generalize ev a V s=r at *
  obtain⟨v,s1⟩:=r;simp only at *
  obtain⟨_,vs,hl,rfl,_⟩:=hty.resolve_right (fun h=>by omega);have hjv:j<vs.length:=by omega
  refine zJ Tryz.func158 rfl zHp (rs:=[.cell 6 3 true]) (by kernel_rfl) ?_;unfold zGE;have hP:=eP p;simp[uS,hP,zH,hks,zL,hk,hn];refine zM hr [0] (by decide) (by simp[uS,hP]) (by simp[zH]) ?_;simp[uS,hP,zI,hf,zU,zO,zG,hjv,qY hjv];exact zF [0] 0 (by decide) (by simp) (by simp) (by simp[zI,zG,hjv])
 ·exact zFA h (.inr (.inr (.inl hk))) hks (.of ha hV hN) hB hVl hf
set_option maxHeartbeats 1000000 in
theorem zSZ (h:UIh p F c m ev){B:List Bnd}{a:Exp}{ks:List Exp}{d:Dfn}{t:Typ}(hk:e.k=10)(hks:e.kids=a::ks)(hfr:∀x∈B,x.id≠e.id)(hd:yL p.defs e.ref=some d)(hdk:d.kind=1)(hl:ks.length=d.slots.length)(hl6:ks.length≤32768)(ha:WE p B a (zA9 e.ref))
 (hw:∀(j:Nat)(hj:j<ks.length),WE p (B++[⟨e.id,j,(d.slots[j]'(hl▸hj)).typ⟩]) ks[j] t)(hV:EnvT p B V)(hN:NdV V)(hB:Bn c m s)(hVl:V.length+2+2*m≤100000)(hm0:0≤m):UBr p F ev e V s:=by
 by_cases hf:(ev a V s).2.fail=0
 ·have hr:=h.ok a V s (.of ha hV hN) hB (by omega);have hB1:=(h.bd a V s hB).bn;obtain⟨hty,hz⟩:=h.snd a B V s _ ha hV hf;have hty:=hty.def_inv hd;have hfv:=hV.ids hfr;have hx:qG ev e V s=ev (e.kids.getD (1+(ev a V s).1.n).toNat .zero) (V++[⟨e.id,(ev a V s).1.n,(ev a V s).1.kids.headD vz⟩]) (ev a V s).2:=by unfold qG;rw[hks];simp[hf,hk]
  unfold UBr;rw[hx];clear hx;generalize ev a V s=r at *
  obtain⟨v,s1⟩:=r;simp only at *
  obtain⟨_,q,x,hq,rfl,hxt⟩:=hty.resolve_left (fun h=>by omega);have hqk:q<ks.length:=by omega
  have e2:(1+(q:Int)).toNat=q+1:=by omega
  have hw1:IntKind.i64.wrap (1+(q:Int))=((q+1:Nat):Int):=by rw[IntWalk.i64_in _ (by omega)]; omega
  simp only[zO,zG,List.headD_cons,e2,hks,List.getD_eq_getElem?_getD,List.getElem?_cons_succ,List.getElem?_eq_getElem hqk,Option.getD_some];have r1:=h.ok ks[q] (V++[⟨e.id,q,x⟩]) s1 (.of (hw q hqk) (hV.push ⟨hxt,zBt hz (by simp[zG])⟩) (hN.push (.of hfv q))) hB1 (by simp; omega);have wi:=zBT V ⟨e.id,q,x⟩ (by omega);generalize ev ks[q] (V++[⟨e.id,q,x⟩]) s1=r' at *
  have hdr:(qR (a::ks)).drop ((q+1)*15)=zH ks[q]++qR (ks.drop (q+1)):=by
   have:=yE (l:=a::ks) (i:=q+1) (by simpa using hqk)
   simpa using this
  have hlt:q+1<(a::ks).length:=by simpa using hqk
  refine zJ Tryz.func158 rfl zHp (rs:=[.cell 6 3 true]) (by kernel_rfl) ?_;unfold zGE;have hP:=eP p;have h0:=zL a ks;generalize hQ:a::ks=Q at *
  obtain⟨M,hM⟩:∃M,M=q+1:=⟨_,rfl⟩;rw[←hM]at hw1 hdr hlt;have hQ0:0<Q.length:=by omega
  have hq0:0<Q.length*15:=by omega
  have hq15:15≤Q.length*15:=by omega
  have ht:(qR Q).take 15=zH a:=by rw[h0]; exact List.take_left' rfl
  have ea:zH a=[int a.id.a,int a.id.b,int a.id.c,int a.k,int a.n,int a.ref.a,int a.ref.b,int a.ref.c,int a.typ.k,int a.typ.id.a,int a.typ.id.b,int a.typ.id.c,.sl a.typ.kids.length (jJ a.typ.kids),.sl a.kids.length (qR a.kids),.sl a.names.length (yY a.names)]:=rfl;rw[ea]at ht;clear h0;simp[uS,hP,zH,hks,hQ0,hq0,hq15,ht,hk];refine zM hr [0] (by decide) (by simp[uS,hP]) (by simp[zH]) ?_;simp[uS,hP,zI,hf,zU,zO,zG,hw1,hlt,hdr,zH];refine qI wi (by simp[qL,zI]) (by simp) ?_;simp;refine yT r1 [0] (by decide) (by simp[uS,hP,hf]) (by simp[zH]) ?_;simp[uS,hP,zI];exact zF [0] 0 (by decide) (by simp) (by simp) (by simp[zI])
 ·exact zFA h (.inr (.inr (.inr (.inl hk)))) hks (.of ha hV hN) hB (by omega) hf
set_option maxHeartbeats 2000000 in
theorem zUU (h:UIh p F c m ev){B:List Bnd}{l z b:Exp}{u t:Typ}(hk:e.k=12)(hks:e.kids=[l,z,b])(hfr:∀x∈B,x.id≠e.id)(hl:WE p B l (jM u))(hz:WE p B z t)(hb:WE p (B++[⟨e.id,0,u⟩]++[⟨e.id,1,t⟩]) b t)(hV:EnvT p B V)(hN:NdV V)(hB:Bn c m s)(hVl:V.length+2+2*m≤100000)(hm0:0≤m):UBr p F ev e V s:=by
 by_cases hf:(ev l V s).2.fail=0
 ·have hr:=h.ok l V s (.of hl hV hN) hB (by omega);have hB1:=(h.bd l V s hB).bn;obtain⟨hty,hsz⟩:=h.snd l B V s _ hl hV hf;have hfv:=hV.ids hfr;have hx:qG ev e V s=jU ev V e.id b (ev l V s).1.kids (ev z V (ev l V s).2):=by unfold qG;rw[hks];simp[hf,hk]
  unfold UBr;rw[hx];clear hx;generalize ev l V s=r at *
  obtain⟨v,s1⟩:=r;simp only at *
  obtain⟨vs,rfl,hvs⟩:=hty.list_inv;have hvl:=zJT hsz;simp only[zG]at hvl;have hr2:=h.ok z V s1 (.of hz hV hN) hB1 (by omega);have hB2:=h.bd z V s1 hB1;have ht2:=h.snd z B V s1 _ hz hV;generalize ev z V s1=r2 at *
  simp only[zG];have hst:∀i,Bd c m (jU ev V e.id b (vs.take i) r2).2∧((jU ev V e.id b (vs.take i) r2).2.fail=0→TyV p t (jU ev V e.id b (vs.take i) r2).1∧qE (jU ev V e.id b (vs.take i) r2).1≤256):=fun i =>
   ⟨zFf h.bd V e.id b _ _ hB2,zF6 h.stop h.snd hV hb _ _ (fun x hx=>⟨hvs x (List.mem_of_mem_take hx),zBt hsz (List.mem_of_mem_take hx)⟩) ht2⟩
  have hround:∀(i:Nat) (hi:i<vs.length),UOk p F (jU ev V e.id b (vs.take (i+1)) r2) b (V++[⟨e.id,0,vs[i]⟩]++[⟨e.id,1,(jU ev V e.id b (vs.take i) r2).1⟩]) (jU ev V e.id b (vs.take i) r2).2:=fun i hi=>by rw[List.take_succ_eq_append_getElem hi,zED];refine h.ok _ _ _ (fun h0=>⟨_,t,hb,(hV.push ⟨hvs _ (List.getElem_mem hi),zBt hsz (List.getElem_mem hi)⟩).push ((hst i).2 h0),(hN.push (.of hfv 0)).push (.push hfv (by decide) _)⟩) (hst i).1.bn (by simp; omega)
  have htk:vs.take vs.length=vs:=List.take_length;have hF0:jU ev V e.id b [] r2=r2:=rfl;refine zJ Tryz.func158 rfl zHp (rs:=[.cell 6 3 true]) (by kernel_rfl) ?_;unfold zGE;have hP:=eP p;simp[uS,hP,zH,hks,zL,hk];refine zM hr [0] (by decide) (by simp[uS,hP]) (by simp[zH]) ?_;simp[uS,hP,zI,hf,zU,zO,zG];refine zM hr2 [0] (by decide) (by simp[uS,hP,hf]) (by simp[zH]) ?_;simp[uS,hP,zI,zG];refine qP (S:=Nat) (fun i=>[(0,.ptr 0 0),(2,.sl V.length (jQ V)),(4,.ptr 1 0),(6,.ptr 2 0),(11,.ptr 3 0),(12,.ptr 4 0),(13,int i)])
   (fun i=>uS p F (jU ev V e.id b (vs.take i) r2).2++[.box (zH e),.box [int 0,int 0,.nil],.box [int 4,int 0,.sl vs.length (zZ vs)],.box (zI (jU ev V e.id b (vs.take i) r2).1)]) (fun i=>i≤vs.length) (fun i=>vs.length-i) 0 (by simp)
   (zV [0,1,2,3,4] 0 (by decide) (by simp) (by simp[uS,hP,zH,hks,zL,hk,zI,hF0]) (by simp)) ?_
  intro i hi;have hwi:IntKind.i64.wrap ((i:Int)+1)=(i:Int)+1:=IntWalk.i64_in _ (by omega);by_cases hil:i<vs.length
  ·have hro:=hround i hil;have hdr:=qY hil;generalize hFn:jU ev V e.id b (vs.take (i+1)) r2=Fn at hro;generalize hFi:jU ev V e.id b (vs.take i) r2=Fi at hro;obtain⟨acc,si⟩:=Fi;simp only at hro;generalize vs[i]=x at *
   have w1:=zBT V ⟨e.id,0,x⟩ (by omega);have w2:=zBT (V++[⟨e.id,0,x⟩]) ⟨e.id,1,acc⟩ (by simp; omega);simp[uS,hP,zH,hks,zL,hk,zI,hil,hdr,hFi]
   intros
   refine qI w1 (by simp[qL,zI]) (by simp) ?_;simp;refine qI w2 (by simp[qL,zI]) (by simp) ?_;simp;refine yT hro [0] (by decide) (by simp[uS,hP]) (by simp[zH]) ?_;simp[uS,hP,zI];exact zW (i+1) hil (by omega) (zV [0,1,2,3,4] 0 (by decide) (by simp) (by simp[uS,hP,zH,hks,zL,hk,zI,hFn]) (by simp[hwi]))
  ·have hil:i=vs.length:=by omega
   subst hil;rw[htk];simp[uS,hP,zI]
   intros
   exact zF [0] 0 (by decide) (by simp) (by simp) (by simp[zI])
 ·exact zFA h (.inr (.inr (.inr (.inr hk)))) hks (.of hl hV hN) hB (by omega) hf
end
section
variable {p:Prg}{c:Nat}{m:Int}{ev:Evl}{e:Exp}{V:List EVar}{s:XS}
theorem zRO (hp:zMS p)(hsl:zPX p)(hL:p.defs.length≤1000000)(h:XIh p c m ev)(hc:c≤100000)(hm0:0≤m){B:List Bnd}{t:Typ}(he:WE p B e t)(hV:EnvT p B V)(hN:NdV V)(hB:Bd c m s)(hVl:V.length+2+2*m≤100000)(hm:6+2*m≤100000):XVa p e V s (qB p 0 ev e V s):=by
 cases he with
 | int _ i n r u ns h1 h2=>exact zQa rfl
 | bool _ i n r u ns h1=>exact zNL rfl
 | var _ i n r u ns _ hl=>exact zPO (e:=.mk i 2 n r u [] ns) rfl (by omega)
 | call _ i n r u ks ns hn d hd hk hl hw =>
  have e1:qB p 0 ev (.mk i 3 n r u ks ns) V s=zAl ev d (qN ev V ks s).1 (qN ev V ks s).2:=by simp[qB,dfn,hd]
  rw[e1];have hB1:=zDD h.bd V ks s hB;have hdm:=(zAz hd).1;have hA:=zHr h ks hn (fun k hk s=>by obtain⟨j,hj,rfl⟩:=List.getElem_of_mem hk;exact .of (hw j hj) hV hN) hB (by omega)
  refine zOi (e:=.mk i 3 n r u ks ns) hA hL rfl hd (zOT h hc d _ (by rw[zCQ]; omega) (hsl d hdm).1 (fun hf _=>?_) hm hB1);obtain⟨ht,hz⟩:=zCz h.stop h.snd hV ks _ s hl hw hf;have hlen:=ht.len;rw[List.length_map]at hlen;exact⟨_,_,hp r d hd (by simp[zCn,hk]),EnvT.args ht hz,zFE (hsl d hdm).2 _ hlen⟩
 | op _ i n r u ks ns hn ts _ ho hl hw =>
  have e1:qB p 0 ev (.mk i 4 n r u ks ns) V s=(zf true (qN ev V ks s).2 (opV n (qN ev V ks s).1),(qN ev V ks s).2):=by simp[qB]
  rw[e1];have hA:=zHr h ks hn (fun k hk s=>by obtain⟨j,hj,rfl⟩:=List.getElem_of_mem hk;exact .of (hw j hj) hV hN) hB (by omega)
  refine zSp (e:=.mk i 4 n r u ks ns) hA rfl (fun hf=>⟨zEe hf,ts,_,ho,?_⟩) fun hf=>by simp[zf,hf]
  exact zCz h.stop h.snd hV ks _ s hl hw hf
 | record _ i n r u ks ns hn d hd hk hl hw =>
  have e1:qB p 0 ev (.mk i 7 n r u ks ns) V s=(.mk 2 0 (qN ev V ks s).1,(qN ev V ks s).2):=by simp[qB,zf]
  rw[e1];exact zQb (e:=.mk i 7 n r u ks ns) (zHr h ks hn (fun k hk s=>by obtain⟨j,hj,rfl⟩:=List.getElem_of_mem hk;exact .of (hw j hj) hV hN) hB (by omega)) rfl
 | case _ i r u a ns d j hd hk hj ha =>
  have e1:qB p 0 ev (.mk i 9 j r u [a] ns) V s=(.mk 3 j (qN ev V [a] s).1,(qN ev V [a] s).2):=by simp[qB,zf]
  rw[e1];exact zNh (e:=.mk i 9 j r u [a] ns) (zHr h [a] (by simp) (fun k hk s=>by simp only[List.mem_singleton]at hk;subst hk;exact .of ha hV hN) hB (by omega)) rfl
 | list _ i n r u ks ns t hn hw =>
  have e1:qB p 0 ev (.mk i 11 n r u ks ns) V s=(.mk 4 0 (qN ev V ks s).1,(qN ev V ks s).2):=by simp[qB,zf]
  rw[e1];exact zNI (e:=.mk i 11 n r u ks ns) (zHr h ks hn (fun k hk s=>by obtain⟨j,hj,rfl⟩:=List.getElem_of_mem hk;exact .of (hw j hj) hV hN) hB (by omega)) rfl
 | ite _ i n r u a b c ns _ ha hb hc =>
  have e1:qB p 0 ev (.mk i 5 n r u [a,b,c] ns) V s=qG ev (.mk i 5 n r u [a,b,c] ns) V s:=by simp[qB]
  rw[e1];exact zXI h rfl rfl ha hb hc hV hN hB.bn (by omega)
 | lets _ i n r u a b ns v _ hfr ha hb =>
  have e1:qB p 0 ev (.mk i 6 n r u [a,b] ns) V s=qG ev (.mk i 6 n r u [a,b] ns) V s:=by simp[qB]
  rw[e1];exact zYm h rfl rfl hfr ha hb hV hN hB.bn hVl hm0
 | field _ i r u a ns d j hd hk hj ha =>
  have e1:qB p 0 ev (.mk i 8 j r u [a] ns) V s=qG ev (.mk i 8 j r u [a] ns) V s:=by simp[qB]
  rw[e1];exact zSe h rfl rfl rfl hd hk hj ha hV hN hB.bn (by omega)
 | mtch _ i n r u a ks ns d _ hfr hd hk hl ha hw =>
  have e1:qB p 0 ev (.mk i 10 n r u (a::ks) ns) V s=qG ev (.mk i 10 n r u (a::ks) ns) V s:=by simp[qB]
  rw[e1];exact zSA h rfl rfl hfr hd hk hl (by have:=(hsl d (zAz hd).1).1; omega) ha hw hV hN hB.bn hVl hm0
 | fold _ i n r u l s' b ns v _ hfr hl' hs' hb =>
  have e1:qB p 0 ev (.mk i 12 n r u [l,s',b] ns) V s=qG ev (.mk i 12 n r u [l,s',b] ns) V s:=by simp[qB]
  rw[e1];exact zUa h rfl rfl hfr hl' hs' hb hV hN hB.bn hVl hm0
def zXQ:K:=G [kO 4 1,kZ 6 [ki,ki,kl]] (Z (G [M 8 0,kU 9 8,D 10 9 3,L 11 10 1,kQi 12 11 0 true] (Y 12 (G [kb 13 [ki,ki,kl] [],S 6 13 3] kr) ks)) (Z (G [M 14 0,kU 15 14,D 16 15 2,L 17 16 1,kBi 18 17 0 .leq] (Y 18 (G [M 19 0,kU 20 19,D 21 20 3,⟨none,.st none (kt 21) (kc 18) 1⟩] (G [kb 22 [ki,ki,kl] [],S 6 22 3] kr)) ks)) (G [M 23 0,M 24 0,kU 25 24,D 26 25 2,L 27 26 1,kBi 28 27 1 .sub,kU 29 23,D 30 29 2,S 30 28 1] (Z (K.dops [(0,0,M 31 0),(1,0,M 32 0),(2,0,kU 33 32),(3,0,D 34 33 4),(4,0,D 35 34 1),(5,0,L 36 35 1),(6,0,D 37 4 0),(7,0,J 38 37 3),(8,0,kC 39 61 [(kt 36),(kt 38)]),(9,0,kU 40 31),(10,0,D 41 40 4),(11,0,D 42 41 1),(12,0,S 42 39 1)]) (G [M 43 0,J 44 4 15,M 45 2,kC 46 138 [(kt 43),(kt 44),(kt 45)],kZ 7 [ki,ki,kl],S 7 46 3] (Z (G [M 47 0,kU 48 47,D 49 48 3,L 50 49 1,kQi 51 50 0 false,M 52 51,T 52 true (J 53 7 3),T 52 true (kC 54 121 [(kt 53)]),T 52 true (kBi 55 54 256 .gtr),T 52 true (M 56 55),T 56 false (J 57 7 3),T 56 false (kC 58 122 [(kt 57)]),T 56 false (kBi 59 58 24 .gtr),T 52 true (kPt 60 56 59),kPf 61 52 60] (Y 61 (K.ops [M 62 0,kU 63 62,D 64 63 3,⟨none,.st none (kt 64) (kc 4) 1⟩]) ks)) (G [J 65 7 3,S 6 65 3] kr)))))))
theorem qAB:zN Tryz.prog Tryz.f102.ntmps (Tryz.f102.body.getD .skip)=some zXQ.erase:=by kernel_rfl
@[simp] theorem qL3:zC Tryz.prog 102=true:=by kernel_rfl
theorem zLW (hf:s.fail≠0):XOk p (vz,s) e V s:=by have hP:=eP p;refine zK Tryz.func102 rfl qAB (rs:=[.cell 6 3 true]) (by kernel_rfl) ?_;unfold zXQ;simp[xS,hP,zH,hf];exact zF [0] 0 (by decide) (by simp) (by simp) (by simp[zI,zU,zO,zG])
theorem zLw (hf:s.fail=0)(hu:s.fuel≤0):XOk p (vz,{s with fail:=zKw}) e V s:=by have hP:=eP p;refine zK Tryz.func102 rfl qAB (rs:=[.cell 6 3 true]) (by kernel_rfl) ?_;unfold zXQ;simp[xS,hP,zH,hf,hu];exact zF [0] 0 (by decide) (by simp) (by simp) (by simp[zI,zU,zO,zG])
set_option maxHeartbeats 1000000 in
theorem zUW {r:Val×XS}(hc:c≤100000)(hf:s.fail=0)(hu:¬s.fuel≤0)(hB:Bn c m s)(hv:XVa p e V (zEg e s) r):XOk p (zCO 0 r) e V s:=by
 have hP:=eP p;have b1:=hB.ns;have b2:=hB.ds;have b3:=hB.fu;have hl1:=zOA s.ns;have hins:=zIo (zBj s.ns) e.id (by omega);rw[←zLC]at hins;have hw:IntKind.i64.wrap (s.fuel-1)=s.fuel-1:=IntWalk.i64_in _ (by omega);have ht:zEg e s=⟨s.fuel-1,s.fail,s.ds,s.ns++[e.id]⟩:=rfl;rw[ht,hf]at hv;refine zK Tryz.func102 rfl qAB (rs:=[.cell 6 3 true]) (by kernel_rfl) ?_;unfold zXQ;simp[xS,hP,zH,hf,hu,hw];refine qI hins (by simp[qL]) (by simp) ?_;simp;refine zM hv [0] (by decide) (by simp[xS,hP]) (by simp[zH]) ?_;simp[xS,hP,zI];by_cases h0:r.2.fail=0
 ·simp[h0];refine zR (zDr r.1) (by simp[zI]) (by simp) ?_;by_cases h1:256<zDe r.1
  ·have hl:zB4 r={r.2 with fail:=zAC}:=by unfold zB4; rw[if_pos ⟨h0,.inl h1⟩]
   have he:zCO 0 r=(r.1,{r.2 with fail:=zAC}):=by simp[zCO,hl,zf,zAC]
   rw[he];simp[h1];exact zF [0] 0 (by decide) (by simp) (by simp[zAC]) (by simp[zI,zU,zO,zG])
  ·simp[h1];refine zR (zCR r.1) (by simp[zI]) (by simp) ?_;by_cases h2:24<zBO r.1
   ·have hl:zB4 r={r.2 with fail:=zAC}:=by unfold zB4; rw[if_pos ⟨h0,.inr h2⟩]
    have he:zCO 0 r=(r.1,{r.2 with fail:=zAC}):=by simp[zCO,hl,zf,zAC]
    rw[he];simp[h2];exact zF [0] 0 (by decide) (by simp) (by simp[zAC]) (by simp[zI,zU,zO,zG])
   ·have hl:zB4 r=r.2:=by unfold zB4; rw[if_neg fun h=>h.2.elim h1 h2]
    have he:zCO 0 r=(r.1,r.2):=by simp[zCO,hl,zf,h0]
    rw[he];simp[h2,h0];exact zF [0] 0 (by decide) (by simp) (by simp[h0]) (by simp[zI])
 ·have hl:zB4 r=r.2:=by unfold zB4; rw[if_neg fun h=>h0 h.1]
  have he:zCO 0 r=(r.1,r.2):=by simp[zCO,hl,zf,h0]
  rw[he];simp[h0];exact zF [0] 0 (by decide) (by simp) (by simp) (by simp[zI,zU,zO,zG])
theorem qIi (hp:zMS p)(hsl:zPX p)(hL:p.defs.length≤1000000)(hc:c≤40000){N:Int}(hN6:N≤40000):∀n:Nat,(0<n→(n:Int)≤N)→XIh p c n (zAq p 0 n)
 | 0,_=>⟨zBk p 0 0,zDv hp 0 0,zDz 0 0,fun e V s hA hB hVl=>by
  rw[zAq];have hu:=hB.fu;split
  ·rename_i hf; exact zLW hf
  ·rename_i hf; exact zLw (by omega) (by omega)⟩
 | n+1,hn=>⟨zBk p 0 (n+1),zDv hp 0 (n+1),zDz 0 (n+1),fun e V s hA hB hVl=>by
  have hn:=hn (by omega);rw[zAq];split
  ·rename_i hf; exact zLW hf
  ·rename_i hf;have hf:s.fail=0:=by omega
   split
   ·rename_i hu; exact zLw hf hu
   ·rename_i hu;obtain⟨B,t,he,hV,hN⟩:=hA hf;have ht:=hB.tick e hu;have:((n+1:Nat):Int)-1=n:=by omega
    rw[this]at ht;exact zUW (by omega) hf hu hB (zRO hp hsl hL (qIi hp hsl hL hc hN6 n (fun _=>by omega)) (by omega) (by omega) he hV hN ht (by omega) (by omega))⟩
end
end Go.Proofs.YthglhccibdlccaaGreatDoor
