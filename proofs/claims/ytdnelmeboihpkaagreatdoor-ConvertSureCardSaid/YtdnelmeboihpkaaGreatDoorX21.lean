/-
  The second generator's programs, walked: a converter's body.
  The reference's maker of paths.
  domain.measure: how many values a type has.
  The second generator's programs, walked.
-/
import Derived.Test.YtdnelmeboihpkaaGreatDoorX20
import Derived.Test.YtdnelmeboihpkaaGreatDoorX19
import Derived.Test.YtdnelmeboihpkaaGreatDoorX14
import Derived.Test.YtdnelmeboihpkaaGreatDoorX15
set_option linter.unusedVariables false
set_option maxHeartbeats 8000000
set_option maxRecDepth 100000
set_option linter.unusedSimpArgs false
open Go.Proofs.Tryz (prog)
namespace Go.Proofs.YtdnelmeboihpkaaGreatDoor
open Go.Abs
def zQx:K:=(K.ops [D 198 4 1,L 199 198 1,J 200 15 31,kd 201 41 31 1 kz0 [(0,31,(kt 200))],kP 202 41 31 352 199 201,D 203 4 1,S 203 202 1])
def zQw:K:=(Z (K.dops [(0,0,M 147 3),(1,0,D 148 4 1),(2,0,L 149 148 1),(3,0,M 150 13),(4,0,kX 151 149 150 31),(5,0,J 152 151 31),(6,0,D 153 4 1),(7,0,L 154 153 1),(8,0,M 155 12),(9,0,kX 156 154 155 31),(10,0,J 157 156 31),(11,0,D 158 14 0),(12,0,J 159 158 3),(13,4,kC 160 67 [(kt 147),(kt 152),(kt 157),(kt 159)]),(14,2,D 161 15 14),(15,0,S 161 160 15)]) (G [M 162 3,kC 163 65 [(kt 162),(kc 5)],kQi 164 163 1 false] (Y 164 (Z (K.wk (K.dops [(0,0,M 165 3),(1,0,kb 166 kz2 [(0,1,(kc 1))]),(2,0,D 167 4 1),(3,0,L 168 167 1),(4,0,M 169 12),(5,0,kX 170 168 169 31),(6,0,J 171 170 31),(7,0,D 172 14 0),(8,0,J 173 172 3),(9,11,kC 174 68 [(kt 165),(kt 166),(kt 171),(kt 173),(kc 1)]),(10,307,⟨none,.alr (some 16) 7 kz1⟩),(11,0,S 16 174 15)])) (Z (K.wk (K.dops [(0,0,M 175 3),(1,0,D 176 4 1),(2,0,L 177 176 1),(3,0,M 178 13),(4,0,kX 179 177 178 31),(5,0,J 180 179 31),(6,0,D 181 4 1),(7,0,L 182 181 1),(8,0,M 183 12),(9,0,kX 184 182 183 31),(10,0,J 185 184 31),(11,0,D 186 14 0),(12,0,J 187 186 3),(13,11,kC 188 67 [(kt 175),(kt 180),(kt 185),(kt 187)]),(14,308,⟨none,.alr (some 17) 8 kz1⟩),(15,0,S 17 188 15)])) (K.ops [M 189 3,kb 190 [ki,ki,ki] [],J 191 16 15,D 192 15 14,J 193 192 15,J 194 17 15,kd 195 39 15 3 kz4 [(0,15,(kt 191)),(15,15,(kt 193)),(30,15,(kt 194))],kC 196 66 [(kt 189),(kc 5),(kc 0),(kt 190),(kt 195)],D 197 15 14,S 197 196 15]))) ks)))
def zQv:K:=(Z (G [M 134 12,M 135 13,kQ 136 134 135 false,M 137 136,T 137 true (M 138 3),T 137 true (kC 139 65 [(kt 138),(kc 2)]),T 137 true (kQi 140 139 1 false),kPf 141 137 140] (Y 141 (K.ops [M 142 3,D 143 14 0,J 144 143 3,kC 145 66 [(kt 142),(kc 2),(kc 0),(kt 144),(.const kl)],D 146 15 14,S 146 145 15]) (K.wk zQw))) (K.wk zQx))
def zNk:K:=(Z (K.wk (K.dops [(0,0,M 105 11),(1,0,⟨none,.bin (some 106) .add (kc 30) (kt 105)⟩),(2,1,kC 107 64 [(kt 106)]),(3,0,D 108 4 1),(4,0,L 109 108 1),(5,0,M 110 12),(6,0,kX 111 109 110 31),(7,0,D 112 111 0),(8,0,J 113 112 3),(9,1,kC 114 62 [(kt 113)]),(10,0,⟨none,.build (some 115) kz5 [(0,3,(kt 107)),(3,1,(.const (.string ⟨#[111,108,100]⟩))),(4,5,(kt 114))]⟩),(11,305,⟨none,.alr (some 14) 5 kz5⟩),(12,0,S 14 115 11)])) (Z (K.wk (K.dops [(0,0,M 116 11),(1,0,⟨none,.bin (some 117) .add (kc 6) (kt 116)⟩),(2,1,kC 118 64 [(kt 117)]),(3,1,kC 119 64 [(kc 0)]),(4,0,⟨none,.bslice (some 120) 9 1 7 [(.string ⟨#[]⟩),(.string ⟨#[]⟩),(.string ⟨#[]⟩),(.string ⟨#[]⟩),(.string ⟨#[]⟩),(.string ⟨#[]⟩),(.string ⟨#[]⟩)] [(0,1,(.const (.string ⟨#[99,48]⟩))),(1,1,(.const (.string ⟨#[99,49]⟩))),(2,1,(.const (.string ⟨#[99,50]⟩))),(3,1,(.const (.string ⟨#[99,51]⟩))),(4,1,(.const (.string ⟨#[99,52]⟩))),(5,1,(.const (.string ⟨#[99,53]⟩))),(6,1,(.const (.string ⟨#[99,54]⟩)))]⟩),(5,0,M 121 11),(6,0,kX 122 120 121 1),(7,0,L 123 122 1),(8,0,J 124 14 11),(9,0,kd 125 85 11 1 kz5 [(0,11,(kt 124))]),(10,0,D 126 4 1),(11,0,L 127 126 1),(12,0,M 128 13),(13,0,kX 129 127 128 31),(14,0,D 130 129 0),(15,0,J 131 130 3),(16,1,kC 132 62 [(kt 131)]),(17,0,kb 133 kz0 [(0,3,(kt 118)),(3,1,(kc 5)),(4,3,(kt 119)),(7,1,(kt 123)),(8,1,(kt 125)),(9,5,(kt 132))]),(18,306,⟨none,.alr (some 15) 6 kz0⟩),(19,0,S 15 133 31)])) (K.wk zQv)))
def zQu:K:=(Z (G [kMi 18 0] (K.block 6 (K.loop (Z (G [M 204 18,D 205 4 1,L 206 205 1,kN 207 206,kB 208 204 207 .lss] (Y 208 ks (K.exit 6))) (Z (K.block 7 (K.dops [(0,1,D 211 4 0),(1,1,L 212 211 1),(2,0,D 213 4 0),(3,0,L 214 213 1),(4,0,kXi 215 214 6 0),(5,0,D 216 215 5),(6,0,L 217 216 1),(7,0,D 218 4 1),(8,0,L 219 218 1),(9,0,M 220 18),(10,0,kX 221 219 220 31),(11,0,D 222 221 0),(12,0,J 223 222 3),(13,0,kd 224 31 3 1 [ki,ki,ki] [(0,3,(kt 223))]),(14,0,kP 225 31 3 24 217 224),(15,0,kXi 226 212 6 0),(16,0,D 227 226 5),(17,0,S 227 225 1)])) (K.ops [M 209 18,kBi 210 209 1 .add,M 18 210])))))) (G [J 228 4 2,S 2 228 2] kr))
def zQt:K:=(G [M 80 3,kC 81 65 [(kt 80),(kc 8)],M 10 81] (Z (G [kMi 11 0] (K.block 4 (K.loop (Z (G [M 82 11,M 83 10,kB 84 82 83 .lss] (Y 84 ks (K.exit 4))) (Z (K.block 5 (G [M 87 3,M 88 5,kC 89 65 [(kt 87),(kt 88)],M 12 89] (G [M 90 3,M 91 5,kC 92 65 [(kt 90),(kt 91)],M 13 92] (Z (G [M 93 12,M 94 13,kQ 95 93 94 false,M 96 95,T 96 true (M 97 3),T 96 true (kC 98 65 [(kt 97),(kc 3)]),T 96 true (kBi 99 98 0 .gtr),kPf 100 96 99] (Y 100 (K.ops [M 101 12,kBi 102 101 1 .add,M 103 5,kB 104 102 103 .rem,M 13 104]) ks)) (K.wk zNk))))) (K.wk (K.ops [M 85 11,kBi 86 85 1 .add,M 11 86]))))))) (K.wk zQu)))
def zZ7:K:=G [kZ 2 [kl,kl]] (G [M 19 0,kb 20 [kl,ki,ki] [(0,1,(kt 19)),(2,1,(kc 40))],kO 21 20,M 3 21] (G [kC 22 64 [(kc 0)],⟨none,.build (some 23) kz9 [(0,3,(kt 22)),(3,1,(.const (.string ⟨#[99,111,114,101]⟩)))]⟩,⟨none,.brow (some 24) 112 6 1 kz9 [(0,6,(kt 23))]⟩,kb 25 [kl,kl] [(0,1,(kt 24))],kZ 4 [kl,kl],S 4 25 2] (G [M 26 3,kC 27 65 [(kt 26),(kc 3)],⟨none,.bin (some 28) .add (kc 2) (kt 27)⟩,M 5 28] (Z (G [kMi 6 0] (K.block 0 (K.loop (Z (G [M 29 6,M 30 5,kB 31 29 30 .lss] (Y 31 ks (K.exit 0))) (Z (K.block 1 (Z (K.dops [(0,0,M 34 6),(1,0,⟨none,.bin (some 35) .add (kc 1) (kt 34)⟩),(2,1,kC 36 64 [(kt 35)]),(3,1,kC 37 64 [(kc 0)]),(4,0,⟨none,.bslice (some 38) 9 1 4 [(.string ⟨#[]⟩),(.string ⟨#[]⟩),(.string ⟨#[]⟩),(.string ⟨#[]⟩)] [(0,1,(.const (.string ⟨#[65]⟩))),(1,1,(.const (.string ⟨#[66]⟩))),(2,1,(.const (.string ⟨#[67]⟩))),(3,1,(.const (.string ⟨#[68]⟩)))]⟩),(5,0,M 39 6),(6,1,kX 40 38 39 1),(7,1,L 41 40 1),(8,0,kb 42 kz0 [(0,3,(kt 36)),(3,1,(kc 0)),(4,3,(kt 37)),(7,1,(kt 41))]),(9,0,kZ 7 kz0),(10,0,S 7 42 31)]) (G [M 43 3,kC 44 65 [(kt 43),(kc 2)],⟨none,.bin (some 45) .add (kc 1) (kt 44)⟩,M 8 45] (Z (G [kMi 9 0] (K.block 2 (K.loop (Z (G [M 46 9,M 47 8,kB 48 46 47 .lss] (Y 48 ks (K.exit 2))) (Z (K.block 3 (K.dops [(0,2,D 51 7 8),(1,2002,L 52 51 1),(2,0,M 53 6),(3,0,⟨none,.bin (some 54) .mul (kc 2) (kt 53)⟩),(4,0,⟨none,.bin (some 55) .add (kc 20) (kt 54)⟩),(5,0,
 M 56 9),(6,0,kB 57 55 56 .add),(7,0,kC 58 64 [(kt 57)]),(8,0,⟨none,.bslice (some 59) 9 1 2 [(.string ⟨#[]⟩),(.string ⟨#[]⟩)] [(0,1,(.const (.string ⟨#[120]⟩))),(1,1,(.const (.string ⟨#[121]⟩)))]⟩),(9,0,M 60 9),(10,2,kX 61 59 60 1),(11,2,L 62 61 1),(12,0,M 63 9),(13,0,kd 64 3 1 3 [ki,ki,ki] [(0,1,(kc 0)),(1,1,(kc 1)),(2,1,(kc 0))]),(14,0,M 65 3),(15,1002,kC 66 65 [(kt 65),(kc 3)]),(16,0,kX 67 64 66 1),(17,0,L 68 67 1),(18,0,kb 69 kz2 [(0,1,(kt 68))]),(19,0,kb 70 kz5 [(0,3,(kt 58)),(3,1,(kt 62)),(10,1,(kt 63)),(4,5,(kt 69))]),(20,0,kd 71 85 11 1 kz5 [(0,11,(kt 70))]),(21,0,kP 72 85 11 112 52 71),(22,2,D 73 7 8),(23,0,S 73 72 1)])) (K.ops [M 49 9,kBi 50 49 1 .add,M 9 50])))))) (K.wk (K.ops [D 74 4 1,L 75 74 1,J 76 7 31,kd 77 41 31 1 kz0 [(0,31,(kt 76))],kP 78 41 31 352 75 77,D 79 4 1,S 79 78 1])))))) (K.ops [M 32 6,kBi 33 32 1 .add,M 6 33])))))) (K.wk zQt)))))
def qIi:Nat→Option (List (Nat×Nat)):=fun r=>match r with | 12=>some [(0,2),(1,2002),(2,0),(3,0),(4,0),(5,0),(6,0),(7,0),(8,0),(9,0),(10,2),(11,2),(12,0),(13,0),(14,0),(15,1002),(16,0),(17,0),(18,0),(19,0),(20,0),(21,0),(22,2),(23,0)] | 22=>some [(0,0),(1,0),(2,1),(3,0),(4,0),(5,0),(6,0),(7,0),(8,0),(9,1),(10,0),(11,305),(12,0)] | 23=>some [(0,0),(1,0),(2,1),(3,1),(4,0),(5,0),(6,0),(7,0),(8,0),(9,0),(10,0),(11,0),(12,0),(13,0),(14,0),(15,0),(16,1),(17,0),(18,306),(19,0)] | 26=>some [(0,0),(1,0),(2,0),(3,0),(4,0),(5,0),(6,0),(7,0),(8,0),(9,0),(10,0),(11,0),(12,0),(13,4),(14,2),(15,0)] | 28=>some [(0,0),(1,0),(2,0),(3,0),(4,0),(5,0),(6,0),(7,0),(8,0),(9,11),(10,307),(11,0)] | 29=>some [(0,0),(1,0),(2,0),(3,0),(4,0),(5,0),(6,0),(7,0),(8,0),(9,0),(10,0),(11,0),(12,0),(13,11),(14,308),(15,0)] | _=>none
theorem qHf:qF prog Tryz.f28.ntmps qIi (Tryz.f28.body.getD .skip)=some zZ7.erase:=by kernel_rfl
@[simp] theorem qKC:zA prog 28=true:=by kernel_rfl
section
variable {l:List Int}
def zCV:List A:=[int (idR 0).a,int (idR 0).b,int (idR 0).c,.lit (.string ⟨#[99,111,114,101]⟩),.nil,.nil]
def stG (l:List Int)(m:Gm)(Ds:List Dfn):St :=
 [.box [.nil,.nil],.box (gB l m),.row false 112 6 1 zCV,.box [.row 2 1,.row 4 Ds.length],.row false 41 31 Ds.length (qM Ds)]
theorem zMu (a b:Dfn)(s:Id)(m:Gm)(h:b.slots.length≤6):Gst m (zBH l a b s m).2 400:=by
 unfold zBH;have h1:=zJS (l:=l) b a s m h;split
 ·have h2:=zBK l a s 1 1 (zET l b a s m).2.tick;have h3:=zJS (l:=l) b a s (zA8 l a s 1 1 (zET l b a s m).2.tick).2 h;exact((((h1.trans (zY _) (jAd _)).trans h2 (jAd _)).trans h3 (jAd _)).trans (zBJ _ _ _ _ _) (by simp[gC]))
 ·exact h1.trans (zY _) (by omega)
def zB9 (l:List Int)(x y:Nat)(A B:Dfn)(s:Id)(m:Gm):Exp×Gm:=if x=y then (if gN l m 2=1 then yK m.tick 2 0 s [] else zBH l A B s m.tick) else zBH l A B s m
theorem zQT (x y:Nat)(a b:Dfn)(s:Id)(m:Gm)(h:b.slots.length≤6):Gst m (zB9 l x y a b s m).2 401:=by
 unfold zB9;split
 ·split
  ·exact(zY m).trans (zBJ _ _ _ _ _) (by omega)
  ·exact(zY m).trans (zMu a b s _ h) (by omega)
 ·exact(zMu a b s _ h).mono (by omega)
theorem zSo {Ds:List Dfn}{k:Nat}(h:k<Ds.length):∃a:List A,zH Ds[k]=a∧(∀rf g,vwL rf g a=a)∧qU a=a∧(∀n,zAZ n a=true)∧(qM Ds).drop (k*31)=a++qM (Ds.drop (k+1))∧(∀R:List A,List.take 31 (a++R)=a)∧k*31+31≤Ds.length*31 :=
 ⟨_,rfl,fun rf g=>(zAt _).2 _ _,(zAt _).1,fun n=>(zAt _).bnd n,zAI h,fun R=>List.take_left' (zVC _),by omega⟩
theorem zWC (hl:∀x∈l,w64 x=x)(Q:Ex→Env→St→Prop)(m:Gm)(hok:m.Ok 450)(Ds:List Dfn)(x y i:Nat)(hx:x<Ds.length)(hy:y<Ds.length)(hD:Ds.length≤100)(many cv:Int)(u:Slt)(d:Dfn)(hd:d.body=Exp.zero)
 (h1:Ds[x].slots.length≤6)(h2:Ds[y].slots.length≤6)(hf:∀u∈Ds[y].slots,u.typ=tK u.typ.k∧(u.typ.k=0∨u.typ.k=1))
 (hQ:∀env' σ',zA0 0 (qC [(2,.ptr 0 0),(3,.ptr 1 0),(4,.ptr 3 0),(5,int many),(10,int cv),(11,int i),(15,.ptr 6 0)]) (stG l (zBH l Ds[x] Ds[y] u.id m).2 Ds++[.box (yJ u),.box (zH {d with body:=(zBH l Ds[x] Ds[y] u.id m).1})]) env' σ'→Q .norm env' σ') :
 wpK prog 0 zQw Q (qC [(2,.ptr 0 0),(3,.ptr 1 0),(4,.ptr 3 0),(5,int many),(10,int cv),(11,int i),(12,int x),(13,int y),(14,.ptr 5 0),(15,.ptr 6 0)])
  (stG l m Ds++[.box (yJ u),.box (zH d)]):=by
 obtain⟨r,hr⟩:∃r,r=zET l Ds[y] Ds[x] u.id m:=⟨_,rfl⟩;have g1:=zMm hl Ds[y] Ds[x] u.id h2 h1 hf m (hok.mono (by omega));have s1:=zJS (l:=l) Ds[y] Ds[x] u.id m h2;rw[←hr]at g1 s1;have n1:=zBs (l:=l) r.2 5 (by omega) (hok.adv s1 (by omega));obtain⟨ax,eax,vx,nx,bx,dx,tx,lx⟩:=zSo hx;obtain⟨ay,eay,vy,ny,by_,dy,ty,ly⟩:=zSo hy;rw[eax,eay]at g1;have hne:Ds≠[]:=fun e=>by rw[e]at hx; simp at hx
 unfold zQw;simp -implicitDefEqProofs [stG,gB,yJ,dx,dy,tx,ty,lx,ly,hx,hy,hne];refine zAK g1 [1] (by decide) (by simp[gS,gB]) (by simp[vx,vy,zF]) ?_;simp -implicitDefEqProofs [gS,gB,zH];refine jN n1 [1] (by decide) (by simp[gS,gB]) (by simp) ?_;have hrec:∀q:Exp×Gm,zBH l Ds[x] Ds[y] u.id m=q→∀E S,zA0 0 (qC [(2,.ptr 0 0),(3,.ptr 1 0),(4,.ptr 3 0),(5,int many),(10,int cv),(11,int i),(15,.ptr 6 0)]) (stG l q.2 Ds++[.box (yJ u),.box (zH {d with body:=q.1})]) E S→Q .norm E S:=fun q hq E S hw=>hQ E S (by rw[hq]; exact hw)
 by_cases h5:gN l r.2 5=1
 ·have st1:Gst m r.2.tick 171:=s1.trans (zY _) (by omega);obtain⟨c,hc⟩:∃c,c=zA8 l Ds[x] u.id 1 1 r.2.tick:=⟨_,rfl⟩;have c1:=zIb hl Ds[x] u.id h1 1 (by omega) r.2.tick 1 (.inr rfl) (hok.adv st1 (by simp[gC]));have s2:=zBK l Ds[x] u.id 1 1 r.2.tick;rw[←hc]at c1 s2;have st2:Gst m c.2 182:=st1.trans s2 (by simp[gC]);obtain⟨r2,hr2⟩:∃r2,r2=zET l Ds[y] Ds[x] u.id c.2:=⟨_,rfl⟩;have g2:=zMm hl Ds[y] Ds[x] u.id h2 h1 hf c.2 (hok.adv st2 (by omega));have s3:=zJS (l:=l) Ds[y] Ds[x] u.id c.2 h2;rw[←hr2]at g2 s3;have n2:=zAM (l:=l) r2.2 5 0 Id.zero [c.1,r.1,r2.1] (hok.adv (st2.trans s3 (jAd _)) (by omega));rw[eax,eay]at g2;rw[eax]at c1;have hq:zBH l Ds[x] Ds[y] u.id m=yK r2.2 5 0 Id.zero [c.1,r.1,r2.1]:=by simp only[zBH,←hr,if_pos h5,←hc,←hr2]
  simp -implicitDefEqProofs [gS,gB,h5];refine⟨_,_,zAf 1,?_⟩;simp -implicitDefEqProofs [List.replicate,dx,dy,tx,ty,lx,ly,hx,hy,hne];refine zSm c1 [1] (by decide) (by simp[gS]) (by simp[gS]) (by simp[gS,gB]) (by simp[vx,zF,zS,tK,yZ,Typ.k,Typ.id,Typ.kids]) (by simp[gS]) ?_;simp -implicitDefEqProofs [gS,gB];refine⟨_,_,zAf 1,?_⟩;simp -implicitDefEqProofs [List.replicate,dx,dy,tx,ty,lx,ly,hx,hy,hne];refine zSm g2 [1] (by decide) (by simp[gS]) (by simp[gS]) (by simp[gS,gB]) (by simp[vx,vy,zF]) (by simp[gS]) ?_;simp -implicitDefEqProofs [gS,gB,zR];refine jN n2 [1] (by decide) (by simp[gS,gB]) (by simp[zF,Id.zero,qA,zR]) ?_;simp -implicitDefEqProofs [gS,gB,zR];exact hrec _ hq _ _ (zP [0,1,2,3,4,5,6] 0 (by decide) (by simp) (by simp[stG,gB,zCV,yJ,zH,zR]) (by simp))
 ·have hq:zBH l Ds[x] Ds[y] u.id m=(r.1,r.2.tick):=by simp only[zBH,←hr,if_neg h5]
  simp -implicitDefEqProofs [gS,gB,h5];exact hrec _ hq _ _ (zP [0,1,2,3,4,5,6] 0 (by decide) (by simp) (by simp[stG,gB,zCV,yJ,zH,zR]) (by simp))
theorem zR2 (Q:Ex→Env→St→Prop)(m:Gm)(Ds:List Dfn)(i:Nat)(hD:Ds.length≤100)(many cv:Int)(u:Slt)(d:Dfn)
 (hQ:∀env' σ',zA0 0 (qC [(2,.ptr 0 0),(3,.ptr 1 0),(4,.ptr 3 0),(5,int many),(10,int cv),(11,int i)]) (stG l m (Ds++[d])) env' σ'→Q .norm env' σ') :
 wpK prog 0 zQx Q (qC [(2,.ptr 0 0),(3,.ptr 1 0),(4,.ptr 3 0),(5,int many),(10,int cv),(11,int i),(15,.ptr 6 0)]) (stG l m Ds++[.box (yJ u),.box (zH d)]):=by
 unfold zQx;simp -implicitDefEqProofs [stG,gB,zH];refine⟨⟨by simp[maxLen]; omega,by omega⟩,?_⟩;exact hQ _ _ (zP [0,1,2,3,4] 0 (by decide) (by simp) (by simp[stG,gB,zCV,zGG,zJg,zH]) (by simp))
theorem qCN (hl:∀x∈l,w64 x=x)(Q:Ex→Env→St→Prop)(m:Gm)(hok:m.Ok 500)(Ds:List Dfn)(x y i:Nat)(hx:x<Ds.length)(hy:y<Ds.length)(hD:Ds.length≤100)(many cv:Int)(u:Slt)(d:Dfn)(hd:d.body=Exp.zero)
 (h1:Ds[x].slots.length≤6)(h2:Ds[y].slots.length≤6)(hf:∀u∈Ds[y].slots,u.typ=tK u.typ.k∧(u.typ.k=0∨u.typ.k=1))
 (hQ:∀env' σ',zA0 0 (qC [(2,.ptr 0 0),(3,.ptr 1 0),(4,.ptr 3 0),(5,int many),(10,int cv),(11,int i)]) (stG l (zB9 l x y Ds[x] Ds[y] u.id m).2 (Ds++[{d with body:=(zB9 l x y Ds[x] Ds[y] u.id m).1}])) env' σ'→Q .norm env' σ') :
 wpK prog 0 zQv Q (qC [(2,.ptr 0 0),(3,.ptr 1 0),(4,.ptr 3 0),(5,int many),(10,int cv),(11,int i),(12,int x),(13,int y),(14,.ptr 5 0),(15,.ptr 6 0)])
  (stG l m Ds++[.box (yJ u),.box (zH d)]):=by
 have hrec:∀q:Exp×Gm,zB9 l x y Ds[x] Ds[y] u.id m=q→∀E S,zA0 0 (qC [(2,.ptr 0 0),(3,.ptr 1 0),(4,.ptr 3 0),(5,int many),(10,int cv),(11,int i)]) (stG l q.2 (Ds++[{d with body:=q.1}])) E S→Q .norm E S:=fun q hq E S hw=>hQ E S (by rw[hq]; exact hw)
 unfold zQv;by_cases hxy:x=y
 ·have n1:=zBs (l:=l) m 2 (by omega) (hok.mono (by omega));have hxy':(x:Int)=y:=by omega
  simp -implicitDefEqProofs [stG,gB,hxy'];refine jN n1 [1] (by decide) (by simp[gS,gB]) (by simp) ?_;by_cases h2':gN l m 2=1
  ·have hq:zB9 l x y Ds[x] Ds[y] u.id m=yK m.tick 2 0 u.id []:=by simp only[zB9,if_pos hxy,if_pos h2']
   have n2:=zAM (l:=l) m.tick 2 0 u.id [] (hok.adv (zY m) (by omega));simp -implicitDefEqProofs [gS,gB,h2',yJ,zH];refine jN n2 [1] (by decide) (by simp[gS,gB]) (by simp[zF]) ?_;simp -implicitDefEqProofs [gS,gB,zR];refine⟨_,_,zP [0,1,2,3,4,5,6] 0 (by decide) (by simp) ?_ (by simp),zR2 Q _ Ds i hD many cv u _ (hrec _ hq)⟩;simp[stG,gB,zCV,yJ,zH,zR]
  ·have hq:zB9 l x y Ds[x] Ds[y] u.id m=zBH l Ds[x] Ds[y] u.id m.tick:=by simp only[zB9,if_pos hxy,if_neg h2']
   simp -implicitDefEqProofs [gS,gB,h2'];refine⟨_,_,zP [0,1,2,3,4,5,6] 0 (by decide) (by simp) ?_ ?_,zWC hl _ m.tick (hok.adv (zY m) (by omega)) Ds x y i hx hy hD many cv u d hd h1 h2 hf ?_⟩
   ·simp[stG,gB,zCV,yJ]
   ·simp[hxy']
   ·intro E S hw;simp -implicitDefEqProofs;exact⟨_,_,hw,zR2 Q _ Ds i hD many cv u _ (hrec _ hq)⟩
 ·have hxy':¬(x:Int)=y:=by omega
  have hq:zB9 l x y Ds[x] Ds[y] u.id m=zBH l Ds[x] Ds[y] u.id m:=by simp only[zB9,if_neg hxy]
  simp -implicitDefEqProofs [stG,gB,hxy'];refine⟨_,_,zP [0,1,2,3,4,5,6] 0 (by decide) (by simp) ?_ ?_,zWC hl _ m (hok.mono (by omega)) Ds x y i hx hy hD many cv u d hd h1 h2 hf ?_⟩
  ·simp[stG,gB,zCV,yJ]
  ·simp
  ·intro E S hw;simp -implicitDefEqProofs;exact⟨_,_,hw,zR2 Q _ Ds i hD many cv u _ (hrec _ hq)⟩
theorem qHj {i:Nat}(h:i<7):∃R,List.drop i [A.lit (.string ⟨#[99,48]⟩),.lit (.string ⟨#[99,49]⟩),.lit (.string ⟨#[99,50]⟩),.lit (.string ⟨#[99,51]⟩),.lit (.string ⟨#[99,52]⟩),.lit (.string ⟨#[99,53]⟩),.lit (.string ⟨#[99,54]⟩)]=.lit (.string (cT.getD i ⟨#[]⟩))::R:=by
 have:i=0∨i=1∨i=2∨i=3∨i=4∨i=5∨i=6:=by omega
 rcases this with rfl | rfl | rfl | rfl | rfl | rfl | rfl<;>exact⟨_,rfl⟩
def zQV (i:Nat)(a:Id):Slt:=⟨idR ((30+i:Nat):Int),⟨#[111,108,100]⟩,jZ a,0,0⟩
def zQU (i:Nat)(a b:Id):Dfn:=⟨idR ((6+i:Nat):Int),5,idR 0,cT.getD i ⟨#[]⟩,[zQV i a],jZ b,.zero,0,[]⟩
theorem qCM (hl:∀x∈l,w64 x=x)(Q:Ex→Env→St→Prop)(m:Gm)(hok:m.Ok 500)(Ds:List Dfn)(x y i:Nat)(hx:x<Ds.length)(hy:y<Ds.length)(hD:Ds.length≤100)(hi:i<7)(many cv:Int)
 (h1:Ds[x].slots.length≤6)(h2:Ds[y].slots.length≤6)(hf:∀u∈Ds[y].slots,u.typ=tK u.typ.k∧(u.typ.k=0∨u.typ.k=1))
 (hQ:∀env' σ',zA0 0 (qC [(2,.ptr 0 0),(3,.ptr 1 0),(4,.ptr 3 0),(5,int many),(10,int cv),(11,int i)]) (stG l (zB9 l x y Ds[x] Ds[y] (idR ((30+i:Nat):Int)) m).2 (Ds++[{zQU i Ds[x].id Ds[y].id with body:=(zB9 l x y Ds[x] Ds[y] (idR ((30+i:Nat):Int)) m).1}])) env' σ'→Q .norm env' σ') :
 wpK prog 0 zNk Q (qC [(2,.ptr 0 0),(3,.ptr 1 0),(4,.ptr 3 0),(5,int many),(10,int cv),(11,int i),(12,int x),(13,int y)]) (stG l m Ds):=by
 have w30:=jT (30+(i:Int)) (by omega);have w6:=jT (6+(i:Int)) (by omega);have i1:=zFS (30+(i:Int));have i2:=zFS (6+(i:Int));have i3:=zFS 0;have o1:=qAF Ds[x].id;have o2:=qAF Ds[y].id;have dx:=zAI hx;have dy:=zAI hy;have bx:x*31+3≤Ds.length*31:=by omega
 have by_:y*31+3≤Ds.length*31:=by omega
 have hne:Ds≠[]:=fun e=>by rw[e]at hx; simp at hx
 obtain⟨R,hcT⟩:=qHj hi;unfold zNk;simp -implicitDefEqProofs [stG,gB];refine⟨_,_,zAf 1,?_⟩;simp -implicitDefEqProofs [List.replicate,w30];refine zAo i1 (by simp) (by simp[zF]) ?_;simp -implicitDefEqProofs [hx,hy,hne,dx,dy,bx,by_,zH];refine zAo o1 (by simp[zF]) (by simp[zS]) ?_;simp -implicitDefEqProofs [zS,zF];refine⟨_,_,zAf 1,?_⟩;simp -implicitDefEqProofs [List.replicate,w6];refine zAo i2 (by simp) (by simp[zF]) ?_;refine zAo i3 (by simp) (by simp[zF]) ?_;have hi':(i:Int)<7:=by omega
 simp -implicitDefEqProofs [hi,hi',hcT,hy,hne,dy,by_,zH];refine zAo o2 (by simp[zF]) (by simp[zS]) ?_;simp -implicitDefEqProofs [zS,zF];refine⟨_,_,zP [0,1,2,3,4,5,6] 0 (by decide) (by simp) ?_ (by simp),qCN hl Q m hok Ds x y i hx hy hD many cv (zQV i Ds[x].id) (zQU i Ds[x].id Ds[y].id) rfl h1 h2 hf hQ⟩;simp[stG,gB,zCV,yJ,zH,zQV,zQU,jZ,Typ.k,Typ.id,Typ.kids,Exp.zero,Id.zero,Typ.zero,zDM,zS]
end
@[simp] theorem qKK:zA prog 11=true:=by kernel_rfl
def zWt (p:Prg)(x:Id):Typ×Typ:=(zA1 p x).getD (.zero,.zero)
def qBb:K:=G [kO 5 0,kZ 7 [ki,ki],kMi 8 0] (Z (K.block 0 (G [J 15 2 2,J 16 5 5,kC 17 114 [(kt 15),(kt 16)],kR 18 17,M 14 18] (Y 14 (G [kb 19 [ki,ki] [],S 7 19 2,kMi 8 1] kr) (G [M 21 1,kBi 22 21 24 .gtr,M 20 22] (Y 20 (G [kb 23 [ki,ki] [],S 7 23 2,kMi 8 4] kr) (G [D 25 5 0,L 26 25 1,kQi 27 26 0 false,M 24 27] (Y 24 (G [L 28 3 1,⟨none,.bin (some 29) .mul (kc 2) (kt 28)⟩,kBi 30 29 1 .add,kb 31 [ki,ki] [(0,1,(kt 30)),(1,1,(kc 1))],S 7 31 2,kMi 8 0] kr) (G [D 33 5 0,L 34 33 1,kQi 35 34 1 false,M 32 35] (Y 32 (G [kb 36 [ki,ki] [(0,1,(kc 2)),(1,1,(kc 1))],S 7 36 2,kMi 8 0] kr) ks))))))))) (G [kb 37 [ki,ki] [(0,1,(kc 1)),(1,1,(kc 1))],kZ 9 [ki,ki],S 9 37 2] (Z (G [D 38 5 0,L 39 38 1,kQi 40 39 2 false] (Y 40 (Z (K.dops [(0,1,L 42 4 1),(1,1,D 43 5 4),(2,1,L 44 43 1),(3,1,kXi 45 44 5 0),(4,1,J 46 45 5),(5,0,M 47 1),(6,0,kBi 48 47 1 .add),(7,1,⟨none,.call (some 49) (kt 42) [(kt 46),(kt 48)]⟩),(8,0,M 41 49),(9,0,kE 50 41 0),(10,0,kE 51 41 1),(11,0,kZ 10 [ki,ki]),(12,0,S 10 50 2),(13,0,M 11 51)]) (Z (G [M 52 11,kQi 53 52 0 true] (Y 53 (G [kb 54 [ki,ki] [],M 55 11,S 7 54 2,M 8 55] kr) ks)) (G [kMi 12 1] (G [L 56 3 1,⟨none,.mm (some 57) false [(kt 56),(kc 2)]⟩,kMi 58 0] (K.block 1 (K.loop (G [kB 59 58 57 .lss] (Z (Y 59 ks (K.exit 1)) (Z (K.block 2 (G [M 60 12,D 61 10 0,L 62 61 1,kB 63 60 62 .mul,M 12 63] (G [D 64 9 0,L 65 64 1,M 66 12,kB 67 65 66 .add,D 68 9 0,S 68 67 1] (K.ops [D 69 9 1,L 70 69 1,D 71 10 1,L 72 71 1,kB 73 70 72 .add,D 74 9 1,S 74 73 1])))) (K.ops [kBi 75 58 1 .add,
 M 58 75])))))))))) (G [kMi 13 0] (G [J 77 2 2,J 78 5 5,M 79 1,L 80 4 1,kC 81 117 [(kt 77),(kt 78),(kt 79),(kt 80)],M 76 81,kE 82 76 0,kE 83 76 1,S 9 82 2,M 13 83] (G [M 84 13,kQi 85 84 0 true] (Y 85 (G [kb 86 [ki,ki] [],M 87 13,S 7 86 2,M 8 87] kr) ks)))))) (Z (G [D 88 9 0,L 89 88 1,kBi 90 89 4096 .gtr,M 91 90,T 91 false (D 92 9 1),T 91 false (L 93 92 1),T 91 false (kBi 94 93 256 .gtr),kPt 95 91 94] (Y 95 (G [kb 96 [ki,ki] [],S 7 96 2,kMi 8 4] kr) ks)) (Z (G [D 97 9 0,L 98 97 1,kQi 99 98 0 false] (Y 99 (K.ops [D 100 9 1,⟨none,.st none (kt 100) (kc 0) 1⟩]) ks)) (G [J 101 9 2,S 7 101 2,kMi 8 0] kr))))))
theorem qHg:zO prog Tryz.f116.ntmps (Tryz.f116.body.getD .skip)=some qBb.erase:=by kernel_rfl
@[simp] theorem qNK:zA prog 116=true:=by kernel_rfl
def qGf:K:=G [kO 4 0,kO 5 1,kZ 8 [ki,ki],kMi 9 0] (G [J 22 4 2,D 23 5 1,J 24 23 3,kC 25 96 [(kt 22),(kt 24)],M 21 25,kE 26 21 0,kE 27 21 1,kZ 10 kz0,S 10 26 31,M 11 27] (G [D 28 10 3,L 29 28 1,kQi 30 29 0 false,M 12 30] (G [⟨none,.brow (some 31) 123 2 0 [] []⟩,M 13 31] (Z (G [D 32 10 8,L 33 32 1,kN 34 33,kMi 35 0] (K.block 0 (K.loop (G [kB 36 35 34 .lss] (Z (Y 36 ks (K.exit 0)) (Z (K.block 1 (G [kX 37 33 35 11,J 38 37 11,kZ 15 kz5,S 15 38 11] (G [M 40 3,D 41 15 4,J 42 41 5,M 43 2,kBi 44 43 1 .add,⟨none,.call (some 45) (kt 40) [(kt 42),(kt 44)]⟩,M 39 45,kE 46 39 0,kE 47 39 1,kZ 16 [ki,ki],S 16 46 2,M 17 47] (Z (G [M 48 17,kQi 49 48 0 true] (Y 49 (G [kb 50 [ki,ki] [],M 51 17,S 8 50 2,M 9 51] kr) ks)) (K.ops [M 52 13,J 53 16 2,kd 54 123 2 1 [ki,ki] [(0,2,(kt 53))],kP 55 123 2 16 52 54,M 13 55]))))) (K.ops [kBi 56 35 1 .add,M 35 56]))))))) (G [kb 57 [ki,ki] [(0,1,(kc 0)),(1,1,(kc 1))],kZ 18 [ki,ki],S 18 57 2] (Z (G [M 58 12] (Y 58 (K.ops [D 59 18 0,⟨none,.st none (kt 59) (kc 1) 1⟩]) ks)) (Z (G [M 60 13,kN 61 60,kMi 62 0] (K.block 2 (K.loop (G [kB 63 62 61 .lss] (Z (Y 63 ks (K.exit 2)) (Z (K.block 3 (G [kX 64 60 62 2,J 65 64 2,kZ 20 [ki,ki],S 20 65 2] (Z (G [M 66 12] (Y 66 (G [D 67 18 0,L 68 67 1,D 69 20 0,L 70 69 1,kB 71 68 70 .mul,D 72 18 0,S 72 71 1] (K.ops [D 73 18 1,L 74 73 1,D 75 20 1,L 76 75 1,kB 77 74 76 .add,D 78 18 1,S 78 77 1])) (G [D 79 18 0,L 80 79 1,D 81 20 0,L 82 81 1,kB 83 80 82 .add,D 84 18 0,S 84 83 1] (K.ops [D 85 18 1,L 86 85 1,D 87 20 1,
 L 88 87 1,⟨none,.bin (some 89) .add (kc 1) (kt 88)⟩,⟨none,.mm (some 90) true [(kt 86),(kt 89)]⟩,D 91 18 1,S 91 90 1])))) (G [M 92 12,M 93 92,T 93 true (D 94 18 0),T 93 true (L 95 94 1),T 93 true (kBi 96 95 4096 .gtr),kPf 97 93 96] (Y 97 (G [kb 98 [ki,ki] [],S 8 98 2,kMi 9 4] kr) ks))))) (K.ops [kBi 99 62 1 .add,M 62 99]))))))) (G [J 100 18 2,S 8 100 2,kMi 9 0] kr))))))))
theorem qNe:zO prog Tryz.f117.ntmps (Tryz.f117.body.getD .skip)=some qGf.erase:=by kernel_rfl
@[simp] theorem qOm:zA prog 117=true:=by kernel_rfl
def qGd:K:=G [kO 3 0,kO 4 1,kO 5 2,kZ 6 [ki,ki],kMi 7 0] (G [kZ 8 [.nilFunc]] (G [⟨none,.clo (some 9) 116 [] [(kt 3),(kt 5),(kt 8)]⟩,S 8 9 1] (G [L 10 8 1,J 11 4 5,⟨none,.call (some 12) (kt 10) [(kt 11),(kc 1)]⟩,kE 13 12 0,kE 14 12 1,S 6 13 2,M 7 14] kr)))
theorem qNc:zO prog Tryz.f75.ntmps (Tryz.f75.body.getD .skip)=some qGd.erase:=by kernel_rfl
@[simp] theorem qNJ:zA prog 75=true:=by kernel_rfl
structure Sz where
 a:Int
 b:Int
 e:Int
def zDm:Int→Int→List Sz→Sz
 | a,b,[]=>⟨a,b,0⟩
 | a,b,k::l=>if a*k.a > 4096 then ⟨0,0,4⟩ else zDm (a*k.a) (b+k.b) l
def zC9:Int→Int→List Sz→Sz
 | a,b,[]=>⟨a,b,0⟩
 | a,b,k::l=>zC9 (a+k.a) (max b (1+k.b)) l
def zDf:List Sz→Int
 | []=>0
 | k::l=>if k.e≠0 then k.e else zDf l
def yQ (rec:Bool)(l:List Sz):Sz:=if zDf l≠0 then ⟨0,0,zDf l⟩ else if rec then zDm 1 1 l else zC9 0 1 l
def zBf (m:Int)(k:Sz):Sz:=if k.e≠0 then ⟨0,0,k.e⟩ else if m≤0 then ⟨1,1,0⟩ else if m≤1 then ⟨1+k.a,1+k.b,0⟩ else ⟨1+k.a+k.a*k.a,1+k.b+k.b,0⟩
def zBv (k:Sz):Sz:=if k.e≠0 then ⟨0,0,k.e⟩ else if k.a > 4096∨k.b > 256 then ⟨0,0,4⟩ else ⟨k.a,if k.a=0 then 0 else k.b,0⟩
def jM (p:Prg)(m:Int):Nat→Typ→Sz
 | 0,t=>if validT p t=false then ⟨0,0,1⟩ else ⟨0,0,4⟩
 | n+1,t=>if validT p t=false then ⟨0,0,1⟩ else if t.k=0 then ⟨2*m+1,1,0⟩ else if t.k=1 then ⟨2,1,0⟩ else
  if t.k=2 then zBv (zBf m (jM p m n (t.kids.headD Typ.zero))) else zBv (yQ (decide ((dfn p t.id).kind=0)) ((dfn p t.id).slots.map fun s=>jM p m n s.typ))
def Sz.Ok (k:Sz):Prop:=k.e=0→0≤k.a∧k.a≤4096∧0≤k.b∧k.b≤256
def szR (k:Sz):A:=.tup [.agg [int k.a,int k.b],int k.e]
def zB3 (l:List Sz):List A:=l.flatMap fun k=>[int k.a,int k.b]
@[simp] theorem qBN:zB3 []=[]:=rfl
@[simp] theorem qAh (k:Sz)(l:List Sz):zB3 (k::l)=int k.a::int k.b::zB3 l:=rfl
@[simp] theorem zXt (k l:List Sz):zB3 (k++l)=zB3 k++zB3 l:=by simp[zB3]
@[simp] theorem qBM (l:List Sz):(zB3 l).length=l.length*2:=by
 induction l with
 | nil=>rfl
 | cons k l ih=>simp[ih]; omega
theorem zEO:∀l:List Sz,qE (zB3 l)
 | []=>qE.nil
 | k::l=>by have h:=zEO l;exact⟨by simp[h.1],fun rf g=>by simp[h.2]⟩
@[simp] theorem qAD (l:List Sz):qU (zB3 l)=zB3 l:=(zEO l).1
@[simp] theorem qFv {rf g}(l:List Sz):vwL rf g (zB3 l)=zB3 l:=(zEO l).2 _ _
theorem zFF:∀{l:List Sz} {i:Nat} (h:i<l.length),(zB3 l).drop (i*2)=int l[i].a::int l[i].b::zB3 (l.drop (i+1))
 | k::l,0,_=>by simp
 | k::l,i+1,h=>by
  have:=zFF (l:=l) (i:=i) (by simpa using h);rw[show (i+1)*2=i*2+2 by omega]
  simpa using this
def yA:A:=.clo 116 [] [.ptr 0 0,.ptr 1 0,.ptr 2 0]
def mSt (p:Prg)(m:Int):St:=[.box (zM p),.box [int m],.box [yA]]
theorem zCm:∀{l:List Sz},zDf l=0→∀k∈l,k.e=0
 | [],_,k,hk=>by simp at hk
 | x::l,h,k,hk=>by
  simp only[zDf]at h;split at h
  ·contradiction
  ·rename_i hx;rcases jA6.1 hk with rfl | hk
   ·simpa using hx
   ·exact zCm h k hk
theorem zWT (p:Prg)(m:Int)(id:Id)(k:Int)(kids:List Typ)(d:Int)(hd:0≤d∧d≤24)(D:Dfn)(hD:dfn p id=D)(g:Typ→Sz)(hg:∀s∈D.slots,(g s.typ).Ok∧Ret prog 116 [.agg (zS s.typ),int (d+1),.ptr 0 0,.ptr 1 0,.ptr 2 0] (mSt p m) (szR (g s.typ)) (mSt p m))(hs:D.slots.length≤1000000) :
 Ret prog 117 [.agg (zM p),.agg (zS (.mk k id kids)),int d,yA] (mSt p m) (szR (yQ (decide (D.kind=0)) (D.slots.map fun s=>g s.typ))) (mSt p m):=by
 refine zK Tryz.func117 rfl qNe (rs:=[.cell 8 2 true,.slot 9]) (by kernel_rfl) ?_;unfold qGf;simp -implicitDefEqProofs [zM,zS,mSt,yA];refine qK (zD1 p id) (by simp[zM,zF]) (by simp[zCa]) ?_;rw[dfn]at hD;have hwd:=jT (d+1) (by omega);simp -implicitDefEqProofs [zCa,hD,zH];intro hl;refine jX (S:=Nat) (fun i=>[(2,int d),(3,yA),(4,.ptr 3 0),(5,.ptr 4 0),(8,.ptr 5 0),(9,int 0),(10,.ptr 6 0),(12,bl (decide (D.kind=0))),(13,.row 7 i),(33,.sl D.slots.length (yN D.slots)),(34,int D.slots.length),(35,int i)])
  (fun i=>mSt p m++[.box (zM p),.box (zS (.mk k id kids)),.box [int 0,int 0],.box (zH D),.row false 123 2 i (zB3 ((D.slots.map fun s=>g s.typ).take i))])
  (fun i=>i≤D.slots.length∧zDf (D.slots.map fun s=>g s.typ)=zDf ((D.slots.map fun s=>g s.typ).drop i)) (fun i=>D.slots.length-i) 0 (by simp)
  (zP [0,1,2,3,4,5,6,7] 0 (by decide) (by simp) (by simp[mSt,zM,zS,zH,yA]) (by simp[yA])) ?_
 rintro i ⟨hi,ho⟩;by_cases h:i<D.slots.length
 ·have hm:(D.slots.map fun s=>g s.typ).drop i=g D.slots[i].typ::(D.slots.map fun s=>g s.typ).drop (i+1):=by rw[jAy (by simpa using h)]; simp
  have htk:(D.slots.map fun s=>g s.typ).take (i+1)=(D.slots.map fun s=>g s.typ).take i++[g D.slots[i].typ]:=by rw[jAh (by simpa using h)]; simp
  obtain⟨hok,hret⟩:=hg D.slots[i] (jA3 h);simp -implicitDefEqProofs [h,yB h,yJ,yA,mSt,hwd,zM];refine jN hret [0,1,2] (by simp) (by simp[mSt,yA,zM]) (by simp[zS]) ?_;simp -implicitDefEqProofs [szR,mSt,yA,zM];refine qT (fun h'=>?_) (fun h'=>?_)<;>simp at h'
  ·simp -implicitDefEqProofs;exact zI [0,1,2] 0 (by decide) (by simp) (by simp[mSt,yA,zM]) (by simp[yQ,ho,hm,zDf,h'])
  ·simp -implicitDefEqProofs;refine⟨⟨by simp[maxLen]; omega,by omega⟩,?_⟩;exact zU (i+1) ⟨h,by rw[ho,hm]; simp[zDf,h']⟩ (by omega) (zP [0,1,2,3,4,5,6,7] 0 (by decide) (by simp) (by simp[mSt,zM,zS,zH,yA,htk]) (by simp[yA,qO h hl]))
 ·have hi:i=D.slots.length:=by omega
  subst hi;have htk:(D.slots.map fun s=>g s.typ).take D.slots.length=D.slots.map fun s=>g s.typ:=jAm (by simp)
  have hoks:∀k∈D.slots.map fun s=>g s.typ,k.Ok:=fun k hk=>by obtain⟨s,hs,rfl⟩:=jAg.1 hk;exact(hg s hs).1
  have hln:(D.slots.map fun s=>g s.typ).length=D.slots.length:=by simp
  generalize (D.slots.map fun s=>g s.typ)=Z at ho htk hoks hln ⊢;have ho':zDf Z=0:=by rw[ho,←hln]; simp[zDf]
  clear ho;have hn6:Z.length≤1000000:=by omega
  rw[←hln]at hl htk;have hzk:∀k∈Z,k.e=0∧0≤k.a∧k.a≤4096∧0≤k.b∧k.b≤256:=fun k hk=>⟨zCm ho' k hk,hoks k hk (zCm ho' k hk)⟩
  simp -implicitDefEqProofs [mSt,yA,htk,←hln];refine qT (fun h'=>?_) (fun h'=>?_)<;>simp at h'
  ·simp -implicitDefEqProofs [h',zF1];refine jX (S:=Nat×Int×Int) (fun s=>[(8,.ptr 5 0),(9,int 0),(12,bl true),(18,.ptr 8 0),(60,.row 7 Z.length),(61,int Z.length),(62,int s.1)])
    (fun s=>mSt p m++[.box (zM p),.box (zS (.mk k id kids)),.box [int 0,int 0],.box (zH D),.row false 123 2 Z.length (zB3 Z),.box [int s.2.1,int s.2.2]])
    (fun s=>s.1≤Z.length∧zDm 1 1 Z=zDm s.2.1 s.2.2 (Z.drop s.1)∧0≤s.2.1∧s.2.1≤4096∧0≤s.2.2∧s.2.2≤1+256*s.1) (fun s=>Z.length-s.1) (0,1,1) (by simp)
    (zP [0,1,2,3,4,5,6,7,8] 0 (by decide) (by simp) (by simp[mSt,zM,zS,zH,yA]) (by simp[yA,h'])) ?_
   rintro⟨j,a,b⟩ ⟨hj,hr,ha0,ha,hb0,hb⟩;simp only at hj hr ha0 ha hb0 hb;by_cases hjl:j<Z.length
   ·obtain⟨_,g1,g2,g3,g4⟩:=hzk Z[j] (jA3 hjl);have hd:Z.drop j=Z[j]::Z.drop (j+1):=jAy hjl;have hab0:0≤a*Z[j].a:=Int.mul_nonneg ha0 g1;have hab1:a*Z[j].a≤4096*4096:=Int.mul_le_mul ha g2 g1 (by decide);have hw1:=jT (a*Z[j].a) (by omega);have hw2:=jT (b+Z[j].b) (by omega);have hw3:=zBg j (by omega);have hj2:j*2+2≤Z.length*2:=by omega
    simp -implicitDefEqProofs [hjl,zFT,zFF hjl,mSt,yA,hw1,hw2,hw3,hj2];refine qT (fun h4=>?_) (fun h4=>?_)<;>simp at h4
    ·simp -implicitDefEqProofs;have e:zDm 1 1 Z=⟨0,0,4⟩:=by rw[hr,hd,zDm,if_pos h4]
     exact zI [0,1,2] 0 (by decide) (by simp) (by simp[mSt,yA,zM]) (by simp[yQ,ho',e,h',szR])
    ·simp -implicitDefEqProofs;exact zU (j+1,a*Z[j].a,b+Z[j].b) ⟨hjl,by rw[hr,hd,zDm,if_neg (by omega)],hab0,h4,by simp only; omega,by simp only; omega⟩ (by simp only; omega) (zP [0,1,2,3,4,5,6,7,8] 0 (by decide) (by simp) (by simp[mSt,zM,zS,zH,yA]) (by simp[yA,hw3]))
   ·have hjl':j=Z.length:=by omega
    subst hjl';simp -implicitDefEqProofs [mSt,yA];exact zI [0,1,2] 0 (by decide) (by simp) (by simp[mSt,yA,zM]) (by simp[yQ,ho',hr,h',zDm,szR])
  ·simp -implicitDefEqProofs [h',zF1];refine jX (S:=Nat×Int×Int) (fun s=>[(8,.ptr 5 0),(9,int 0),(12,bl false),(18,.ptr 8 0),(60,.row 7 Z.length),(61,int Z.length),(62,int s.1)])
    (fun s=>mSt p m++[.box (zM p),.box (zS (.mk k id kids)),.box [int 0,int 0],.box (zH D),.row false 123 2 Z.length (zB3 Z),.box [int s.2.1,int s.2.2]])
    (fun s=>s.1≤Z.length∧zC9 0 1 Z=zC9 s.2.1 s.2.2 (Z.drop s.1)∧0≤s.2.1∧s.2.1≤4096*s.1∧0≤s.2.2∧s.2.2≤257) (fun s=>Z.length-s.1) (0,0,1) (by simp)
    (zP [0,1,2,3,4,5,6,7,8] 0 (by decide) (by simp) (by simp[mSt,zM,zS,zH,yA]) (by simp[yA,h'])) ?_
   rintro⟨j,a,b⟩ ⟨hj,hr,ha0,ha,hb0,hb⟩;simp only at hj hr ha0 ha hb0 hb;by_cases hjl:j<Z.length
   ·obtain⟨_,g1,g2,g3,g4⟩:=hzk Z[j] (jA3 hjl);have hd:Z.drop j=Z[j]::Z.drop (j+1):=jAy hjl;have hw1:=jT (a+Z[j].a) (by omega);have hw2:=jT (1+Z[j].b) (by omega);have hw3:=zBg j (by omega);have hj2:j*2+2≤Z.length*2:=by omega
    have hmx:max b (1+Z[j].b)=if b<1+Z[j].b then 1+Z[j].b else b:=by rw[Int.max_def]; split<;>split<;>omega
    simp -implicitDefEqProofs [hjl,zFT,zFF hjl,mSt,yA,hw1,hw2,hw3,hj2];exact zU (j+1,a+Z[j].a,max b (1+Z[j].b)) ⟨hjl,by rw[hr,hd]; simp[zC9],by simp only; omega,by simp only; omega,by simp only; omega,by simp only; omega⟩ (by simp only; omega) (zP [0,1,2,3,4,5,6,7,8] 0 (by decide) (by simp) (by simp[mSt,zM,zS,zH,yA,hmx]) (by simp[yA,hw3]))
   ·have hjl':j=Z.length:=by omega
    subst hjl';simp -implicitDefEqProofs [mSt,yA];exact zI [0,1,2] 0 (by decide) (by simp) (by simp[mSt,yA,zM]) (by simp[yQ,ho',hr,h',zC9,szR])
def Sml (p:Prg):Prop:=∀d∈p.defs,d.slots.length≤1000000
theorem Sml.dfn {p:Prg}(h:Sml p)(id:Id):(dfn p id).slots.length≤1000000:=by
 unfold Go.Proofs.YtdnelmeboihpkaaGreatDoor.dfn;cases hf:qW p.defs id with
 | none=>simp[Dfn.zero]
 | some d=>exact h d (zAu hf).1
theorem zJB {p:Prg}{n:Nat}{t:Typ}(h:yH p n t=true)(hk:t.k=2):∃x,t.kids=[x]:=by
 cases n with
 | zero=>simp[yH]at h
 | succ n =>
  cases t with
  | mk k id kids =>
   simp only[Typ.k_mk]at hk;subst hk;rcases kids with _ | ⟨x,_ | ⟨y,l⟩⟩
   ·simp[yH]at h
   ·exact⟨x,rfl⟩
   ·simp[yH]at h
theorem zOP {k:Sz}(h0:k.e=0→0≤k.a∧0≤k.b):(zBv k).Ok:=by
 intro he;unfold zBv at *
 split at he
 ·simp at he; contradiction
 ·rename_i h1;simp at h1;split at he
  ·simp at he
  ·rename_i h2;rw[if_neg (by simp[h1]),if_neg h2];have:=h0 h1;simp only;split<;>omega
theorem zSM:∀{l:List Sz} {a b:Int},(∀k∈l,k.e=0∧k.Ok)→0≤a→0≤b→0≤(zDm a b l).a∧0≤(zDm a b l).b
 | [],a,b,_,ha,hb=>⟨ha,hb⟩
 | k::l,a,b,h,ha,hb=>by
  have hk:=(h k (by simp)).2 (h k (by simp)).1;simp only[zDm];split
  ·simp
  ·exact zSM (fun k hk=>h k (jAf _ hk)) (Int.mul_nonneg ha hk.1) (by omega)
theorem zO5:∀{l:List Sz} {a b:Int},(∀k∈l,k.e=0∧k.Ok)→0≤a→0≤b→0≤(zC9 a b l).a∧0≤(zC9 a b l).b
 | [],a,b,_,ha,hb=>⟨ha,hb⟩
 | k::l,a,b,h,ha,hb=>by have hk:=(h k (by simp)).2 (h k (by simp)).1;simp only[zC9];exact zO5 (fun k hk=>h k (jAf _ hk)) (by omega) (by omega)
theorem zLv {r:Bool}{l:List Sz}(h:∀k∈l,k.Ok)(he:(yQ r l).e=0):0≤(yQ r l).a∧0≤(yQ r l).b:=by
 unfold yQ at *
 split
 ·simp
 ·rename_i h0;have h0:zDf l=0:=by simpa using h0
  have hk:∀k∈l,k.e=0∧k.Ok:=fun k hk=>⟨zCm h0 k hk,h k hk⟩
  split
  ·exact zSM hk (by decide) (by decide)
  ·exact zO5 hk (by decide) (by decide)
theorem zUc {m:Int}{k:Sz}(h:k.Ok)(he:(zBf m k).e=0):0≤(zBf m k).a∧0≤(zBf m k).b:=by
 unfold zBf at *
 split
 ·simp
 ·rename_i h0;have h1:=h (by simpa using h0);have h2:0≤k.a*k.a:=Int.mul_nonneg h1.1 h1.1;split
  ·simp
  ·split<;>simp only<;>omega
theorem zBy (p:Prg)(m:Int)(hm:0≤m∧m≤64):∀(n:Nat) (t:Typ),(jM p m n t).Ok
 | 0,t=>by unfold jM;split<;>intro h<;>simp at h
 | n+1,t=>by
  unfold jM;split
  ·intro h; simp at h
  split
  ·intro _; simp only; omega
  split
  ·intro _; simp
  split
  ·exact zOP (zUc (zBy p m hm n _))
  ·exact zOP (zLv (fun k hk=>by obtain⟨s,_,rfl⟩:=jAg.1 hk;exact zBy p m hm n _))
theorem zDs {M N:Int}(h:M > 4096∨N > 256):zBv ⟨M,N,0⟩=⟨0,0,4⟩:=by simp[zBv,h]
theorem zHh {N:Int}(h:¬N > 256):zBv ⟨0,N,0⟩=⟨0,0,0⟩:=by simp[zBv,h]
theorem zHg {M N:Int}(h:¬(M > 4096∨N > 256))(h0:M≠0):zBv ⟨M,N,0⟩=⟨M,N,0⟩:=by simp[zBv,h,h0]
def tb (a b:Int):Nat→Int×Int×Int
 | 0=>(1,1,1)
 | 1=>(a,1+a,1+b)
 | _=>(a*a,1+a+a*a,1+b+b)
theorem zW0 (p:Prg)(hs:Sml p)(m:Int)(hm:0≤m∧m≤64):∀(n:Nat) (t:Typ) (d:Int),d=25-n→n≤24 →
 Ret prog 116 [.agg (zS t),int d,.ptr 0 0,.ptr 1 0,.ptr 2 0] (mSt p m) (szR (jM p m n t)) (mSt p m):=by
 intro n;induction n with
 | zero =>
  intro t d hd _;have hd:d=25:=by omega
  subst hd;refine zK Tryz.func116 rfl qHg (rs:=[.cell 7 2 true,.slot 8]) (by kernel_rfl) ?_;unfold qBb;simp -implicitDefEqProofs [zM,zS,mSt,yA];refine qK (zL0 p t) (by simp[zM,zS]) (by simp) ?_;simp -implicitDefEqProofs;cases hv:validT p t with
  | false =>
   simp -implicitDefEqProofs;exact zI [0,1,2] 0 (by decide) (by simp) (by simp) (by simp[jM,hv,szR])
  | true =>
   simp -implicitDefEqProofs;exact zI [0,1,2] 0 (by decide) (by simp) (by simp) (by simp[jM,hv,szR])
 | succ n ih =>
  intro t d hd hn;refine zK Tryz.func116 rfl qHg (rs:=[.cell 7 2 true,.slot 8]) (by kernel_rfl) ?_;unfold qBb;simp -implicitDefEqProofs [zM,zS,mSt,yA];refine qK (zL0 p t) (by simp[zM,zS]) (by simp) ?_;have hd24:¬(24<d):=by omega
  have hwd:=jT (d+1) (by omega);simp -implicitDefEqProofs;cases hv:validT p t with
  | false =>
   simp -implicitDefEqProofs;exact zI [0,1,2] 0 (by decide) (by simp) (by simp) (by simp[jM,hv,szR])
  | true =>
   by_cases h0:t.k=0
   ·have hw1:=jT (2*m) (by omega);have hw2:=jT (2*m+1) (by omega);simp -implicitDefEqProofs [hd24,h0,hw1,hw2];exact zI [0,1,2] 0 (by decide) (by simp) (by simp) (by simp[jM,hv,szR,h0])
   by_cases h1:t.k=1
   ·simp -implicitDefEqProofs [hd24,h1];exact zI [0,1,2] 0 (by decide) (by simp) (by simp) (by simp[jM,hv,szR,h1])
   by_cases h2:t.k=2
   ·obtain⟨x,hx⟩:=zJB hv h2;simp -implicitDefEqProofs [hd24,h2,hx,hwd];have hok:=zBy p m hm n x;have hsz:jM p m (n+1) t=zBv (zBf m (jM p m n x)):=by simp[jM,hv,h0,h1,h2,hx]
    rw[hsz];refine zXJ (ih x (d+1) (by omega) (by omega)) [0,1,2] (by simp) (by simp[mSt,yA,zM]) (by simp[zS,zDN]) (by simp[szR]) ?_;generalize jM p m n x=Z at hok ⊢;simp -implicitDefEqProofs [szR];refine qT (fun he=>?_) (fun he=>?_)<;>simp at he
    ·simp -implicitDefEqProofs;exact zI [0,1,2] 0 (by decide) (by simp) (by simp) (by simp[zBf,zBv,szR,he])
    ·obtain⟨a,b,e⟩:=Z;simp only at he;subst he;have hok:=hok rfl;simp only at hok;simp -implicitDefEqProofs;have htail:∀M N:Int,True:=fun _ _=>trivial
     refine jX (S:=Nat) (fun j=>[(3,.ptr 1 0),(7,.ptr 4 0),(8,int 0),(9,.ptr 5 0),(10,.ptr 6 0),(12,int (tb a b j).1),(57,int (if 2<m then 2 else m)),(58,int j)])
      (fun j=>mSt p m++[.box (zS t),.box [int 0,int 0],.box [int (tb a b j).2.1,int (tb a b j).2.2],.box [int a,int b]])
      (fun j=>j=0∨(j=1∧1≤m)∨(j=2∧2≤m)) (fun j=>2-j) 0 (.inl rfl)
      (zP [0,1,2,3,4,5,6] 0 (by decide) (by simp) (by simp[mSt,zM,zS,yA,tb,h2,hx]) (by simp[tb])) ?_
     have haa0:0≤a*a:=Int.mul_nonneg hok.1 hok.1;have haa1:a*a≤4096*4096:=Int.mul_le_mul hok.2.1 hok.2.1 hok.1 (by decide);have hw1:=jT a (by omega);have hw2:=jT (1+a) (by omega);have hw3:=jT (1+b) (by omega);have hw4:=jT (a*a) (by omega);have hw5:=jT (1+a+a*a) (by omega);have hw6:=jT (1+b+b) (by omega);have hsel:∀j:Nat,True:=fun _=>trivial
     rintro j (rfl | ⟨rfl,hm1⟩ | ⟨rfl,hm2⟩)
     ·by_cases hm1:1≤m
      ·have hK:(0:Int)<(if 2<m then 2 else m):=by split<;>omega
       simp -implicitDefEqProofs [hK,mSt,yA,tb,hw1,hw2,hw3];exact zU 1 (.inr (.inl ⟨rfl,hm1⟩)) (by simp) (zP [0,1,2,3,4,5,6] 0 (by decide) (by simp) (by simp[mSt,zM,zS,yA,tb]) (by simp[tb,show IntKind.i64.wrap 1=1 from by decide,show IntKind.i64.wrap 2=2 from by decide]))
      ·have hK:¬((0:Int)<(if 2<m then 2 else m)):=by split<;>omega
       have hfin:zBf m ⟨a,b,0⟩=⟨1,1,0⟩:=by simp[zBf,show m≤0 by omega]
       simp -implicitDefEqProofs [hK,mSt,yA,tb];exact zI [0,1,2] 0 (by decide) (by simp) (by simp[zM]) (by simp[szR,hfin,zBv])
     ·by_cases hm2:2≤m
      ·have hK:(1:Int)<(if 2<m then 2 else m):=by split<;>omega
       simp -implicitDefEqProofs [hK,mSt,yA,tb,hw4,hw5,hw6];exact zU 2 (.inr (.inr ⟨rfl,hm2⟩)) (by simp) (zP [0,1,2,3,4,5,6] 0 (by decide) (by simp) (by simp[mSt,zM,zS,yA,tb]) (by simp[tb,show IntKind.i64.wrap 1=1 from by decide,show IntKind.i64.wrap 2=2 from by decide]))
      ·have hK:¬((1:Int)<(if 2<m then 2 else m)):=by split<;>omega
       have hfin:zBf m ⟨a,b,0⟩=⟨1+a,1+b,0⟩:=by simp[zBf,show ¬m≤0 by omega,show m≤1 by omega]
       by_cases g4:4096<(1+a)
       ·simp -implicitDefEqProofs [hK,mSt,yA,tb,g4];exact zI [0,1,2] 0 (by decide) (by simp) (by simp[zM]) (by simp[szR,hfin,zDs (N:=(1+b)) (.inl g4)])
       by_cases g5:256<(1+b)
       ·simp -implicitDefEqProofs [hK,mSt,yA,tb,g4,g5];exact zI [0,1,2] 0 (by decide) (by simp) (by simp[zM]) (by simp[szR,hfin,zDs (M:=(1+a)) (.inr g5)])
       by_cases g6:(1+a)=0
       ·simp -implicitDefEqProofs [hK,mSt,yA,tb,g4,g5,g6];exact zI [0,1,2] 0 (by decide) (by simp) (by simp[zM]) (by simp[szR,hfin,g6,zHh g5])
       ·simp -implicitDefEqProofs [hK,mSt,yA,tb,g4,g5,g6];exact zI [0,1,2] 0 (by decide) (by simp) (by simp[zM]) (by simp[szR,hfin,zHg (show ¬((1+a) > 4096∨(1+b) > 256) by omega) g6])
     ·have hK:¬((2:Int)<(if 2<m then 2 else m)):=by split<;>omega
      have hfin:zBf m ⟨a,b,0⟩=⟨1+a+a*a,1+b+b,0⟩:=by simp[zBf,show ¬m≤0 by omega,show ¬m≤1 by omega]
      by_cases g4:4096<(1+a+a*a)
      ·simp -implicitDefEqProofs [hK,mSt,yA,tb,g4];exact zI [0,1,2] 0 (by decide) (by simp) (by simp[zM]) (by simp[szR,hfin,zDs (N:=(1+b+b)) (.inl g4)])
      by_cases g5:256<(1+b+b)
      ·simp -implicitDefEqProofs [hK,mSt,yA,tb,g4,g5];exact zI [0,1,2] 0 (by decide) (by simp) (by simp[zM]) (by simp[szR,hfin,zDs (M:=(1+a+a*a)) (.inr g5)])
      by_cases g6:(1+a+a*a)=0
      ·simp -implicitDefEqProofs [hK,mSt,yA,tb,g4,g5,g6];exact zI [0,1,2] 0 (by decide) (by simp) (by simp[zM]) (by simp[szR,hfin,g6,zHh g5])
      ·simp -implicitDefEqProofs [hK,mSt,yA,tb,g4,g5,g6];exact zI [0,1,2] 0 (by decide) (by simp) (by simp[zM]) (by simp[szR,hfin,zHg (show ¬((1+a+a*a) > 4096∨(1+b+b) > 256) by omega) g6])
   ·obtain⟨k,id,kids⟩:=t;simp only[Typ.k_mk]at h0 h1 h2;have hsz:jM p m (n+1) (.mk k id kids)=zBv (yQ (decide ((dfn p id).kind=0)) ((dfn p id).slots.map fun s=>jM p m n s.typ)):=by simp[jM,hv,h0,h1,h2];rfl
    have hok:=zLv (r:=decide ((dfn p id).kind=0)) (l:=(dfn p id).slots.map fun s=>jM p m n s.typ) (fun k hk=>by obtain⟨s,_,rfl⟩:=jAg.1 hk;exact zBy p m hm n _)
    rw[hsz];simp -implicitDefEqProofs [hd24,h0,h1,h2];refine jN (zWT p m id k kids d (by omega) (dfn p id) rfl (jM p m n) (fun s _=>⟨zBy p m hm n _,ih s.typ (d+1) (by omega) (by omega)⟩) (hs.dfn id)) [0,1,2] (by simp) (by simp[mSt,yA,zM]) (by simp[zS,zM,yA]) ?_;generalize yQ (decide ((dfn p id).kind=0)) ((dfn p id).slots.map fun s=>jM p m n s.typ)=Z at hok ⊢;simp -implicitDefEqProofs [szR,mSt,yA];refine qT (fun he=>?_) (fun he=>?_)<;>simp at he
    ·simp -implicitDefEqProofs;exact zI [0,1,2] 0 (by decide) (by simp) (by simp[zM]) (by simp[zBv,szR,he])
    ·obtain⟨a,b,e⟩:=Z;simp only at he;subst he;have hok:=hok rfl;simp only at hok;have hfin:True:=trivial;by_cases g4:4096<a
     ·simp -implicitDefEqProofs [mSt,yA,g4];exact zI [0,1,2] 0 (by decide) (by simp) (by simp[zM]) (by simp[szR,hfin,zDs (N:=b) (.inl g4)])
     by_cases g5:256<b
     ·simp -implicitDefEqProofs [mSt,yA,g4,g5];exact zI [0,1,2] 0 (by decide) (by simp) (by simp[zM]) (by simp[szR,hfin,zDs (M:=a) (.inr g5)])
     by_cases g6:a=0
     ·simp -implicitDefEqProofs [mSt,yA,g4,g5,g6];exact zI [0,1,2] 0 (by decide) (by simp) (by simp[zM]) (by simp[szR,hfin,g6,zHh g5])
     ·simp -implicitDefEqProofs [mSt,yA,g4,g5,g6];exact zI [0,1,2] 0 (by decide) (by simp) (by simp[zM]) (by simp[szR,hfin,zHg (show ¬(a > 4096∨b > 256) by omega) g6])
def size (p:Prg)(m:Int)(t:Typ):Sz:=jM p m 24 t
theorem zRw (p:Prg)(hs:Sml p)(m:Int)(hm:0≤m∧m≤64)(t:Typ):Ret prog 75 [.agg (zM p),.agg (zS t),int m] [] (szR (size p m t)) []:=by refine zK Tryz.func75 rfl qNc (rs:=[.cell 6 2 true,.slot 7]) (by kernel_rfl) ?_;unfold qGd;simp -implicitDefEqProofs [zM,zS];refine jN (zW0 p hs m hm 24 t 1 (by decide) (by decide)) [0,2,4] (by simp) (by simp[mSt,yA,zM]) (by simp[zS]) ?_;simp -implicitDefEqProofs [szR,mSt,yA,zM];exact zB 0 (by simp[szR,size])
section
variable {l:List Int}
def stH (l:List Int)(m:Gm)(Ds:List Dfn)(i:Nat):St :=
 [.box [.nil,.nil],.box (gB l m),.row false 112 6 1 [int (idR 0).a,int (idR 0).b,int (idR 0).c,.lit (.string ⟨#[99,111,114,101]⟩),.nil,.row 5 i],.box [.row 2 1,.row 4 Ds.length],.row false 41 31 Ds.length (qM Ds),.row false 31 3 i (zQ ((Ds.map (·.id)).take i))]
theorem zWm {Ds:List Dfn}{i:Nat}(h:i<Ds.length):zQ ((Ds.map (·.id)).take (i+1))=zQ ((Ds.map (·.id)).take i)++[int Ds[i].id.a,int Ds[i].id.b,int Ds[i].id.c]:=by rw[jAh (by simpa using h),zB0];simp[zQ]
theorem zYK (m:Gm)(Ds:List Dfn)(hD:Ds.length≤100):wpK prog 0 zQu (qHZ ⟨[⟨idR 0,⟨#[99,111,114,101]⟩,[],Ds.map (·.id)⟩],Ds⟩) (qC [(2,.ptr 0 0),(4,.ptr 3 0)]) (stG l m Ds):=by
 unfold zQu;simp -implicitDefEqProofs [stG,gB];refine jX (S:=Nat) (fun i=>[(2,.ptr 0 0),(4,.ptr 3 0),(18,int i)]) (stH l m Ds) (fun i=>i≤Ds.length) (fun i=>Ds.length-i) 0 (by simp)
  ((zQj (l:=2) (o:=5) rfl rfl 31 3).trans (zP [0,1,2,3,4,5] 0 (by decide) (by simp) (by simp[stH,gB,zCV]) (by simp))) ?_
 intro i hi;by_cases h:i<Ds.length
 ·have hw:=qO h (show Ds.length≤maxLen by simp[maxLen]; omega);have hd:=zAI h;have hne:Ds≠[]:=fun e=>by rw[e]at h; simp at h
  have hb:i*31+3≤Ds.length*31:=by omega
  simp -implicitDefEqProofs [stH,gB,h,hd,hne,zH,hb];refine⟨⟨by simp[maxLen]; omega,by omega⟩,?_⟩;exact zU (i+1) h (by omega) (zP [0,1,2,3,4,5] 0 (by decide) (by simp) (by simp[stH,gB,zWm h]) (by simp[hw]))
 ·have hie:i=Ds.length:=by omega
  subst hie;have htk:(Ds.map (·.id)).take Ds.length=Ds.map (·.id):=jAm (by simp);simp -implicitDefEqProofs [stH,gB];exact zB 2 (by simp[zM,zOD,zG9,htk])
theorem zVY (many:Nat)(m:Gm):Gst m (zBw l many m).2.2 3:=by
 unfold zBw;split
 ·split
  ·exact((zY _).trans (zY _) (jAd _)).trans (zY _) (by omega)
  ·exact((zY _).trans (zY _) (jAd _)).trans (zY _) (by omega)
 ·exact(zY _).trans (zY _) (by omega)
theorem zPd (R:List Dfn)(x y:Nat)(s:Id)(m:Gm):zPc l R x y s m=zB9 l x y (R.getD x .zero) (R.getD y .zero) s m:=rfl
theorem zWc {R:List Dfn}(hR:∀d∈R,d.slots.length≤6)(y:Nat):(R.getD y .zero).slots.length≤6:=by
 by_cases h:y<R.length
 ·rw[zCz h]; exact hR _ (jA3 h)
 ·rw[jBm,jB6 (by omega)]; simp[Dfn.zero]
theorem zMw {R:List Dfn}(hR:∀d∈R,d.slots.length≤6)(m:Gm):∀n:Nat,Gst m (zAb l R n m).2 (404*n)
 | 0=>Gst.refl _ (by omega)
 | n+1=>by have ih:=zMw hR m n;simp only[zAb,zHQ,zPd];exact(ih.trans (zVY _ _) (jAd _)).trans (zQT _ _ _ _ _ _ (zWc hR _)) (by omega)
theorem zYJ (hl:∀x∈l,w64 x=x)(R:List Dfn)(many:Nat)(hmany:R.length=many)(hm1:0<many)(hm2:many≤4)(m0:Gm)(hok:m0.Ok 4000)(hR:∀d∈R,d.slots.length≤6∧∀u∈d.slots,u.typ=tK u.typ.k∧(u.typ.k=0∨u.typ.k=1))
 (p:Prg)(hp:p=⟨[⟨idR 0,⟨#[99,111,114,101]⟩,[],(R++(zAb l R (gN l m0 8).toNat m0.tick).1).map (·.id)⟩],R++(zAb l R (gN l m0 8).toNat m0.tick).1⟩) :
 wpK prog 0 zQt (qHZ p) (qC [(2,.ptr 0 0),(3,.ptr 1 0),(4,.ptr 3 0),(5,int many)]) (stG l m0 R):=by
 obtain⟨v0,v1⟩:=zBd hl m0 (n:=8) (by omega);obtain⟨cv,hcv⟩:∃cv:Nat,gN l m0 8=cv:=⟨(gN l m0 8).toNat,by omega⟩;have hR1:∀d∈R,d.slots.length≤6:=fun d hd=>(hR d hd).1
 rw[hcv]at hp v1;simp only[jCn]at hp;unfold zQt;simp -implicitDefEqProofs [stG,gB];refine jN (zBs (l:=l) m0 8 (by omega) (hok.mono (by omega))) [1] (by decide) (by simp[gS,gB]) (by simp) ?_;simp -implicitDefEqProofs [gS,gB];rw[hcv];refine jX (S:=Nat) (fun i=>[(2,.ptr 0 0),(3,.ptr 1 0),(4,.ptr 3 0),(5,int many),(10,int cv),(11,int i)]) (fun i=>stG l (zAb l R i m0.tick).2 (R++(zAb l R i m0.tick).1)) (fun i=>i≤cv) (fun i=>cv-i) 0 (by simp)
  (zP [0,1,2,3,4] 0 (by decide) (by simp) (by simp[stG,gB,zCV,zAb]) (by simp)) ?_
 intro i hi;have hst:=zMw (l:=l) hR1 m0.tick i;have hcl:=zCf l R m0.tick i;by_cases h:i<cv
 ·have hstep:zAb l R (i+1) m0.tick=((zAb l R i m0.tick).1++[(zHQ l R i (zAb l R i m0.tick).2).1],(zHQ l R i (zAb l R i m0.tick).2).2):=rfl;generalize hmi:(zAb l R i m0.tick).2=mi at hst hstep;generalize hki:(zAb l R i m0.tick).1=ki at hcl hstep;have hok1:mi.Ok 1000:=hok.adv ((zY m0).trans hst (jAd _)) (by omega);have hwi:=zBg i (by omega);obtain⟨x0,x1⟩:=zBd hl mi (n:=many) (by omega);obtain⟨y0,y1⟩:=zBd hl mi.tick (n:=many) (by omega);obtain⟨x,hx⟩:∃x:Nat,gN l mi many=x:=⟨(gN l mi many).toNat,by omega⟩;obtain⟨y,hy⟩:∃y:Nat,gN l mi.tick many=y:=⟨(gN l mi.tick many).toNat,by omega⟩;rw[hx]at x0 x1;rw[hy]at y0 y1;have hxl:x<many:=by omega
  have hyl:y<many:=by omega
  have n1:=zBs (l:=l) mi many (by omega) (hok1.mono (by omega));have n2:=zBs (l:=l) mi.tick many (by omega) (hok1.adv (zY mi) (by omega));have fin:∀(x' y':Nat) (m':Gm),x'<many→y'<many→m'.Ok 500→zBw l R.length mi=(x',y',m')→∀Q:Ex→Env→St→Prop,
   (∀env' σ',zA0 0 (qC [(2,.ptr 0 0),(3,.ptr 1 0),(4,.ptr 3 0),(5,int many),(10,int cv),(11,int i)]) (stG l (zAb l R (i+1) m0.tick).2 (R++(zAb l R (i+1) m0.tick).1)) env' σ'→Q .norm env' σ') →
   wpK prog 0 zNk Q (qC [(2,.ptr 0 0),(3,.ptr 1 0),(4,.ptr 3 0),(5,int many),(10,int cv),(11,int i),(12,int x'),(13,int y')]) (stG l m' (R++ki)):=by
   intro x' y' m' hx' hy' hok2 he Q hQ;have hxR:x'<R.length:=by omega
   have hyR:y'<R.length:=by omega
   have ex:(R++ki)[x']'(by simp; omega)=R[x']:=jBs hxR;have ey:(R++ki)[y']'(by simp; omega)=R[y']:=jBs hyR;refine qCM hl Q m' hok2 (R++ki) x' y' i (by simp; omega) (by simp; omega) (by simp; omega) (by omega) many cv (by rw[ex]; exact(hR _ (jA3 hxR)).1) (by rw[ey]; exact(hR _ (jA3 hyR)).1) (by rw[ey]; exact(hR _ (jA3 hyR)).2) fun E S hw=>hQ E S ?_
   rw[hstep];simp only[zHQ,he,zPd,zCz hxR,zCz hyR];rw[ex,ey]at hw;rw[←jB1];exact hw
  have hcR:(R++ki).length=R.length+i:=by simp[hcl]
  simp -implicitDefEqProofs [stG,gB,h];refine jN n1 [1] (by decide) (by simp[gS,gB]) (by simp) ?_;simp -implicitDefEqProofs [gS,gB,hx];refine jN n2 [1] (by decide) (by simp[gS,gB]) (by simp) ?_;simp -implicitDefEqProofs [gS,gB,hy];by_cases hxy:x=y
  ·have hxy':(x:Int)=y:=by omega
   have n3:=zBs (l:=l) mi.tick.tick 3 (by omega) (hok1.adv ((zY mi).trans (zY _) (jAd _)) (by omega));simp -implicitDefEqProofs [hxy'];refine jN n3 [1] (by decide) (by simp[gS,gB]) (by simp) ?_;by_cases h3:0<gN l mi.tick.tick 3
   ·have wx:=zBg x (by omega);have wy:=zBg y (by omega);have hmn:¬many=0:=by omega
    have htm:((y:Int)+1).tmod many=(((y+1) % many:Nat):Int):=by rw[jDf (by omega)]; simp
    have he:zBw l R.length mi=(x,(x+1) % many,mi.tick.tick.tick):=by unfold zBw;rw[hmany,hx,hy,if_pos hxy',if_pos h3]; simp
    simp -implicitDefEqProofs [gS,gB,h3,wx,wy,htm,hmn];refine⟨_,_,zP [0,1,2,3,4] 0 (by decide) (by simp) ?_ ?_,fin x ((x+1) % many) mi.tick.tick.tick (by omega) (Nat.mod_lt _ (by omega)) (hok1.adv (((zY mi).trans (zY _) (jAd _)).trans (zY _) (jAd _)) (by omega)) he _ fun E S hw=>?_⟩
    ·simp[stG,gB,zCV]
    ·simp[hxy,hxy']
    ·simp -implicitDefEqProofs;refine⟨_,_,hw,?_⟩;simp -implicitDefEqProofs [stG,gB];exact zU (i+1) h (by omega) (zP [0,1,2,3,4] 0 (by decide) (by simp) (by simp[stG,gB,zCV]) (by simp[hwi]))
   ·have he:zBw l R.length mi=(x,x,mi.tick.tick.tick):=by unfold zBw;rw[hmany,hx,hy,if_pos hxy',if_neg h3]; simp
    simp -implicitDefEqProofs [gS,gB,h3];refine⟨_,_,zP [0,1,2,3,4] 0 (by decide) (by simp) ?_ ?_,fin x x mi.tick.tick.tick (by omega) (by omega) (hok1.adv (((zY mi).trans (zY _) (jAd _)).trans (zY _) (jAd _)) (by omega)) he _ fun E S hw=>?_⟩
    ·simp[stG,gB,zCV]
    ·simp[hxy,hxy']
    ·simp -implicitDefEqProofs;refine⟨_,_,hw,?_⟩;simp -implicitDefEqProofs [stG,gB];exact zU (i+1) h (by omega) (zP [0,1,2,3,4] 0 (by decide) (by simp) (by simp[stG,gB,zCV]) (by simp[hwi]))
  ·have hxy':¬(x:Int)=y:=by omega
   ·have he:zBw l R.length mi=(x,y,mi.tick.tick):=by unfold zBw;rw[hmany,hx,hy,if_neg hxy']; simp
    simp -implicitDefEqProofs [gS,gB,hxy'];refine⟨_,_,zP [0,1,2,3,4] 0 (by decide) (by simp) ?_ ?_,fin x y mi.tick.tick (by omega) (by omega) (hok1.adv ((zY mi).trans (zY _) (jAd _)) (by omega)) he _ fun E S hw=>?_⟩
    ·simp[stG,gB,zCV]
    ·simp
    ·simp -implicitDefEqProofs;refine⟨_,_,hw,?_⟩;simp -implicitDefEqProofs [stG,gB];exact zU (i+1) h (by omega) (zP [0,1,2,3,4] 0 (by decide) (by simp) (by simp[stG,gB,zCV]) (by simp[hwi]))
 ·have hie:i=cv:=by omega
  subst hie;simp -implicitDefEqProofs [stG,gB];have hC:=zYK (l:=l) (zAb l R i m0.tick).2 (R++(zAb l R i m0.tick).1) (by simp; omega);rw[←hp]at hC;refine⟨_,_,zP [0,1,2,3,4] 0 (by decide) (by simp) ?_ ?_,hC⟩
  ·simp[stG,gB,zCV]
  ·simp
theorem zIG (i:Nat)(m:Gm):∀n:Nat,Gst m (zAc l i n m).2 n
 | 0=>Gst.refl _ (by omega)
 | n+1=>by simp only[zAc];exact(zIG i m n).trans (zY _) (by omega)
theorem zVZ (hl:∀x∈l,w64 x=x)(i:Nat)(m:Gm):Gst m (zFv l i m).2 3:=by
 obtain⟨h0,h1⟩:=zBd hl m (n:=2) (by omega);have hc:zBc l m≤2:=by unfold zBc; omega
 exact((zY m).trans (zIG i _ _) (jAd _)).mono (by omega)
theorem zPj (hl:∀x∈l,w64 x=x)(m:Gm):∀n:Nat,Gst m (jU l n m).2 (3*n)
 | 0=>Gst.refl _ (by omega)
 | n+1=>by simp only[jU];exact(zPj hl m n).trans (zVZ hl _ _) (by omega)
theorem zXx {i:Nat}(h:i<4):∃R,List.drop i [A.lit (.string ⟨#[65]⟩),.lit (.string ⟨#[66]⟩),.lit (.string ⟨#[67]⟩),.lit (.string ⟨#[68]⟩)]=.lit (.string (qBh.getD i ⟨#[]⟩))::R:=by
 have:i=0∨i=1∨i=2∨i=3:=by omega
 rcases this with rfl | rfl | rfl | rfl<;>exact⟨_,rfl⟩
theorem qDE {i:Nat}(h:i<2):∃R,List.drop i [A.lit (.string ⟨#[120]⟩),.lit (.string ⟨#[121]⟩)]=.lit (.string (xyT.getD i ⟨#[]⟩))::R:=by
 have:i=0∨i=1:=by omega
 rcases this with rfl | rfl<;>exact⟨_,rfl⟩
def zEl (i:Nat)(ss:List Slt):Dfn:=⟨idR ((1+i:Nat):Int),0,idR 0,qBh.getD i ⟨#[]⟩,ss,.zero,.zero,0,[]⟩
def gRB (i k:Nat):List A:=(zH (zEl i [])).take 8++[.row 6 k]++(zH (zEl i [])).drop 9
theorem zWi (hl:∀x∈l,w64 x=x):Ret prog 28 [.sl l.length (zBe l)] [] (.agg (zM (zA3 l))) []:=by
 obtain⟨v0,v1⟩:=zBd hl ⟨0,40⟩ (n:=3) (by omega);have hmN:gN l ⟨0,40⟩ 3+2=jO l:=by have:gN l ⟨0,40⟩ 3=atV l 0 3:=rfl;unfold jO;rw[←this]; omega
 have hm2:jO l≤4:=by omega
 have hm1:2≤jO l:=by omega
 have hw2:IntKind.i64.wrap (2+gN l ⟨0,40⟩ 3)=jO l:=by rw[←hmN,Int.add_comm]; exact IntWalk.i64_in _ (by omega)
 have hgp:zA3 l=⟨[⟨idR 0,⟨#[99,111,114,101]⟩,[],(jJ l).map (·.id)⟩],jJ l⟩:=rfl;have hgd:jJ l=(jU l (jO l) ⟨1,40⟩).1++(zAb l (jU l (jO l) ⟨1,40⟩).1 (gN l (jU l (jO l) ⟨1,40⟩).2 8).toNat (jU l (jO l) ⟨1,40⟩).2.tick).1:=rfl;have hRf:∀d∈(jU l (jO l) ⟨1,40⟩).1,d.slots.length≤6∧∀u∈d.slots,u.typ=tK u.typ.k∧(u.typ.k=0∨u.typ.k=1):=fun d hd=>⟨(zD4 hl d hd).few,fun u hu=>(zD4 hl d hd).typ hu⟩
 generalize jO l=many at *
 refine qS Tryz.func28 rfl qHf (rs:=[.cell 2 2 true]) (by kernel_rfl) ?_;unfold zZ7;simp -implicitDefEqProofs;refine qK (zFS 0) (by simp) (by simp[zF]) ?_;simp -implicitDefEqProofs [zF];refine jN (zBs (l:=l) ⟨0,40⟩ 3 (by omega) (by simp[Gm.Ok])) [1] (by decide) (by simp[gS,gB]) (by simp) ?_;simp -implicitDefEqProofs [gS,gB,hw2];refine jX (S:=Nat) (fun i=>[(2,.ptr 0 0),(3,.ptr 1 0),(4,.ptr 3 0),(5,int many),(6,int i)]) (fun i=>stG l (jU l i ⟨1,40⟩).2 (jU l i ⟨1,40⟩).1) (fun i=>i≤many) (fun i=>many-i) 0 (by simp)
  ((zBj (l:=3) (o:=1) rfl rfl 41 31).trans (zP [0,1,2,3,4] 0 (by decide) (by simp) (by simp[stG,gB,zCV,jU,Gm.tick]) (by simp))) ?_
 intro i hi;have hst:=zPj hl ⟨1,40⟩ i;have hcl:=zBT l ⟨1,40⟩ i;by_cases h:i<many
 ·have hstep:jU l (i+1) ⟨1,40⟩=((jU l i ⟨1,40⟩).1++[(zFv l i (jU l i ⟨1,40⟩).2).1],(zFv l i (jU l i ⟨1,40⟩).2).2):=rfl;generalize hmi:(jU l i ⟨1,40⟩).2=mi at hst hstep;generalize hki:(jU l i ⟨1,40⟩).1=Ri at hcl hstep;have hok0:(⟨1,40⟩:Gm).Ok 6000:=by simp[Gm.Ok]
  have hok1:mi.Ok 5000:=hok0.adv hst (by omega);have hwi:=zBg i (by omega);have w1:=jT (1+(i:Int)) (by omega);have w2:=jT (2*(i:Int)) (by omega);have w3:=jT (20+2*(i:Int)) (by omega);have i1:=zFS (1+(i:Int));have i0:=zFS 0;have hi4:i<4:=by omega
  have hi4':(i:Int)<4:=by omega
  obtain⟨c0,c1⟩:=zBd hl mi (n:=2) (by omega);have hcnt:1+gN l mi 2=(zBc l mi:Int):=by unfold zBc; omega
  have hcr:=zDg hl mi;have wc:IntKind.i64.wrap (1+gN l mi 2)=zBc l mi:=by rw[←hcnt]; exact IntWalk.i64_in _ (by omega)
  obtain⟨Ra,ha⟩:=zXx hi4;have hrec:(zFv l i mi).1=zEl i (zAc l i (zBc l mi) mi.tick).1:=rfl;have hrec2:(zFv l i mi).2=(zAc l i (zBc l mi) mi.tick).2:=rfl;generalize zBc l mi=cnt at *
  simp -implicitDefEqProofs [stG,gB,h,w1];refine zAo i1 (by simp) (by simp[zF]) ?_;refine zAo i0 (by simp) (by simp[zF]) ?_;simp -implicitDefEqProofs [hi4,hi4',ha,zF];refine jN (zBs (l:=l) mi 2 (by omega) (hok1.mono (by omega))) [1] (by decide) (by simp[gS,gB]) (by simp) ?_;simp -implicitDefEqProofs [gS,gB,wc];refine jX (S:=Nat) (fun k=>[(2,.ptr 0 0),(3,.ptr 1 0),(4,.ptr 3 0),(5,int many),(6,int i),(7,.ptr 5 0),(8,int cnt),(9,int k)]) (fun k=>stG l (zAc l i k mi.tick).2 Ri++[.box (gRB i k),.row false 85 11 k (yN (zAc l i k mi.tick).1)]) (fun k=>k≤cnt) (fun k=>cnt-k) 0 (by simp)
   ((zBj (l:=5) (o:=8) rfl rfl 85 11).trans (zP [0,1,2,3,4,5,6] 0 (by decide) (by simp) (by simp[stG,gB,zCV,zAc,gRB,zEl,zH,zF,Typ.zero,Exp.zero,Id.zero,Typ.k,Typ.id,Typ.kids]) (by simp))) ?_
  intro k hk;have hst2:=zIG (l:=l) i mi.tick k;have hsl:=zCg l i mi.tick k;by_cases hk2:k<cnt
  ·have hsstep:zAc l i (k+1) mi.tick=((zAc l i k mi.tick).1++[zM1 l i k (zAc l i k mi.tick).2],(zAc l i k mi.tick).2.tick):=rfl;generalize hmk:(zAc l i k mi.tick).2=mk at hst2 hsstep;generalize hss:(zAc l i k mi.tick).1=ss at hsl hsstep;have hwk:=zBg k (by omega);have w4:=jT (20+2*(i:Int)+k) (by omega);have i2:=zFS (20+2*(i:Int)+k);have hk3:k<2:=by omega
   have hk3':(k:Int)<2:=by omega
   obtain⟨Rx,hxy⟩:=qDE hk3;obtain⟨g0,g1⟩:=zBd hl mk (n:=3) (by omega);have nk:=zBs (l:=l) mk 3 (by omega) (hok1.adv ((zY mi).trans hst2 (jAd _)) (by omega));simp -implicitDefEqProofs [stG,gB,hk2,w2,w3,w4,gRB,zEl,zH];refine qR i2 (by simp) (by simp[zF]) ?_;simp -implicitDefEqProofs [hk3,hk3',hxy];refine zBq nk [1] (by decide) (by simp[gS,gB]) (by simp) (by decide) (by simp) (by simp[gS]) ?_;have hg3:gN l mk 3=0∨gN l mk 3=1∨gN l mk 3=2:=by omega
   rcases hg3 with hg | hg | hg
   ·simp -implicitDefEqProofs [gS,gB,hg,zF];refine⟨⟨by simp[maxLen]; omega,by omega⟩,?_⟩;exact zU (k+1) hk2 (by omega) (zP [0,1,2,3,4,5,6] 0 (by decide) (by simp) (by simp[stG,gB,zCV,hsstep,zEj,zDM,gRB,zEl,zH,yJ,zM1,hg,tK,zAW,yZ,zF,Typ.zero,Exp.zero,Id.zero,Typ.k,Typ.id,Typ.kids]) (by simp[hwk]))
   ·simp -implicitDefEqProofs [gS,gB,hg,zF];refine⟨⟨by simp[maxLen]; omega,by omega⟩,?_⟩;exact zU (k+1) hk2 (by omega) (zP [0,1,2,3,4,5,6] 0 (by decide) (by simp) (by simp[stG,gB,zCV,hsstep,zEj,zDM,gRB,zEl,zH,yJ,zM1,hg,tK,zAW,yZ,zF,Typ.zero,Exp.zero,Id.zero,Typ.k,Typ.id,Typ.kids]) (by simp[hwk]))
   ·simp -implicitDefEqProofs [gS,gB,hg,zF];refine⟨⟨by simp[maxLen]; omega,by omega⟩,?_⟩;exact zU (k+1) hk2 (by omega) (zP [0,1,2,3,4,5,6] 0 (by decide) (by simp) (by simp[stG,gB,zCV,hsstep,zEj,zDM,gRB,zEl,zH,yJ,zM1,hg,tK,zAW,yZ,zF,Typ.zero,Exp.zero,Id.zero,Typ.k,Typ.id,Typ.kids]) (by simp[hwk]))
  ·have hke:k=cnt:=by omega
   subst hke;generalize hmk:(zAc l i k mi.tick).2=mk at hst2 hrec2;generalize hss:(zAc l i k mi.tick).1=ss at hsl hrec;subst hsl;subst hcl;simp -implicitDefEqProofs [stG,gB];refine⟨qC [(2,.ptr 0 0),(3,.ptr 1 0),(4,.ptr 3 0),(5,int many),(6,int Ri.length),(7,.ptr 5 0)],stG l mk Ri++[.box (zH (zEl Ri.length ss))],zP [0,1,2,3,4,5] 1 (by decide) (by simp) (by simp[stG,gB,zCV,gRB,zEl,zH]) (by simp),?_⟩;simp -implicitDefEqProofs [stG,gB,zH];refine⟨⟨by simp[maxLen]; omega,by omega⟩,?_⟩;exact zU (Ri.length+1) h (by omega) (zP [0,1,2,3,4] 0 (by decide) (by simp) (by simp[stG,gB,zCV,hstep,hrec,hrec2,zGG,zJg,zH]) (by simp[hwi]))
 ·have hie:i=many:=by omega
  subst hie;simp -implicitDefEqProofs [stG,gB];have hok0:(⟨1,40⟩:Gm).Ok 6000:=by simp[Gm.Ok]
  have hB:=zYJ hl (jU l i ⟨1,40⟩).1 i hcl (by omega) (by omega) (jU l i ⟨1,40⟩).2 (hok0.adv hst (by omega)) hRf (zA3 l) (by rw[hgp,hgd]);refine⟨_,_,zP [0,1,2,3,4] 0 (by decide) (by simp) ?_ ?_,hB⟩
  ·simp[stG,gB,zCV]
  ·simp
end
end Go.Proofs.YtdnelmeboihpkaaGreatDoor
