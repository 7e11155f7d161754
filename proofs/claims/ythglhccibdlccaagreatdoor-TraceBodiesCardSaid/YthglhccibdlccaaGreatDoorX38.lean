/-
  The maker's plans.
  The reference's comparisons of nodes and definitions.
  Tweaked nodes, other names.
  The maker's plans: the types of records and variants; all plans.
  What the reference says of changes, as data: the same set.
-/
import Derived.Test.YthglhccibdlccaaGreatDoorX37
import Derived.Test.YthglhccibdlccaaGreatDoorX36
import Derived.Test.YthglhccibdlccaaGreatDoorX21
set_option linter.unusedVariables false
set_option linter.unusedSimpArgs false
namespace Go.Proofs.YthglhccibdlccaaGreatDoor
open Go.Abs
def zTe:K:=(G [M 212 10,M 4 212] kr)
def zTd:K:=(Z (G [M 196 0,kC 197 31 [(kt 196),(kc 22),(kc 4)],kBi 198 197 0 .gtr] (Y 198 (K.dops [(0,0,M 199 10),(1,0,J 200 13 5),(2,0,kd 201 33 5 1 kz2 [(0,5,(kt 200))]),(3,0,⟨none,.bslice (some 202) 9 1 1 [(.string ⟨#[]⟩)] [(0,1,(.const (.string ⟨#[111,108,100]⟩)))]⟩),(4,0,M 203 0),(5,0,kC 204 31 [(kt 203),(kc 23),(kc 6)]),(6,0,J 205 6 5),(7,0,J 206 13 5),(8,0,kC 207 73 [(kt 204),(kt 205),(kt 206)]),(9,0,M 208 12),(10,0,⟨none,.build (some 209) kz3 [(0,1,(kc 5)),(1,1,(.const (.string ⟨#[99]⟩))),(2,1,(kt 201)),(3,1,(kt 202)),(5,5,(kt 207)),(10,1,(kt 208))]⟩),(11,0,kd 210 88 11 1 kz3 [(0,11,(kt 209))]),(12,0,kP 211 88 11 160 199 210),(13,0,M 10 211)]) ks)) (K.wk zTe))
def zTc:K:=(G [M 178 0,J 179 6 5,kC 180 75 [(kt 178),(kc 18),(kt 179)],M 177 180,kE 181 177 0,kE 182 177 1,M 17 181,M 18 182] (Z (K.dops [(0,0,M 183 10),(1,0,M 184 17),(2,0,⟨none,.bslice (some 185) 9 1 2 [(.string ⟨#[]⟩),(.string ⟨#[]⟩)] [(0,1,(.const (.string ⟨#[97]⟩))),(1,1,(.const (.string ⟨#[98]⟩)))]⟩),(3,0,M 186 18),(4,0,M 187 0),(5,0,kC 188 31 [(kt 187),(kc 21),(kc 6)]),(6,0,J 189 6 5),(7,0,J 190 16 5),(8,0,kC 191 73 [(kt 188),(kt 189),(kt 190)]),(9,0,M 192 12),(10,0,⟨none,.build (some 193) kz3 [(0,1,(kc 4)),(1,1,(.const (.string ⟨#[116]⟩))),(2,1,(kt 184)),(3,1,(kt 185)),(4,1,(kt 186)),(5,5,(kt 191)),(10,1,(kt 192))]⟩),(11,0,kd 194 88 11 1 kz3 [(0,11,(kt 193))]),(12,0,kP 195 88 11 160 183 194),(13,0,M 10 195)]) (K.wk zTd)))
def zTb:K:=(G [M 134 0,M 135 1,kC 136 31 [(kt 134),(kc 15),(kt 135)],M 15 136] (Z (K.dops [(0,0,M 137 0),(1,1,kC 138 31 [(kt 137),(kc 16),(kc 6)]),(2,1,J 139 6 5),(3,1,J 140 6 5),(4,1,kC 141 73 [(kt 138),(kt 139),(kt 140)]),(5,0,kZ 16 kz2),(6,0,S 16 141 5)]) (G [M 142 10,M 143 8,⟨none,.bslice (some 144) 9 1 2 [(.string ⟨#[]⟩),(.string ⟨#[]⟩)] [(0,1,(.const (.string ⟨#[97]⟩))),(1,1,(.const (.string ⟨#[98]⟩)))]⟩,J 145 16 5,M 146 15,⟨none,.build (some 147) kz3 [(0,1,(kc 2)),(1,1,(.const (.string ⟨#[102]⟩))),(2,1,(kt 143)),(3,1,(kt 144)),(5,5,(kt 145)),(10,1,(kt 146))]⟩,kd 148 88 11 1 kz3 [(0,11,(kt 147))],kP 149 88 11 160 142 148,M 10 149] (Z (G [M 150 5] (Y 150 (K.dops [(0,0,M 151 10),(1,0,J 152 13 5),(2,0,J 153 7 5),(3,0,kd 154 33 5 2 [ki,ki,ki,ki,kl,ki,ki,ki,ki,kl] [(0,5,(kt 152)),(5,5,(kt 153))]),(4,0,⟨none,.bslice (some 155) 9 1 2 [(.string ⟨#[]⟩),(.string ⟨#[]⟩)] [(0,1,(.const (.string ⟨#[115]⟩))),(1,1,(.const (.string ⟨#[101]⟩)))]⟩),(5,0,M 156 1),(6,0,kBi 157 156 3 .add),(7,0,kC 158 32 [(kt 157)]),(8,0,kC 159 72 [(kt 158)]),(9,0,M 160 12),(10,0,⟨none,.build (some 161) kz3 [(0,1,(kc 3)),(1,1,(.const (.string ⟨#[115,116,101,112]⟩))),(2,1,(kt 154)),(3,1,(kt 155)),(5,5,(kt 159)),(10,1,(kt 160))]⟩),(11,0,kd 162 88 11 1 kz3 [(0,11,(kt 161))]),(12,0,kP 163 88 11 160 151 162),(13,0,M 10 163)]) (K.dops [(0,0,M 164 10),(1,0,J 165 7 5),(2,0,kd 166 33 5 1 kz2 [(0,5,(kt 165))]),(3,0,⟨none,.bslice (some 167) 9 1 1 [(.string ⟨#[]⟩)] [(0,1,(.const (.string ⟨#[101]⟩)))]⟩),(4,0,
 M 168 0),(5,0,kC 169 31 [(kt 168),(kc 17),(kc 6)]),(6,0,J 170 6 5),(7,0,J 171 7 5),(8,0,kC 172 73 [(kt 169),(kt 170),(kt 171)]),(9,0,M 173 12),(10,0,⟨none,.build (some 174) kz3 [(0,1,(kc 2)),(1,1,(.const (.string ⟨#[103]⟩))),(2,1,(kt 166)),(3,1,(kt 167)),(5,5,(kt 172)),(10,1,(kt 173))]⟩),(11,0,kd 175 88 11 1 kz3 [(0,11,(kt 174))]),(12,0,kP 176 88 11 160 164 175),(13,0,M 10 176)]))) (K.wk zTc)))))
def zTa:K:=(Z (K.dops [(0,0,M 117 0),(1,0,kC 118 31 [(kt 117),(kc 12),(kc 6)]),(2,0,J 119 6 5),(3,0,J 120 7 5),(4,0,kC 121 73 [(kt 118),(kt 119),(kt 120)]),(5,9,⟨none,.brow (some 122) 33 5 1 kz2 [(0,5,(kt 121))]⟩),(6,0,M 8 122)]) (Z (G [M 123 0,kC 124 31 [(kt 123),(kc 13),(kc 2)],kQi 125 124 1 false] (Y 125 (K.dops [(0,0,M 126 8),(1,0,M 127 0),(2,0,kC 128 31 [(kt 127),(kc 14),(kc 6)]),(3,0,J 129 6 5),(4,0,J 130 7 5),(5,0,kC 131 73 [(kt 128),(kt 129),(kt 130)]),(6,0,kd 132 33 5 1 kz2 [(0,5,(kt 131))]),(7,0,kP 133 33 5 56 126 132),(8,0,M 8 133)]) ks)) (K.wk zTb)))
def zTg:K:=(G [M 69 10,M 70 8,⟨none,.bslice (some 71) 9 1 3 zUM [(0,1,(.const (.string ⟨#[84,105,99,107]⟩))),(1,1,(.const (.string ⟨#[80,117,115,104]⟩))),(2,1,(.const (.string ⟨#[83,101,116]⟩)))]⟩,⟨none,.build (some 72) kz3 [(0,1,(kc 1)),(1,1,(.const (.string ⟨#[69,118,101,110,116]⟩))),(2,1,(kt 70)),(3,1,(kt 71))]⟩,kd 73 88 11 1 kz3 [(0,11,(kt 72))],kP 74 88 11 160 69 73,M 10 74] (G [M 75 1,kBi 76 75 1 .sub,M 12 76] (G [J 77 6 5,kZ 13 kz2,S 13 77 5] (Z (G [M 78 5] (Y 78 (G [kb 79 kz2 [],⟨none,.brow (some 80) 33 5 1 kz2 [(0,5,(kt 79))]⟩,M 8 80] (Z (G [kMi 14 0] (K.block 4 (K.loop (Z (G [M 81 14,M 82 0,kC 83 31 [(kt 82),(kc 9),(kc 3)],kB 84 81 83 .lss] (Y 84 ks (K.exit 4))) (Z (K.block 5 (K.dops [(0,0,M 87 8),(1,0,M 88 0),(2,0,M 89 14),(3,0,⟨none,.bin (some 90) .add (kc 10) (kt 89)⟩),(4,0,kC 91 31 [(kt 88),(kt 90),(kc 4)]),(5,0,J 92 6 5),(6,0,J 93 6 5),(7,0,kC 94 73 [(kt 91),(kt 92),(kt 93)]),(8,0,kd 95 33 5 1 kz2 [(0,5,(kt 94))]),(9,0,kP 96 33 5 56 87 95),(10,0,M 8 96)])) (K.ops [M 85 14,kBi 86 85 1 .add,M 14 86])))))) (Z (K.wk (K.ops [M 97 1,kBi 98 97 2 .add,kC 99 32 [(kt 98)],kC 100 72 [(kt 99)],S 13 100 5])) (G [M 101 10,M 102 8,⟨none,.bslice (some 103) 9 1 3 zUM [(0,1,(.const (.string ⟨#[99,111,117,110,116]⟩))),(1,1,(.const (.string ⟨#[108,111,103]⟩))),(2,1,(.const (.string ⟨#[109,111,114,101]⟩)))]⟩,⟨none,.build (some 104) kz3 [(0,1,(kc 0)),(1,1,(.const (.string ⟨#[83,116,97,116,101]⟩))),(2,1,(kt 102)),(3,1,(kt 103))]⟩,kd 105 88 11 1 kz3 [(0,11,(kt 104))],kP 106 88 11 160 101 105,
 M 10 106] (K.dops [(0,0,M 107 10),(1,0,J 108 13 5),(2,0,kb 109 kz2 []),(3,0,kC 110 74 [(kt 109)]),(4,0,kb 111 kz2 []),(5,0,kd 112 33 5 3 qN8 [(0,5,(kt 108)),(5,5,(kt 110)),(10,5,(kt 111))]),(6,0,⟨none,.bslice (some 113) 9 1 3 zUM [(0,1,(.const (.string ⟨#[115,116,97,116,101]⟩))),(1,1,(.const (.string ⟨#[115,105,103,110,97,108,115]⟩))),(2,1,(.const (.string ⟨#[110,101,120,116]⟩)))]⟩),(7,0,⟨none,.build (some 114) kz3 [(0,1,(kc 0)),(1,1,(.const (.string ⟨#[79,117,116]⟩))),(2,1,(kt 112)),(3,1,(kt 113))]⟩),(8,0,kd 115 88 11 1 kz3 [(0,11,(kt 114))]),(9,0,kP 116 88 11 160 107 115),(10,0,M 10 116)]))))) ks)) (K.wk zTa)))))
def zTf:K:=(G [M 46 8,⟨none,.bslice (some 47) 9 1 3 zUM [(0,1,(.const (.string ⟨#[120]⟩))),(1,1,(.const (.string ⟨#[121]⟩))),(2,1,(.const (.string ⟨#[122]⟩)))]⟩,⟨none,.build (some 48) kz3 [(0,1,(kc 0)),(1,1,(.const (.string ⟨#[80,111,105,110,116]⟩))),(2,1,(kt 46)),(3,1,(kt 47))]⟩,⟨none,.brow (some 49) 88 11 1 kz3 [(0,11,(kt 48))]⟩,M 10 49] (G [kb 50 kz2 [],⟨none,.brow (some 51) 33 5 1 kz2 [(0,5,(kt 50))]⟩,M 8 51] (Z (G [kMi 11 0] (K.block 2 (K.loop (Z (G [M 52 11,M 53 0,kC 54 31 [(kt 53),(kc 6),(kc 2)],⟨none,.bin (some 55) .add (kc 1) (kt 54)⟩,kB 56 52 55 .lss] (Y 56 ks (K.exit 2))) (Z (K.block 3 (K.dops [(0,0,M 59 8),(1,0,M 60 0),(2,0,M 61 11),(3,0,⟨none,.bin (some 62) .add (kc 7) (kt 61)⟩),(4,0,kC 63 31 [(kt 60),(kt 62),(kc 4)]),(5,0,J 64 6 5),(6,0,J 65 6 5),(7,0,kC 66 73 [(kt 63),(kt 64),(kt 65)]),(8,0,kd 67 33 5 1 kz2 [(0,5,(kt 66))]),(9,0,kP 68 33 5 56 59 67),(10,0,M 8 68)])) (K.ops [M 57 11,kBi 58 57 1 .add,M 11 58])))))) (K.wk zTg))))
def qEJ:K:=G [kMn 4] (G [M 19 0,kC 20 31 [(kt 19),(kc 1),(kc 4)],kBi 21 20 0 .gtr,M 5 21] (G [M 22 1,kC 23 32 [(kt 22)],kC 24 72 [(kt 23)],kZ 6 kz2,S 6 24 5] (G [M 25 1,kBi 26 25 1 .add,kC 27 32 [(kt 26)],kC 28 72 [(kt 27)],kZ 7 kz2,S 7 28 5] (G [kMn 8] (Z (G [kMi 9 0] (K.block 0 (K.loop (Z (G [M 29 9,M 30 0,kC 31 31 [(kt 30),(kc 2),(kc 3)],⟨none,.bin (some 32) .add (kc 1) (kt 31)⟩,kB 33 29 32 .lss] (Y 33 ks (K.exit 0))) (Z (K.block 1 (K.dops [(0,0,M 36 8),(1,0,M 37 0),(2,0,M 38 9),(3,0,⟨none,.bin (some 39) .add (kc 3) (kt 38)⟩),(4,0,kC 40 31 [(kt 37),(kt 39),(kc 3)]),(5,0,J 41 6 5),(6,0,J 42 6 5),(7,0,kC 43 73 [(kt 40),(kt 41),(kt 42)]),(8,0,kd 44 33 5 1 kz2 [(0,5,(kt 43))]),(9,0,kP 45 33 5 56 36 44),(10,0,M 8 45)])) (K.ops [M 34 9,kBi 35 34 1 .add,M 9 35])))))) (K.wk zTf))))))
def qN0:Nat→Option (List (Nat×Nat)):=fun r=>match r with | 27=>some [(0,0),(1,0),(2,0),(3,0),(4,0),(5,9),(6,0)] | _=>none
theorem qLp:qC Tryz.prog Tryz.f33.ntmps qN0 (Tryz.f33.body.getD .skip)=some qEJ.erase:=by kernel_rfl
@[simp] theorem qMk:zA Tryz.prog 33=true:=by kernel_rfl
structure Pln where
 kind:Int
 name:ByteArray
 types:List Typ
 names:List ByteArray
 most:List Int
 out:Typ
 mod:Int
def zAI (p:Pln):List A:=[int p.kind,.lit (.string p.name),.sl p.types.length (jJ p.types),.sl p.names.length (yT p.names),.sl p.most.length (yA p.most),int p.out.k,int p.out.id.a,int p.out.id.b,int p.out.id.c,.sl p.out.kids.length (jJ p.out.kids),int p.mod]
theorem zGd (p:Pln):qW (zAI p):=by have h1:=yJ p.types;have h2:=zBd p.names;have h3:=yJ p.out.kids;exact⟨by simp[zAI,h1.1,h2.1,h3.1],fun rf g=>by simp[zAI,h1.2,h2.2,h3.2]⟩
def yI (l:List Pln):List A:=l.flatMap zAI
theorem zGE (l:List Pln):qW (yI l):=zAE zGd l
@[simp] theorem zZs (l:List Pln):qV (yI l)=yI l:=(zGE l).1
@[simp] theorem qDH {rf g}(l:List Pln):vwL rf g (yI l)=yI l:=(zGE l).2 _ _
@[simp] theorem qA1:yI []=[]:=rfl
theorem zBN (x:Pln)(l:List Pln):yI (x::l)=zAI x++yI l:=rfl
theorem zC2 (l l':List Pln):yI (l++l')=yI l++yI l':=by simp only[yI,List.flatMap_append]
@[simp] theorem qA0 (l:List Pln):(yI l).length=l.length*11:=by rw[yI,zBl (k:=11) (fun _=>rfl)]
theorem zMU {l:List Pln}{i:Nat}(h:i<l.length):(yI l).drop (i*11)=zAI l[i]++yI (l.drop (i+1)):=by rw[yI,yI,zBQ (k:=11) (fun _=>rfl) h]
@[simp] theorem qG5 (d:Pln):(zAI d).length=11:=rfl
@[simp] theorem qG4 (d:Pln):(zAI d).take 11=zAI d:=List.take_of_length_le (Nat.le_refl _)
@[simp] theorem qCA (d:Pln)(l:List A):(zAI d++l).take 11=zAI d:=by rw[List.take_append_of_le_length (by simp)]; exact List.take_of_length_le (by simp)
@[simp] theorem qDg (d:Pln):qV (zAI d)=zAI d:=(zGd d).1
@[simp] theorem qKu (d:Pln) {rf g}:vwL rf g (zAI d)=zAI d:=(zGd d).2 _ _
def tyL (l:List Int)(at_ most n:Int)(one:Typ):List Typ:=(List.range n.toNat).map fun(i:Nat)=>zCg (atV l (at_+i) most) one one
section
variable (l:List Int)(mods:Int)
def zDF:Bool:=decide (0<atV l 1 4)
def qJ:Typ:=zAy (idR mods)
def zAV:Typ:=zAy (idR (mods+1))
def zCK:Typ:=if zDF l then zAy (idR (mods+2)) else qJ mods
def zPV:Typ:=zCg (atV l 16 6) (qJ mods) (qJ mods)
def zAP:Pln:=⟨0,⟨#[80,111,105,110,116]⟩,tyL l 3 3 (1+atV l 2 3) (qJ mods),[⟨#[120]⟩,⟨#[121]⟩,⟨#[122]⟩],[],jG,0⟩
def zBh:Pln:=⟨1,⟨#[69,118,101,110,116]⟩,jG::tyL l 7 4 (1+atV l 6 2) (qJ mods),[⟨#[84,105,99,107]⟩,⟨#[80,117,115,104]⟩,⟨#[83,101,116]⟩],[],jG,0⟩
def zCw:Pln:=⟨0,⟨#[83,116,97,116,101]⟩,jG::tyL l 10 4 (atV l 9 3) (qJ mods),[⟨#[99,111,117,110,116]⟩,⟨#[108,111,103]⟩,⟨#[109,111,114,101]⟩],[],jG,0⟩
def zII:Pln:=⟨0,⟨#[79,117,116]⟩,[zAy (idR (mods+2)),jH jG,jG],[⟨#[115,116,97,116,101]⟩,⟨#[115,105,103,110,97,108,115]⟩,⟨#[110,101,120,116]⟩],[],jG,0⟩
def zEm:List Typ:=zCg (atV l 12 6) (qJ mods) (zAV mods)::(if atV l 13 2=1 then [zCg (atV l 14 6) (qJ mods) (zAV mods)] else [])
def pF:Pln:=⟨2,⟨#[102]⟩,zEm l mods,[⟨#[97]⟩,⟨#[98]⟩],[],zPV l mods,atV l 15 mods⟩
def zHg:Pln:=⟨3,⟨#[115,116,101,112]⟩,[zAy (idR (mods+2)),zAV mods],[⟨#[115]⟩,⟨#[101]⟩],[],zAy (idR (mods+3)),mods-1⟩
def pG:Pln:=⟨2,⟨#[103]⟩,[zAV mods],[⟨#[101]⟩],[],zCg (atV l 17 6) (qJ mods) (zAV mods),mods-1⟩
def pT:Pln:=⟨4,⟨#[116]⟩,(inV l 18 (qJ mods)).map (·.1),[⟨#[97]⟩,⟨#[98]⟩],(inV l 18 (qJ mods)).map (·.2),zCg (atV l 21 6) (qJ mods) (zPV l mods),mods-1⟩
def pC:Pln:=⟨5,⟨#[99]⟩,[zCK l mods],[⟨#[111,108,100]⟩],[],zCg (atV l 23 6) (qJ mods) (zCK l mods),mods-1⟩
def plE:List Pln:=if 0<atV l 22 4 then [pC l mods] else []
def plD:List Pln:=pT l mods::plE l mods
def plC:List Pln:=(if zDF l then zHg mods else pG l mods)::plD l mods
def plB:List Pln:=pF l mods::plC l mods
def zW:List Pln:=[zAP l mods,zBh l mods]++(if zDF l then [zCw l mods,zII mods] else [])++plB l mods
end
abbrev zPj (L:List Pln):=fin [RS.slot 4] (zHy 0 (.sl L.length (yI L)) [])
theorem zZ8 (L:List Pln):wpK Tryz.prog 0 zTe (zPj L) (qR [(10,.sl L.length (yI L))]) []:=by unfold zTe;simp;exact zC 0 (by simp)
theorem qHV (l:List Int)(mods:Int)(hm:1≤mods)(hm2:mods≤2)(hl:∀x∈l,w64 x=x)(L:List Pln)(hL:L.length≤20) :
 wpK Tryz.prog 0 zTd (zPj (L++plE l mods)) (qR [(0,.sl l.length (yA l)),(6,.ptr 0 0),(10,.row 2 L.length),(12,int (mods-1)),(13,.ptr 1 0)])
  [.box (zB (qJ mods)),.box (zB (zCK l mods)),.row false 88 11 L.length (yI L)]:=by
 have h0:=zBw l 22 4 (by omega);have h1:=zBw l 23 6 (by omega);obtain⟨r0,r0'⟩:=jY (i:=23) hl (most:=6) (by omega);have h2:=zLH (atV l 23 6) (qJ mods) (zCK l mods) (IntWalk.i64_in _ (by omega));unfold zTd;simp;refine zQ h0 (by simp) (by simp) ?_;by_cases h:0<atV l 22 4
 ·simp[h,zB];refine qO h1 (by simp) (by simp) ?_;simp[zB];refine qO h2 (by simp[zB]) (by simp) ?_;simp[zB];refine⟨⟨by simp[maxLen]; omega,by omega⟩,?_⟩;exact⟨_,_,zR [] 1 (by decide) (by simp) (by simp) (by simp[plE,h,pC,zC2,zBN,zAI,qG,zB,zBc]),zZ8 _⟩
 ·simp[h];exact⟨_,_,zR [] 1 (by decide) (by simp) (by simp) (by simp[plE,h]),zZ8 _⟩
theorem zBV (l:List Int)(i m:Int)(hm:0<m)(hl:∀x∈l,w64 x=x)(hm2:m≤1000)(a b:Typ):Ret Tryz.prog 73 [int (atV l i m),.agg (zB a),.agg (zB b)] [] (.agg (zB (zCg (atV l i m) a b))) []:=by obtain⟨r0,r0'⟩:=jY (i:=i) hl (most:=m) hm;exact zLH _ _ _ (IntWalk.i64_in _ (by omega))
theorem qHU (l:List Int)(mods:Int)(hm:1≤mods)(hm2:mods≤2)(hl:∀x∈l,w64 x=x)(L:List Pln)(hL:L.length≤19) :
 wpK Tryz.prog 0 zTc (zPj (L++plD l mods)) (qR [(0,.sl l.length (yA l)),(6,.ptr 0 0),(10,.row 3 L.length),(12,int (mods-1)),(13,.ptr 1 0),(16,.ptr 2 0)])
  [.box (zB (qJ mods)),.box (zB (zCK l mods)),.box (zB (zPV l mods)),.row false 88 11 L.length (yI L)]:=by
 have h0:=qBl l 18 (qJ mods) (by omega) (by omega) hl;have h1:=zBw l 21 6 (by omega);have h2:=zBV l 21 6 (by omega) hl (by omega) (qJ mods) (zPV l mods);have hD:=qHV l mods hm hm2 hl (L++[pT l mods]) (by simp; omega);rw[List.append_assoc]at hD;unfold zTc;simp[zB];refine zQ h0 (by simp[zB]) (by simp[inR,zO7,zI8]) ?_;simp[inR,zO7,zI8];refine qO h1 (by simp) (by simp) ?_;simp[zB];refine qO h2 (by simp[zB]) (by simp) ?_;simp[zB];refine⟨⟨by simp[maxLen]; omega,by omega⟩,?_⟩;refine⟨_,_,zR [0,1,3] 0 (by decide) (by simp) ?_ (by simp),hD⟩;simp[zB,zC2,zBN,zAI,pT,zBe]
theorem qHT (l:List Int)(mods:Int)(hm:1≤mods)(hm2:mods≤2)(hl:∀x∈l,w64 x=x)(L:List Pln)(hL:L.length≤17) :
 wpK Tryz.prog 0 zTb (zPj (L++plB l mods)) (qR [(0,.sl l.length (yA l)),(1,int mods),(5,bl (zDF l)),(6,.ptr 0 0),(7,.ptr 1 0),(8,.sl (zEm l mods).length (jJ (zEm l mods))),(10,.row 3 L.length),(12,int (mods-1)),(13,.ptr 2 0)])
  [.box (zB (qJ mods)),.box (zB (zAV mods)),.box (zB (zCK l mods)),.row false 88 11 L.length (yI L)]:=by
 have w3:IntKind.i64.wrap (mods+3)=mods+3:=IntWalk.i64_in _ (by omega);have h0:=zBw l 15 mods (by omega);have h1:=zBw l 16 6 (by omega);have h2:=zBV l 16 6 (by omega) hl (by omega) (qJ mods) (qJ mods);have h3:=zED (mods+3);have h4:=zL6 (idR (mods+3));have h5:=zBw l 17 6 (by omega);have h6:=zBV l 17 6 (by omega) hl (by omega) (qJ mods) (zAV mods);have hC:=qHU l mods hm hm2 hl (L++[pF l mods]++[if zDF l then zHg mods else pG l mods]) (by simp; omega);rw[List.append_assoc,List.append_assoc]at hC;unfold zTb;simp;refine zQ h0 (by simp) (by simp) ?_;simp;refine zQ0 h1 [] (by decide) (by simp) (by simp) (by simp) ?_;simp[zB];refine zQ0 h2 [] (by decide) (by simp) (by simp[zB]) (by simp) ?_;simp[zB];refine⟨⟨by simp[maxLen]; omega,by omega⟩,?_⟩;cases hh:zDF l
 ·simp[zB];refine qO h5 (by simp) (by simp) ?_;simp[zB];refine qO h6 (by simp[zB]) (by simp) ?_;simp[zB];refine⟨⟨by simp[maxLen]; omega,by omega⟩,?_⟩;refine⟨_,_,zR [0,2,4,3] 0 (by decide) (by simp) ?_ (by simp),hC⟩;simp[zB,zC2,zBN,zAI,pF,pG,hh,zPV,zBc,zBe,qG]
 ·simp[zB,w3];refine qO h3 (by simp) (by simp) ?_;simp[zB];refine qO h4 (by simp[qF]) (by simp) ?_;simp[zB];refine⟨⟨by simp[maxLen]; omega,by omega⟩,?_⟩;refine⟨_,_,zR [0,2,4,3] 0 (by decide) (by simp) ?_ (by simp),hC⟩;simp[zB,zC2,zBN,zAI,pF,zHg,hh,zPV,zCK,zBc,zBe,qG]
theorem zZ7 (l:List Int)(mods:Int)(hm:1≤mods)(hm2:mods≤2)(hl:∀x∈l,w64 x=x)(L:List Pln)(hL:L.length≤17) :
 wpK Tryz.prog 0 zTa (zPj (L++plB l mods)) (qR [(0,.sl l.length (yA l)),(1,int mods),(5,bl (zDF l)),(6,.ptr 0 0),(7,.ptr 1 0),(10,.row 3 L.length),(12,int (mods-1)),(13,.ptr 2 0)])
  [.box (zB (qJ mods)),.box (zB (zAV mods)),.box (zB (zCK l mods)),.row false 88 11 L.length (yI L)]:=by
 have h0:=zBw l 12 6 (by omega);have h1:=zBV l 12 6 (by omega) hl (by omega) (qJ mods) (zAV mods);have h2:=zBw l 13 2 (by omega);have h3:=zBw l 14 6 (by omega);have h4:=zBV l 14 6 (by omega) hl (by omega) (qJ mods) (zAV mods);have hB:=qHT l mods hm hm2 hl L hL;unfold zTa;simp;refine qO h0 (by simp) (by simp) ?_;simp[zB];refine qO h1 (by simp[zB]) (by simp) ?_;simp[zB];refine zQ h2 (by simp) (by simp) ?_;by_cases h:atV l 13 2=1
 ·simp[h,zB];refine qO h3 (by simp) (by simp) ?_;simp[zB];refine qO h4 (by simp[zB]) (by simp) ?_;simp[zB,maxLen];refine⟨_,_,zR [0,1,2,3] 1 (by decide) (by simp) (by simp[zB]) ?_,hB⟩;simp[zEm,h,qG,zB]
 ·simp[h,zB];refine⟨_,_,zR [0,1,2,3] 1 (by decide) (by simp) (by simp[zB]) ?_,hB⟩;simp[zEm,h,qG,zB]
@[simp] theorem qO0:zA Tryz.prog 53=true:=by kernel_rfl
@[simp] theorem qMf:zA Tryz.prog 54=true:=by kernel_rfl
@[simp] theorem qGp:zA Tryz.prog 52=true:=by kernel_rfl
def twN (e:Exp)(n:Int):Exp:=.mk e.id e.k n e.ref e.typ e.kids e.names
def twK (e:Exp)(ks:List Exp):Exp:=.mk e.id e.k e.n e.ref e.typ ks e.names
def zM7 (e:Exp)(x:Int):Exp :=
 if e.k=0 then twN e (IntKind.i64.wrap (x.tmod 9-4))
 else if e.k=1 then twN e (IntKind.i64.wrap (1-e.n))
 else if e.k=4 then (if e.n≤4 then twN e (x.tmod 5) else if e.n=7∨e.n=8 then twN e (IntKind.i64.wrap (15-e.n)) else e)
 else if e.k=5 then (match e.kids with
  | [a,b,c]=>twK e [a,c,b]
  | _=>e)
 else e
mutual
def zFm:Exp→Int→Int→Exp×Int
 | .mk i k n r t ks ns,a,x=>if a=0 then (zM7 (.mk i k n r t ks ns) x,-1) else (.mk i k n r t (zCz ks (a-1) x).1 ns,(zCz ks (a-1) x).2)
def zCz:List Exp→Int→Int→List Exp×Int
 | [],a,_=>([],a)
 | e::l,a,x=>if 0≤a then ((zFm e a x).1::(zCz l (zFm e a x).2 x).1,(zCz l (zFm e a x).2 x).2) else (e::(zCz l a x).1,(zCz l a x).2)
end
theorem zPX {a x:Int}(h:a<0):∀l:List Exp,zCz l a x=(l,a)
 | []=>rfl
 | e::l=>by simp only[zCz,if_neg (show ¬0≤a by omega),zPX h l]
theorem zKr (x:Int):∀(l:List Exp) (a:Int),(zCz l a x).1.length=l.length
 | [],_=>rfl
 | e::l,a=>by simp only[zCz];split<;>simp[zKr x l]
def zRm (e:Exp):Prop:=∀z∈zBH e,z.k=5→z.kids.length=3
theorem zKR {z k:Exp}(hz:z∈zBH k):∀{l:List Exp},k∈l→z∈zCn l
 | y::l,h=>by
  simp only[zCn,List.mem_append];rcases List.mem_cons.1 h with rfl | h
  ·exact .inl hz
  ·exact .inr (zKR hz h)
theorem zRm.kid {e k:Exp}(h:zRm e)(hk:k∈e.kids):zRm k:=fun z hz=>h z (by rw[zJd]; exact List.mem_cons_of_mem _ (zKR hz hk))
theorem zRm.here {e:Exp}(h:zRm e)(hk:e.k=5):∃a b c,e.kids=[a,b,c]:=by
 have:=h e (by rw[zJd]; exact List.mem_cons_self ..) hk
 match hh:e.kids,this with
 | [a,b,c],_=>exact⟨a,b,c,rfl⟩
theorem zN7:∀(ks:List Exp),ks.length≤(jA ks).length
 | []=>Nat.le_refl _
 | e::ks=>by
  have:=zN7 ks;have h1:1≤(tmps e).length:=by rw[zAW,List.length_append,List.length_singleton]; omega
  simp only[jA,List.length_append,List.length_cons];omega
theorem zPQ {e:Exp}(h:(tmps e).length≤1000000):e.kids.length≤1000000∧∀k∈e.kids,(tmps k).length≤1000000:=by rw[zAW,List.length_append,List.length_singleton]at h;have:=zN7 e.kids;exact⟨by omega,fun k hk=>by have:=zHq hk; omega⟩
mutual
def qH1 (s:ByteArray):Exp→Exp
 | .mk i k n r t ks ns=>.mk i k n r t (qH2 s ks) (ns.map fun _=>s)
def qH2 (s:ByteArray):List Exp→List Exp
 | []=>[]
 | e::l=>qH1 s e::qH2 s l
end
mutual
def Exp.few:Exp→Prop
 | .mk _ _ _ _ _ ks ns=>ns.length≤1000000∧ks.length≤1000000∧zRI ks
def zRI:List Exp→Prop
 | []=>True
 | e::l=>e.few∧zRI l
end
theorem zNj:∀l:List Exp,zRI l↔∀e∈l,e.few
 | []=>by simp[zRI]
 | e::l=>by simp[zRI,zNj l]
theorem zDx {s:ByteArray}{l:List ByteArray}:yT (s::l)=.lit (.string s)::yT l:=rfl
theorem zFE (l:List Int)(at_ most:Int)(n:Nat)(one:Typ):(tyL l at_ most n one).length=n:=by simp[tyL]
theorem zKu (l:List Int)(at_ most:Int){n i:Nat}(h:i<n)(one:Typ):(tyL l at_ most n one).take (i+1)=(tyL l at_ most n one).take i++[zCg (atV l (at_+i) most) one one]:=by
 have hi:i<(tyL l at_ most n one).length:=by rw[zFE]; exact h
 rw[List.take_succ_eq_append_getElem hi]
 congr 2
 simp[tyL]
theorem zFo (l:List Int)(at_ most:Int){n i:Nat}(h:i≤n)(one:Typ):((tyL l at_ most n one).take i).length=i:=by rw[List.length_take,zFE]; omega
theorem zM8 (l:List Int)(at_ most:Int)(n:Nat)(one:Typ):(tyL l at_ most n one).take n=tyL l at_ most n one:=List.take_of_length_le (by rw[zFE]; exact Nat.le_refl _)
set_option maxHeartbeats 1000000 in
theorem qHX (l:List Int)(mods:Int)(hm:1≤mods)(hm2:mods≤2)(hl:∀x∈l,w64 x=x) :
 wpK Tryz.prog 0 zTg (zPj (zW l mods)) (qR [(0,.sl l.length (yA l)),(1,int mods),(5,bl (zDF l)),(6,.ptr 0 0),(7,.ptr 1 0),(8,.sl (zBh l mods).types.length (jJ (zBh l mods).types)),(10,.row 2 1)])
  [.box (zB (qJ mods)),.box (zB (zAV mods)),.row false 88 11 1 (zAI (zAP l mods))]:=by
 have w1:IntKind.i64.wrap (mods-1)=mods-1:=IntWalk.i64_in _ (by omega);have w2:IntKind.i64.wrap (mods+2)=mods+2:=IntWalk.i64_in _ (by omega);have h0:=zBw l 9 3 (by omega);obtain⟨r0,r0'⟩:=jY (i:=9) hl (most:=3) (by omega);obtain⟨N,hN⟩:∃N:Nat,(N:Int)=atV l 9 3:=⟨(atV l 9 3).toNat,by omega⟩;unfold zTg;cases hh:zDF l
 ·have hA:=zZ7 l mods hm hm2 hl [zAP l mods,zBh l mods] (by simp);have hpl:[zAP l mods,zBh l mods]++plB l mods=zW l mods:=by simp[zW,hh]
  rw[hpl,hh]at hA;simp[w1];refine⟨by simp[maxLen],?_⟩;refine⟨_,_,zR [0,1,3,2] 0 (by decide) (by simp) ?_ (by simp),hA⟩;simp[zB,zBN,zAI,zBh,jG,Id.zero,zCK,hh,zDx]
 ·have hA:=zZ7 l mods hm hm2 hl [zAP l mods,zBh l mods,zCw l mods,zII mods] (by simp);have hpl:[zAP l mods,zBh l mods,zCw l mods,zII mods]++plB l mods=zW l mods:=by simp[zW,hh]
  rw[hpl,hh]at hA;simp[w1];refine⟨by simp[maxLen],?_⟩;refine qY (S:=Nat) (fun i=>[(0,.sl l.length (yA l)),(1,int mods),(5,bl true),(6,.ptr 0 0),(7,.ptr 1 0),(8,.row 4 (1+i)),(10,.row 2 2),(12,int (mods-1)),(13,.ptr 3 0),(14,int i)])
   (fun i=>[.box (zB (qJ mods)),.box (zB (zAV mods)),.row false 88 11 2 (zAI (zAP l mods)++zAI (zBh l mods)),.box (zB (qJ mods)),.row false 33 5 (1+i) (zB jG++jJ ((tyL l 10 4 N (qJ mods)).take i))]) (fun i=>i≤N) (fun i=>N-i) 0 (by simp)
   (zR [0,1,2,3,4] 0 (by decide) (by simp) (by simp[zB,zAI,zBh,jG,Id.zero,zDx]) (by simp)) ?_
  intro i hi;by_cases h:i<N
  ·have h1:=zBw l (10+i) 4 (by omega);have h2:=zBV l (10+i) 4 (by omega) hl (by omega) (qJ mods) (qJ mods);have hlt:(i:Int)<atV l 9 3:=by omega
   have v1:IntKind.i64.wrap (10+(i:Int))=10+i:=IntWalk.i64_in _ (by omega);have v2:IntKind.i64.wrap ((i:Int)+1)=i+1:=IntWalk.i64_in _ (by omega);have hst:=zKu l 10 4 h (qJ mods);have hsl:=zFo l 10 4 hi (qJ mods);simp;refine zQ h0 (by simp) (by simp) ?_;simp[hlt,v1];refine qO h1 (by simp) (by simp) ?_;simp[zB];refine qO h2 (by simp[zB]) (by simp) ?_;simp[zB];refine⟨⟨by simp[maxLen]; omega,by omega⟩,?_⟩;exact zT (i+1) h (by omega) (zR [0,1,2,3,4] 0 (by decide) (by simp) (by rw[hst]; simp[zB,zDA,qG,hsl]; omega) (by simp[v2]; omega))
  ·have hie:i=N:=by omega
   subst hie;have h3:=zED (mods+2);have h4:=zL6 (idR (mods+2));have hall:=zM8 l 10 4 i (qJ mods);have hty:(zCw l mods).types=jG::tyL l 10 4 i (qJ mods):=by rw[hN]; rfl
   have hlen:=zFE l 10 4 i (qJ mods);simp;refine zQ h0 (by simp) (by simp) ?_;simp[hN];refine⟨qR [(0,.sl l.length (yA l)),(1,int mods),(5,bl true),(6,.ptr 0 0),(7,.ptr 1 0),(8,.sl (zCw l mods).types.length (jJ (zCw l mods).types)),(10,.row 2 2),(12,int (mods-1)),(13,.ptr 3 0)],[.box (zB (qJ mods)),.box (zB (zAV mods)),.row false 88 11 2 (zAI (zAP l mods)++zAI (zBh l mods)),.box (zB (qJ mods))],
    zR [0,1,2,3] 1 (by decide) (by simp) (by simp) (by rw[hty]; simp[←hN,hall,hlen,qG]; omega),?_⟩
   simp[w2];refine zQ h3 (by simp) (by simp) ?_;simp;refine zQ h4 (by simp[qF]) (by simp) ?_;simp[zB];refine⟨by simp[maxLen],?_⟩;refine qO zJC (by simp[zB,jG,Id.zero]) (by simp) ?_;simp[zB];refine⟨by simp[maxLen],?_⟩;refine⟨_,_,zR [0,1,3,2] 0 (by decide) (by simp) ?_ (by simp),hA⟩;simp[zB,zBN,zAI,zII,zCw,qG,jG,Id.zero,zCK,hh,zDx]
set_option maxHeartbeats 1000000 in
theorem qHW (l:List Int)(mods:Int)(hm:1≤mods)(hm2:mods≤2)(hl:∀x∈l,w64 x=x) :
 wpK Tryz.prog 0 zTf (zPj (zW l mods)) (qR [(0,.sl l.length (yA l)),(1,int mods),(5,bl (zDF l)),(6,.ptr 0 0),(7,.ptr 1 0),(8,.sl (zAP l mods).types.length (jJ (zAP l mods).types))])
  [.box (zB (qJ mods)),.box (zB (zAV mods))]:=by
 have h0:=zBw l 6 2 (by omega);obtain⟨r0,r0'⟩:=jY (i:=6) hl (most:=2) (by omega);obtain⟨N,hN⟩:∃N:Nat,(N:Int)=1+atV l 6 2:=⟨(1+atV l 6 2).toNat,by omega⟩;have wN:IntKind.i64.wrap (1+atV l 6 2)=N:=by rw[hN]; exact IntWalk.i64_in _ (by omega)
 have hQ:=qHX l mods hm hm2 hl;unfold zTf;simp;refine qY (S:=Nat) (fun i=>[(0,.sl l.length (yA l)),(1,int mods),(5,bl (zDF l)),(6,.ptr 0 0),(7,.ptr 1 0),(8,.row 3 (1+i)),(10,.row 2 1),(11,int i)])
  (fun i=>[.box (zB (qJ mods)),.box (zB (zAV mods)),.row false 88 11 1 (zAI (zAP l mods)),.row false 33 5 (1+i) (zB jG++jJ ((tyL l 7 4 N (qJ mods)).take i))]) (fun i=>i≤N) (fun i=>N-i) 0 (by simp)
  (zR [0,1,2,3] 0 (by decide) (by simp) (by simp[zB,zAI,zAP,jG,Id.zero,zDx]) (by simp)) ?_
 intro i hi;by_cases h:i<N
 ·have h1:=zBw l (7+i) 4 (by omega);have h2:=zBV l (7+i) 4 (by omega) hl (by omega) (qJ mods) (qJ mods);have v1:IntKind.i64.wrap (7+(i:Int))=7+i:=IntWalk.i64_in _ (by omega);have v2:IntKind.i64.wrap ((i:Int)+1)=i+1:=IntWalk.i64_in _ (by omega);have hst:=zKu l 7 4 h (qJ mods);have hsl:=zFo l 7 4 hi (qJ mods);simp;refine zQ h0 (by simp) (by simp) ?_;simp[h,v1,wN];refine qO h1 (by simp) (by simp) ?_;simp[zB];refine qO h2 (by simp[zB]) (by simp) ?_;simp[zB];refine⟨⟨by simp[maxLen]; omega,by omega⟩,?_⟩;exact zT (i+1) h (by omega) (zR [0,1,2,3] 0 (by decide) (by simp) (by rw[hst]; simp[zB,zDA,qG,hsl]; omega) (by simp[v2]; omega))
 ·have hie:i=N:=by omega
  subst hie;have hall:=zM8 l 7 4 i (qJ mods);have hty:(zBh l mods).types=jG::tyL l 7 4 i (qJ mods):=by rw[hN]; rfl
  have hlen:=zFE l 7 4 i (qJ mods);simp;refine zQ h0 (by simp) (by simp) ?_;simp[wN];exact⟨_,_,zR [0,1,2] 1 (by decide) (by simp) (by simp) (by rw[hty]; simp[hall,hlen,qG]; omega),hQ⟩
set_option maxHeartbeats 1000000 in
theorem zVj (l:List Int)(mods:Int)(hm:1≤mods)(hm2:mods≤2)(hl:∀x∈l,w64 x=x) :
 Ret Tryz.prog 33 [.sl l.length (yA l),int mods] [] (.sl (zW l mods).length (yI (zW l mods))) []:=by
 have w1:IntKind.i64.wrap (mods+1)=mods+1:=IntWalk.i64_in _ (by omega);have k0:=zBw l 1 4 (by omega);have k1:=zED mods;have k2:=zL6 (idR mods);have k3:=zED (mods+1);have k4:=zL6 (idR (mods+1));have h0:=zBw l 2 3 (by omega);obtain⟨r0,r0'⟩:=jY (i:=2) hl (most:=3) (by omega);obtain⟨N,hN⟩:∃N:Nat,(N:Int)=1+atV l 2 3:=⟨(1+atV l 2 3).toNat,by omega⟩;have wN:IntKind.i64.wrap (1+atV l 2 3)=N:=by rw[hN]; exact IntWalk.i64_in _ (by omega)
 have hP:=qHW l mods hm hm2 hl;refine zH Tryz.func33 rfl qLp (rs:=[.slot 4]) (by kernel_rfl) ?_;unfold qEJ;simp;refine zQ k0 (by simp) (by simp) ?_;simp;refine zQ k1 (by simp) (by simp) ?_;simp;refine zQ k2 (by simp[qF]) (by simp) ?_;simp[zB,w1];refine zQ k3 (by simp) (by simp) ?_;simp;refine zQ k4 (by simp[qF]) (by simp) ?_;simp[zB];refine qY (S:=Nat) (fun i=>[(0,.sl l.length (yA l)),(1,int mods),(5,bl (zDF l)),(6,.ptr 0 0),(7,.ptr 1 0),(8,.row 2 i),(9,int i)])
  (fun i=>[.box (zB (qJ mods)),.box (zB (zAV mods)),.row false 33 5 i (jJ ((tyL l 3 3 N (qJ mods)).take i))]) (fun i=>i≤N) (fun i=>N-i) 0 (by simp)
  ((yK (t:=8) (by simp) 33 5).trans (zR [0,1,2] 0 (by decide) (by simp) (by simp[zB,qJ,zAV]) (by simp[zDF]))) ?_
 intro i hi;by_cases h:i<N
 ·have h1:=zBw l (3+i) 3 (by omega);have h2:=zBV l (3+i) 3 (by omega) hl (by omega) (qJ mods) (qJ mods);have v1:IntKind.i64.wrap (3+(i:Int))=3+i:=IntWalk.i64_in _ (by omega);have v2:IntKind.i64.wrap ((i:Int)+1)=i+1:=IntWalk.i64_in _ (by omega);have hst:=zKu l 3 3 h (qJ mods);have hsl:=zFo l 3 3 hi (qJ mods);simp;refine zQ h0 (by simp) (by simp) ?_;simp[h,v1,wN];refine qO h1 (by simp) (by simp) ?_;simp[zB];refine qO h2 (by simp[zB]) (by simp) ?_;simp[zB];refine⟨⟨by simp[maxLen]; omega,by omega⟩,?_⟩;exact zT (i+1) h (by omega) (zR [0,1,2] 0 (by decide) (by simp) (by rw[hst]; simp[zB,zDA,qG,hsl]) (by simp[v2]))
 ·have hie:i=N:=by omega
  subst hie;have hall:=zM8 l 3 3 i (qJ mods);have hty:(zAP l mods).types=tyL l 3 3 i (qJ mods):=by rw[hN]; rfl
  have hlen:=zFE l 3 3 i (qJ mods);simp;refine zQ h0 (by simp) (by simp) ?_;simp[wN];exact⟨_,_,zR [0,1] 1 (by decide) (by simp) (by simp) (by rw[hty]; simp[hall,hlen]),hP⟩
theorem zSE:(∀(e:Exp) (N:List Exp),zKN e N=(zBH e).foldl (zCj Exp.id) N)∧∀(l:List Exp) (N:List Exp),zCP l N=(zCn l).foldl (zCj Exp.id) N:=by
 constructor
 ·exact fun e=>vf e
 ·exact fun l=>vfs l
where
 vf:∀(e:Exp) (N:List Exp),zKN e N=(zBH e).foldl (zCj Exp.id) N
  | .mk a b c d t ks ns,N=>by simp only[zKN,zBH,List.foldl_cons];exact vfs ks _
 vfs:∀(l:List Exp) (N:List Exp),zCP l N=(zCn l).foldl (zCj Exp.id) N
  | [],N=>rfl
  | e::l,N=>by simp only[zCP,zCn,List.foldl_append];rw[vf e N,vfs l]
theorem zSq (ds:List Dfn):zDI ds=(zCu ds).foldl (zCj Exp.id) []:=by
 have key:∀(ds:List Dfn) (N:List Exp),ds.foldl zNQ N=(zCu ds).foldl (zCj Exp.id) N:=by
  intro ds;induction ds with
  | nil=>intro N; rfl
  | cons d ds ih =>
   intro N;rw[List.foldl_cons,ih];have e:zCu (d::ds)=(if zA9 d.kind then zBH d.body else [])++zCu ds:=by simp[zCu]
   rw[e,List.foldl_append]
   congr 1
   unfold zNQ;split
   ·exact zSE.1 _ _
   ·rfl
 exact key ds []
section
variable {α : Type}{idf : α→Id}{same : α→α→Bool}
end
end Go.Proofs.YthglhccibdlccaaGreatDoor
