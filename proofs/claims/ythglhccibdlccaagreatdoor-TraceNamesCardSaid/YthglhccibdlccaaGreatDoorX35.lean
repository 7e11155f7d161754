/-
  The maker's plans.
  The reference's comparisons of nodes and definitions.
-/
import Derived.Test.YthglhccibdlccaaGreatDoorX34
set_option linter.unusedVariables false
set_option linter.unusedSimpArgs false
namespace Go.Proofs.YthglhccibdlccaaGreatDoor
open Go.Abs
def zUn:K:=(G [M 212 10,M 4 212] kr)
def zUm:K:=(Z (G [M 196 0,kC 197 31 [(kt 196),(kc 22),(kc 4)],kBi 198 197 0 .gtr] (Y 198 (K.dops [(0,0,M 199 10),(1,0,J 200 13 5),(2,0,kd 201 33 5 1 kz2 [(0,5,(kt 200))]),(3,0,⟨none,.bslice (some 202) 9 1 1 [(.string ⟨#[]⟩)] [(0,1,(.const (.string ⟨#[111,108,100]⟩)))]⟩),(4,0,M 203 0),(5,0,kC 204 31 [(kt 203),(kc 23),(kc 6)]),(6,0,J 205 6 5),(7,0,J 206 13 5),(8,0,kC 207 73 [(kt 204),(kt 205),(kt 206)]),(9,0,M 208 12),(10,0,⟨none,.build (some 209) kz3 [(0,1,(kc 5)),(1,1,(.const (.string ⟨#[99]⟩))),(2,1,(kt 201)),(3,1,(kt 202)),(5,5,(kt 207)),(10,1,(kt 208))]⟩),(11,0,kd 210 88 11 1 kz3 [(0,11,(kt 209))]),(12,0,kP 211 88 11 160 199 210),(13,0,M 10 211)]) ks)) (K.wk zUn))
def zUl:K:=(G [M 178 0,J 179 6 5,kC 180 75 [(kt 178),(kc 18),(kt 179)],M 177 180,kE 181 177 0,kE 182 177 1,M 17 181,M 18 182] (Z (K.dops [(0,0,M 183 10),(1,0,M 184 17),(2,0,⟨none,.bslice (some 185) 9 1 2 [(.string ⟨#[]⟩),(.string ⟨#[]⟩)] [(0,1,(.const (.string ⟨#[97]⟩))),(1,1,(.const (.string ⟨#[98]⟩)))]⟩),(3,0,M 186 18),(4,0,M 187 0),(5,0,kC 188 31 [(kt 187),(kc 21),(kc 6)]),(6,0,J 189 6 5),(7,0,J 190 16 5),(8,0,kC 191 73 [(kt 188),(kt 189),(kt 190)]),(9,0,M 192 12),(10,0,⟨none,.build (some 193) kz3 [(0,1,(kc 4)),(1,1,(.const (.string ⟨#[116]⟩))),(2,1,(kt 184)),(3,1,(kt 185)),(4,1,(kt 186)),(5,5,(kt 191)),(10,1,(kt 192))]⟩),(11,0,kd 194 88 11 1 kz3 [(0,11,(kt 193))]),(12,0,kP 195 88 11 160 183 194),(13,0,M 10 195)]) (K.wk zUm)))
def zUk:K:=(G [M 134 0,M 135 1,kC 136 31 [(kt 134),(kc 15),(kt 135)],M 15 136] (Z (K.dops [(0,0,M 137 0),(1,1,kC 138 31 [(kt 137),(kc 16),(kc 6)]),(2,1,J 139 6 5),(3,1,J 140 6 5),(4,1,kC 141 73 [(kt 138),(kt 139),(kt 140)]),(5,0,kZ 16 kz2),(6,0,S 16 141 5)]) (G [M 142 10,M 143 8,⟨none,.bslice (some 144) 9 1 2 [(.string ⟨#[]⟩),(.string ⟨#[]⟩)] [(0,1,(.const (.string ⟨#[97]⟩))),(1,1,(.const (.string ⟨#[98]⟩)))]⟩,J 145 16 5,M 146 15,⟨none,.build (some 147) kz3 [(0,1,(kc 2)),(1,1,(.const (.string ⟨#[102]⟩))),(2,1,(kt 143)),(3,1,(kt 144)),(5,5,(kt 145)),(10,1,(kt 146))]⟩,kd 148 88 11 1 kz3 [(0,11,(kt 147))],kP 149 88 11 160 142 148,M 10 149] (Z (G [M 150 5] (Y 150 (K.dops [(0,0,M 151 10),(1,0,J 152 13 5),(2,0,J 153 7 5),(3,0,kd 154 33 5 2 [ki,ki,ki,ki,kl,ki,ki,ki,ki,kl] [(0,5,(kt 152)),(5,5,(kt 153))]),(4,0,⟨none,.bslice (some 155) 9 1 2 [(.string ⟨#[]⟩),(.string ⟨#[]⟩)] [(0,1,(.const (.string ⟨#[115]⟩))),(1,1,(.const (.string ⟨#[101]⟩)))]⟩),(5,0,M 156 1),(6,0,kBi 157 156 3 .add),(7,0,kC 158 32 [(kt 157)]),(8,0,kC 159 72 [(kt 158)]),(9,0,M 160 12),(10,0,⟨none,.build (some 161) kz3 [(0,1,(kc 3)),(1,1,(.const (.string ⟨#[115,116,101,112]⟩))),(2,1,(kt 154)),(3,1,(kt 155)),(5,5,(kt 159)),(10,1,(kt 160))]⟩),(11,0,kd 162 88 11 1 kz3 [(0,11,(kt 161))]),(12,0,kP 163 88 11 160 151 162),(13,0,M 10 163)]) (K.dops [(0,0,M 164 10),(1,0,J 165 7 5),(2,0,kd 166 33 5 1 kz2 [(0,5,(kt 165))]),(3,0,⟨none,.bslice (some 167) 9 1 1 [(.string ⟨#[]⟩)] [(0,1,(.const (.string ⟨#[101]⟩)))]⟩),(4,0,
 M 168 0),(5,0,kC 169 31 [(kt 168),(kc 17),(kc 6)]),(6,0,J 170 6 5),(7,0,J 171 7 5),(8,0,kC 172 73 [(kt 169),(kt 170),(kt 171)]),(9,0,M 173 12),(10,0,⟨none,.build (some 174) kz3 [(0,1,(kc 2)),(1,1,(.const (.string ⟨#[103]⟩))),(2,1,(kt 166)),(3,1,(kt 167)),(5,5,(kt 172)),(10,1,(kt 173))]⟩),(11,0,kd 175 88 11 1 kz3 [(0,11,(kt 174))]),(12,0,kP 176 88 11 160 164 175),(13,0,M 10 176)]))) (K.wk zUl)))))
def zUj:K:=(Z (K.dops [(0,0,M 117 0),(1,0,kC 118 31 [(kt 117),(kc 12),(kc 6)]),(2,0,J 119 6 5),(3,0,J 120 7 5),(4,0,kC 121 73 [(kt 118),(kt 119),(kt 120)]),(5,9,⟨none,.brow (some 122) 33 5 1 kz2 [(0,5,(kt 121))]⟩),(6,0,M 8 122)]) (Z (G [M 123 0,kC 124 31 [(kt 123),(kc 13),(kc 2)],kQi 125 124 1 false] (Y 125 (K.dops [(0,0,M 126 8),(1,0,M 127 0),(2,0,kC 128 31 [(kt 127),(kc 14),(kc 6)]),(3,0,J 129 6 5),(4,0,J 130 7 5),(5,0,kC 131 73 [(kt 128),(kt 129),(kt 130)]),(6,0,kd 132 33 5 1 kz2 [(0,5,(kt 131))]),(7,0,kP 133 33 5 56 126 132),(8,0,M 8 133)]) ks)) (K.wk zUk)))
def zUp:K:=(G [M 69 10,M 70 8,⟨none,.bslice (some 71) 9 1 3 zVU [(0,1,(.const (.string ⟨#[84,105,99,107]⟩))),(1,1,(.const (.string ⟨#[80,117,115,104]⟩))),(2,1,(.const (.string ⟨#[83,101,116]⟩)))]⟩,⟨none,.build (some 72) kz3 [(0,1,(kc 1)),(1,1,(.const (.string ⟨#[69,118,101,110,116]⟩))),(2,1,(kt 70)),(3,1,(kt 71))]⟩,kd 73 88 11 1 kz3 [(0,11,(kt 72))],kP 74 88 11 160 69 73,M 10 74] (G [M 75 1,kBi 76 75 1 .sub,M 12 76] (G [J 77 6 5,kZ 13 kz2,S 13 77 5] (Z (G [M 78 5] (Y 78 (G [kb 79 kz2 [],⟨none,.brow (some 80) 33 5 1 kz2 [(0,5,(kt 79))]⟩,M 8 80] (Z (G [kMi 14 0] (K.block 4 (K.loop (Z (G [M 81 14,M 82 0,kC 83 31 [(kt 82),(kc 9),(kc 3)],kB 84 81 83 .lss] (Y 84 ks (K.exit 4))) (Z (K.block 5 (K.dops [(0,0,M 87 8),(1,0,M 88 0),(2,0,M 89 14),(3,0,⟨none,.bin (some 90) .add (kc 10) (kt 89)⟩),(4,0,kC 91 31 [(kt 88),(kt 90),(kc 4)]),(5,0,J 92 6 5),(6,0,J 93 6 5),(7,0,kC 94 73 [(kt 91),(kt 92),(kt 93)]),(8,0,kd 95 33 5 1 kz2 [(0,5,(kt 94))]),(9,0,kP 96 33 5 56 87 95),(10,0,M 8 96)])) (K.ops [M 85 14,kBi 86 85 1 .add,M 14 86])))))) (Z (K.wk (K.ops [M 97 1,kBi 98 97 2 .add,kC 99 32 [(kt 98)],kC 100 72 [(kt 99)],S 13 100 5])) (G [M 101 10,M 102 8,⟨none,.bslice (some 103) 9 1 3 zVU [(0,1,(.const (.string ⟨#[99,111,117,110,116]⟩))),(1,1,(.const (.string ⟨#[108,111,103]⟩))),(2,1,(.const (.string ⟨#[109,111,114,101]⟩)))]⟩,⟨none,.build (some 104) kz3 [(0,1,(kc 0)),(1,1,(.const (.string ⟨#[83,116,97,116,101]⟩))),(2,1,(kt 102)),(3,1,(kt 103))]⟩,kd 105 88 11 1 kz3 [(0,11,(kt 104))],kP 106 88 11 160 101 105,
 M 10 106] (K.dops [(0,0,M 107 10),(1,0,J 108 13 5),(2,0,kb 109 kz2 []),(3,0,kC 110 74 [(kt 109)]),(4,0,kb 111 kz2 []),(5,0,kd 112 33 5 3 qOR [(0,5,(kt 108)),(5,5,(kt 110)),(10,5,(kt 111))]),(6,0,⟨none,.bslice (some 113) 9 1 3 zVU [(0,1,(.const (.string ⟨#[115,116,97,116,101]⟩))),(1,1,(.const (.string ⟨#[115,105,103,110,97,108,115]⟩))),(2,1,(.const (.string ⟨#[110,101,120,116]⟩)))]⟩),(7,0,⟨none,.build (some 114) kz3 [(0,1,(kc 0)),(1,1,(.const (.string ⟨#[79,117,116]⟩))),(2,1,(kt 112)),(3,1,(kt 113))]⟩),(8,0,kd 115 88 11 1 kz3 [(0,11,(kt 114))]),(9,0,kP 116 88 11 160 107 115),(10,0,M 10 116)]))))) ks)) (K.wk zUj)))))
def zUo:K:=(G [M 46 8,⟨none,.bslice (some 47) 9 1 3 zVU [(0,1,(.const (.string ⟨#[120]⟩))),(1,1,(.const (.string ⟨#[121]⟩))),(2,1,(.const (.string ⟨#[122]⟩)))]⟩,⟨none,.build (some 48) kz3 [(0,1,(kc 0)),(1,1,(.const (.string ⟨#[80,111,105,110,116]⟩))),(2,1,(kt 46)),(3,1,(kt 47))]⟩,⟨none,.brow (some 49) 88 11 1 kz3 [(0,11,(kt 48))]⟩,M 10 49] (G [kb 50 kz2 [],⟨none,.brow (some 51) 33 5 1 kz2 [(0,5,(kt 50))]⟩,M 8 51] (Z (G [kMi 11 0] (K.block 2 (K.loop (Z (G [M 52 11,M 53 0,kC 54 31 [(kt 53),(kc 6),(kc 2)],⟨none,.bin (some 55) .add (kc 1) (kt 54)⟩,kB 56 52 55 .lss] (Y 56 ks (K.exit 2))) (Z (K.block 3 (K.dops [(0,0,M 59 8),(1,0,M 60 0),(2,0,M 61 11),(3,0,⟨none,.bin (some 62) .add (kc 7) (kt 61)⟩),(4,0,kC 63 31 [(kt 60),(kt 62),(kc 4)]),(5,0,J 64 6 5),(6,0,J 65 6 5),(7,0,kC 66 73 [(kt 63),(kt 64),(kt 65)]),(8,0,kd 67 33 5 1 kz2 [(0,5,(kt 66))]),(9,0,kP 68 33 5 56 59 67),(10,0,M 8 68)])) (K.ops [M 57 11,kBi 58 57 1 .add,M 11 58])))))) (K.wk zUp))))
def qGf:K:=G [kMn 4] (G [M 19 0,kC 20 31 [(kt 19),(kc 1),(kc 4)],kBi 21 20 0 .gtr,M 5 21] (G [M 22 1,kC 23 32 [(kt 22)],kC 24 72 [(kt 23)],kZ 6 kz2,S 6 24 5] (G [M 25 1,kBi 26 25 1 .add,kC 27 32 [(kt 26)],kC 28 72 [(kt 27)],kZ 7 kz2,S 7 28 5] (G [kMn 8] (Z (G [kMi 9 0] (K.block 0 (K.loop (Z (G [M 29 9,M 30 0,kC 31 31 [(kt 30),(kc 2),(kc 3)],⟨none,.bin (some 32) .add (kc 1) (kt 31)⟩,kB 33 29 32 .lss] (Y 33 ks (K.exit 0))) (Z (K.block 1 (K.dops [(0,0,M 36 8),(1,0,M 37 0),(2,0,M 38 9),(3,0,⟨none,.bin (some 39) .add (kc 3) (kt 38)⟩),(4,0,kC 40 31 [(kt 37),(kt 39),(kc 3)]),(5,0,J 41 6 5),(6,0,J 42 6 5),(7,0,kC 43 73 [(kt 40),(kt 41),(kt 42)]),(8,0,kd 44 33 5 1 kz2 [(0,5,(kt 43))]),(9,0,kP 45 33 5 56 36 44),(10,0,M 8 45)])) (K.ops [M 34 9,kBi 35 34 1 .add,M 9 35])))))) (K.wk zUo))))))
def qOJ:Nat→Option (List (Nat×Nat)):=fun r=>match r with | 27=>some [(0,0),(1,0),(2,0),(3,0),(4,0),(5,9),(6,0)] | _=>none
theorem qM9:qD Tryz.prog Tryz.f33.ntmps qOJ (Tryz.f33.body.getD .skip)=some qGf.erase:=by kernel_rfl
@[simp] theorem qN5:zA Tryz.prog 33=true:=by kernel_rfl
structure Pln where
 kind:Int
 name:ByteArray
 types:List Typ
 names:List ByteArray
 most:List Int
 out:Typ
 mod:Int
def zAQ (p:Pln):List A:=[int p.kind,.lit (.string p.name),.sl p.types.length (jI p.types),.sl p.names.length (yF p.names),.sl p.most.length (yB p.most),int p.out.k,int p.out.id.a,int p.out.id.b,int p.out.id.c,.sl p.out.kids.length (jI p.out.kids),int p.mod]
theorem zGx (p:Pln):qX (zAQ p):=by have h1:=yO p.types;have h2:=zBj p.names;have h3:=yO p.out.kids;exact⟨by simp[zAQ,h1.1,h2.1,h3.1],fun rf g=>by simp[zAQ,h1.2,h2.2,h3.2]⟩
def yN (l:List Pln):List A:=l.flatMap zAQ
theorem zGZ (l:List Pln):qX (yN l):=zAN zGx l
@[simp] theorem qAC (l:List Pln):qU (yN l)=yN l:=(zGZ l).1
@[simp] theorem qFd {rf g}(l:List Pln):vwL rf g (yN l)=yN l:=(zGZ l).2 _ _
@[simp] theorem qBM:yN []=[]:=rfl
theorem zCa (x:Pln)(l:List Pln):yN (x::l)=zAQ x++yN l:=rfl
theorem zCF (l l':List Pln):yN (l++l')=yN l++yN l':=by simp only[yN,List.flatMap_append]
@[simp] theorem qBL (l:List Pln):(yN l).length=l.length*11:=by rw[yN,zBr (k:=11) (fun _=>rfl)]
theorem zNL {l:List Pln}{i:Nat}(h:i<l.length):(yN l).drop (i*11)=zAQ l[i]++yN (l.drop (i+1)):=by rw[yN,yN,zBG (k:=11) (fun _=>rfl) h]
@[simp] theorem qHT (d:Pln):(zAQ d).length=11:=rfl
@[simp] theorem qHS (d:Pln):(zAQ d).take 11=zAQ d:=List.take_of_length_le (Nat.le_refl _)
@[simp] theorem qDX (d:Pln)(l:List A):(zAQ d++l).take 11=zAQ d:=by rw[List.take_append_of_le_length (by simp)]; exact List.take_of_length_le (by simp)
@[simp] theorem qE3 (d:Pln):qU (zAQ d)=zAQ d:=(zGx d).1
@[simp] theorem qLE (d:Pln) {rf g}:vwL rf g (zAQ d)=zAQ d:=(zGx d).2 _ _
def tyL (l:List Int)(at_ most n:Int)(one:Typ):List Typ:=(List.range n.toNat).map fun(i:Nat)=>zCu (atV l (at_+i) most) one one
section
variable (l:List Int)(mods:Int)
def zDX:Bool:=decide (0<atV l 1 4)
def qH:Typ:=zBo (idR mods)
def zBd:Typ:=zBo (idR (mods+1))
def zCX:Typ:=if zDX l then zBo (idR (mods+2)) else qH mods
def zQT:Typ:=zCu (atV l 16 6) (qH mods) (qH mods)
def zAZ:Pln:=⟨0,⟨#[80,111,105,110,116]⟩,tyL l 3 3 (1+atV l 2 3) (qH mods),[⟨#[120]⟩,⟨#[121]⟩,⟨#[122]⟩],[],jF,0⟩
def zBn:Pln:=⟨1,⟨#[69,118,101,110,116]⟩,jF::tyL l 7 4 (1+atV l 6 2) (qH mods),[⟨#[84,105,99,107]⟩,⟨#[80,117,115,104]⟩,⟨#[83,101,116]⟩],[],jF,0⟩
def zC9:Pln:=⟨0,⟨#[83,116,97,116,101]⟩,jF::tyL l 10 4 (atV l 9 3) (qH mods),[⟨#[99,111,117,110,116]⟩,⟨#[108,111,103]⟩,⟨#[109,111,114,101]⟩],[],jF,0⟩
def zJh:Pln:=⟨0,⟨#[79,117,116]⟩,[zBo (idR (mods+2)),jG jF,jF],[⟨#[115,116,97,116,101]⟩,⟨#[115,105,103,110,97,108,115]⟩,⟨#[110,101,120,116]⟩],[],jF,0⟩
def zE3:List Typ:=zCu (atV l 12 6) (qH mods) (zBd mods)::(if atV l 13 2=1 then [zCu (atV l 14 6) (qH mods) (zBd mods)] else [])
def pF:Pln:=⟨2,⟨#[102]⟩,zE3 l mods,[⟨#[97]⟩,⟨#[98]⟩],[],zQT l mods,atV l 15 mods⟩
def zHz:Pln:=⟨3,⟨#[115,116,101,112]⟩,[zBo (idR (mods+2)),zBd mods],[⟨#[115]⟩,⟨#[101]⟩],[],zBo (idR (mods+3)),mods-1⟩
def pG:Pln:=⟨2,⟨#[103]⟩,[zBd mods],[⟨#[101]⟩],[],zCu (atV l 17 6) (qH mods) (zBd mods),mods-1⟩
def pT:Pln:=⟨4,⟨#[116]⟩,(inV l 18 (qH mods)).map (·.1),[⟨#[97]⟩,⟨#[98]⟩],(inV l 18 (qH mods)).map (·.2),zCu (atV l 21 6) (qH mods) (zQT l mods),mods-1⟩
def pC:Pln:=⟨5,⟨#[99]⟩,[zCX l mods],[⟨#[111,108,100]⟩],[],zCu (atV l 23 6) (qH mods) (zCX l mods),mods-1⟩
def plE:List Pln:=if 0<atV l 22 4 then [pC l mods] else []
def plD:List Pln:=pT l mods::plE l mods
def plC:List Pln:=(if zDX l then zHz mods else pG l mods)::plD l mods
def plB:List Pln:=pF l mods::plC l mods
def zX:List Pln:=[zAZ l mods,zBn l mods]++(if zDX l then [zC9 l mods,zJh mods] else [])++plB l mods
end
abbrev zQc (L:List Pln):=fin [RS.slot 4] (zFX 0 (.sl L.length (yN L)) [])
theorem qAS (L:List Pln):wpK Tryz.prog 0 zUn (zQc L) (qP [(10,.sl L.length (yN L))]) []:=by unfold zUn;simp;exact zC 0 (by simp)
theorem qJq (l:List Int)(mods:Int)(hm:1≤mods)(hm2:mods≤2)(hl:∀x∈l,w64 x=x)(L:List Pln)(hL:L.length≤20) :
 wpK Tryz.prog 0 zUm (zQc (L++plE l mods)) (qP [(0,.sl l.length (yB l)),(6,.ptr 0 0),(10,.row 2 L.length),(12,int (mods-1)),(13,.ptr 1 0)])
  [.box (zB (qH mods)),.box (zB (zCX l mods)),.row false 88 11 L.length (yN L)]:=by
 have h0:=zB7 l 22 4 (by omega);have h1:=zB7 l 23 6 (by omega);obtain⟨r0,r0'⟩:=yQ (i:=23) hl (most:=6) (by omega);have h2:=zM2 (atV l 23 6) (qH mods) (zCX l mods) (IntWalk.i64_in _ (by omega));unfold zUm;simp;refine zR h0 (by simp) (by simp) ?_;by_cases h:0<atV l 22 4
 ·simp[h,zB];refine qM h1 (by simp) (by simp) ?_;simp[zB];refine qM h2 (by simp[zB]) (by simp) ?_;simp[zB];refine⟨⟨by simp[maxLen]; omega,by omega⟩,?_⟩;exact⟨_,_,zP [] 1 (by decide) (by simp) (by simp) (by simp[plE,h,pC,zCF,zCa,zAQ,qE,zB,zAL]),qAS _⟩
 ·simp[h];exact⟨_,_,zP [] 1 (by decide) (by simp) (by simp) (by simp[plE,h]),qAS _⟩
theorem zCi (l:List Int)(i m:Int)(hm:0<m)(hl:∀x∈l,w64 x=x)(hm2:m≤1000)(a b:Typ):Ret Tryz.prog 73 [int (atV l i m),.agg (zB a),.agg (zB b)] [] (.agg (zB (zCu (atV l i m) a b))) []:=by obtain⟨r0,r0'⟩:=yQ (i:=i) hl (most:=m) hm;exact zM2 _ _ _ (IntWalk.i64_in _ (by omega))
theorem qJp (l:List Int)(mods:Int)(hm:1≤mods)(hm2:mods≤2)(hl:∀x∈l,w64 x=x)(L:List Pln)(hL:L.length≤19) :
 wpK Tryz.prog 0 zUl (zQc (L++plD l mods)) (qP [(0,.sl l.length (yB l)),(6,.ptr 0 0),(10,.row 3 L.length),(12,int (mods-1)),(13,.ptr 1 0),(16,.ptr 2 0)])
  [.box (zB (qH mods)),.box (zB (zCX l mods)),.box (zB (zQT l mods)),.row false 88 11 L.length (yN L)]:=by
 have h0:=qC6 l 18 (qH mods) (by omega) (by omega) hl;have h1:=zB7 l 21 6 (by omega);have h2:=zCi l 21 6 (by omega) hl (by omega) (qH mods) (zQT l mods);have hD:=qJq l mods hm hm2 hl (L++[pT l mods]) (by simp; omega);rw[List.append_assoc]at hD;unfold zUl;simp[zB];refine zR h0 (by simp[zB]) (by simp[inR,zP0,zIR]) ?_;simp[inR,zP0,zIR];refine qM h1 (by simp) (by simp) ?_;simp[zB];refine qM h2 (by simp[zB]) (by simp) ?_;simp[zB];refine⟨⟨by simp[maxLen]; omega,by omega⟩,?_⟩;refine⟨_,_,zP [0,1,3] 0 (by decide) (by simp) ?_ (by simp),hD⟩;simp[zB,zCF,zCa,zAQ,pT,zBk]
theorem qJo (l:List Int)(mods:Int)(hm:1≤mods)(hm2:mods≤2)(hl:∀x∈l,w64 x=x)(L:List Pln)(hL:L.length≤17) :
 wpK Tryz.prog 0 zUk (zQc (L++plB l mods)) (qP [(0,.sl l.length (yB l)),(1,int mods),(5,bl (zDX l)),(6,.ptr 0 0),(7,.ptr 1 0),(8,.sl (zE3 l mods).length (jI (zE3 l mods))),(10,.row 3 L.length),(12,int (mods-1)),(13,.ptr 2 0)])
  [.box (zB (qH mods)),.box (zB (zBd mods)),.box (zB (zCX l mods)),.row false 88 11 L.length (yN L)]:=by
 have w3:IntKind.i64.wrap (mods+3)=mods+3:=IntWalk.i64_in _ (by omega);have h0:=zB7 l 15 mods (by omega);have h1:=zB7 l 16 6 (by omega);have h2:=zCi l 16 6 (by omega) hl (by omega) (qH mods) (qH mods);have h3:=zEV (mods+3);have h4:=zMq (idR (mods+3));have h5:=zB7 l 17 6 (by omega);have h6:=zCi l 17 6 (by omega) hl (by omega) (qH mods) (zBd mods);have hC:=qJp l mods hm hm2 hl (L++[pF l mods]++[if zDX l then zHz mods else pG l mods]) (by simp; omega);rw[List.append_assoc,List.append_assoc]at hC;unfold zUk;simp;refine zR h0 (by simp) (by simp) ?_;simp;refine zR0 h1 [] (by decide) (by simp) (by simp) (by simp) ?_;simp[zB];refine zR0 h2 [] (by decide) (by simp) (by simp[zB]) (by simp) ?_;simp[zB];refine⟨⟨by simp[maxLen]; omega,by omega⟩,?_⟩;cases hh:zDX l
 ·simp[zB];refine qM h5 (by simp) (by simp) ?_;simp[zB];refine qM h6 (by simp[zB]) (by simp) ?_;simp[zB];refine⟨⟨by simp[maxLen]; omega,by omega⟩,?_⟩;refine⟨_,_,zP [0,2,4,3] 0 (by decide) (by simp) ?_ (by simp),hC⟩;simp[zB,zCF,zCa,zAQ,pF,pG,hh,zQT,zAL,zBk,qE]
 ·simp[zB,w3];refine qM h3 (by simp) (by simp) ?_;simp[zB];refine qM h4 (by simp[jK]) (by simp) ?_;simp[zB];refine⟨⟨by simp[maxLen]; omega,by omega⟩,?_⟩;refine⟨_,_,zP [0,2,4,3] 0 (by decide) (by simp) ?_ (by simp),hC⟩;simp[zB,zCF,zCa,zAQ,pF,zHz,hh,zQT,zCX,zAL,zBk,qE]
theorem qAR (l:List Int)(mods:Int)(hm:1≤mods)(hm2:mods≤2)(hl:∀x∈l,w64 x=x)(L:List Pln)(hL:L.length≤17) :
 wpK Tryz.prog 0 zUj (zQc (L++plB l mods)) (qP [(0,.sl l.length (yB l)),(1,int mods),(5,bl (zDX l)),(6,.ptr 0 0),(7,.ptr 1 0),(10,.row 3 L.length),(12,int (mods-1)),(13,.ptr 2 0)])
  [.box (zB (qH mods)),.box (zB (zBd mods)),.box (zB (zCX l mods)),.row false 88 11 L.length (yN L)]:=by
 have h0:=zB7 l 12 6 (by omega);have h1:=zCi l 12 6 (by omega) hl (by omega) (qH mods) (zBd mods);have h2:=zB7 l 13 2 (by omega);have h3:=zB7 l 14 6 (by omega);have h4:=zCi l 14 6 (by omega) hl (by omega) (qH mods) (zBd mods);have hB:=qJo l mods hm hm2 hl L hL;unfold zUj;simp;refine qM h0 (by simp) (by simp) ?_;simp[zB];refine qM h1 (by simp[zB]) (by simp) ?_;simp[zB];refine zR h2 (by simp) (by simp) ?_;by_cases h:atV l 13 2=1
 ·simp[h,zB];refine qM h3 (by simp) (by simp) ?_;simp[zB];refine qM h4 (by simp[zB]) (by simp) ?_;simp[zB,maxLen];refine⟨_,_,zP [0,1,2,3] 1 (by decide) (by simp) (by simp[zB]) ?_,hB⟩;simp[zE3,h,qE,zB]
 ·simp[h,zB];refine⟨_,_,zP [0,1,2,3] 1 (by decide) (by simp) (by simp[zB]) ?_,hB⟩;simp[zE3,h,qE,zB]
end Go.Proofs.YthglhccibdlccaaGreatDoor
