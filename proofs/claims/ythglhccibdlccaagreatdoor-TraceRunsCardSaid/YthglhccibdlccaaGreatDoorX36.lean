/-
  The maker's plans.
  The maker's plans: the types of records and variants; all plans.
  The maker's definitions before their bodies: what is known of them.
-/
import Derived.Test.YthglhccibdlccaaGreatDoorX35
set_option linter.unusedVariables false
set_option linter.unusedSimpArgs false
namespace Go.Proofs.YthglhccibdlccaaGreatDoor
open Go.Abs
def zTx:K:=(G [M 212 10,M 4 212] kr)
def zTw:K:=(Z (G [M 196 0,kC 197 31 [(kt 196),(kc 22),(kc 4)],kBi 198 197 0 .gtr] (Y 198 (K.dops [(0,0,M 199 10),(1,0,J 200 13 5),(2,0,kd 201 33 5 1 kz2 [(0,5,(kt 200))]),(3,0,⟨none,.bslice (some 202) 9 1 1 [(.string ⟨#[]⟩)] [(0,1,(.const (.string ⟨#[111,108,100]⟩)))]⟩),(4,0,M 203 0),(5,0,kC 204 31 [(kt 203),(kc 23),(kc 6)]),(6,0,J 205 6 5),(7,0,J 206 13 5),(8,0,kC 207 73 [(kt 204),(kt 205),(kt 206)]),(9,0,M 208 12),(10,0,⟨none,.build (some 209) kz3 [(0,1,(kc 5)),(1,1,(.const (.string ⟨#[99]⟩))),(2,1,(kt 201)),(3,1,(kt 202)),(5,5,(kt 207)),(10,1,(kt 208))]⟩),(11,0,kd 210 88 11 1 kz3 [(0,11,(kt 209))]),(12,0,kP 211 88 11 160 199 210),(13,0,M 10 211)]) ks)) (K.wk zTx))
def zTv:K:=(G [M 178 0,J 179 6 5,kC 180 75 [(kt 178),(kc 18),(kt 179)],M 177 180,kE 181 177 0,kE 182 177 1,M 17 181,M 18 182] (Z (K.dops [(0,0,M 183 10),(1,0,M 184 17),(2,0,⟨none,.bslice (some 185) 9 1 2 [(.string ⟨#[]⟩),(.string ⟨#[]⟩)] [(0,1,(.const (.string ⟨#[97]⟩))),(1,1,(.const (.string ⟨#[98]⟩)))]⟩),(3,0,M 186 18),(4,0,M 187 0),(5,0,kC 188 31 [(kt 187),(kc 21),(kc 6)]),(6,0,J 189 6 5),(7,0,J 190 16 5),(8,0,kC 191 73 [(kt 188),(kt 189),(kt 190)]),(9,0,M 192 12),(10,0,⟨none,.build (some 193) kz3 [(0,1,(kc 4)),(1,1,(.const (.string ⟨#[116]⟩))),(2,1,(kt 184)),(3,1,(kt 185)),(4,1,(kt 186)),(5,5,(kt 191)),(10,1,(kt 192))]⟩),(11,0,kd 194 88 11 1 kz3 [(0,11,(kt 193))]),(12,0,kP 195 88 11 160 183 194),(13,0,M 10 195)]) (K.wk zTw)))
def zTu:K:=(G [M 134 0,M 135 1,kC 136 31 [(kt 134),(kc 15),(kt 135)],M 15 136] (Z (K.dops [(0,0,M 137 0),(1,1,kC 138 31 [(kt 137),(kc 16),(kc 6)]),(2,1,J 139 6 5),(3,1,J 140 6 5),(4,1,kC 141 73 [(kt 138),(kt 139),(kt 140)]),(5,0,kZ 16 kz2),(6,0,S 16 141 5)]) (G [M 142 10,M 143 8,⟨none,.bslice (some 144) 9 1 2 [(.string ⟨#[]⟩),(.string ⟨#[]⟩)] [(0,1,(.const (.string ⟨#[97]⟩))),(1,1,(.const (.string ⟨#[98]⟩)))]⟩,J 145 16 5,M 146 15,⟨none,.build (some 147) kz3 [(0,1,(kc 2)),(1,1,(.const (.string ⟨#[102]⟩))),(2,1,(kt 143)),(3,1,(kt 144)),(5,5,(kt 145)),(10,1,(kt 146))]⟩,kd 148 88 11 1 kz3 [(0,11,(kt 147))],kP 149 88 11 160 142 148,M 10 149] (Z (G [M 150 5] (Y 150 (K.dops [(0,0,M 151 10),(1,0,J 152 13 5),(2,0,J 153 7 5),(3,0,kd 154 33 5 2 [ki,ki,ki,ki,kl,ki,ki,ki,ki,kl] [(0,5,(kt 152)),(5,5,(kt 153))]),(4,0,⟨none,.bslice (some 155) 9 1 2 [(.string ⟨#[]⟩),(.string ⟨#[]⟩)] [(0,1,(.const (.string ⟨#[115]⟩))),(1,1,(.const (.string ⟨#[101]⟩)))]⟩),(5,0,M 156 1),(6,0,kBi 157 156 3 .add),(7,0,kC 158 32 [(kt 157)]),(8,0,kC 159 72 [(kt 158)]),(9,0,M 160 12),(10,0,⟨none,.build (some 161) kz3 [(0,1,(kc 3)),(1,1,(.const (.string ⟨#[115,116,101,112]⟩))),(2,1,(kt 154)),(3,1,(kt 155)),(5,5,(kt 159)),(10,1,(kt 160))]⟩),(11,0,kd 162 88 11 1 kz3 [(0,11,(kt 161))]),(12,0,kP 163 88 11 160 151 162),(13,0,M 10 163)]) (K.dops [(0,0,M 164 10),(1,0,J 165 7 5),(2,0,kd 166 33 5 1 kz2 [(0,5,(kt 165))]),(3,0,⟨none,.bslice (some 167) 9 1 1 [(.string ⟨#[]⟩)] [(0,1,(.const (.string ⟨#[101]⟩)))]⟩),(4,0,
 M 168 0),(5,0,kC 169 31 [(kt 168),(kc 17),(kc 6)]),(6,0,J 170 6 5),(7,0,J 171 7 5),(8,0,kC 172 73 [(kt 169),(kt 170),(kt 171)]),(9,0,M 173 12),(10,0,⟨none,.build (some 174) kz3 [(0,1,(kc 2)),(1,1,(.const (.string ⟨#[103]⟩))),(2,1,(kt 166)),(3,1,(kt 167)),(5,5,(kt 172)),(10,1,(kt 173))]⟩),(11,0,kd 175 88 11 1 kz3 [(0,11,(kt 174))]),(12,0,kP 176 88 11 160 164 175),(13,0,M 10 176)]))) (K.wk zTv)))))
def zTt:K:=(Z (K.dops [(0,0,M 117 0),(1,0,kC 118 31 [(kt 117),(kc 12),(kc 6)]),(2,0,J 119 6 5),(3,0,J 120 7 5),(4,0,kC 121 73 [(kt 118),(kt 119),(kt 120)]),(5,9,⟨none,.brow (some 122) 33 5 1 kz2 [(0,5,(kt 121))]⟩),(6,0,M 8 122)]) (Z (G [M 123 0,kC 124 31 [(kt 123),(kc 13),(kc 2)],kQi 125 124 1 false] (Y 125 (K.dops [(0,0,M 126 8),(1,0,M 127 0),(2,0,kC 128 31 [(kt 127),(kc 14),(kc 6)]),(3,0,J 129 6 5),(4,0,J 130 7 5),(5,0,kC 131 73 [(kt 128),(kt 129),(kt 130)]),(6,0,kd 132 33 5 1 kz2 [(0,5,(kt 131))]),(7,0,kP 133 33 5 56 126 132),(8,0,M 8 133)]) ks)) (K.wk zTu)))
def zTz:K:=(G [M 69 10,M 70 8,⟨none,.bslice (some 71) 9 1 3 zVr [(0,1,(.const (.string ⟨#[84,105,99,107]⟩))),(1,1,(.const (.string ⟨#[80,117,115,104]⟩))),(2,1,(.const (.string ⟨#[83,101,116]⟩)))]⟩,⟨none,.build (some 72) kz3 [(0,1,(kc 1)),(1,1,(.const (.string ⟨#[69,118,101,110,116]⟩))),(2,1,(kt 70)),(3,1,(kt 71))]⟩,kd 73 88 11 1 kz3 [(0,11,(kt 72))],kP 74 88 11 160 69 73,M 10 74] (G [M 75 1,kBi 76 75 1 .sub,M 12 76] (G [J 77 6 5,kZ 13 kz2,S 13 77 5] (Z (G [M 78 5] (Y 78 (G [kb 79 kz2 [],⟨none,.brow (some 80) 33 5 1 kz2 [(0,5,(kt 79))]⟩,M 8 80] (Z (G [kMi 14 0] (K.block 4 (K.loop (Z (G [M 81 14,M 82 0,kC 83 31 [(kt 82),(kc 9),(kc 3)],kB 84 81 83 .lss] (Y 84 ks (K.exit 4))) (Z (K.block 5 (K.dops [(0,0,M 87 8),(1,0,M 88 0),(2,0,M 89 14),(3,0,⟨none,.bin (some 90) .add (kc 10) (kt 89)⟩),(4,0,kC 91 31 [(kt 88),(kt 90),(kc 4)]),(5,0,J 92 6 5),(6,0,J 93 6 5),(7,0,kC 94 73 [(kt 91),(kt 92),(kt 93)]),(8,0,kd 95 33 5 1 kz2 [(0,5,(kt 94))]),(9,0,kP 96 33 5 56 87 95),(10,0,M 8 96)])) (K.ops [M 85 14,kBi 86 85 1 .add,M 14 86])))))) (Z (K.wk (K.ops [M 97 1,kBi 98 97 2 .add,kC 99 32 [(kt 98)],kC 100 72 [(kt 99)],S 13 100 5])) (G [M 101 10,M 102 8,⟨none,.bslice (some 103) 9 1 3 zVr [(0,1,(.const (.string ⟨#[99,111,117,110,116]⟩))),(1,1,(.const (.string ⟨#[108,111,103]⟩))),(2,1,(.const (.string ⟨#[109,111,114,101]⟩)))]⟩,⟨none,.build (some 104) kz3 [(0,1,(kc 0)),(1,1,(.const (.string ⟨#[83,116,97,116,101]⟩))),(2,1,(kt 102)),(3,1,(kt 103))]⟩,kd 105 88 11 1 kz3 [(0,11,(kt 104))],kP 106 88 11 160 101 105,
 M 10 106] (K.dops [(0,0,M 107 10),(1,0,J 108 13 5),(2,0,kb 109 kz2 []),(3,0,kC 110 74 [(kt 109)]),(4,0,kb 111 kz2 []),(5,0,kd 112 33 5 3 qOB [(0,5,(kt 108)),(5,5,(kt 110)),(10,5,(kt 111))]),(6,0,⟨none,.bslice (some 113) 9 1 3 zVr [(0,1,(.const (.string ⟨#[115,116,97,116,101]⟩))),(1,1,(.const (.string ⟨#[115,105,103,110,97,108,115]⟩))),(2,1,(.const (.string ⟨#[110,101,120,116]⟩)))]⟩),(7,0,⟨none,.build (some 114) kz3 [(0,1,(kc 0)),(1,1,(.const (.string ⟨#[79,117,116]⟩))),(2,1,(kt 112)),(3,1,(kt 113))]⟩),(8,0,kd 115 88 11 1 kz3 [(0,11,(kt 114))]),(9,0,kP 116 88 11 160 107 115),(10,0,M 10 116)]))))) ks)) (K.wk zTt)))))
def zTy:K:=(G [M 46 8,⟨none,.bslice (some 47) 9 1 3 zVr [(0,1,(.const (.string ⟨#[120]⟩))),(1,1,(.const (.string ⟨#[121]⟩))),(2,1,(.const (.string ⟨#[122]⟩)))]⟩,⟨none,.build (some 48) kz3 [(0,1,(kc 0)),(1,1,(.const (.string ⟨#[80,111,105,110,116]⟩))),(2,1,(kt 46)),(3,1,(kt 47))]⟩,⟨none,.brow (some 49) 88 11 1 kz3 [(0,11,(kt 48))]⟩,M 10 49] (G [kb 50 kz2 [],⟨none,.brow (some 51) 33 5 1 kz2 [(0,5,(kt 50))]⟩,M 8 51] (Z (G [kMi 11 0] (K.block 2 (K.loop (Z (G [M 52 11,M 53 0,kC 54 31 [(kt 53),(kc 6),(kc 2)],⟨none,.bin (some 55) .add (kc 1) (kt 54)⟩,kB 56 52 55 .lss] (Y 56 ks (K.exit 2))) (Z (K.block 3 (K.dops [(0,0,M 59 8),(1,0,M 60 0),(2,0,M 61 11),(3,0,⟨none,.bin (some 62) .add (kc 7) (kt 61)⟩),(4,0,kC 63 31 [(kt 60),(kt 62),(kc 4)]),(5,0,J 64 6 5),(6,0,J 65 6 5),(7,0,kC 66 73 [(kt 63),(kt 64),(kt 65)]),(8,0,kd 67 33 5 1 kz2 [(0,5,(kt 66))]),(9,0,kP 68 33 5 56 59 67),(10,0,M 8 68)])) (K.ops [M 57 11,kBi 58 57 1 .add,M 11 58])))))) (K.wk zTz))))
def qF0:K:=G [kMn 4] (G [M 19 0,kC 20 31 [(kt 19),(kc 1),(kc 4)],kBi 21 20 0 .gtr,M 5 21] (G [M 22 1,kC 23 32 [(kt 22)],kC 24 72 [(kt 23)],kZ 6 kz2,S 6 24 5] (G [M 25 1,kBi 26 25 1 .add,kC 27 32 [(kt 26)],kC 28 72 [(kt 27)],kZ 7 kz2,S 7 28 5] (G [kMn 8] (Z (G [kMi 9 0] (K.block 0 (K.loop (Z (G [M 29 9,M 30 0,kC 31 31 [(kt 30),(kc 2),(kc 3)],⟨none,.bin (some 32) .add (kc 1) (kt 31)⟩,kB 33 29 32 .lss] (Y 33 ks (K.exit 0))) (Z (K.block 1 (K.dops [(0,0,M 36 8),(1,0,M 37 0),(2,0,M 38 9),(3,0,⟨none,.bin (some 39) .add (kc 3) (kt 38)⟩),(4,0,kC 40 31 [(kt 37),(kt 39),(kc 3)]),(5,0,J 41 6 5),(6,0,J 42 6 5),(7,0,kC 43 73 [(kt 40),(kt 41),(kt 42)]),(8,0,kd 44 33 5 1 kz2 [(0,5,(kt 43))]),(9,0,kP 45 33 5 56 36 44),(10,0,M 8 45)])) (K.ops [M 34 9,kBi 35 34 1 .add,M 9 35])))))) (K.wk zTy))))))
def qO3:Nat→Option (List (Nat×Nat)):=fun r=>match r with | 27=>some [(0,0),(1,0),(2,0),(3,0),(4,0),(5,9),(6,0)] | _=>none
theorem qMk:qC Tryz.prog Tryz.f33.ntmps qO3 (Tryz.f33.body.getD .skip)=some qF0.erase:=by kernel_rfl
@[simp] theorem qNo:zA Tryz.prog 33=true:=by kernel_rfl
structure Pln where
 kind:Int
 name:ByteArray
 types:List Typ
 names:List ByteArray
 most:List Int
 out:Typ
 mod:Int
def zAQ (p:Pln):List A:=[int p.kind,.lit (.string p.name),.sl p.types.length (jB p.types),.sl p.names.length (jY p.names),.sl p.most.length (yF p.most),int p.out.k,int p.out.id.a,int p.out.id.b,int p.out.id.c,.sl p.out.kids.length (jB p.out.kids),int p.mod]
theorem zGH (p:Pln):jE (zAQ p):=by have h1:=yP p.types;have h2:=zBg p.names;have h3:=yP p.out.kids;exact⟨by simp[zAQ,h1.1,h2.1,h3.1],fun rf g=>by simp[zAQ,h1.2,h2.2,h3.2]⟩
def yO (l:List Pln):List A:=l.flatMap zAQ
theorem zHk (l:List Pln):jE (yO l):=zBi zGH l
@[simp] theorem zZW (l:List Pln):jG (yO l)=yO l:=(zHk l).1
@[simp] theorem qEw {rf g}(l:List Pln):vwL rf g (yO l)=yO l:=(zHk l).2 _ _
@[simp] theorem qBg:yO []=[]:=rfl
theorem zBZ (x:Pln)(l:List Pln):yO (x::l)=zAQ x++yO l:=rfl
theorem zCE (l l':List Pln):yO (l++l')=yO l++yO l':=by simp only[yO,List.flatMap_append]
@[simp] theorem qBf (l:List Pln):(yO l).length=l.length*11:=by rw[yO,zBQ (k:=11) (fun _=>rfl)]
theorem zN7 {l:List Pln}{i:Nat}(h:i<l.length):(yO l).drop (i*11)=zAQ l[i]++yO (l.drop (i+1)):=by rw[yO,yO,zCc (k:=11) (fun _=>rfl) h]
@[simp] theorem qHq (d:Pln):(zAQ d).length=11:=rfl
@[simp] theorem qHp (d:Pln):(zAQ d).take 11=zAQ d:=List.take_of_length_le (Nat.le_refl _)
@[simp] theorem qDp (d:Pln)(l:List A):(zAQ d++l).take 11=zAQ d:=by rw[List.take_append_of_le_length (by simp)]; exact List.take_of_length_le (by simp)
@[simp] theorem qDL (d:Pln):jG (zAQ d)=zAQ d:=(zGH d).1
@[simp] theorem qLm (d:Pln) {rf g}:vwL rf g (zAQ d)=zAQ d:=(zGH d).2 _ _
def tyL (l:List Int)(at_ most n:Int)(one:Typ):List Typ:=(List.range n.toNat).map fun(i:Nat)=>zCv (atV l (at_+i) most) one one
section
variable (l:List Int)(mods:Int)
def zDY:Bool:=decide (0<atV l 1 4)
def qP:Typ:=zBm (idR mods)
def zBa:Typ:=zBm (idR (mods+1))
def zCY:Typ:=if zDY l then zBm (idR (mods+2)) else qP mods
def zQu:Typ:=zCv (atV l 16 6) (qP mods) (qP mods)
def zAW:Pln:=⟨0,⟨#[80,111,105,110,116]⟩,tyL l 3 3 (1+atV l 2 3) (qP mods),[⟨#[120]⟩,⟨#[121]⟩,⟨#[122]⟩],[],jK,0⟩
def zBk:Pln:=⟨1,⟨#[69,118,101,110,116]⟩,jK::tyL l 7 4 (1+atV l 6 2) (qP mods),[⟨#[84,105,99,107]⟩,⟨#[80,117,115,104]⟩,⟨#[83,101,116]⟩],[],jK,0⟩
def zC8:Pln:=⟨0,⟨#[83,116,97,116,101]⟩,jK::tyL l 10 4 (atV l 9 3) (qP mods),[⟨#[99,111,117,110,116]⟩,⟨#[108,111,103]⟩,⟨#[109,111,114,101]⟩],[],jK,0⟩
def zJw:Pln:=⟨0,⟨#[79,117,116]⟩,[zBm (idR (mods+2)),jM jK,jK],[⟨#[115,116,97,116,101]⟩,⟨#[115,105,103,110,97,108,115]⟩,⟨#[110,101,120,116]⟩],[],jK,0⟩
def zE7:List Typ:=zCv (atV l 12 6) (qP mods) (zBa mods)::(if atV l 13 2=1 then [zCv (atV l 14 6) (qP mods) (zBa mods)] else [])
def pF:Pln:=⟨2,⟨#[102]⟩,zE7 l mods,[⟨#[97]⟩,⟨#[98]⟩],[],zQu l mods,atV l 15 mods⟩
def zHB:Pln:=⟨3,⟨#[115,116,101,112]⟩,[zBm (idR (mods+2)),zBa mods],[⟨#[115]⟩,⟨#[101]⟩],[],zBm (idR (mods+3)),mods-1⟩
def pG:Pln:=⟨2,⟨#[103]⟩,[zBa mods],[⟨#[101]⟩],[],zCv (atV l 17 6) (qP mods) (zBa mods),mods-1⟩
def pT:Pln:=⟨4,⟨#[116]⟩,(inV l 18 (qP mods)).map (·.1),[⟨#[97]⟩,⟨#[98]⟩],(inV l 18 (qP mods)).map (·.2),zCv (atV l 21 6) (qP mods) (zQu l mods),mods-1⟩
def pC:Pln:=⟨5,⟨#[99]⟩,[zCY l mods],[⟨#[111,108,100]⟩],[],zCv (atV l 23 6) (qP mods) (zCY l mods),mods-1⟩
def plE:List Pln:=if 0<atV l 22 4 then [pC l mods] else []
def plD:List Pln:=pT l mods::plE l mods
def plC:List Pln:=(if zDY l then zHB mods else pG l mods)::plD l mods
def plB:List Pln:=pF l mods::plC l mods
def qD:List Pln:=[zAW l mods,zBk l mods]++(if zDY l then [zC8 l mods,zJw mods] else [])++plB l mods
end
abbrev zP9 (L:List Pln):=fin [RS.slot 4] (zHa 0 (.sl L.length (yO L)) [])
theorem qAl (L:List Pln):wpK Tryz.prog 0 zTx (zP9 L) (qT [(10,.sl L.length (yO L))]) []:=by unfold zTx;simp;exact zC 0 (by simp)
theorem qIH (l:List Int)(mods:Int)(hm:1≤mods)(hm2:mods≤2)(hl:∀x∈l,w64 x=x)(L:List Pln)(hL:L.length≤20) :
 wpK Tryz.prog 0 zTw (zP9 (L++plE l mods)) (qT [(0,.sl l.length (yF l)),(6,.ptr 0 0),(10,.row 2 L.length),(12,int (mods-1)),(13,.ptr 1 0)])
  [.box (zB (qP mods)),.box (zB (zCY l mods)),.row false 88 11 L.length (yO L)]:=by
 have h0:=zB2 l 22 4 (by omega);have h1:=zB2 l 23 6 (by omega);obtain⟨r0,r0'⟩:=yS (i:=23) hl (most:=6) (by omega);have h2:=zMu (atV l 23 6) (qP mods) (zCY l mods) (IntWalk.i64_in _ (by omega));unfold zTw;simp;refine zR h0 (by simp) (by simp) ?_;by_cases h:0<atV l 22 4
 ·simp[h,zB];refine qE h1 (by simp) (by simp) ?_;simp[zB];refine qE h2 (by simp[zB]) (by simp) ?_;simp[zB];refine⟨⟨by simp[maxLen]; omega,by omega⟩,?_⟩;exact⟨_,_,zS [] 1 (by decide) (by simp) (by simp) (by simp[plE,h,pC,zCE,zBZ,zAQ,qN,zB,zBf]),qAl _⟩
 ·simp[h];exact⟨_,_,zS [] 1 (by decide) (by simp) (by simp) (by simp[plE,h]),qAl _⟩
theorem zCg (l:List Int)(i m:Int)(hm:0<m)(hl:∀x∈l,w64 x=x)(hm2:m≤1000)(a b:Typ):Ret Tryz.prog 73 [int (atV l i m),.agg (zB a),.agg (zB b)] [] (.agg (zB (zCv (atV l i m) a b))) []:=by obtain⟨r0,r0'⟩:=yS (i:=i) hl (most:=m) hm;exact zMu _ _ _ (IntWalk.i64_in _ (by omega))
theorem qIG (l:List Int)(mods:Int)(hm:1≤mods)(hm2:mods≤2)(hl:∀x∈l,w64 x=x)(L:List Pln)(hL:L.length≤19) :
 wpK Tryz.prog 0 zTv (zP9 (L++plD l mods)) (qT [(0,.sl l.length (yF l)),(6,.ptr 0 0),(10,.row 3 L.length),(12,int (mods-1)),(13,.ptr 1 0),(16,.ptr 2 0)])
  [.box (zB (qP mods)),.box (zB (zCY l mods)),.box (zB (zQu l mods)),.row false 88 11 L.length (yO L)]:=by
 have h0:=qBP l 18 (qP mods) (by omega) (by omega) hl;have h1:=zB2 l 21 6 (by omega);have h2:=zCg l 21 6 (by omega) hl (by omega) (qP mods) (zQu l mods);have hD:=qIH l mods hm hm2 hl (L++[pT l mods]) (by simp; omega);rw[List.append_assoc]at hD;unfold zTv;simp[zB];refine zR h0 (by simp[zB]) (by simp[inR,zOZ,zJl]) ?_;simp[inR,zOZ,zJl];refine qE h1 (by simp) (by simp) ?_;simp[zB];refine qE h2 (by simp[zB]) (by simp) ?_;simp[zB];refine⟨⟨by simp[maxLen]; omega,by omega⟩,?_⟩;refine⟨_,_,zS [0,1,3] 0 (by decide) (by simp) ?_ (by simp),hD⟩;simp[zB,zCE,zBZ,zAQ,pT,zBh]
theorem qIF (l:List Int)(mods:Int)(hm:1≤mods)(hm2:mods≤2)(hl:∀x∈l,w64 x=x)(L:List Pln)(hL:L.length≤17) :
 wpK Tryz.prog 0 zTu (zP9 (L++plB l mods)) (qT [(0,.sl l.length (yF l)),(1,int mods),(5,bl (zDY l)),(6,.ptr 0 0),(7,.ptr 1 0),(8,.sl (zE7 l mods).length (jB (zE7 l mods))),(10,.row 3 L.length),(12,int (mods-1)),(13,.ptr 2 0)])
  [.box (zB (qP mods)),.box (zB (zBa mods)),.box (zB (zCY l mods)),.row false 88 11 L.length (yO L)]:=by
 have w3:IntKind.i64.wrap (mods+3)=mods+3:=IntWalk.i64_in _ (by omega);have h0:=zB2 l 15 mods (by omega);have h1:=zB2 l 16 6 (by omega);have h2:=zCg l 16 6 (by omega) hl (by omega) (qP mods) (qP mods);have h3:=zFc (mods+3);have h4:=zMl (idR (mods+3));have h5:=zB2 l 17 6 (by omega);have h6:=zCg l 17 6 (by omega) hl (by omega) (qP mods) (zBa mods);have hC:=qIG l mods hm hm2 hl (L++[pF l mods]++[if zDY l then zHB mods else pG l mods]) (by simp; omega);rw[List.append_assoc,List.append_assoc]at hC;unfold zTu;simp;refine zR h0 (by simp) (by simp) ?_;simp;refine zQU h1 [] (by decide) (by simp) (by simp) (by simp) ?_;simp[zB];refine zQU h2 [] (by decide) (by simp) (by simp[zB]) (by simp) ?_;simp[zB];refine⟨⟨by simp[maxLen]; omega,by omega⟩,?_⟩;cases hh:zDY l
 ·simp[zB];refine qE h5 (by simp) (by simp) ?_;simp[zB];refine qE h6 (by simp[zB]) (by simp) ?_;simp[zB];refine⟨⟨by simp[maxLen]; omega,by omega⟩,?_⟩;refine⟨_,_,zS [0,2,4,3] 0 (by decide) (by simp) ?_ (by simp),hC⟩;simp[zB,zCE,zBZ,zAQ,pF,pG,hh,zQu,zBf,zBh,qN]
 ·simp[zB,w3];refine qE h3 (by simp) (by simp) ?_;simp[zB];refine qE h4 (by simp[qX]) (by simp) ?_;simp[zB];refine⟨⟨by simp[maxLen]; omega,by omega⟩,?_⟩;refine⟨_,_,zS [0,2,4,3] 0 (by decide) (by simp) ?_ (by simp),hC⟩;simp[zB,zCE,zBZ,zAQ,pF,zHB,hh,zQu,zCY,zBf,zBh,qN]
theorem qAk (l:List Int)(mods:Int)(hm:1≤mods)(hm2:mods≤2)(hl:∀x∈l,w64 x=x)(L:List Pln)(hL:L.length≤17) :
 wpK Tryz.prog 0 zTt (zP9 (L++plB l mods)) (qT [(0,.sl l.length (yF l)),(1,int mods),(5,bl (zDY l)),(6,.ptr 0 0),(7,.ptr 1 0),(10,.row 3 L.length),(12,int (mods-1)),(13,.ptr 2 0)])
  [.box (zB (qP mods)),.box (zB (zBa mods)),.box (zB (zCY l mods)),.row false 88 11 L.length (yO L)]:=by
 have h0:=zB2 l 12 6 (by omega);have h1:=zCg l 12 6 (by omega) hl (by omega) (qP mods) (zBa mods);have h2:=zB2 l 13 2 (by omega);have h3:=zB2 l 14 6 (by omega);have h4:=zCg l 14 6 (by omega) hl (by omega) (qP mods) (zBa mods);have hB:=qIF l mods hm hm2 hl L hL;unfold zTt;simp;refine qE h0 (by simp) (by simp) ?_;simp[zB];refine qE h1 (by simp[zB]) (by simp) ?_;simp[zB];refine zR h2 (by simp) (by simp) ?_;by_cases h:atV l 13 2=1
 ·simp[h,zB];refine qE h3 (by simp) (by simp) ?_;simp[zB];refine qE h4 (by simp[zB]) (by simp) ?_;simp[zB,maxLen];refine⟨_,_,zS [0,1,2,3] 1 (by decide) (by simp) (by simp[zB]) ?_,hB⟩;simp[zE7,h,qN,zB]
 ·simp[h,zB];refine⟨_,_,zS [0,1,2,3] 1 (by decide) (by simp) (by simp[zB]) ?_,hB⟩;simp[zE7,h,qN,zB]
theorem zDF {s:ByteArray}{l:List ByteArray}:jY (s::l)=.lit (.string s)::jY l:=rfl
theorem zGp (l:List Int)(at_ most:Int)(n:Nat)(one:Typ):(tyL l at_ most n one).length=n:=by simp[tyL]
theorem zKZ (l:List Int)(at_ most:Int){n i:Nat}(h:i<n)(one:Typ):(tyL l at_ most n one).take (i+1)=(tyL l at_ most n one).take i++[zCv (atV l (at_+i) most) one one]:=by
 have hi:i<(tyL l at_ most n one).length:=by rw[zGp]; exact h
 rw[List.take_succ_eq_append_getElem hi]
 congr 2
 simp[tyL]
theorem zFL (l:List Int)(at_ most:Int){n i:Nat}(h:i≤n)(one:Typ):((tyL l at_ most n one).take i).length=i:=by rw[List.length_take,zGp]; omega
theorem zNn (l:List Int)(at_ most:Int)(n:Nat)(one:Typ):(tyL l at_ most n one).take n=tyL l at_ most n one:=List.take_of_length_le (by rw[zGp]; exact Nat.le_refl _)
set_option maxHeartbeats 1000000 in
theorem qIJ (l:List Int)(mods:Int)(hm:1≤mods)(hm2:mods≤2)(hl:∀x∈l,w64 x=x) :
 wpK Tryz.prog 0 zTz (zP9 (qD l mods)) (qT [(0,.sl l.length (yF l)),(1,int mods),(5,bl (zDY l)),(6,.ptr 0 0),(7,.ptr 1 0),(8,.sl (zBk l mods).types.length (jB (zBk l mods).types)),(10,.row 2 1)])
  [.box (zB (qP mods)),.box (zB (zBa mods)),.row false 88 11 1 (zAQ (zAW l mods))]:=by
 have w1:IntKind.i64.wrap (mods-1)=mods-1:=IntWalk.i64_in _ (by omega);have w2:IntKind.i64.wrap (mods+2)=mods+2:=IntWalk.i64_in _ (by omega);have h0:=zB2 l 9 3 (by omega);obtain⟨r0,r0'⟩:=yS (i:=9) hl (most:=3) (by omega);obtain⟨N,hN⟩:∃N:Nat,(N:Int)=atV l 9 3:=⟨(atV l 9 3).toNat,by omega⟩;unfold zTz;cases hh:zDY l
 ·have hA:=qAk l mods hm hm2 hl [zAW l mods,zBk l mods] (by simp);have hpl:[zAW l mods,zBk l mods]++plB l mods=qD l mods:=by simp[qD,hh]
  rw[hpl,hh]at hA;simp[w1];refine⟨by simp[maxLen],?_⟩;refine⟨_,_,zS [0,1,3,2] 0 (by decide) (by simp) ?_ (by simp),hA⟩;simp[zB,zBZ,zAQ,zBk,jK,Id.zero,zCY,hh,zDF]
 ·have hA:=qAk l mods hm hm2 hl [zAW l mods,zBk l mods,zC8 l mods,zJw mods] (by simp);have hpl:[zAW l mods,zBk l mods,zC8 l mods,zJw mods]++plB l mods=qD l mods:=by simp[qD,hh]
  rw[hpl,hh]at hA;simp[w1];refine⟨by simp[maxLen],?_⟩;refine qZ (S:=Nat) (fun i=>[(0,.sl l.length (yF l)),(1,int mods),(5,bl true),(6,.ptr 0 0),(7,.ptr 1 0),(8,.row 4 (1+i)),(10,.row 2 2),(12,int (mods-1)),(13,.ptr 3 0),(14,int i)])
   (fun i=>[.box (zB (qP mods)),.box (zB (zBa mods)),.row false 88 11 2 (zAQ (zAW l mods)++zAQ (zBk l mods)),.box (zB (qP mods)),.row false 33 5 (1+i) (zB jK++jB ((tyL l 10 4 N (qP mods)).take i))]) (fun i=>i≤N) (fun i=>N-i) 0 (by simp)
   (zS [0,1,2,3,4] 0 (by decide) (by simp) (by simp[zB,zAQ,zBk,jK,Id.zero,zDF]) (by simp)) ?_
  intro i hi;by_cases h:i<N
  ·have h1:=zB2 l (10+i) 4 (by omega);have h2:=zCg l (10+i) 4 (by omega) hl (by omega) (qP mods) (qP mods);have hlt:(i:Int)<atV l 9 3:=by omega
   have v1:IntKind.i64.wrap (10+(i:Int))=10+i:=IntWalk.i64_in _ (by omega);have v2:IntKind.i64.wrap ((i:Int)+1)=i+1:=IntWalk.i64_in _ (by omega);have hst:=zKZ l 10 4 h (qP mods);have hsl:=zFL l 10 4 hi (qP mods);simp;refine zR h0 (by simp) (by simp) ?_;simp[hlt,v1];refine qE h1 (by simp) (by simp) ?_;simp[zB];refine qE h2 (by simp[zB]) (by simp) ?_;simp[zB];refine⟨⟨by simp[maxLen]; omega,by omega⟩,?_⟩;exact zT (i+1) h (by omega) (zS [0,1,2,3,4] 0 (by decide) (by simp) (by rw[hst]; simp[zB,zDU,qN,hsl]; omega) (by simp[v2]; omega))
  ·have hie:i=N:=by omega
   subst hie;have h3:=zFc (mods+2);have h4:=zMl (idR (mods+2));have hall:=zNn l 10 4 i (qP mods);have hty:(zC8 l mods).types=jK::tyL l 10 4 i (qP mods):=by rw[hN]; rfl
   have hlen:=zGp l 10 4 i (qP mods);simp;refine zR h0 (by simp) (by simp) ?_;simp[hN];refine⟨qT [(0,.sl l.length (yF l)),(1,int mods),(5,bl true),(6,.ptr 0 0),(7,.ptr 1 0),(8,.sl (zC8 l mods).types.length (jB (zC8 l mods).types)),(10,.row 2 2),(12,int (mods-1)),(13,.ptr 3 0)],[.box (zB (qP mods)),.box (zB (zBa mods)),.row false 88 11 2 (zAQ (zAW l mods)++zAQ (zBk l mods)),.box (zB (qP mods))],
    zS [0,1,2,3] 1 (by decide) (by simp) (by simp) (by rw[hty]; simp[←hN,hall,hlen,qN]; omega),?_⟩
   simp[w2];refine zR h3 (by simp) (by simp) ?_;simp;refine zR h4 (by simp[qX]) (by simp) ?_;simp[zB];refine⟨by simp[maxLen],?_⟩;refine qE zKq (by simp[zB,jK,Id.zero]) (by simp) ?_;simp[zB];refine⟨by simp[maxLen],?_⟩;refine⟨_,_,zS [0,1,3,2] 0 (by decide) (by simp) ?_ (by simp),hA⟩;simp[zB,zBZ,zAQ,zJw,zC8,qN,jK,Id.zero,zCY,hh,zDF]
set_option maxHeartbeats 1000000 in
theorem qII (l:List Int)(mods:Int)(hm:1≤mods)(hm2:mods≤2)(hl:∀x∈l,w64 x=x) :
 wpK Tryz.prog 0 zTy (zP9 (qD l mods)) (qT [(0,.sl l.length (yF l)),(1,int mods),(5,bl (zDY l)),(6,.ptr 0 0),(7,.ptr 1 0),(8,.sl (zAW l mods).types.length (jB (zAW l mods).types))])
  [.box (zB (qP mods)),.box (zB (zBa mods))]:=by
 have h0:=zB2 l 6 2 (by omega);obtain⟨r0,r0'⟩:=yS (i:=6) hl (most:=2) (by omega);obtain⟨N,hN⟩:∃N:Nat,(N:Int)=1+atV l 6 2:=⟨(1+atV l 6 2).toNat,by omega⟩;have wN:IntKind.i64.wrap (1+atV l 6 2)=N:=by rw[hN]; exact IntWalk.i64_in _ (by omega)
 have hQ:=qIJ l mods hm hm2 hl;unfold zTy;simp;refine qZ (S:=Nat) (fun i=>[(0,.sl l.length (yF l)),(1,int mods),(5,bl (zDY l)),(6,.ptr 0 0),(7,.ptr 1 0),(8,.row 3 (1+i)),(10,.row 2 1),(11,int i)])
  (fun i=>[.box (zB (qP mods)),.box (zB (zBa mods)),.row false 88 11 1 (zAQ (zAW l mods)),.row false 33 5 (1+i) (zB jK++jB ((tyL l 7 4 N (qP mods)).take i))]) (fun i=>i≤N) (fun i=>N-i) 0 (by simp)
  (zS [0,1,2,3] 0 (by decide) (by simp) (by simp[zB,zAQ,zAW,jK,Id.zero,zDF]) (by simp)) ?_
 intro i hi;by_cases h:i<N
 ·have h1:=zB2 l (7+i) 4 (by omega);have h2:=zCg l (7+i) 4 (by omega) hl (by omega) (qP mods) (qP mods);have v1:IntKind.i64.wrap (7+(i:Int))=7+i:=IntWalk.i64_in _ (by omega);have v2:IntKind.i64.wrap ((i:Int)+1)=i+1:=IntWalk.i64_in _ (by omega);have hst:=zKZ l 7 4 h (qP mods);have hsl:=zFL l 7 4 hi (qP mods);simp;refine zR h0 (by simp) (by simp) ?_;simp[h,v1,wN];refine qE h1 (by simp) (by simp) ?_;simp[zB];refine qE h2 (by simp[zB]) (by simp) ?_;simp[zB];refine⟨⟨by simp[maxLen]; omega,by omega⟩,?_⟩;exact zT (i+1) h (by omega) (zS [0,1,2,3] 0 (by decide) (by simp) (by rw[hst]; simp[zB,zDU,qN,hsl]; omega) (by simp[v2]; omega))
 ·have hie:i=N:=by omega
  subst hie;have hall:=zNn l 7 4 i (qP mods);have hty:(zBk l mods).types=jK::tyL l 7 4 i (qP mods):=by rw[hN]; rfl
  have hlen:=zGp l 7 4 i (qP mods);simp;refine zR h0 (by simp) (by simp) ?_;simp[wN];exact⟨_,_,zS [0,1,2] 1 (by decide) (by simp) (by simp) (by rw[hty]; simp[hall,hlen,qN]; omega),hQ⟩
set_option maxHeartbeats 1000000 in
theorem zVI (l:List Int)(mods:Int)(hm:1≤mods)(hm2:mods≤2)(hl:∀x∈l,w64 x=x) :
 Ret Tryz.prog 33 [.sl l.length (yF l),int mods] [] (.sl (qD l mods).length (yO (qD l mods))) []:=by
 have w1:IntKind.i64.wrap (mods+1)=mods+1:=IntWalk.i64_in _ (by omega);have k0:=zB2 l 1 4 (by omega);have k1:=zFc mods;have k2:=zMl (idR mods);have k3:=zFc (mods+1);have k4:=zMl (idR (mods+1));have h0:=zB2 l 2 3 (by omega);obtain⟨r0,r0'⟩:=yS (i:=2) hl (most:=3) (by omega);obtain⟨N,hN⟩:∃N:Nat,(N:Int)=1+atV l 2 3:=⟨(1+atV l 2 3).toNat,by omega⟩;have wN:IntKind.i64.wrap (1+atV l 2 3)=N:=by rw[hN]; exact IntWalk.i64_in _ (by omega)
 have hP:=qII l mods hm hm2 hl;refine zH Tryz.func33 rfl qMk (rs:=[.slot 4]) (by kernel_rfl) ?_;unfold qF0;simp;refine zR k0 (by simp) (by simp) ?_;simp;refine zR k1 (by simp) (by simp) ?_;simp;refine zR k2 (by simp[qX]) (by simp) ?_;simp[zB,w1];refine zR k3 (by simp) (by simp) ?_;simp;refine zR k4 (by simp[qX]) (by simp) ?_;simp[zB];refine qZ (S:=Nat) (fun i=>[(0,.sl l.length (yF l)),(1,int mods),(5,bl (zDY l)),(6,.ptr 0 0),(7,.ptr 1 0),(8,.row 2 i),(9,int i)])
  (fun i=>[.box (zB (qP mods)),.box (zB (zBa mods)),.row false 33 5 i (jB ((tyL l 3 3 N (qP mods)).take i))]) (fun i=>i≤N) (fun i=>N-i) 0 (by simp)
  ((yA (t:=8) (by simp) 33 5).trans (zS [0,1,2] 0 (by decide) (by simp) (by simp[zB,qP,zBa]) (by simp[zDY]))) ?_
 intro i hi;by_cases h:i<N
 ·have h1:=zB2 l (3+i) 3 (by omega);have h2:=zCg l (3+i) 3 (by omega) hl (by omega) (qP mods) (qP mods);have v1:IntKind.i64.wrap (3+(i:Int))=3+i:=IntWalk.i64_in _ (by omega);have v2:IntKind.i64.wrap ((i:Int)+1)=i+1:=IntWalk.i64_in _ (by omega);have hst:=zKZ l 3 3 h (qP mods);have hsl:=zFL l 3 3 hi (qP mods);simp;refine zR h0 (by simp) (by simp) ?_;simp[h,v1,wN];refine qE h1 (by simp) (by simp) ?_;simp[zB];refine qE h2 (by simp[zB]) (by simp) ?_;simp[zB];refine⟨⟨by simp[maxLen]; omega,by omega⟩,?_⟩;exact zT (i+1) h (by omega) (zS [0,1,2] 0 (by decide) (by simp) (by rw[hst]; simp[zB,zDU,qN,hsl]) (by simp[v2]))
 ·have hie:i=N:=by omega
  subst hie;have hall:=zNn l 3 3 i (qP mods);have hty:(zAW l mods).types=tyL l 3 3 i (qP mods):=by rw[hN]; rfl
  have hlen:=zGp l 3 3 i (qP mods);simp;refine zR h0 (by simp) (by simp) ?_;simp[wN];exact⟨_,_,zS [0,1] 1 (by decide) (by simp) (by simp) (by rw[hty]; simp[hall,hlen]),hP⟩
theorem zMM {k:Int}(h0:0≤k)(h1:k≤1000000000000000):idR k=⟨0,1+k / 32,k % 32⟩:=by unfold idR;have e1:k.tdiv 32=k / 32:=tdN h0;have e2:k.tmod 32=k % 32:=tmN h0;have w1:IntKind.i64.wrap (k.tdiv 32)=k.tdiv 32:=IntWalk.i64_in _ (by omega);rw[w1,e2];have w2:IntKind.i64.wrap (1+k.tdiv 32)=1+k.tdiv 32:=IntWalk.i64_in _ (by omega);rw[w2,e1]
theorem zZK {k:Int}(h0:0≤k)(h1:k≤1000000000000000):1≤(idR k).b:=by rw[zMM h0 h1];show 1≤1+k / 32;omega
theorem zH0 {k j:Int}(h0:0≤k)(h1:k≤1000000000000000)(g0:0≤j)(g1:j≤1000000000000000)(h:idR k=idR j):k=j:=by
 rw[zMM h0 h1,zMM g0 g1]at h;injection h with _ h2 h3
 omega
def zMv (next:Int)(p:Pln)(k:Nat):Slt:=⟨idR (next+k),p.names.getD k ⟨#[]⟩,p.types.getD k jK,if p.kind=4 then p.most.getD k 0 else 0,k⟩
def zAZ (next:Int)(p:Pln):List Slt:=(List.range p.types.length).map (zMv next p)
def zNE (mods next:Int)(i:Nat)(p:Pln):Dfn:=⟨idR (mods+i),p.kind,idR p.mod,p.name,zAZ next p,p.out,Exp.zero,0,[]⟩
def zAz (mods:Int)(ps:List Pln):Nat→Int
 | 0=>mods+ps.length
 | i+1=>zAz mods ps i+(match ps[i]? with | some p=>(p.types.length:Int) | none=>0)
def zDG (mods:Int)(ps:List Pln):List Dfn:=ps.mapIdx fun i p=>zNE mods (zAz mods ps i) i p
def zFh (mods:Int)(ps:List Pln)(c:Int)(i:Nat):List Id:=((List.range i).filter fun j=>match ps[j]? with | some p=>decide (p.mod=c) | none=>false).map fun(j:Nat)=>idR (mods+j)
def zJk (mods:Int)(ps:List Pln):List Md :=
 (⟨idR 0,⟨#[99,111,114,101]⟩,[],zFh mods ps 0 ps.length⟩:Md)::(if mods=2 then [⟨idR 1,⟨#[109,105,108,108]⟩,[idR 0],zFh mods ps 1 ps.length⟩] else [])
@[simp] theorem zRU (mods:Int)(ps:List Pln):(zDG mods ps).length=ps.length:=by simp[zDG]
@[simp] theorem zCB (next:Int)(p:Pln):(zAZ next p).length=p.types.length:=by simp[zAZ]
theorem zIg (mods:Int)(ps:List Pln){i:Nat}(h:i<ps.length):(zDG mods ps)[i]'(by simpa using h)=zNE mods (zAz mods ps i) i ps[i]:=by simp[zDG]
theorem zKz (mods:Int)(ps:List Pln){i:Nat}(h:i<ps.length):zAz mods ps (i+1)=zAz mods ps i+ps[i].types.length:=by simp only[zAz]; rw[List.getElem?_eq_getElem h]
structure PlnOk (mods:Int)(p:Pln):Prop where
 kind0:0≤p.kind
 kind5:p.kind≤5
 mod0:0≤p.mod
 mod1:p.mod<mods
 t1:1≤p.types.length
 t6:p.types.length≤6
 names:p.types.length≤p.names.length
 most:p.kind=4→p.types.length≤p.most.length
theorem zQp (x:Int)(a b:Typ)(hx:w64 x=x):zCv x a b=jK∨zCv x a b=jT∨zCv x a b=jM jK∨zCv x a b=a∨zCv x a b=b:=by
 obtain⟨k0,k6⟩:=zCl (k:=6) hx (by omega);unfold zCv;generalize zAq x 6=k at *
 have:k=0∨k=1∨k=2∨k=3∨k=4∨k=5:=by omega
 rcases this with rfl | rfl | rfl | rfl | rfl | rfl<;>simp
theorem zJI {l:List Int}{i most:Int}(hl:∀x∈l,w64 x=x)(hm:0<most)(h2:most≤1000):w64 (atV l i most)=atV l i most:=by obtain⟨a,b⟩:=yS (i:=i) hl hm;exact IntWalk.i64_in _ (by omega)
theorem zHf {k:Int}(h0:0≤k)(h:k<6):zAq k 6=k:=by
 have:k=0∨k=1∨k=2∨k=3∨k=4∨k=5:=by omega
 rcases this with rfl | rfl | rfl | rfl | rfl | rfl<;>decide
theorem zVW {x:Int}(h0:0≤x)(h:x<3)(a b:Typ):zCv x a b=jK∨zCv x a b=jT∨zCv x a b=jM jK:=by
 unfold zCv;rw[zHf h0 (by omega)];have:x=0∨x=1∨x=2:=by omega
 rcases this with rfl | rfl | rfl<;>simp
theorem zVX {x:Int}(h0:0≤x)(h:x<4)(a b:Typ):zCv x a b=jK∨zCv x a b=jT∨zCv x a b=jM jK∨zCv x a b=a:=by
 unfold zCv;rw[zHf h0 (by omega)];have:x=0∨x=1∨x=2∨x=3:=by omega
 rcases this with rfl | rfl | rfl | rfl<;>simp
theorem zJ7 {l:List Int}{at_ most n:Int}{one t:Typ}(h:t∈tyL l at_ most n one):∃i:Nat,t=zCv (atV l (at_+i) most) one one:=by simp only[tyL,List.mem_map]at h;obtain⟨i,_,rfl⟩:=h;exact⟨i,rfl⟩
theorem zCC (l:List Int)(at_ most n:Int)(one:Typ):(tyL l at_ most n one).length=n.toNat:=by simp[tyL]
section
variable (l:List Int)(mods:Int)(hm:1≤mods)(hm2:mods≤2)(hl:∀x∈l,w64 x=x)
include hm hm2 hl
theorem zBs:∀p∈qD l mods,PlnOk mods p:=by
 intro p hp;have a2:=yS (i:=2) hl (most:=3) (by omega);have a6:=yS (i:=6) hl (most:=2) (by omega);have a9:=yS (i:=9) hl (most:=3) (by omega);have a15:=yS (i:=15) hl (most:=mods) (by omega);have hF:(zE7 l mods).length=1∨(zE7 l mods).length=2:=by unfold zE7;split<;>simp
 have hT:(inV l 18 (qP mods)).length=1∨(inV l 18 (qP mods)).length=2:=by
  unfold inV zVj;split
  ·simp
  ·split<;>simp
 have hp':p=zAW l mods∨p=zBk l mods∨p=zC8 l mods∨p=zJw mods∨p=pF l mods∨p=zHB mods∨p=pG l mods∨p=pT l mods∨p=pC l mods:=by
  simp only[qD,plB,plC,plD,plE,List.mem_append,List.mem_cons]at hp;rcases hp with ((h | h | h) | h) | h | h | h | h
  ·simp[h]
  ·simp[h]
  ·simp at h
  ·split at h
   ·simp at h; rcases h with h | h<;>simp[h]
   ·simp at h
  ·simp[h]
  ·split at h<;>simp[h]
  ·simp[h]
  ·split at h
   ·simp at h; simp[h]
   ·simp at h
 rcases hp' with rfl | rfl | rfl | rfl | rfl | rfl | rfl | rfl | rfl
 ·refine⟨?_,?_,?_,?_,?_,?_,?_,?_⟩<;>simp only[zAW,zCC]<;>first | omega | simp<;>omega
 ·refine⟨?_,?_,?_,?_,?_,?_,?_,?_⟩<;>simp only[zBk,List.length_cons,zCC]<;>first | omega | simp<;>omega
 ·refine⟨?_,?_,?_,?_,?_,?_,?_,?_⟩<;>simp only[zC8,List.length_cons,zCC]<;>first | omega | simp<;>omega
 ·refine⟨?_,?_,?_,?_,?_,?_,?_,?_⟩<;>simp only[zJw,List.length_cons,List.length_nil]<;>first | omega | simp<;>omega
 ·refine⟨?_,?_,?_,?_,?_,?_,?_,?_⟩<;>simp only[pF,List.length_cons,List.length_nil]<;>first | omega | simp<;>omega
 ·refine⟨?_,?_,?_,?_,?_,?_,?_,?_⟩<;>simp only[zHB,List.length_cons,List.length_nil]<;>first | omega | simp<;>omega
 ·refine⟨?_,?_,?_,?_,?_,?_,?_,?_⟩<;>simp only[pG,List.length_cons,List.length_nil]<;>first | omega | simp<;>omega
 ·refine⟨?_,?_,?_,?_,?_,?_,?_,?_⟩<;>simp only[pT,List.length_cons,List.length_nil,List.length_map]<;>first | omega | simp<;>omega
 ·refine⟨?_,?_,?_,?_,?_,?_,?_,?_⟩<;>simp only[pC,List.length_cons,List.length_nil]<;>first | omega | simp<;>omega
omit hm hm2 hl in
theorem zAO:5≤(qD l mods).length∧(qD l mods).length≤8:=by unfold qD plB plC plD plE;split<;>split<;>simp
end
theorem zCR {mods:Int}{ps:List Pln}(hm:0≤mods)(h6:∀p∈ps,p.types.length≤6):∀i:Nat,mods+ps.length≤zAz mods ps i∧zAz mods ps i≤mods+ps.length+6*i
 | 0=>by simp[zAz]
 | i+1=>by
  have ih:=zCR hm h6 i;simp only[zAz];split
  ·rename_i p hp;have:=h6 p (List.mem_of_getElem? hp);omega
  ·omega
theorem zPZ {mods:Int}{ps:List Pln}{i j:Nat}(h:i≤j):zAz mods ps i≤zAz mods ps j:=by
 induction h with
 | refl=>exact Int.le_refl _
 | step h ih =>
  simp only[zAz];split
  ·rename_i p _;have:=Int.natCast_nonneg p.types.length;omega
  ·omega
end Go.Proofs.YthglhccibdlccaaGreatDoor
