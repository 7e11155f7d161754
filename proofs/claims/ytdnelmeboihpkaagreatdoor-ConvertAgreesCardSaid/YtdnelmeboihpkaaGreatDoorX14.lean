/- The reference's nodes, in preorder; the first node with an ID; same nodes and definitions. -/
import Derived.Test.YtdnelmeboihpkaaGreatDoorX13
set_option linter.unusedVariables false
set_option maxHeartbeats 8000000
set_option maxRecDepth 100000
set_option linter.unusedSimpArgs false
open Go.Proofs.Tryz
namespace Go.Proofs.YtdnelmeboihpkaaGreatDoor
open Go.Abs
theorem zUG(d:Dfn):mv 141 [.agg (zJ d)] [] (bl (zCo d.kind)) []:=by
 refine ml [] [.slot 2] func141 (by kernel_rfl) ?_
 (conv in kq _ _=>cbv)
 by_cases h2:d.kind=2
 .simp[zJ,h2];exact zA 0 (by simp[zCo,h2])
 .by_cases h3:d.kind=3
  .simp[zJ,h3];exact zA 0 (by simp[zCo,h3])
  .by_cases h4:d.kind=4
   .simp[zJ,h4];exact zA 0 (by simp[zCo,h4])
   .simp[zJ,h2,h3,h4];exact zA 0 (by simp[zCo,h2,h3,h4])
def zQG:K:=(G [M 212 10,M 4 212] kr)
def zQF:K:=(Z (G [M 196 0,kC 197 38 [(kt 196),(kc 22),(kc 4)],kBi 198 197 0 .gtr] (Y 198 (K.dops [(0,0,M 199 10),(1,0,J 200 13 5),(2,0,kd 201 35 5 1 kz2 [(0,5,(kt 200))]),(3,0,⟨none,.bslice (some 202) 9 1 1 [(.string ⟨#[]⟩)] [(0,1,(.const (.string ⟨#[111,108,100]⟩)))]⟩),(4,0,M 203 0),(5,0,kC 204 38 [(kt 203),(kc 23),(kc 6)]),(6,0,J 205 6 5),(7,0,J 206 13 5),(8,0,kC 207 125 [(kt 204),(kt 205),(kt 206)]),(9,0,M 208 12),(10,0,⟨none,.build (some 209) kz3 [(0,1,(kc 5)),(1,1,(.const (.string ⟨#[99]⟩))),(2,1,(kt 201)),(3,1,(kt 202)),(5,5,(kt 207)),(10,1,(kt 208))]⟩),(11,0,kd 210 133 11 1 kz3 [(0,11,(kt 209))]),(12,0,kP 211 133 11 160 199 210),(13,0,M 10 211)]) ks)) (K.wk zQG))
def zQE:K:=(G [M 178 0,J 179 6 5,kC 180 127 [(kt 178),(kc 18),(kt 179)],M 177 180,kE 181 177 0,kE 182 177 1,M 17 181,M 18 182] (Z (K.dops [(0,0,M 183 10),(1,0,M 184 17),(2,0,⟨none,.bslice (some 185) 9 1 2 [(.string ⟨#[]⟩),(.string ⟨#[]⟩)] [(0,1,(.const (.string ⟨#[97]⟩))),(1,1,(.const (.string ⟨#[98]⟩)))]⟩),(3,0,M 186 18),(4,0,M 187 0),(5,0,kC 188 38 [(kt 187),(kc 21),(kc 6)]),(6,0,J 189 6 5),(7,0,J 190 16 5),(8,0,kC 191 125 [(kt 188),(kt 189),(kt 190)]),(9,0,M 192 12),(10,0,⟨none,.build (some 193) kz3 [(0,1,(kc 4)),(1,1,(.const (.string ⟨#[116]⟩))),(2,1,(kt 184)),(3,1,(kt 185)),(4,1,(kt 186)),(5,5,(kt 191)),(10,1,(kt 192))]⟩),(11,0,kd 194 133 11 1 kz3 [(0,11,(kt 193))]),(12,0,kP 195 133 11 160 183 194),(13,0,M 10 195)]) (K.wk zQF)))
def zQD:K:=(G [M 134 0,M 135 1,kC 136 38 [(kt 134),(kc 15),(kt 135)],M 15 136] (Z (K.dops [(0,0,M 137 0),(1,1,kC 138 38 [(kt 137),(kc 16),(kc 6)]),(2,1,J 139 6 5),(3,1,J 140 6 5),(4,1,kC 141 125 [(kt 138),(kt 139),(kt 140)]),(5,0,kZ 16 kz2),(6,0,S 16 141 5)]) (G [M 142 10,M 143 8,⟨none,.bslice (some 144) 9 1 2 [(.string ⟨#[]⟩),(.string ⟨#[]⟩)] [(0,1,(.const (.string ⟨#[97]⟩))),(1,1,(.const (.string ⟨#[98]⟩)))]⟩,J 145 16 5,M 146 15,⟨none,.build (some 147) kz3 [(0,1,(kc 2)),(1,1,(.const (.string ⟨#[102]⟩))),(2,1,(kt 143)),(3,1,(kt 144)),(5,5,(kt 145)),(10,1,(kt 146))]⟩,kd 148 133 11 1 kz3 [(0,11,(kt 147))],kP 149 133 11 160 142 148,M 10 149] (Z (G [M 150 5] (Y 150 (K.dops [(0,0,M 151 10),(1,0,J 152 13 5),(2,0,J 153 7 5),(3,0,kd 154 35 5 2 [ki,ki,ki,ki,kl,ki,ki,ki,ki,kl] [(0,5,(kt 152)),(5,5,(kt 153))]),(4,0,⟨none,.bslice (some 155) 9 1 2 [(.string ⟨#[]⟩),(.string ⟨#[]⟩)] [(0,1,(.const (.string ⟨#[115]⟩))),(1,1,(.const (.string ⟨#[101]⟩)))]⟩),(5,0,M 156 1),(6,0,kBi 157 156 3 .add),(7,0,kC 158 83 [(kt 157)]),(8,0,kC 159 62 [(kt 158)]),(9,0,M 160 12),(10,0,⟨none,.build (some 161) kz3 [(0,1,(kc 3)),(1,1,(.const (.string ⟨#[115,116,101,112]⟩))),(2,1,(kt 154)),(3,1,(kt 155)),(5,5,(kt 159)),(10,1,(kt 160))]⟩),(11,0,kd 162 133 11 1 kz3 [(0,11,(kt 161))]),(12,0,kP 163 133 11 160 151 162),(13,0,M 10 163)]) (K.dops [(0,0,M 164 10),(1,0,J 165 7 5),(2,0,kd 166 35 5 1 kz2 [(0,5,(kt 165))]),(3,0,⟨none,.bslice (some 167) 9 1 1 [(.string ⟨#[]⟩)] [(0,1,(.const (.string ⟨#[101]⟩)))]⟩),(4,0,
 M 168 0),(5,0,kC 169 38 [(kt 168),(kc 17),(kc 6)]),(6,0,J 170 6 5),(7,0,J 171 7 5),(8,0,kC 172 125 [(kt 169),(kt 170),(kt 171)]),(9,0,M 173 12),(10,0,⟨none,.build (some 174) kz3 [(0,1,(kc 2)),(1,1,(.const (.string ⟨#[103]⟩))),(2,1,(kt 166)),(3,1,(kt 167)),(5,5,(kt 172)),(10,1,(kt 173))]⟩),(11,0,kd 175 133 11 1 kz3 [(0,11,(kt 174))]),(12,0,kP 176 133 11 160 164 175),(13,0,M 10 176)]))) (K.wk zQE)))))
def zQC:K:=(Z (K.dops [(0,0,M 117 0),(1,0,kC 118 38 [(kt 117),(kc 12),(kc 6)]),(2,0,J 119 6 5),(3,0,J 120 7 5),(4,0,kC 121 125 [(kt 118),(kt 119),(kt 120)]),(5,9,⟨none,.brow (some 122) 35 5 1 kz2 [(0,5,(kt 121))]⟩),(6,0,M 8 122)]) (Z (G [M 123 0,kC 124 38 [(kt 123),(kc 13),(kc 2)],kQi 125 124 1 false] (Y 125 (K.dops [(0,0,M 126 8),(1,0,M 127 0),(2,0,kC 128 38 [(kt 127),(kc 14),(kc 6)]),(3,0,J 129 6 5),(4,0,J 130 7 5),(5,0,kC 131 125 [(kt 128),(kt 129),(kt 130)]),(6,0,kd 132 35 5 1 kz2 [(0,5,(kt 131))]),(7,0,kP 133 35 5 56 126 132),(8,0,M 8 133)]) ks)) (K.wk zQD)))
def zQI:K:=(G [M 69 10,M 70 8,⟨none,.bslice (some 71) 9 1 3 zUP [(0,1,(.const (.string ⟨#[84,105,99,107]⟩))),(1,1,(.const (.string ⟨#[80,117,115,104]⟩))),(2,1,(.const (.string ⟨#[83,101,116]⟩)))]⟩,⟨none,.build (some 72) kz3 [(0,1,(kc 1)),(1,1,(.const (.string ⟨#[69,118,101,110,116]⟩))),(2,1,(kt 70)),(3,1,(kt 71))]⟩,kd 73 133 11 1 kz3 [(0,11,(kt 72))],kP 74 133 11 160 69 73,M 10 74] (G [M 75 1,kBi 76 75 1 .sub,M 12 76] (G [J 77 6 5,kZ 13 kz2,S 13 77 5] (Z (G [M 78 5] (Y 78 (G [kb 79 kz2 [],⟨none,.brow (some 80) 35 5 1 kz2 [(0,5,(kt 79))]⟩,M 8 80] (Z (G [kMi 14 0] (K.block 4 (K.loop (Z (G [M 81 14,M 82 0,kC 83 38 [(kt 82),(kc 9),(kc 3)],kB 84 81 83 .lss] (Y 84 ks (K.exit 4))) (Z (K.block 5 (K.dops [(0,0,M 87 8),(1,0,M 88 0),(2,0,M 89 14),(3,0,⟨none,.bin (some 90) .add (kc 10) (kt 89)⟩),(4,0,kC 91 38 [(kt 88),(kt 90),(kc 4)]),(5,0,J 92 6 5),(6,0,J 93 6 5),(7,0,kC 94 125 [(kt 91),(kt 92),(kt 93)]),(8,0,kd 95 35 5 1 kz2 [(0,5,(kt 94))]),(9,0,kP 96 35 5 56 87 95),(10,0,M 8 96)])) (K.ops [M 85 14,kBi 86 85 1 .add,M 14 86])))))) (Z (K.wk (K.ops [M 97 1,kBi 98 97 2 .add,kC 99 83 [(kt 98)],kC 100 62 [(kt 99)],S 13 100 5])) (G [M 101 10,
 M 102 8,⟨none,.bslice (some 103) 9 1 3 zUP [(0,1,(.const (.string ⟨#[99,111,117,110,116]⟩))),(1,1,(.const (.string ⟨#[108,111,103]⟩))),(2,1,(.const (.string ⟨#[109,111,114,101]⟩)))]⟩,⟨none,.build (some 104) kz3 [(0,1,(kc 0)),(1,1,(.const (.string ⟨#[83,116,97,116,101]⟩))),(2,1,(kt 102)),(3,1,(kt 103))]⟩,kd 105 133 11 1 kz3 [(0,11,(kt 104))],kP 106 133 11 160 101 105,M 10 106] (K.dops [(0,0,M 107 10),(1,0,J 108 13 5),(2,0,kb 109 kz2 []),(3,0,kC 110 126 [(kt 109)]),(4,0,kb 111 kz2 []),(5,0,kd 112 35 5 3 qN2 [(0,5,(kt 108)),(5,5,(kt 110)),(10,5,(kt 111))]),(6,0,⟨none,.bslice (some 113) 9 1 3 zUP [(0,1,(.const (.string ⟨#[115,116,97,116,101]⟩))),(1,1,(.const (.string ⟨#[115,105,103,110,97,108,115]⟩))),(2,1,(.const (.string ⟨#[110,101,120,116]⟩)))]⟩),(7,0,⟨none,.build (some 114) kz3 [(0,1,(kc 0)),(1,1,(.const (.string ⟨#[79,117,116]⟩))),(2,1,(kt 112)),(3,1,(kt 113))]⟩),(8,0,kd 115 133 11 1 kz3 [(0,11,(kt 114))]),(9,0,kP 116 133 11 160 107 115),(10,0,M 10 116)]))))) ks)) (K.wk zQC)))))
def zQH:K:=(G [M 46 8,⟨none,.bslice (some 47) 9 1 3 zUP [(0,1,(.const (.string ⟨#[120]⟩))),(1,1,(.const (.string ⟨#[121]⟩))),(2,1,(.const (.string ⟨#[122]⟩)))]⟩,⟨none,.build (some 48) kz3 [(0,1,(kc 0)),(1,1,(.const (.string ⟨#[80,111,105,110,116]⟩))),(2,1,(kt 46)),(3,1,(kt 47))]⟩,⟨none,.brow (some 49) 133 11 1 kz3 [(0,11,(kt 48))]⟩,M 10 49] (G [kb 50 kz2 [],⟨none,.brow (some 51) 35 5 1 kz2 [(0,5,(kt 50))]⟩,M 8 51] (Z (G [kMi 11 0] (K.block 2 (K.loop (Z (G [M 52 11,M 53 0,kC 54 38 [(kt 53),(kc 6),(kc 2)],⟨none,.bin (some 55) .add (kc 1) (kt 54)⟩,kB 56 52 55 .lss] (Y 56 ks (K.exit 2))) (Z (K.block 3 (K.dops [(0,0,M 59 8),(1,0,M 60 0),(2,0,M 61 11),(3,0,⟨none,.bin (some 62) .add (kc 7) (kt 61)⟩),(4,0,kC 63 38 [(kt 60),(kt 62),(kc 4)]),(5,0,J 64 6 5),(6,0,J 65 6 5),(7,0,kC 66 125 [(kt 63),(kt 64),(kt 65)]),(8,0,kd 67 35 5 1 kz2 [(0,5,(kt 66))]),(9,0,kP 68 35 5 56 59 67),(10,0,M 8 68)])) (K.ops [M 57 11,kBi 58 57 1 .add,M 11 58])))))) (K.wk zQI))))
def qDk:K:=G [kMn 4] (G [M 19 0,kC 20 38 [(kt 19),(kc 1),(kc 4)],kBi 21 20 0 .gtr,M 5 21] (G [M 22 1,kC 23 83 [(kt 22)],kC 24 62 [(kt 23)],kZ 6 kz2,S 6 24 5] (G [M 25 1,kBi 26 25 1 .add,kC 27 83 [(kt 26)],kC 28 62 [(kt 27)],kZ 7 kz2,S 7 28 5] (G [kMn 8] (Z (G [kMi 9 0] (K.block 0 (K.loop (Z (G [M 29 9,M 30 0,kC 31 38 [(kt 30),(kc 2),(kc 3)],⟨none,.bin (some 32) .add (kc 1) (kt 31)⟩,kB 33 29 32 .lss] (Y 33 ks (K.exit 0))) (Z (K.block 1 (K.dops [(0,0,M 36 8),(1,0,M 37 0),(2,0,M 38 9),(3,0,⟨none,.bin (some 39) .add (kc 3) (kt 38)⟩),(4,0,kC 40 38 [(kt 37),(kt 39),(kc 3)]),(5,0,J 41 6 5),(6,0,J 42 6 5),(7,0,kC 43 125 [(kt 40),(kt 41),(kt 42)]),(8,0,kd 44 35 5 1 kz2 [(0,5,(kt 43))]),(9,0,kP 45 35 5 56 36 44),(10,0,M 8 45)])) (K.ops [M 34 9,kBi 35 34 1 .add,M 9 35])))))) (K.wk zQH))))))
def qNz:Nat->Option wD:=fun|27=>k_ [0,0,0,0,0,9,0]|_=>none
theorem qLo:kv f84 qNz qDk:=mw (by kernel_rfl)
structure Pln where
 kind:Int
 name:ByteArray
 types:List Typ
 names:List ByteArray
 most:List Int
 out:Typ
 mod:Int
def dZ(p:Pln):wE:=[int p.kind,.lit (.string p.name),.sl p.types.length (jQ p.types),.sl p.names.length (yR p.names),.sl p.most.length (yH p.most),int p.out.k,int p.out.id.a,int p.out.id.b,int p.out.id.c,.sl p.out.kids.length (jQ p.out.kids),int p.mod]
theorem zA8(p:Pln):qY (dZ p):=by have h1:=y9 p.types;have h2:=eT p.names;have h3:=y9 p.out.kids;exact⟨by simp[dZ,h1.1,h2.1,h3.1],fun rf g=>by simp[dZ,h1.2,h2.2,h3.2]⟩
def aI(l:List Pln):wE:=l.flatMap dZ
theorem zBo(l:List Pln):qY (aI l):=dL zA8 l
@[simp]theorem zXw(l:List Pln):jT (aI l)=aI l:=(zBo l).1
@[simp]theorem qCm{rf g}(l:List Pln):vwL rf g (aI l)=aI l:=(zBo l).2 _ _
@[simp]theorem zY7:aI []=[]:=rfl
theorem iW(x:Pln)(l:List Pln):aI (x::l)=dZ x++aI l:=rfl
theorem mN(l l':List Pln):aI (l++l')=aI l++aI l':=by simp only[aI,jBr]
@[simp]theorem zY6(l:List Pln):(aI l).length=l.length*11:=by rw[aI,gH (k:=11) (fun _=>rfl)]
variable{i:Nat}
theorem zJs{l:List Pln}(h:i<l.length):(aI l).drop (i*11)=dZ l[i]++aI (l.drop (i+1)):=by rw[aI,aI,fL (k:=11) (fun _=>rfl) h]
@[simp]theorem qF8(d:Pln):(dZ d).length=11:=rfl
@[simp]theorem qF7(d:Pln):(dZ d).take 11=dZ d:=jA9 (jA _)
@[simp]theorem qBc(d:Pln)(l:wE):(dZ d++l).take 11=dZ d:=by rw[jC (by simp)];exact jA9 (by simp)
@[simp]theorem qB8(d:Pln):jT (dZ d)=dZ d:=(zA8 d).1
@[simp]theorem qKo(d:Pln) {rf g}:vwL rf g (dZ d)=dZ d:=(zA8 d).2 _ _
def tyL(l:wB)(at_ most n:Int)(one:Typ):wS:=(List.range n.toNat).map fun(i:Nat)=>lP (atV l (at_+i) most) one one
section
variable(l:wB)(mods:Int)
def p9:Bool:=decide (0<atV l 1 4)
def jG:Typ:=yI (idR mods)
def eG:Typ:=yI (idR (mods+1))
def nG:Typ:=if p9 l then yI (idR (mods+2))else jG mods
def zNf:Typ:=lP (atV l 16 6) (jG mods) (jG mods)
def dN:Pln:=⟨0,⟨#[80,111,105,110,116]⟩,tyL l 3 3 (1+atV l 2 3) (jG mods),[⟨#[120]⟩,⟨#[121]⟩,⟨#[122]⟩],[],jO,0⟩
def fB:Pln:=⟨1,⟨#[69,118,101,110,116]⟩,jO::tyL l 7 4 (1+atV l 6 2) (jG mods),[⟨#[84,105,99,107]⟩,⟨#[80,117,115,104]⟩,⟨#[83,101,116]⟩],[],jO,0⟩
def mH:Pln:=⟨0,⟨#[83,116,97,116,101]⟩,jO::tyL l 10 4 (atV l 9 3) (jG mods),[⟨#[99,111,117,110,116]⟩,⟨#[108,111,103]⟩,⟨#[109,111,114,101]⟩],[],jO,0⟩
def zDQ:Pln:=⟨0,⟨#[79,117,116]⟩,[yI (idR (mods+2)),yC jO,jO],[⟨#[115,116,97,116,101]⟩,⟨#[115,105,103,110,97,108,115]⟩,⟨#[110,101,120,116]⟩],[],jO,0⟩
def sU:wS:=lP (atV l 12 6) (jG mods) (eG mods)::(if atV l 13 2=1 then [lP (atV l 14 6) (jG mods) (eG mods)]else [])
def pF:Pln:=⟨2,⟨#[102]⟩,sU l mods,[⟨#[97]⟩,⟨#[98]⟩],[],zNf l mods,atV l 15 mods⟩
def zBP:Pln:=⟨3,⟨#[115,116,101,112]⟩,[yI (idR (mods+2)),eG mods],[⟨#[115]⟩,⟨#[101]⟩],[],yI (idR (mods+3)),mods-1⟩
def pG:Pln:=⟨2,⟨#[103]⟩,[eG mods],[⟨#[101]⟩],[],lP (atV l 17 6) (jG mods) (eG mods),mods-1⟩
def pT:Pln:=⟨4,⟨#[116]⟩,(inV l 18 (jG mods)).map (·.1),[⟨#[97]⟩,⟨#[98]⟩],(inV l 18 (jG mods)).map (·.2),lP (atV l 21 6) (jG mods) (zNf l mods),mods-1⟩
def pC:Pln:=⟨5,⟨#[99]⟩,[nG l mods],[⟨#[111,108,100]⟩],[],lP (atV l 23 6) (jG mods) (nG l mods),mods-1⟩
def plE:List Pln:=if 0<atV l 22 4 then [pC l mods]else []
def plD:List Pln:=pT l mods::plE l mods
def plC:List Pln:=(if p9 l then zBP mods else pG l mods)::plD l mods
def plB:List Pln:=pF l mods::plC l mods
def qJ:List Pln:=[dN l mods,fB l mods]++(if p9 l then [mH l mods,zDQ mods]else [])++plB l mods
end
abbrev zLY(L:List Pln):=fin [RS.slot 4] (uQ 0 (.sl L.length (aI L)) [])
theorem zXC(L:List Pln):wpK prog 0 zQG (zLY L) (qV [(10,.sl L.length (aI L))]) []:=by unfold zQG;simp;exact zA 0 (by simp)
theorem qHs(l:wB)(mods:Int)(hm:1<=mods)(hm2:mods<=2)(hl:∀x∈l,w64 x=x)(L:List Pln)(hL:L.length<=20) :
 wpK prog 0 zQF (zLY (L++plE l mods)) (qV [(0,.sl l.length (yH l)),(6,.ptr 0 0),(10,.row 2 L.length),(12,int (mods-1)),(13,.ptr 1 0)])
  [.box (zB (jG mods)),.box (zB (nG l mods)),.row false 133 11 L.length (aI L)]:=by
 have h0:=gA l 22 4 (by omega);have h1:=gA l 23 6 (by omega);obtain⟨r0,r0'⟩:=yJ (i:=23) hl (most:=6) (by omega);have h2:=zHE (atV l 23 6) (jG mods) (nG l mods) (IntWalk.i64_in _ (by omega));unfold zQF;simp;refine mq h0 (by simp) ?_;by_cases h:0<atV l 22 4
 .simp[h,zB];refine z7 h1 (by simp) (by simp) ?_;simp[zB];refine z7 h2 (by simp[zB]) (by simp) ?_;simp[zB];refine⟨⟨by simp[maxLen];omega,by omega⟩,?_⟩;exact⟨_,_,mu [] 1 (by rfl) (by simp[plE,h,pC,mN,iW,dZ,qI,zB,eQ]),zXC _⟩
 .simp[h];exact⟨_,_,mu [] 1 (by rfl) (by simp[plE,h]),zXC _⟩
theorem i5(l:wB)(i m:Int)(hm:0<m)(hl:∀x∈l,w64 x=x)(hm2:m<=1000)(a b:Typ):mv 125 [int (atV l i m),.agg (zB a),.agg (zB b)] [] (.agg (zB (lP (atV l i m) a b))) []:=by obtain⟨r0,r0'⟩:=yJ (i:=i) hl (most:=m) hm;exact zHE _ _ _ (IntWalk.i64_in _ (by omega))
theorem qHr(l:wB)(mods:Int)(hm:1<=mods)(hm2:mods<=2)(hl:∀x∈l,w64 x=x)(L:List Pln)(hL:L.length<=19) :
 wpK prog 0 zQE (zLY (L++plD l mods)) (qV [(0,.sl l.length (yH l)),(6,.ptr 0 0),(10,.row 3 L.length),(12,int (mods-1)),(13,.ptr 1 0),(16,.ptr 2 0)])
  [.box (zB (jG mods)),.box (zB (nG l mods)),.box (zB (zNf l mods)),.row false 133 11 L.length (aI L)]:=by
 have h0:=zZr l 18 (jG mods) (by omega) (by omega) hl;have h1:=gA l 21 6 (by omega);have h2:=i5 l 21 6 (by omega) hl (by omega) (jG mods) (zNf l mods);have hD:=qHs l mods hm hm2 hl (L++[pT l mods]) (by simp;omega);rw[jAu]at hD;unfold zQE;simp[zB];refine mq h0 (by simp[zB,inR,zNg,zFi]) ?_;simp[inR,zNg,zFi];refine z7 h1 (by simp) (by simp) ?_;simp[zB];refine z7 h2 (by simp[zB]) (by simp) ?_;simp[zB];refine⟨⟨by simp[maxLen];omega,by omega⟩,?_⟩;refine⟨_,_,m_ [0,1,3] 0 (by rfl) ?_ (by simp),hD⟩;simp[zB,mN,iW,dZ,pT,eU]
theorem qHq(l:wB)(mods:Int)(hm:1<=mods)(hm2:mods<=2)(hl:∀x∈l,w64 x=x)(L:List Pln)(hL:L.length<=17) :
 wpK prog 0 zQD (zLY (L++plB l mods)) (qV [(0,.sl l.length (yH l)),(1,int mods),(5,bl (p9 l)),(6,.ptr 0 0),(7,.ptr 1 0),(8,.sl (sU l mods).length (jQ (sU l mods))),(10,.row 3 L.length),(12,int (mods-1)),(13,.ptr 2 0)])
  [.box (zB (jG mods)),.box (zB (eG mods)),.box (zB (nG l mods)),.row false 133 11 L.length (aI L)]:=by
 have w3:=zY (mods+3) (by omega);have h0:=gA l 15 mods (by omega);have h1:=gA l 16 6 (by omega);have h2:=i5 l 16 6 (by omega) hl (by omega) (jG mods) (jG mods);have h3:=uH (mods+3);have h4:=zBN (idR (mods+3));have h5:=gA l 17 6 (by omega);have h6:=i5 l 17 6 (by omega) hl (by omega) (jG mods) (eG mods);have hC:=qHr l mods hm hm2 hl (L++[pF l mods]++[if p9 l then zBP mods else pG l mods]) (by simp;omega);rw[jAu,jAu]at hC;unfold zQD;simp;refine mq h0 (by simp) ?_;simp;refine zIb h1 [] (by decide) (by simp) (by simp) (by simp) ?_;simp[zB];refine zIb h2 [] (by decide) (by simp) (by simp[zB]) (by simp) ?_;simp[zB];refine⟨⟨by simp[maxLen];omega,by omega⟩,?_⟩;cases hh:p9 l
 .simp[zB];refine z7 h5 (by simp) (by simp) ?_;simp[zB];refine z7 h6 (by simp[zB]) (by simp) ?_;simp[zB];refine⟨⟨by simp[maxLen];omega,by omega⟩,?_⟩;refine⟨_,_,m_ [0,2,4,3] 0 (by rfl) ?_ (by simp),hC⟩;simp[zB,mN,iW,dZ,pF,pG,hh,zNf,eQ,eU,qI]
 .simp[zB,w3];refine z7 h3 (by simp) (by simp) ?_;simp[zB];refine z7 h4 (by simp[zK]) (by simp) ?_;simp[zB];refine⟨⟨by simp[maxLen];omega,by omega⟩,?_⟩;refine⟨_,_,m_ [0,2,4,3] 0 (by rfl) ?_ (by simp),hC⟩;simp[zB,mN,iW,dZ,pF,zBP,hh,zNf,nG,eQ,eU,qI]
theorem zXB(l:wB)(mods:Int)(hm:1<=mods)(hm2:mods<=2)(hl:∀x∈l,w64 x=x)(L:List Pln)(hL:L.length<=17) :
 wpK prog 0 zQC (zLY (L++plB l mods)) (qV [(0,.sl l.length (yH l)),(1,int mods),(5,bl (p9 l)),(6,.ptr 0 0),(7,.ptr 1 0),(10,.row 3 L.length),(12,int (mods-1)),(13,.ptr 2 0)])
  [.box (zB (jG mods)),.box (zB (eG mods)),.box (zB (nG l mods)),.row false 133 11 L.length (aI L)]:=by
 have h0:=gA l 12 6 (by omega);have h1:=i5 l 12 6 (by omega) hl (by omega) (jG mods) (eG mods);have h2:=gA l 13 2 (by omega);have h3:=gA l 14 6 (by omega);have h4:=i5 l 14 6 (by omega) hl (by omega) (jG mods) (eG mods);have hB:=qHq l mods hm hm2 hl L hL;unfold zQC;simp;refine z7 h0 (by simp) (by simp) ?_;simp[zB];refine z7 h1 (by simp[zB]) (by simp) ?_;simp[zB];refine mq h2 (by simp) ?_;by_cases h:atV l 13 2=1
 .simp[h,zB];refine z7 h3 (by simp) (by simp) ?_;simp[zB];refine z7 h4 (by simp[zB]) (by simp) ?_;simp[zB,maxLen];refine⟨_,_,m_ [0,1,2,3] 1 (by rfl) (by simp[zB]) ?_,hB⟩;simp[sU,h,qI,zB]
 .simp[h,zB];refine⟨_,_,m_ [0,1,2,3] 1 (by rfl) (by simp[zB]) ?_,hB⟩;simp[sU,h,qI,zB]
theorem o9{s:ByteArray}{l:List ByteArray}:yR (s::l)=.lit (.string s)::yR l:=rfl
theorem x8(l:wB)(at_ most:Int)(n:Nat)(one:Typ):(tyL l at_ most n one).length=n:=by simp[tyL]
theorem zFU(l:wB)(at_ most:Int){n i:Nat}(h:i<n)(one:Typ):(tyL l at_ most n one).take (i+1)=(tyL l at_ most n one).take i++[lP (atV l (at_+i) most) one one]:=by
 have hi:i<(tyL l at_ most n one).length:=by rw[x8];exact h
 rw[jA6 hi]
 congr 2
 simp[tyL]
theorem xE(l:wB)(at_ most:Int){n i:Nat}(h:i<=n)(one:Typ):((tyL l at_ most n one).take i).length=i:=by rw[jAs,x8];omega
theorem zIO(l:wB)(at_ most:Int)(n:Nat)(one:Typ):(tyL l at_ most n one).take n=tyL l at_ most n one:=jA9 (by rw[x8];exact jA _)
theorem qHu(l:wB)(mods:Int)(hm:1<=mods)(hm2:mods<=2)(hl:∀x∈l,w64 x=x) :
 wpK prog 0 zQI (zLY (qJ l mods)) (qV [(0,.sl l.length (yH l)),(1,int mods),(5,bl (p9 l)),(6,.ptr 0 0),(7,.ptr 1 0),(8,.sl (fB l mods).types.length (jQ (fB l mods).types)),(10,.row 2 1)])
  [.box (zB (jG mods)),.box (zB (eG mods)),.row false 133 11 1 (dZ (dN l mods))]:=by
 have w1:=zY (mods-1) (by omega);have w2:=zY (mods+2) (by omega);have h0:=gA l 9 3 (by omega);obtain⟨r0,r0'⟩:=yJ (i:=9) hl (most:=3) (by omega);obtain⟨N,hN⟩:∃N:Nat,(N:Int)=atV l 9 3:=⟨(atV l 9 3).toNat,by omega⟩;unfold zQI;cases hh:p9 l
 .have hA:=zXB l mods hm hm2 hl [dN l mods,fB l mods] (by simp);have hpl:[dN l mods,fB l mods]++plB l mods=qJ l mods:=by simp[qJ,hh]
  rw[hpl,hh]at hA;simp[w1];refine⟨by simp[maxLen],?_⟩;refine⟨_,_,m_ [0,1,3,2] 0 (by rfl) ?_ (by simp),hA⟩;simp[zB,iW,dZ,fB,jO,Id.zero,nG,hh,o9]
 .have hA:=zXB l mods hm hm2 hl [dN l mods,fB l mods,mH l mods,zDQ mods] (by simp);have hpl:[dN l mods,fB l mods,mH l mods,zDQ mods]++plB l mods=qJ l mods:=by simp[qJ,hh]
  rw[hpl,hh]at hA;simp[w1];refine⟨by simp[maxLen],?_⟩;refine qK (S:=Nat) (fun i=>[(0,.sl l.length (yH l)),(1,int mods),(5,bl true),(6,.ptr 0 0),(7,.ptr 1 0),(8,.row 4 (1+i)),(10,.row 2 2),(12,int (mods-1)),(13,.ptr 3 0),(14,int i)])
   (fun i=>[.box (zB (jG mods)),.box (zB (eG mods)),.row false 133 11 2 (dZ (dN l mods)++dZ (fB l mods)),.box (zB (jG mods)),.row false 35 5 (1+i) (zB jO++jQ ((tyL l 10 4 N (jG mods)).take i))]) (fun i=>i<=N) (fun i=>N-i) 0 (by simp)
   (mu [0,1,2,3,4] 0 (by rfl) (by simp[zB,dZ,fB,jO,Id.zero,o9])) ?_
  intro i hi;by_cases h:i<N
  .have h1:=gA l (10+i) 4 (by omega);have h2:=i5 l (10+i) 4 (by omega) hl (by omega) (jG mods) (jG mods);have hlt:(i:Int)<atV l 9 3:=by omega
   have v1:=zY (10+(i:Int)) (by omega);have v2:=jZ i (by omega);have hst:=zFU l 10 4 h (jG mods);have hsl:=xE l 10 4 hi (jG mods);simp;refine mq h0 (by simp) ?_;simp[hlt,v1];refine z7 h1 (by simp) (by simp) ?_;simp[zB];refine z7 h2 (by simp[zB]) (by simp) ?_;simp[zB];refine⟨⟨by simp[maxLen];omega,by omega⟩,?_⟩;exact zO (i+1) h (by omega) (m_ [0,1,2,3,4] 0 (by rfl) (by rw[hst];simp[zB,pZ,qI,hsl];omega) (by simp[v2];omega))
  .have hie:i=N:=by omega
   subst hie;have h3:=uH (mods+2);have h4:=zBN (idR (mods+2));have hall:=zIO l 10 4 i (jG mods);have hty:(mH l mods).types=jO::tyL l 10 4 i (jG mods):=by rw[hN];rfl
   have hlen:=x8 l 10 4 i (jG mods);simp;refine mq h0 (by simp) ?_;simp[hN];refine⟨qV [(0,.sl l.length (yH l)),(1,int mods),(5,bl true),(6,.ptr 0 0),(7,.ptr 1 0),(8,.sl (mH l mods).types.length (jQ (mH l mods).types)),(10,.row 2 2),(12,int (mods-1)),(13,.ptr 3 0)],[.box (zB (jG mods)),.box (zB (eG mods)),.row false 133 11 2 (dZ (dN l mods)++dZ (fB l mods)),.box (zB (jG mods))],
    m_ [0,1,2,3] 1 (by rfl) (by simp) (by rw[hty];simp[<-hN,hall,hlen,qI];omega),?_⟩
   simp[w2];refine mq h3 (by simp) ?_;simp;refine mq h4 (by simp[zK]) ?_;simp[zB];refine⟨by simp[maxLen],?_⟩;refine z7 zFa (by simp[zB,jO,Id.zero]) (by simp) ?_;simp[zB];refine⟨by simp[maxLen],?_⟩;refine⟨_,_,m_ [0,1,3,2] 0 (by rfl) ?_ (by simp),hA⟩;simp[zB,iW,dZ,zDQ,mH,qI,jO,Id.zero,nG,hh,o9]
theorem qHt(l:wB)(mods:Int)(hm:1<=mods)(hm2:mods<=2)(hl:∀x∈l,w64 x=x) :
 wpK prog 0 zQH (zLY (qJ l mods)) (qV [(0,.sl l.length (yH l)),(1,int mods),(5,bl (p9 l)),(6,.ptr 0 0),(7,.ptr 1 0),(8,.sl (dN l mods).types.length (jQ (dN l mods).types))])
  [.box (zB (jG mods)),.box (zB (eG mods))]:=by
 have h0:=gA l 6 2 (by omega);obtain⟨r0,r0'⟩:=yJ (i:=6) hl (most:=2) (by omega);obtain⟨N,hN⟩:∃N:Nat,(N:Int)=1+atV l 6 2:=⟨(1+atV l 6 2).toNat,by omega⟩;have wN:IntKind.i64.wrap (1+atV l 6 2)=N:=by rw[hN];exact IntWalk.i64_in _ (by omega)
 have hQ:=qHu l mods hm hm2 hl;unfold zQH;simp;refine qK (S:=Nat) (fun i=>[(0,.sl l.length (yH l)),(1,int mods),(5,bl (p9 l)),(6,.ptr 0 0),(7,.ptr 1 0),(8,.row 3 (1+i)),(10,.row 2 1),(11,int i)])
  (fun i=>[.box (zB (jG mods)),.box (zB (eG mods)),.row false 133 11 1 (dZ (dN l mods)),.row false 35 5 (1+i) (zB jO++jQ ((tyL l 7 4 N (jG mods)).take i))]) (fun i=>i<=N) (fun i=>N-i) 0 (by simp)
  (mu [0,1,2,3] 0 (by rfl) (by simp[zB,dZ,dN,jO,Id.zero,o9])) ?_
 intro i hi;by_cases h:i<N
 .have h1:=gA l (7+i) 4 (by omega);have h2:=i5 l (7+i) 4 (by omega) hl (by omega) (jG mods) (jG mods);have v1:=zY (7+(i:Int)) (by omega);have v2:=jZ i (by omega);have hst:=zFU l 7 4 h (jG mods);have hsl:=xE l 7 4 hi (jG mods);simp;refine mq h0 (by simp) ?_;simp[h,v1,wN];refine z7 h1 (by simp) (by simp) ?_;simp[zB];refine z7 h2 (by simp[zB]) (by simp) ?_;simp[zB];refine⟨⟨by simp[maxLen];omega,by omega⟩,?_⟩;exact zO (i+1) h (by omega) (m_ [0,1,2,3] 0 (by rfl) (by rw[hst];simp[zB,pZ,qI,hsl];omega) (by simp[v2];omega))
 .have hie:i=N:=by omega
  subst hie;have hall:=zIO l 7 4 i (jG mods);have hty:(fB l mods).types=jO::tyL l 7 4 i (jG mods):=by rw[hN];rfl
  have hlen:=x8 l 7 4 i (jG mods);simp;refine mq h0 (by simp) ?_;simp[wN];exact⟨_,_,m_ [0,1,2] 1 (by rfl) (by simp) (by rw[hty];simp[hall,hlen,qI];omega),hQ⟩
theorem zSS(l:wB)(mods:Int)(hm:1<=mods)(hm2:mods<=2)(hl:∀x∈l,w64 x=x) :
 mv 84 [.sl l.length (yH l),int mods] [] (.sl (qJ l mods).length (aI (qJ l mods))) []:=by
 have w1:=zY (mods+1) (by omega);have k0:=gA l 1 4 (by omega);have k1:=uH mods;have k2:=zBN (idR mods);have k3:=uH (mods+1);have k4:=zBN (idR (mods+1));have h0:=gA l 2 3 (by omega);obtain⟨r0,r0'⟩:=yJ (i:=2) hl (most:=3) (by omega);obtain⟨N,hN⟩:∃N:Nat,(N:Int)=1+atV l 2 3:=⟨(1+atV l 2 3).toNat,by omega⟩;have wN:IntKind.i64.wrap (1+atV l 2 3)=N:=by rw[hN];exact IntWalk.i64_in _ (by omega)
 have hP:=qHt l mods hm hm2 hl;refine zN func84 rfl qLo (rs:=[.slot 4]) (by kernel_rfl) ?_;unfold qDk;simp;refine mq k0 (by simp) ?_;simp;refine mq k1 (by simp) ?_;simp;refine mq k2 (by simp[zK]) ?_;simp[zB,w1];refine mq k3 (by simp) ?_;simp;refine mq k4 (by simp[zK]) ?_;simp[zB];refine qK (S:=Nat) (fun i=>[(0,.sl l.length (yH l)),(1,int mods),(5,bl (p9 l)),(6,.ptr 0 0),(7,.ptr 1 0),(8,.row 2 i),(9,int i)])
  (fun i=>[.box (zB (jG mods)),.box (zB (eG mods)),.row false 35 5 i (jQ ((tyL l 3 3 N (jG mods)).take i))]) (fun i=>i<=N) (fun i=>N-i) 0 (by simp)
  ((qS (t:=8) (by simp) 35 5).trans (mu [0,1,2] 0 (by rfl) (by simp[zB,jG,eG,p9]))) ?_
 intro i hi;by_cases h:i<N
 .have h1:=gA l (3+i) 3 (by omega);have h2:=i5 l (3+i) 3 (by omega) hl (by omega) (jG mods) (jG mods);have v1:=zY (3+(i:Int)) (by omega);have v2:=jZ i (by omega);have hst:=zFU l 3 3 h (jG mods);have hsl:=xE l 3 3 hi (jG mods);simp;refine mq h0 (by simp) ?_;simp[h,v1,wN];refine z7 h1 (by simp) (by simp) ?_;simp[zB];refine z7 h2 (by simp[zB]) (by simp) ?_;simp[zB];refine⟨⟨by simp[maxLen];omega,by omega⟩,?_⟩;exact zO (i+1) h (by omega) (m_ [0,1,2] 0 (by rfl) (by rw[hst];simp[zB,pZ,qI,hsl]) (by simp[v2]))
 .have hie:i=N:=by omega
  subst hie;have hall:=zIO l 3 3 i (jG mods);have hty:(dN l mods).types=tyL l 3 3 i (jG mods):=by rw[hN];rfl
  have hlen:=x8 l 3 3 i (jG mods);simp;refine mq h0 (by simp) ?_;simp[wN];exact⟨_,_,m_ [0,1] 1 (by rfl) (by simp) (by rw[hty];simp[hall,hlen]),hP⟩
theorem zIr{k:Int}(h0:0<=k)(h1:k<=1000000000000000):idR k=⟨0,1+k / 32,k % 32⟩:=by unfold idR;have e1:k.tdiv 32=k / 32:=tdN h0;have e2:k.tmod 32=k % 32:=tmN h0;have w1:=zY (k.tdiv 32) (by omega);rw[w1,e2];have w2:=zY (1+k.tdiv 32) (by omega);rw[w2,e1]
theorem zXk{k:Int}(h0:0<=k)(h1:k<=1000000000000000):1<=(idR k).b:=by rw[zIr h0 h1];show 1<=1+k / 32;omega
theorem tD{k j:Int}(h0:0<=k)(h1:k<=1000000000000000)(g0:0<=j)(g1:j<=1000000000000000)(h:idR k=idR j):k=j:=by
 rw[zIr h0 h1,zIr g0 g1]at h;injection h with _ h2 h3
 omega
def zHF(next:Int)(p:Pln)(k:Nat):Slt:=⟨idR (next+k),p.names.getD k ⟨#[]⟩,p.types.getD k jO,if p.kind=4 then p.most.getD k 0 else 0,k⟩
def eF(next:Int)(p:Pln):List Slt:=(List.range p.types.length).map (zHF next p)
def zJz(mods next:Int)(i:Nat)(p:Pln):Dfn:=⟨idR (mods+i),p.kind,idR p.mod,p.name,eF next p,p.out,Exp.zero,0,[]⟩
def cL(mods:Int)(ps:List Pln):Nat->Int
 | 0=>mods+ps.length
 |i+1=>cL mods ps i+(match ps[i]? with|some p=>(p.types.length:Int)|none=>0)
def pB(mods:Int)(ps:List Pln):wQ:=ps.mapIdx fun i p=>zJz mods (cL mods ps i) i p
def uM(mods:Int)(ps:List Pln)(c:Int)(i:Nat):wF:=((List.range i).filter fun j=>match ps[j]? with|some p=>decide (p.mod=c)|none=>false).map fun(j:Nat)=>idR (mods+j)
def zD7(mods:Int)(ps:List Pln):List Md :=
 (⟨idR 0,⟨#[99,111,114,101]⟩,[],uM mods ps 0 ps.length⟩:Md)::(if mods=2 then [⟨idR 1,⟨#[109,105,108,108]⟩,[idR 0],uM mods ps 1 ps.length⟩]else [])
@[simp]theorem zOK(mods:Int)(ps:List Pln):(pB mods ps).length=ps.length:=by simp[pB]
@[simp]theorem mK(next:Int)(p:Pln):(eF next p).length=p.types.length:=by simp[eF]
theorem zC0(mods:Int)(ps:List Pln)(h:i<ps.length):(pB mods ps)[i]'(by simpa using h)=zJz mods (cL mods ps i) i ps[i]:=by simp[pB]
theorem zFm(mods:Int)(ps:List Pln)(h:i<ps.length):cL mods ps (i+1)=cL mods ps i+ps[i].types.length:=by simp only[cL];rw[jA1 h]
structure PlnOk(mods:Int)(p:Pln):Prop where
 kind0:0<=p.kind
 kind5:p.kind<=5
 mod0:0<=p.mod
 mod1:p.mod<mods
 t1:1<=p.types.length
 t6:p.types.length<=6
 names:p.types.length<=p.names.length
 most:p.kind=4->p.types.length<=p.most.length
theorem zNb(x:Int)(a b:Typ)(hx:w64 x=x):lP x a b=jO\/lP x a b=jX\/lP x a b=yC jO\/lP x a b=a\/lP x a b=b:=by
 obtain⟨k0,k6⟩:=gT (k:=6) hx (by omega);unfold lP;generalize aN x 6=k at *
 have:k=0\/k=1\/k=2\/k=3\/k=4\/k=5:=by omega
 rcases this with rfl|rfl|rfl|rfl|rfl|rfl<;>simp
theorem zEu{l:wB}{i most:Int}(hl:∀x∈l,w64 x=x)(hm:0<most)(h2:most<=1000):w64 (atV l i most)=atV l i most:=by obtain⟨a,b⟩:=yJ (i:=i) hl hm;exact IntWalk.i64_in _ (by omega)
theorem zBi{k:Int}(h0:0<=k)(h:k<6):aN k 6=k:=by
 have:k=0\/k=1\/k=2\/k=3\/k=4\/k=5:=by omega
 rcases this with rfl|rfl|rfl|rfl|rfl|rfl<;>decide
theorem zTl{x:Int}(h0:0<=x)(h:x<3)(a b:Typ):lP x a b=jO\/lP x a b=jX\/lP x a b=yC jO:=by
 unfold lP;rw[zBi h0 (by omega)];have:x=0\/x=1\/x=2:=by omega
 rcases this with rfl|rfl|rfl<;>simp
theorem zTm{x:Int}(h0:0<=x)(h:x<4)(a b:Typ):lP x a b=jO\/lP x a b=jX\/lP x a b=yC jO\/lP x a b=a:=by
 unfold lP;rw[zBi h0 (by omega)];have:x=0\/x=1\/x=2\/x=3:=by omega
 rcases this with rfl|rfl|rfl|rfl<;>simp
theorem zEf{l:wB}{at_ most n:Int}{one t:Typ}(h:t∈tyL l at_ most n one):∃i:Nat,t=lP (atV l (at_+i) most) one one:=by simp only[tyL,jAd]at h;obtain⟨i,_,rfl⟩:=h;exact⟨i,rfl⟩
theorem mL(l:wB)(at_ most n:Int)(one:Typ):(tyL l at_ most n one).length=n.toNat:=by simp[tyL]
section
variable(l:wB)(mods:Int)(hm:1<=mods)(hm2:mods<=2)(hl:∀x∈l,w64 x=x)
include hm hm2 hl
theorem fM:∀p∈qJ l mods,PlnOk mods p:=by
 intro p hp;have a2:=yJ (i:=2) hl (most:=3) (by omega);have a6:=yJ (i:=6) hl (most:=2) (by omega);have a9:=yJ (i:=9) hl (most:=3) (by omega);have a15:=yJ (i:=15) hl (most:=mods) (by omega);have hF:(sU l mods).length=1\/(sU l mods).length=2:=by unfold sU;split<;>simp
 have hT:(inV l 18 (jG mods)).length=1\/(inV l 18 (jG mods)).length=2:=by
  unfold inV zSp;split
  .simp
  .split<;>simp
 have hp':p=dN l mods\/p=fB l mods\/p=mH l mods\/p=zDQ mods\/p=pF l mods\/p=zBP mods\/p=pG l mods\/p=pT l mods\/p=pC l mods:=by
  simp only[qJ,plB,plC,plD,plE,jAc,jA3]at hp;rcases hp with ((h|h|h)|h)|h|h|h|h
  .simp[h]
  .simp[h]
  .simp at h
  .split at h
   .simp at h;rcases h with h|h<;>simp[h]
   .simp at h
  .simp[h]
  .split at h<;>simp[h]
  .simp[h]
  .split at h
   .simp at h;simp[h]
   .simp at h
 rcases hp' with rfl|rfl|rfl|rfl|rfl|rfl|rfl|rfl|rfl
 .refine⟨?_,?_,?_,?_,?_,?_,?_,?_⟩<;>simp only[dN,mL]<;>first|omega|simp<;>omega
 .refine⟨?_,?_,?_,?_,?_,?_,?_,?_⟩<;>simp only[fB,jAb,mL]<;>first|omega|simp<;>omega
 .refine⟨?_,?_,?_,?_,?_,?_,?_,?_⟩<;>simp only[mH,jAb,mL]<;>first|omega|simp<;>omega
 .refine⟨?_,?_,?_,?_,?_,?_,?_,?_⟩<;>simp only[zDQ,jAb,jBe]<;>first|omega|simp<;>omega
 .refine⟨?_,?_,?_,?_,?_,?_,?_,?_⟩<;>simp only[pF,jAb,jBe]<;>first|omega|simp<;>omega
 .refine⟨?_,?_,?_,?_,?_,?_,?_,?_⟩<;>simp only[zBP,jAb,jBe]<;>first|omega|simp<;>omega
 .refine⟨?_,?_,?_,?_,?_,?_,?_,?_⟩<;>simp only[pG,jAb,jBe]<;>first|omega|simp<;>omega
 .refine⟨?_,?_,?_,?_,?_,?_,?_,?_⟩<;>simp only[pT,jAb,jBe,jAe]<;>first|omega|simp<;>omega
 .refine⟨?_,?_,?_,?_,?_,?_,?_,?_⟩<;>simp only[pC,jAb,jBe]<;>first|omega|simp<;>omega
omit hm hm2 hl in
theorem cF:5<=(qJ l mods).length/\(qJ l mods).length<=8:=by unfold qJ plB plC plD plE;split<;>split<;>simp
end
theorem mZ{mods:Int}{ps:List Pln}(hm:0<=mods)(h6:∀p∈ps,p.types.length<=6):∀i:Nat,mods+ps.length<=cL mods ps i/\cL mods ps i<=mods+ps.length+6*i
 | 0=>by simp[cL]
 |i+1=>by
  have ih:=mZ hm h6 i;simp only[cL];split
  .rename_i p hp;have:=h6 p (jC3 hp);omega
  .omega
variable{mods:Int}{ps:List Pln}
theorem zMD{j:Nat}(h:i<=j):cL mods ps i<=cL mods ps j:=by
 induction h with
 |refl=>exact jAf _
 |step h ih =>
  simp only[cL];split
  .rename_i p _;have:=Int.natCast_nonneg p.types.length;omega
  .omega
def zGr(mods:Int)(ps:List Pln):wP:=(pB mods ps).map Dfn.hd
@[simp]theorem qGh(mods:Int)(ps:List Pln):(zGr mods ps).length=ps.length:=by simp[zGr]
theorem oJ(mods:Int)(ps:List Pln){k:Nat}(h:k<ps.length):(zGr mods ps)[k]'(by simpa using h)=⟨idR (mods+k),ps[k].kind,eF (cL mods ps k) ps[k],ps[k].out⟩:=by simp only[zGr,jAw];rw[zC0 mods ps h];rfl
theorem zAY{next:Int}{p:Pln}{s:Slt}(h:s∈eF next p):s.typ∈p.types:=by simp only[eF,jAd,jBx]at h;obtain⟨k,hk,rfl⟩:=h;simp only[zHF,jB7,jA1 hk,jB9];exact jA0 hk
theorem zIc(hm:1<=mods)(hm2:mods<=2)(hps:ps.length<=8)(h6:∀p∈ps,PlnOk mods p){k:Nat}(hk:k<ps.length)(hkd:ps[k].kind=0\/ps[k].kind=1){r:Nat}(ht:∀t∈ps[k].types,TyOk (zGr mods ps) r t) :
 TyOk (zGr mods ps) (r+1) (yI (idR (mods+k))):=by
 have hk':k<(zGr mods ps).length:=by simpa using hk
 have hg:=oJ mods ps hk;have hp:=h6 _ (jA0 hk);have:=TyOk.dfn (hs:=zGr mods ps) r k hk' (fun j hj=>by
  rw[hg,oJ mods ps (show j<ps.length by omega)];intro e;have:=tD (by omega) (by omega) (by omega) (by omega) e;omega) (by
  rw[hg];rcases hkd with h|h
  .exact .inl h
  .exact .inr ⟨h,by simp only[mK];exact hp.t1⟩) (by rw[hg];simp only[mK];exact hp.t6) (fun s hs=>by
  rw[hg]at hs;exact ht _ (zAY hs))
 rw[hg]at this;exact this
section
variable(l:wB)(mods:Int)(hm:1<=mods)(hm2:mods<=2)(hl:∀x∈l,w64 x=x)
abbrev hsV:wP:=zGr mods (qJ l mods)
theorem pv0:∃h:0<(qJ l mods).length,(qJ l mods)[0]=dN l mods:=⟨by simp[qJ],by simp[qJ]⟩
theorem pv1:∃h:1<(qJ l mods).length,(qJ l mods)[1]=fB l mods:=⟨by simp[qJ],by simp[qJ]⟩
theorem pv2(hh:p9 l=true):∃h:2<(qJ l mods).length,(qJ l mods)[2]=mH l mods:=⟨by simp[qJ,hh],by simp[qJ,hh]⟩
theorem pv3(hh:p9 l=true):∃h:3<(qJ l mods).length,(qJ l mods)[3]=zDQ mods:=⟨by simp[qJ,hh],by simp[qJ,hh]⟩
include hm hm2 hl
theorem zCd:TyOk (hsV l mods) 2 (jG mods):=by
 obtain⟨h,e⟩:=pv0 l mods;have h8:=(cF l mods).2;have:=zIc hm hm2 h8 (fM l mods hm hm2 hl) h (by rw[e];exact .inl rfl) (r:=1) (fun t ht=>by
  rw[e]at ht;obtain⟨i,rfl⟩:=zEf ht;obtain⟨a,b⟩:=yJ (i:=3+i) hl (most:=3) (by omega);rcases zTl a b (jG mods) (jG mods)with e|e|e<;>rw[e]
  .exact .int _
  .exact .bool _
  .exact .list _ _ (.int _))
 simpa[jG]using this
theorem zT6{r:Nat}(hr:2<=r){x:Int}(h0:0<=x)(h:x<4):TyOk (hsV l mods) r (lP x (jG mods) (jG mods)):=by
 refine TyOk.mono ?_ hr;rcases zTm h0 h (jG mods) (jG mods)with e|e|e|e<;>rw[e]
 .exact .int _
 .exact .bool _
 .exact .list _ _ (.int _)
 .exact zCd l mods hm hm2 hl
theorem zLi:TyOk (hsV l mods) 3 (eG mods):=by
 obtain⟨h,e⟩:=pv1 l mods;have h8:=(cF l mods).2;have:=zIc hm hm2 h8 (fM l mods hm hm2 hl) h (by rw[e];exact .inr rfl) (r:=2) (fun t ht=>by
  rw[e]at ht;rcases jA3.1 ht with rfl|ht
  .exact .int _
  .obtain⟨i,rfl⟩:=zEf ht;obtain⟨a,b⟩:=yJ (i:=7+i) hl (most:=4) (by omega);exact zT6 l mods hm hm2 hl (jA _) a b)
 simpa[eG]using this
theorem sF(hh:p9 l=true):TyOk (hsV l mods) 3 (yI (idR (mods+2))):=by
 obtain⟨h,e⟩:=pv2 l mods hh;have h8:=(cF l mods).2;have:=zIc hm hm2 h8 (fM l mods hm hm2 hl) h (by rw[e];exact .inl rfl) (r:=2) (fun t ht=>by
  rw[e]at ht;rcases jA3.1 ht with rfl|ht
  .exact .int _
  .obtain⟨i,rfl⟩:=zEf ht;obtain⟨a,b⟩:=yJ (i:=10+i) hl (most:=4) (by omega);exact zT6 l mods hm hm2 hl (jA _) a b)
 simpa using this
theorem zT8:TyOk (hsV l mods) 3 (nG l mods):=by
 unfold nG;split
 .rename_i hh;exact sF l mods hm hm2 hl hh
 .exact(zCd l mods hm hm2 hl).mono (by omega)
theorem zT7(hh:p9 l=true):TyOk (hsV l mods) 4 (yI (idR (mods+3))):=by
 obtain⟨h,e⟩:=pv3 l mods hh;have h8:=(cF l mods).2;have:=zIc hm hm2 h8 (fM l mods hm hm2 hl) h (by rw[e];exact .inl rfl) (r:=3) (fun t ht=>by
  rw[e]at ht;simp only[zDQ,jA3,jB,or_false]at ht;rcases ht with rfl|rfl|rfl
  .exact sF l mods hm hm2 hl hh
  .exact .list _ _ (.int _)
  .exact .int _)
 simpa using this
omit hm hm2 hl in
theorem zBa{a b:Typ}(ha:TyOk (hsV l mods) 4 a)(hb:TyOk (hsV l mods) 4 b){x:Int}(hx:w64 x=x):TyOk (hsV l mods) 4 (lP x a b):=by
 rcases zNb x a b hx with e|e|e|e|e<;>rw[e]
 .exact .int _
 .exact .bool _
 .exact .list _ _ (.int _)
 .exact ha
 .exact hb
theorem zCR:∀p∈qJ l mods,(∀t∈p.types,TyOk (hsV l mods) 4 t)/\TyOk (hsV l mods) 4 p.out:=by
 have t1:=(zCd l mods hm hm2 hl).mono (show 2<=4 by omega);have t2:=(zLi l mods hm hm2 hl).mono (show 3<=4 by omega);have t3:=(zT8 l mods hm hm2 hl).mono (show 3<=4 by omega);have tR:TyOk (hsV l mods) 4 (zNf l mods):=zBa l mods t1 t1 (zEu hl (by omega) (by omega));have tL:∀(a m n:Int),0<m->m<=4->∀t∈tyL l a m n (jG mods),TyOk (hsV l mods) 4 t:=fun a m n h0 h1 t ht=>by obtain⟨i,rfl⟩:=zEf ht;exact zBa l mods t1 t1 (zEu hl h0 (by omega))
 intro p hp;simp only[qJ,plB,plC,plD,plE,jAc,jA3]at hp;rcases hp with ((rfl|rfl|h)|h)|rfl|h|rfl|h
 .exact⟨tL _ _ _ (by omega) (by omega),.int _⟩
 .refine⟨fun t ht=>?_,.int _⟩;rcases jA3.1 ht with rfl|ht
  .exact .int _
  .exact tL _ _ _ (by omega) (by omega) t ht
 .simp at h
 .split at h
  .rename_i hh;simp at h;rcases h with rfl|rfl
   .refine⟨fun t ht=>?_,.int _⟩;rcases jA3.1 ht with rfl|ht
    .exact .int _
    .exact tL _ _ _ (by omega) (by omega) t ht
   .refine⟨fun t ht=>?_,.int _⟩;simp only[zDQ,jA3,jB,or_false]at ht;rcases ht with rfl|rfl|rfl
    .exact(sF l mods hm hm2 hl hh).mono (by omega)
    .exact .list _ _ (.int _)
    .exact .int _
  .simp at h
 .refine⟨fun t ht=>?_,tR⟩;simp only[pF,sU,jA3]at ht;rcases ht with rfl|ht
  .exact zBa l mods t1 t2 (zEu hl (by omega) (by omega))
  .split at ht
   .simp at ht;rw[ht];exact zBa l mods t1 t2 (zEu hl (by omega) (by omega))
   .simp at ht
 .split at h
  .rename_i hh;subst h;refine⟨fun t ht=>?_,zT7 l mods hm hm2 hl hh⟩;simp only[zBP,jA3,jB,or_false]at ht;rcases ht with rfl|rfl
   .exact(sF l mods hm hm2 hl hh).mono (by omega)
   .exact t2
  .subst h;refine⟨fun t ht=>?_,zBa l mods t1 t2 (zEu hl (by omega) (by omega))⟩;simp only[pG,jA3,jB,or_false]at ht;rw[ht];exact t2
 .refine⟨fun t ht=>?_,zBa l mods t1 tR (zEu hl (by omega) (by omega))⟩;simp only[pT,jAd]at ht;obtain⟨q,hq,rfl⟩:=ht;simp only[inV,jA3]at hq;rcases hq with rfl|hq
  .unfold zZq;split
   .exact .bool _
   .split
    .exact .list _ _ (.int _)
    .split
     .exact t1
     .exact .int _
  .unfold zSp at hq;split at hq
   .simp at hq;rw[hq];exact .int _
   .split at hq
    .simp at hq;rw[hq];exact .bool _
    .simp at hq
 .split at h
  .simp at h;subst h;refine⟨fun t ht=>?_,zBa l mods t1 t3 (zEu hl (by omega) (by omega))⟩;simp only[pC,jA3,jB,or_false]at ht;rw[ht];exact t3
  .simp at h
theorem cxV(m:Mk)(hd:m.defs.map Dfn.hd=hsV l mods)(hmods:0<m.mods.length)(hml:m.l=l)(ho:m.own<=1000):Cx (hsV l mods) 4 m:=by
 obtain⟨n5,n8⟩:=cF l mods;refine⟨hd,by simp;omega,by simp;omega,hmods,hml▸hl,ho,fun k h hk=>?_,fun k h=>?_⟩
 .have h':k<(qJ l mods).length:=by simpa using h
  have hg:=oJ mods (qJ l mods) h';rw[hg]at hk ⊢;have hpt:=zCR l mods hm hm2 hl _ (jA0 h');have hk4:k<2\/p9 l=true/\k<4:=by
   by_cases h2:k<2
   .exact .inl h2
   cases hh:p9 l with
   |true =>
    refine .inr ⟨rfl,?_⟩;by_cases h4:k<4
    .exact h4
    .exfalso;have hmem:(qJ l mods)[k]∈plB l mods:=by
      have e:qJ l mods=[dN l mods,fB l mods,mH l mods,zDQ mods]++plB l mods:=by simp[qJ,hh]
      simp only[e];rw[jC2 (by simp;omega)];exact jA0 _
     simp only[plB,plC,plD,plE,jA3]at hmem;rcases hmem with e|e|e|e
     .rw[e]at hk;simp[pF]at hk
     .rw[e]at hk;split at hk<;>simp[zBP,pG]at hk
     .rw[e]at hk;simp[pT]at hk
     .split at e
      .simp at e;rw[e]at hk;simp[pC]at hk
      .simp at e
   |false =>
    exfalso;have hmem:(qJ l mods)[k]∈plB l mods:=by
     have e:qJ l mods=[dN l mods,fB l mods]++plB l mods:=by simp[qJ,hh]
     simp only[e];rw[jC2 (by simp;omega)];exact jA0 _
    simp only[plB,plC,plD,plE,jA3]at hmem;rcases hmem with e|e|e|e
    .rw[e]at hk;simp[pF]at hk
    .rw[e]at hk;split at hk<;>simp[zBP,pG]at hk
    .rw[e]at hk;simp[pT]at hk
    .split at e
     .simp at e;rw[e]at hk;simp[pC]at hk
     .simp at e
  have hc:k=0\/k=1\/(p9 l=true/\k=2)\/(p9 l=true/\k=3):=by
   rcases hk4 with h|⟨h,h'⟩
   .omega
   .have:k=0\/k=1\/k=2\/k=3:=by omega
    rcases this with e|e|e|e
    .exact .inl e
    .exact .inr (.inl e)
    .exact .inr (.inr (.inl ⟨h,e⟩))
    .exact .inr (.inr (.inr ⟨h,e⟩))
  rcases hc with rfl|rfl|⟨hh,rfl⟩|⟨hh,rfl⟩
  .have:=(zCd l mods hm hm2 hl).mono (show 2<=4 by omega)
   simpa[jG]using this
  .have:=(zLi l mods hm hm2 hl).mono (show 3<=4 by omega)
   simpa[eG]using this
  .exact(sF l mods hm hm2 hl hh).mono (by omega)
  .exact zT7 l mods hm hm2 hl hh
 .have h':k<(qJ l mods).length:=by simpa using h
  have hg:=oJ mods (qJ l mods) h';have hpt:=zCR l mods hm hm2 hl _ (jA0 h');rw[hg];exact⟨by simp only[mK];exact(fM l mods hm hm2 hl _ (jA0 h')).t6,fun s hs=>hpt.1 _ (zAY hs)⟩
end
end Go.Proofs.YtdnelmeboihpkaaGreatDoor
namespace Go.Proofs.YtdnelmeboihpkaaGreatDoor
open Go.Abs
theorem zTj{α:Type}(I:Nat->α->Prop)(S:Nat->α->α->Prop)(a0 : α)(h0:I 0 a0):∀n:Nat,(∀i<n,∀a,I i a->∃b,I (i+1) b/\S i a b)->∃f:Nat->α,f 0=a0/\(∀i≤n,I i (f i))/\∀i<n,S i (f i) (f (i+1))
 | 0,_=>⟨fun _=>a0,rfl,(fun i hi=>by
  obtain rfl:i=0:=by omega
  exact h0),fun i hi=>by omega⟩
 |n+1,h=>by
  obtain⟨f,f0,f1,f2⟩:=zTj I S a0 h0 n fun i hi=>h i (by omega)
  obtain⟨b,b1,b2⟩:=h n (by omega) (f n) (f1 n (jA _));refine⟨fun i=>if i<=n then f i else b,by simp[f0],fun i hi=>?_,fun i hi=>?_⟩
  .by_cases e:i<=n
   .simp only[e,if_true];exact f1 i e
   .obtain rfl:i=n+1:=by omega
    simp only[show ¬n+1<=n by omega,if_false];exact b1
  .by_cases e:i=n
   .subst e;simp only[jA,if_true,show ¬i+1<=i by omega,if_false];exact b2
   .simp only[show i<=n by omega,show i+1<=n by omega,if_true];exact f2 i (by omega)
def Dfn.wb(d:Dfn)(e:Exp):Dfn:={d with body:=e}
@[simp]theorem Dfn.hd_wb(d:Dfn)(e:Exp):(d.wb e).hd=d.hd:=rfl
def fE(d:Dfn):wJ:=d.slots.map fun s=>⟨s.id,0,s.typ⟩
@[simp]theorem zBw(d:Dfn):(fE d).length=d.slots.length:=by simp[fE]
@[simp]theorem qJy(d:Dfn)(e:Exp):fE (d.wb e)=fE d:=rfl
def mkA(m:Mk)(i:Nat)(d:Dfn):Mk:={m with own:=i,home:=d.mod,left:=14,name:=0}
def mkD(m:Mk)(i:Nat)(d:Dfn):Mk:={m with defs:=m.defs.set i d}
def mkL(m:Mk):Mk:={m with left:=0}
theorem xR{ds:wQ}{i:Nat}{d:Dfn}(h:ds[i]?=some d)(e:Exp):(ds.set i (d.wb e)).map Dfn.hd=ds.map Dfn.hd:=by
 apply jCd;intro j;rw[jC0,jC0];by_cases hj:j=i
 .subst hj;rw[jAm (jA4.1 h).1,h];rfl
 .rw[jAa (Ne.symm hj)]
def zNt(i:Nat)(m m':Mk):Prop:=∃d,m.defs[i]?=some d /\
 ((d.kind=0\/d.kind=1)/\m'=m \/
  (d.kind≠0/\d.kind≠1)/\∃(e1:Exp) (m1:Mk),mv bX [.ptr 0 0,.agg (zB d.res),.sl (fE d).length (qC (fE d)),int 4] (mkS (mkA m i d)) (.agg (zI e1)) (mkS m1)/\m1.defs=m.defs/\m1.mods=m.mods/\(tmps e1).length<=1000000000 /\
   ((tmps e1).length<=30/\m'=mkD m1 i (d.wb e1) \/
    30<(tmps e1).length/\∃(e2:Exp) (m2:Mk),mv bX [.ptr 0 0,.agg (zB d.res),.sl (fE d).length (qC (fE d)),int 0] (mkS (mkL (mkD m1 i (d.wb e1)))) (.agg (zI e2)) (mkS m2)/\m2.defs=m.defs.set i (d.wb e1)/\m2.mods=m.mods /\
     m'=mkD m2 i (d.wb e2)))
structure BGood(hs:List Hd)(k:Nat)(d:Dfn)(lo hi:Int)(e:Exp):Prop where
 wt:WT hs k (fE d) e d.res
 seg:Seg lo hi (tmps e)
 num:e.num0
 len:(tmps e).length<=32768
def zNs(hs:wP)(i:Nat)(m m':Mk):Prop:=∃d,m.defs[i]?=some d/\m.temp<=m'.temp /\
 ((d.kind=0\/d.kind=1)/\m'.defs=m.defs\/(d.kind≠0/\d.kind≠1)/\∃e,m'.defs=m.defs.set i (d.wb e)/\BGood hs i d m.temp m'.temp e)
structure BInv(l:List Int)(mods:Int)(i:Nat)(m:Mk):Prop where
 heads:m.defs.map Dfn.hd=hsV l mods
 mods:m.mods=zD7 mods (qJ l mods)
 l:m.l=l
 at0:0<=m.at_
 at1:m.at_<=24+i*200000000
 temp0:0<=m.temp
 temp1:m.temp<=i*200000000
theorem zOp{a b:Int}{l:wB}(h:Seg a b l)(hab:a<=b):(l.length:Int)<=b-a:=by
 have hp:(l.map fun x=>(x-a).toNat).Nodup:=by rw[jDt,jCq];refine List.Pairwise.imp_of_mem (fun {x y} hx hy hne=>?_) (jDt.1 h.nd);have:=h.rng x hx;have:=h.rng y hy;intro e;exact hne (by omega)
 have hs:(l.map fun x=>(x-a).toNat)⊆List.range (b-a).toNat:=fun n hn=>by obtain⟨x,hx,rfl⟩:=jAd.1 hn;have:=h.rng x hx;rw[jBx];omega
 have:=hp.length_le_of_subset hs;rw[jAe,List.length_range]at this;omega
section
variable{l:wB}{mods:Int}(hm:1<=mods)(hm2:mods<=2)(hl:∀x∈l,w64 x=x)
include hm hm2 hl
theorem zC4{i:Nat}{d:Dfn}(h:(hsV l mods)[i]?=some d.hd)(temp:Int):EnvOk (hsV l mods) 4 temp (fE d)/\1<=(fE d).length/\(fE d).length<=6/\TyOk (hsV l mods) 4 d.res:=by
 obtain⟨hi,he⟩:=jA4.1 h;have hi':i<(qJ l mods).length:=by simpa using hi
 rw[oJ mods (qJ l mods) hi']at he;have hp:=fM l mods hm hm2 hl _ (jA0 hi');have ht:=zCR l mods hm hm2 hl _ (jA0 hi');obtain⟨n1,n2⟩:=mZ (show 0<=mods by omega) (fun p hp=>(fM l mods hm hm2 hl p hp).t6) i;have n8:=(cF l mods).2;have eS:d.slots=eF (cL mods (qJ l mods) i) (qJ l mods)[i]:=by have:=congrArg Hd.slots he;exact this.symm
 have eR:d.res=(qJ l mods)[i].out:=by have:=congrArg Hd.res he;exact this.symm
 generalize (qJ l mods)[i]=p at *
 generalize cL mods (qJ l mods) i=nx at *
 refine⟨⟨fun b hb=>?_,?_,fun b hb h0=>?_⟩,by simp only[zBw,eS,mK];exact hp.t1,by simp only[zBw,eS,mK];exact hp.t6,by rw[eR];exact ht.2⟩
 .simp only[fE,jAd]at hb;obtain⟨s,hs,rfl⟩:=hb;rw[eS]at hs;exact ht.1 _ (zAY hs)
 .simp only[fE,eS,eF,jCg];rw[jCq];refine List.Pairwise.imp_of_mem (fun {a b} ha hb hlt=>?_) List.pairwise_lt_range;rw[jBx]at ha hb;have:=hp.t6;intro e;have:=tD (by omega) (by omega) (by omega) (by omega) e.1;omega
 .exfalso;simp only[fE,jAd]at hb;obtain⟨s,hs,rfl⟩:=hb;rw[eS]at hs;simp only[eF,jAd,jBx]at hs;obtain⟨k,hk,rfl⟩:=hs;have:=hp.t6;have:=zXk (k:=nx+k) (by omega) (by omega);simp only[zHF]at h0;omega
theorem zUb(i:Nat)(hi:i<(qJ l mods).length)(m:Mk)(h:BInv l mods i m):∃m',BInv l mods (i+1) m'/\zNt i m m'/\zNs (hsV l mods) i m m':=by
 have hlen:m.defs.length=(qJ l mods).length:=by have:=congrArg List.length h.heads;simpa using this
 have n8:=(cF l mods).2;obtain⟨d,hd⟩:∃d,m.defs[i]?=some d:=⟨m.defs[i]'(by omega),by simp⟩;have hhd:(hsV l mods)[i]?=some d.hd:=by rw[<-h.heads,jC0,hd];rfl
 by_cases hk:d.kind=0\/d.kind=1
 .refine⟨m,⟨h.heads,h.mods,h.l,h.at0,by have:=h.at1;omega,h.temp0,by have:=h.temp1;omega⟩,⟨d,hd,.inl ⟨hk,rfl⟩⟩,⟨d,hd,jAf _,.inl ⟨hk,rfl⟩⟩⟩
 have hk':d.kind≠0/\d.kind≠1:=⟨fun e=>hk (.inl e),fun e=>hk (.inr e)⟩;have hmne:0<m.mods.length:=by rw[h.mods];simp[zD7]
 have h89:(8:Int) ^ (4+4+1)=134217728:=by decide
 have h85:(8:Int) ^ (0+4+1)=32768:=by decide
 obtain⟨k4,_⟩:=zEI (hsV l mods) 4 (by omega) (by omega) 4 (by omega);obtain⟨k0,_⟩:=zEI (hsV l mods) 4 (by omega) (by omega) 0 (by omega);rw[h89]at k4;rw[h85]at k0;obtain⟨at0,at1,tp0,tp1⟩:=(⟨h.at0,h.at1,h.temp0,h.temp1⟩:_/\_/\_/\_);have hi8:(i:Int)<=8:=by omega
 obtain⟨eo,e1,e6,et⟩:=zC4 hm hm2 hl hhd (mkA m i d).temp;have cA:Cx (hsV l mods) 4 (mkA m i d):=cxV l mods hm hm2 hl _ h.heads hmne h.l (by simp only[mkA];omega);have lA:Lim (mkA m i d) 134217728:=⟨at0,by simp only[mkA];omega,tp0,by simp only[mkA];omega,by simp only[mkA];omega,by simp only[mkA];omega,by simp only[mkA];omega,by simp only[mkA];omega⟩;obtain⟨x1,m1,g1,g2,g3,g4,g5⟩:=k4 (mkA m i d) 4 d.res (fE d) cA lA et (jA _) eo e1 (by omega);have htA:(mkA m i d).temp=m.temp:=rfl;have sl1:=zOp g4 g2.temp1;rw[htA]at sl1 g4;have a1:m.at_<=m1.at_:=g2.at1;have a2:m1.at_<=m.at_+134217728:=g2.at2;have b1:m.temp<=m1.temp:=g2.temp1;have b2:m1.temp<=m.temp+134217728:=g2.temp2;have dd:m1.defs=m.defs:=g2.defs;have dm:m1.mods=m.mods:=g2.mods;have dl:m1.l=m.l:=g2.l;by_cases h30:(tmps x1).length<=30
 .refine⟨mkD m1 i (d.wb x1),⟨?_,dm.trans h.mods,dl.trans h.l,by simp only[mkD];omega,by simp only[mkD];omega,by simp only[mkD];omega,by simp only[mkD];omega⟩,⟨d,hd,.inr ⟨hk',x1,m1,g1,dd,dm,by omega,.inl ⟨h30,rfl⟩⟩⟩,⟨d,hd,b1,.inr ⟨hk',x1,?_,g3,g4,g5,by omega⟩⟩⟩
  .simp only[mkD,dd];rw[xR hd];exact h.heads
  .simp only[mkD,dd]
 .have cB:Cx (hsV l mods) 4 (mkL (mkD m1 i (d.wb x1))):=cxV l mods hm hm2 hl _ (by simp only[mkL,mkD,dd];rw[xR hd];exact h.heads) (by simp only[mkL,mkD,dm];exact hmne) (dl.trans h.l) (by
   have:m1.own=i:=g2.own;simp only[mkL,mkD];omega)
  have nm:m1.name<=134217728:=by have:m1.name<=0+134217728:=g2.name2;omega
  have nm0:0<=m1.name:=g2.name1;have lB:Lim (mkL (mkD m1 i (d.wb x1))) 32768:=⟨by simp only[mkL,mkD];omega,by simp only[mkL,mkD];omega,by simp only[mkL,mkD];omega,by simp only[mkL,mkD];omega,by simp only[mkL,mkD];omega,by simp only[mkL,mkD];omega,nm0,by simp only[mkL,mkD];omega⟩;obtain⟨x2,m2,f1,f2,f3,f4,f5⟩:=k0 (mkL (mkD m1 i (d.wb x1))) 4 d.res (fE d) cB lB et (jA _) (zC4 hm hm2 hl hhd _).1 e1 (by omega);have sl2:=zOp f4 f2.temp1;have p1:m1.at_<=m2.at_:=f2.at1;have p2:m2.at_<=m1.at_+32768:=f2.at2;have q1:m1.temp<=m2.temp:=f2.temp1;have q2:m2.temp<=m1.temp+32768:=f2.temp2;have dd2:m2.defs=m.defs.set i (d.wb x1):=by have:=f2.defs;rw[this];simp only[mkL,mkD,dd]
  have dm2:m2.mods=m.mods:=by have:=f2.mods;rw[this];simp only[mkL,mkD,dm]
  have dl2:m2.l=m.l:=by have:=f2.l;rw[this];simp only[mkL,mkD,dl]
  have hset:(m.defs.set i (d.wb x1)).set i (d.wb x2)=m.defs.set i (d.wb x2):=by rw[List.set_set]
  have o1:m1.own=i:=g2.own;have hwt:WT (hsV l mods) i (fE d) x2 d.res:=by have:(mkL (mkD m1 i (d.wb x1))).own=i:=o1;rw[this]at f3;exact f3
  have ht1:(mkL (mkD m1 i (d.wb x1))).temp=m1.temp:=rfl;rw[ht1]at f4 sl2;refine⟨mkD m2 i (d.wb x2),⟨?_,dm2.trans h.mods,dl2.trans h.l,by simp only[mkD];omega,by simp only[mkD];omega,by simp only[mkD];omega,by simp only[mkD];omega⟩,⟨d,hd,.inr ⟨hk',x1,m1,g1,dd,dm,by omega,.inr ⟨by omega,x2,m2,f1,dd2,dm2,rfl⟩⟩⟩,
   ⟨d,hd,by simp only[mkD];omega,.inr ⟨hk',x2,?_,hwt,f4.mono b1 (jAf _),f5,by omega⟩⟩⟩
  .simp only[mkD,dd2,hset];rw[xR hd];exact h.heads
  .simp only[mkD,dd2,hset]
theorem zO6(m0:Mk)(h0:BInv l mods 0 m0):∃ms:Nat->Mk,ms 0=m0/\(∀i≤(qJ l mods).length,BInv l mods i (ms i))/\∀i<(qJ l mods).length,zNt i (ms i) (ms (i+1))/\zNs (hsV l mods) i (ms i) (ms (i+1)) :=
 zTj (BInv l mods) (fun i m m'=>zNt i m m'/\zNs (hsV l mods) i m m') m0 h0 _ fun i hi a ha=>by obtain⟨b,h1,h2⟩:=zUb hm hm2 hl i hi a ha;exact⟨b,h1,h2⟩
end
end Go.Proofs.YtdnelmeboihpkaaGreatDoor
namespace Go.Abs
theorem zYQ{P:Program}{KD:Env->Prop}{env:Env} {U:St}{d:wC}{f:FuncId}{args args':wE} {U0:St}{r:A}(h:Ret P f args U0 r U0)(js:wA)(hd:js.Nodup)(ho:aB U j9 (qR js) js U0)(ha:dS js args' args)
 (hr:ren js U.length r=r)(hp:jF U js (U0.map (cP js U.length)) = U)(hq:KD (env.put d r)):uD P U d KD f args' env:=by
 refine⟨r,cS h js hd ho ha ?_,hq⟩;rw[hr,hp];simp
end Go.Abs
namespace Go.Proofs.YtdnelmeboihpkaaGreatDoor
open Go.Abs
def nF:List Id->Int->List Int->wF
 |ids,_,[]=>ids
 |ids,next,c::cs=>nF (ids.set c.toNat (idR next)) (next+1) cs
theorem zHD(c:Int):∀(cs:wB) (ids:wF) (next:Int),nF ids next (cs++[c])=(nF ids next cs).set c.toNat (idR (next+cs.length))
 |[],ids,next=>by simp[nF]
 |x::cs,ids,next=>by simp only[jBj,nF];rw[zHD c cs,jAb,show next+1+(cs.length:Int)=next+((cs.length+1:Nat):Int) by omega]
theorem zQc{cs:wB}{k:Nat}(h:k<cs.length)(ids:wF)(next:Int):nF ids next (cs.take (k+1))=(nF ids next (cs.take k)).set cs[k].toNat (idR (next+k)):=by rw[jA6 h,zHD,jAs,jAv (by omega)]
@[simp]theorem zBY:∀(cs:wB) (ids:wF) (next:Int),(nF ids next cs).length=ids.length
 |[],_,_=>rfl
 |_::cs,ids,next=>by simp only[nF];rw[zBY cs,jBz]
theorem zFK{c:Nat}:∀(cs:wB) (ids:wF) (next:Int),(∀x∈cs,0<=x/\x≠c)->(nF ids next cs)[c]?=ids[c]?
 |[],_,_,_=>rfl
 |x::cs,ids,next,h=>by simp only[nF];obtain⟨h1,h2⟩:=h x (by simp);rw[zFK cs _ _ (fun y hy=>h y (by simp[hy])),jAa (by omega)]
theorem zLa:∀(cs:wB) (ids:wF) (next:Int),cs.Nodup->(∀x∈cs,0<=x/\x<ids.length)->∀(k:Nat) (h:k<cs.length),rC (nF ids next cs) cs[k]=idR (next+k)
 |[],_,_,_,_,k,h=>by simp at h
 |x::cs,ids,next,hn,hb,0,h=>by
  rw[jD2]at hn;obtain⟨h1,h2⟩:=hb x (by simp);obtain⟨n,rfl⟩:∃n:Nat,x=n:=⟨x.toNat,by omega⟩;have hne:∀y∈cs,0<=y/\y≠n:=fun y hy=>⟨(hb y (by simp[hy])).1,fun e=>hn.1 (e▸hy)⟩
  simp only[jCz,nF,rC,jCl,jB7];rw[zFK cs _ _ hne,jAm (by omega)];simp
 |x::cs,ids,next,hn,hb,k+1,h=>by rw[jD2]at hn;simp only[nF,jDc];have:=zLa cs (ids.set x.toNat (idR next)) (next+1) hn.2 (fun y hy=>by rw[jBz];exact hb y (by simp[hy])) k (by simpa using h);rw[this,show next+1+(k:Int)=next+((k+1:Nat):Int) by omega]
def fO(d:Dfn):Bool:=!(decide (d.kind=0)||decide (d.kind=1))
structure NSt where
 ds:List Dfn
 ids:List Id
 next:Int
def zHr(s:NSt)(i:Nat):NSt:=match s.ds[i]? with
 |some d=>if fO d then ⟨s.ds.set i (d.wb (lC (rC (nF s.ids s.next (tmps d.body))) d.body)),nF s.ids s.next (tmps d.body),s.next+(tmps d.body).length⟩ else s
 |none=>s
def fA(s:NSt):Nat->NSt
 | 0=>s
 |i+1=>zHr (fA s i) i
theorem vT(s:NSt):∀i:Nat,(fA s i).ds.length=s.ds.length/\(fA s i).ids.length=s.ids.length
 | 0=>⟨rfl,rfl⟩
 |i+1=>by
  have ih:=vT s i;simp only[fA,zHr];split
  .split
   .simp[ih]
   .exact ih
  .exact ih
theorem tM(s:NSt):∀(i j:Nat),i<=j->(fA s i).ds[j]?=s.ds[j]?
 | 0,j,_=>rfl
 |i+1,j,h=>by
  have ih:=tM s i j (by omega);simp only[fA,zHr];split
  .split
   .simp only;rw[jAa (by omega),ih]
   .exact ih
  .exact ih
theorem zCJ(s:NSt){i:Nat}{d:Dfn}(hd:s.ds[i]?=some d):fA s (i+1)=if fO d then ⟨(fA s i).ds.set i (d.wb (lC (rC (nF (fA s i).ids (fA s i).next (tmps d.body))) d.body)),nF (fA s i).ids (fA s i).next (tmps d.body),(fA s i).next+(tmps d.body).length⟩ else fA s i:=by simp only[fA,zHr];rw[tM s i i (jA _),hd]
theorem zFk(s:NSt):∀i:Nat,(fA s i).ds.map Dfn.hd=s.ds.map Dfn.hd
 | 0=>rfl
 |i+1=>by
  have ih:=zFk s i;simp only[fA,zHr];split
  .rename_i d hd;split
   .simp only;rw[xR hd,ih]
   .exact ih
  .exact ih
theorem zHq(s:NSt){i:Nat}:∀(j:Nat),i<j->(fA s j).ds[i]?=(fA s (i+1)).ds[i]?
 | 0,h=>by omega
 |j+1,h=>by
  by_cases e:i=j
  .rw[e]
  .have ih:=zHq s (i:=i) j (by omega);rw[<-ih];simp only[fA,zHr];split
   .split
    .simp only;rw[jAa (by omega)]
    .rfl
   .rfl
theorem zCu{ds:wQ}{i:Nat}(h:i<ds.length)(e:Exp):(z6 ds).take (i*31+14)++(zI e++(z6 ds).drop (i*31+14+15))=z6 (ds.set i (ds[i].wb e)):=by
 have hs:=zLI (ds[i].wb e) h;rw[<-hs];have hd:=yG h;have h1:(z6 ds).take (i*31+14)=(z6 ds).take (i*31)++(zJ ds[i]).take 14:=by rw[List.take_add,hd,jC (by simp)]
 have h2:(z6 ds).drop (i*31+14+15)=(zJ ds[i]).drop 29++(z6 ds).drop (i*31+31):=by
  have h3:(z6 ds).drop (i*31+31)=z6 (ds.drop (i+1)):=by rw[<-jBc,hd,jD3 (zJ3 _)]
  rw[h3,jAq,<-jBc,hd,List.drop_append_of_le_length (by simp)]
 rw[h1,h2,jAu]
 congr 1
end Go.Proofs.YtdnelmeboihpkaaGreatDoor
namespace Go.Proofs.YtdnelmeboihpkaaGreatDoor
open Go.Abs
def zWm:K:=(G [D 137 4 1,L 138 137 1,J 139 10 31,kd 140 41 31 1 kz0 [(0,31,(kt 139))],kP 141 41 31 352 138 140,D 142 4 1,S 142 141 1] (K.dops [(0,1,D 143 4 0),(1,1,L 144 143 1),(2,0,M 145 7),(3,0,M 146 9),(4,1,kX 147 145 146 11),(5,1,D 148 147 10),(6,1,L 149 148 1),(7,0,D 150 4 0),(8,0,L 151 150 1),(9,0,M 152 7),(10,0,M 153 9),(11,0,kX 154 152 153 11),(12,0,D 155 154 10),(13,0,L 156 155 1),(14,0,kX 157 151 156 6),(15,0,D 158 157 5),(16,0,L 159 158 1),(17,0,D 160 10 0),(18,0,J 161 160 3),(19,0,kd 162 31 3 1 [ki,ki,ki] [(0,3,(kt 161))]),(20,0,kP 163 31 3 24 159 162),(21,0,kX 164 144 149 6),(22,0,D 165 164 5),(23,0,S 165 163 1)]))
def zWl:K:=(G [M 213 13,M 214 14,kU 215 213,D 216 215 6,S 216 214 1] (G [M 217 13,D 218 15 4,J 219 218 3,kU 220 217,D 221 220 7,S 221 219 3] (G [M 222 13,kU 223 222,D 224 223 5,⟨none,.st none (kt 224) (kc 14) 1⟩] (G [M 225 13,kU 226 225,D 227 226 10,⟨none,.st none (kt 227) (kc 0) 1⟩] (Z (K.dops [(0,2,D 228 4 1),(1,4002,L 229 228 1),(2,0,M 230 14),(3,0,M 231 13),(4,0,D 232 15 9),(5,0,J 233 232 5),(6,0,M 234 16),(7,3002,kC 235 85 [(kt 231),(kt 233),(kt 234),(kc 4)]),(8,4002,kX 236 229 230 31),(9,4002,D 237 236 14),(10,0,S 237 235 15)]) (G [D 238 4 1,L 239 238 1,M 240 14,kX 241 239 240 31,D 242 241 14,J 243 242 15,kC 244 86 [(kt 243)],kBi 245 244 30 .gtr] (Y 245 (G [M 246 13,kU 247 246,D 248 247 5,⟨none,.st none (kt 248) (kc 0) 1⟩] (K.dops [(0,2,D 249 4 1),(1,4002,L 250 249 1),(2,0,M 251 14),(3,0,M 252 13),(4,0,D 253 15 9),(5,0,J 254 253 5),(6,0,M 255 16),(7,3002,kC 256 85 [(kt 252),(kt 254),(kt 255),(kc 0)]),(8,4002,kX 257 250 251 31),(9,4002,D 258 257 14),(10,0,S 258 256 15)])) ks)))))))
def zNy:K:=(G [M 259 13,kU 260 259,D 261 260 4,L 262 261 1,⟨none,.mop (some 263) (.mks 31 3 24 [ki,ki,ki]) [(kt 262),(kt 262)]⟩,M 18 263] (Z (G [kMi 19 0] (K.block 10 (K.loop (Z (G [M 264 19,D 265 4 1,L 266 265 1,kN 267 266,kB 268 264 267 .lss] (Y 268 ks (K.exit 10))) (Z (K.block 11 (Z (G [D 271 4 1,L 272 271 1,M 273 19,kX 274 272 273 31,D 275 274 3,L 276 275 1,kQi 277 276 0 false,M 278 277,T 278 false (D 279 4 1),T 278 false (L 280 279 1),T 278 false (M 281 19),T 278 false (kX 282 280 281 31),T 278 false (D 283 282 3),T 278 false (L 284 283 1),T 278 false (kQi 285 284 1 false),kPt 286 278 285] (Y 286 (K.exit 11) ks)) (G [D 287 4 1,L 288 287 1,M 289 19,kX 290 288 289 31,D 291 290 14,J 292 291 15,kC 293 87 [(kt 292),(.const kl)],M 20 293] (Z (G [kMi 21 0] (K.block 12 (K.loop (Z (G [M 294 21,M 295 20,kN 296 295,kB 297 294 296 .lss] (Y 297 ks (K.exit 12))) (Z (K.block 13 (Z (K.dops [(0,0,M 300 18),(1,0,M 301 20),(2,0,M 302 21),(3,0,kX 303 301 302 1),(4,0,L 304 303 1),(5,0,M 305 8),(6,0,kC 306 83 [(kt 305)]),(7,0,kX 307 300 304 3),(8,0,S 307 306 3)]) (K.ops [M 308 8,kBi 309 308 1 .add,M 8 309]))) (K.ops [M 298 21,kBi 299 298 1 .add,M 21 299])))))) (K.dops [(0,0,D 310 4 1),(1,0,L 311 310 1),(2,0,M 312 19),(3,0,D 313 4 1),(4,0,L 314 313 1),(5,0,M 315 19),(6,0,kX 316 314 315 31),(7,0,D 317 316 14),(8,0,J 318 317 15),(9,0,M 319 18),(10,0,kC 320 88 [(kt 318),(kt 319)]),(11,0,kX 321 311 312 31),(12,0,D 322 321 14),(13,0,S 322 320 15)]))))) (K.ops [M 269 19,kBi 270 269 1 .add,
 M 19 270])))))) (G [J 323 4 2,S 2 323 2] kr)))
def zNx:K:=(G [J 166 4 2,M 167 0,kb 168 [kl,kl,kl,ki,ki,ki,ki,ki,ki,ki,ki] [(0,2,(kt 166)),(2,1,(kt 167)),(3,1,(kc 24))],kO 169 168,M 13 169] (Z (G [kMi 14 0] (K.block 6 (K.loop (Z (G [M 170 14,D 171 4 1,L 172 171 1,kN 173 172,kB 174 170 173 .lss] (Y 174 ks (K.exit 6))) (Z (K.block 7 (G [D 177 4 1,L 178 177 1,M 179 14,kX 180 178 179 31,J 181 180 31,kZ 15 kz0,S 15 181 31] (Z (G [D 182 15 3,L 183 182 1,kQi 184 183 0 false,M 185 184,T 185 false (D 186 15 3),T 185 false (L 187 186 1),T 185 false (kQi 188 187 1 false),kPt 189 185 188] (Y 189 (K.exit 7) ks)) (G [kMn 16] (Z (G [kMi 17 0] (K.block 8 (K.loop (Z (G [M 190 17,D 191 15 8,L 192 191 1,kN 193 192,kB 194 190 193 .lss] (Y 194 ks (K.exit 8))) (Z (K.block 9 (K.dops [(0,0,M 197 16),(1,0,D 198 15 8),(2,0,L 199 198 1),(3,0,M 200 17),(4,0,kX 201 199 200 11),(5,0,D 202 201 0),(6,0,J 203 202 3),(7,0,D 204 15 8),(8,0,L 205 204 1),(9,0,M 206 17),(10,0,kX 207 205 206 11),(11,0,D 208 207 4),(12,0,J 209 208 5),(13,0,kb 210 kz7 [(0,3,(kt 203)),(4,5,(kt 209))]),(14,0,kd 211 139 9 1 kz7 [(0,9,(kt 210))]),(15,0,kP 212 139 9 88 197 211),(16,0,M 16 212)])) (K.ops [M 195 17,kBi 196 195 1 .add,M 17 196])))))) (K.wk zWl)))))) (K.ops [M 175 14,kBi 176 175 1 .add,M 14 176])))))) (K.wk zNy)))
def zQJ:K:=(G [M 48 0,M 49 3,kC 50 84 [(kt 48),(kt 49)],M 7 50] (G [M 51 3,M 52 7,kN 53 52,kB 54 51 53 .add,M 8 54] (Z (G [kMi 9 0] (K.block 2 (K.loop (Z (G [M 55 9,M 56 7,kN 57 56,kB 58 55 57 .lss] (Y 58 ks (K.exit 2))) (Z (K.block 3 (Z (K.dops [(0,0,M 61 3),(1,0,M 62 9),(2,0,kB 63 61 62 .add),(3,1,kC 64 83 [(kt 63)]),(4,0,M 65 7),(5,0,M 66 9),(6,1,kX 67 65 66 11),(7,1,D 68 67 0),(8,1,L 69 68 1),(9,0,M 70 7),(10,0,M 71 9),(11,1,kX 72 70 71 11),(12,1,D 73 72 10),(13,1,L 74 73 1),(14,1,kC 75 83 [(kt 74)]),(15,0,M 76 7),(16,0,M 77 9),(17,1,kX 78 76 77 11),(18,1,D 79 78 1),(19,1,L 80 79 1),(20,0,M 81 7),(21,0,M 82 9),(22,1,kX 83 81 82 11),(23,1,D 84 83 5),(24,1,J 85 84 5),(25,0,kb 86 kz0 [(0,3,(kt 64)),(3,1,(kt 69)),(4,3,(kt 75)),(7,1,(kt 80)),(9,5,(kt 85))]),(26,0,kZ 10 kz0),(27,0,S 10 86 31)]) (Z (G [kMi 11 0] (K.block 4 (K.loop (Z (G [M 87 11,M 88 7,M 89 9,kX 90 88 89 11,D 91 90 2,L 92 91 1,kN 93 92,kB 94 87 93 .lss] (Y 94 ks (K.exit 4))) (Z (K.block 5 (Z (K.dops [(0,0,M 97 8),(1,1,kC 98 83 [(kt 97)]),(2,0,M 99 7),(3,0,M 100 9),(4,1,kX 101 99 100 11),(5,1,D 102 101 3),(6,1,L 103 102 1),(7,0,M 104 11),(8,1,kX 105 103 104 1),(9,1,L 106 105 1),(10,0,M 107 7),(11,0,M 108 9),(12,1,kX 109 107 108 11),(13,1,D 110 109 2),(14,1,L 111 110 1),(15,0,M 112 11),(16,1,kX 113 111 112 5),(17,1,J 114 113 5),(18,0,M 115 11),(19,0,kb 116 kz5 [(0,3,(kt 98)),(3,1,(kt 106)),(4,5,(kt 114)),(10,1,(kt 115))]),(20,0,kZ 12 kz5),(21,0,S 12 116 11)]) (Z (G [D 117 10 3,
 L 118 117 1,kQi 119 118 4 false] (Y 119 (K.ops [M 120 7,M 121 9,kX 122 120 121 11,D 123 122 4,L 124 123 1,M 125 11,kX 126 124 125 1,L 127 126 1,D 128 12 9,S 128 127 1]) ks)) (G [D 129 10 8,L 130 129 1,J 131 12 11,kd 132 85 11 1 kz5 [(0,11,(kt 131))],kP 133 85 11 112 130 132,D 134 10 8,S 134 133 1] (K.ops [M 135 8,kBi 136 135 1 .add,M 8 136]))))) (K.ops [M 95 11,kBi 96 95 1 .add,M 11 96])))))) (K.wk zWm)))) (K.ops [M 59 9,kBi 60 59 1 .add,M 9 60])))))) (K.wk zNx))))
def qDl:K:=G [kZ 2 [kl,kl]] (G [M 22 0,kC 23 38 [(kt 22),(kc 0),(kc 2)],⟨none,.bin (some 24) .add (kc 1) (kt 23)⟩,M 3 24] (G [kZ 4 [kl,kl]] (Z (G [kMi 5 0] (K.block 0 (K.loop (Z (G [M 25 5,M 26 3,kB 27 25 26 .lss] (Y 27 ks (K.exit 0))) (Z (K.block 1 (Z (K.dops [(0,0,M 30 5),(1,1,kC 31 83 [(kt 30)]),(2,0,⟨none,.bslice (some 32) 9 1 2 [(.string ⟨#[]⟩),(.string ⟨#[]⟩)] [(0,1,(.const (.string ⟨#[99,111,114,101]⟩))),(1,1,(.const (.string ⟨#[109,105,108,108]⟩)))]⟩),(3,0,M 33 5),(4,1,kX 34 32 33 1),(5,1,L 35 34 1),(6,0,kb 36 kz9 [(0,3,(kt 31)),(3,1,(kt 35))]),(7,0,kZ 6 kz9),(8,0,S 6 36 6)]) (Z (G [M 37 5,kQi 38 37 1 false] (Y 38 (K.ops [kC 39 83 [(kc 0)],kd 40 31 3 1 [ki,ki,ki] [(0,3,(kt 39))],D 41 6 4,S 41 40 1]) ks)) (K.ops [D 42 4 0,L 43 42 1,J 44 6 6,kd 45 112 6 1 kz9 [(0,6,(kt 44))],kP 46 112 6 88 43 45,D 47 4 0,S 47 46 1])))) (K.ops [M 28 5,kBi 29 28 1 .add,M 5 29])))))) (K.wk zQJ))))
def qN0:Nat->Option wD:=fun|41=>k_ [2,4002,0,0,0,0,0,3002,4002,4002,0] | 44=>k_ [2,4002,0,0,0,0,0,3002,4002,4002,0] | 56=>k_ [0,0,0,0,0,0,0,0,0,0,0,0,0,0]|_=>none
theorem qLp:kv f37 qN0 qDl:=mw (by kernel_rfl)
abbrev zLZ(p:Prg):=fin [RS.cell 2 2 true] (uQ 0 (.agg (zP p)) [])
theorem qHx(m:Mk)(M:List Md)(next:Int)(N:Nat)(hN:m.temp=N)(hN1:N<=10000000000)(h0:0<=next)(h1:next<=1000000)(hd8:m.defs.length<=100)
 (hb:∀d∈m.defs,fO d=true->d.body.under N/\(∀c∈tmps d.body,0<=c/\c<N)/\(tmps d.body).length<=1000000) :
 wpK prog 0 zNy (zLZ ⟨M,(fA ⟨m.defs,xI N,next⟩ m.defs.length).ds⟩) (qV [(2,.ptr 2 0),(4,.ptr 3 0),(8,int next),(13,.ptr 0 0)])
  (mkS m++[.box [.nil,.nil],.box [.sl M.length (qH M),.row 1 m.defs.length]]):=by
 generalize hs:(⟨m.defs,xI N,next⟩:NSt)=s;have hsd:s.ds=m.defs:=by rw[<-hs]
 have hsi:s.ids.length=N:=by rw[<-hs];simp[xI]
 have hsn:s.next=next:=by rw[<-hs]
 have hz:=zBp N;have hz2:s.ids=xI N:=by rw[<-hs]
 have hnx:∀i≤m.defs.length,0<=(fA s i).next/\(fA s i).next<=1000000+1000000*i:=by
  intro i;induction i with
  |zero=>intro _;simp only[fA,hsn];omega
  |succ i ih =>
   intro hi;have ih:=ih (by omega);have hd:s.ds[i]?=some (m.defs[i]'(by omega)):=by rw[hsd,jA1 (by omega)]
   rw[zCJ s hd];split
   .rename_i hbd;have:=(hb _ (jA0 (by omega)) hbd).2.2;simp only;omega
   .omega
 have h24:24*N<=281474976710656:=by omega
 unfold zNy;simp[mkS,mkB,hN,h24];refine⟨by omega,?_⟩;refine qK (S:=Nat) (fun i=>[(2,.ptr 0 0),(4,.ptr 1 0),(8,int (fA s i).next),(18,.row 3 N),(19,int i)])
  (fun i=>[.box [.nil,.nil],.box [.sl M.length (qH M),.row 2 m.defs.length],.row false 41 31 m.defs.length (z6 (fA s i).ds),.row false 31 3 N (zT (fA s i).ids)]) (fun i=>i<=m.defs.length) (fun i=>m.defs.length-i) 0 (by simp)
  (m_ [2,3,1,4] 0 (by rfl) (by simp[fA,hsd,hz2,<-hz]) (by simp[fA,hsn])) ?_
 intro i hi;by_cases h:i<m.defs.length
 .have hd:s.ds[i]?=some m.defs[i]:=by rw[hsd,jA1 (by omega)]
  have hst:=zCJ s hd;have hcur:(fA s i).ds[i]?=some m.defs[i]:=by rw[tM s i i (jA _)];exact hd
  obtain⟨hlt,hce⟩:=jA4.1 hcur;obtain⟨hl1,hl2⟩:=vT s i;have hbd:=hb _ (jA0 h);obtain⟨nx0,nx1⟩:=hnx i hi;have hw:=zCu hlt (lC (rC (nF (fA s i).ids (fA s i).next (tmps m.defs[i].body))) m.defs[i].body);have hdr:=yG hlt;rw[hce]at hw hdr;have hi8:(i:Int)<=100:=by omega
  have wi:=jZ i (by omega);rw[hsd]at hl1;rw[hsi]at hl2;generalize hse:fA s (i+1)=s' at hst;generalize hte:fA s i=t at *
  generalize m.defs[i]=d at *
  have hb3:i*31+3+1<=m.defs.length*31:=by omega
  have hb14:i*31+14+15<=m.defs.length*31:=by omega
  have hdr3:List.drop (i*31+3) (z6 t.ds)=(zJ d++z6 (t.ds.drop (i+1))).drop 3:=by rw[<-jBc,hdr]
  have hdr14:List.drop (i*31+14) (z6 t.ds)=(zJ d++z6 (t.ds.drop (i+1))).drop 14:=by rw[<-jBc,hdr]
  have henc:zJ d=(zJ d).take 14++zI d.body++[.lit (.int .i64 d.place),.sl d.lay.length (yR d.lay)]:=rfl;by_cases hk0:d.kind=0
  .have hbf:fO d=false:=by simp[fO,hk0]
   rw[hbf]at hst;simp only[jAk,if_false]at hst;subst hst;simp[h,hdr3,hb3,hl1,zJ,hk0];exact zO (i+1) h (by omega) (mu [0,1,2,3] 0 (by rfl) (by simp[hse,wi]))
  .by_cases hk1:d.kind=1
   .have hbf:fO d=false:=by simp[fO,hk1]
    rw[hbf]at hst;simp only[jAk,if_false]at hst;subst hst;simp[h,hdr3,hb3,hl1,zJ,hk1];exact zO (i+1) h (by omega) (mu [0,1,2,3] 0 (by rfl) (by simp[hse,wi]))
   .have hbf:fO d=true:=by simp[fO,hk0,hk1]
    rw[hbf]at hst;simp only[if_true]at hst;obtain⟨bu,bc,bl⟩:=hbd hbf;have hnum:=zMF d.body (by omega);simp[h,hdr3,hb3,hl1,zJ,hk0,hk1,hdr14,hb14];refine mn hnum [] (by simp[zI]) ?_;generalize hO:tmps d.body=O at *
    simp[mJ];refine qK (S:=Nat) (fun k=>[(2,.ptr 0 0),(4,.ptr 1 0),(8,int (t.next+k)),(18,.row 3 N),(19,int i),(20,.row 4 O.length),(21,int k)])
     (fun k=>[.box [.nil,.nil],.box [.sl M.length (qH M),.row 2 m.defs.length],.row false 41 31 m.defs.length (z6 t.ds),.row false 31 3 N (zT (nF t.ids t.next (O.take k))),mJ O]) (fun k=>k<=O.length) (fun k=>O.length-k) 0 (by simp)
     (mu [0,1,2,3,4] 0 (by rfl) (by simp[mJ,nF])) ?_
    intro k hk;by_cases hkl:k<O.length
    .obtain⟨hc0,hc1⟩:=bc O[k] (jA0 hkl);obtain⟨c,hc⟩:∃c:Nat,O[k]=c:=⟨O[k].toNat,by omega⟩;have hod:=cO hkl;rw[hc]at hod hc1;have hcN:c<N:=by omega
     have hst2:=zQc hkl t.ids t.next;rw[hc]at hst2;have hsl:(nF t.ids t.next (O.take k)).length=N:=by rw[zBY];exact hl2
     have hset:=zE1 (R:=nF t.ids t.next (O.take k)) (k:=c) (idR (t.next+k)) (by omega);have wk1:=jZ k (by omega);have wk2:=zY (t.next+(k:Int)+1) (by omega);have hb3c:c*3+3<=N*3:=by omega
     have hkl':k+1<=O.length:=hkl;simp[mJ,hkl,hkl',hod];refine z7 (uH (t.next+k)) (by simp) (by simp) ?_;simp[zK,hcN,hsl,hb3c];exact zO (k+1) hkl (by omega) (m_ [0,1,2,3,4] 0 (by rfl) (by simp[mJ,hst2,<-hset,zK]) (by simp[wk1,wk2];omega))
    .have hke:k=O.length:=by omega
     subst hke;have hren:=zFA (nF t.ids t.next O) d.body (by rw[zBY,hl2];exact bu);have hsl:(nF t.ids t.next O).length=N:=by rw[zBY];exact hl2
     unfold bM at hren;rw[hsl]at hren;rw[jAt];simp[mJ,h,hl1,hdr14,hb14,zJ];refine zYQ hren [3] (by simp) (by simp) (by simp[zI]) (by simp) (by simp) ?_;simp[h,hl1,hb14];exact zO (i+1) h (by omega) (m_ [0,1,2,3] 0 (by rfl) (by simp[hse,hst,<-hw]) (by simp[wi,hse,hst]))
 .have hie:i=m.defs.length:=by omega
  subst hie;obtain⟨hl1,hl2⟩:=vT s m.defs.length;rw[hsd]at hl1;simp;exact zA 1 (by simp[zP,hl1])
end Go.Proofs.YtdnelmeboihpkaaGreatDoor
namespace Go.Abs
section
variable{d:wC}{x i:Operand}{n f:Nat}{g:Bool}{env:Env}{l:List Operand}
@[simp]theorem qCf(h1:4000<=f):c9 f (.ld d x n g) env=fW (f-4000) (ev env x):=propext (zLg h1)
@[simp]theorem qAq(h1:4000<=f):c9 f (.idx d x i n) env=isRow (ev env x):=propext (zHI h1)
@[simp]theorem qCe{o:Nat}(h1:6<f):c9 f (.addr d x o) env=True:=by
 unfold c9;split
 .omega
 .omega
 .split
  .rfl
  .split
   .rfl
   .split<;>rfl
@[simp]theorem qAp(h1:6<f):c9 f (.call d x l) env=True:=by
 unfold c9;split
 .omega
 .omega
 .split
  .rfl
  .split
   .rfl
   .split<;>rfl
@[simp]theorem qKa{U:St}(h1:2<f):oR f U = U:=by unfold oR;rw[if_neg (by omega),if_neg (by omega)]
end
theorem zXD{a a' x x' y y' z z':wE}{fz fz':Bool}{e:TypeId}{s n:Nat}{cs cs':wE}:zGh [.box a,.row fz e s n cs,.box x,.box y,.box z] [.box a',.row fz' e s n cs',.box x',.box y',.box z']:=by
 intro l f e2 s2 n2 c2 h
 match l,h with
 | 0,h=>simp at h
 | 1,h =>
  simp at h;obtain⟨rfl,rfl,rfl,rfl,rfl⟩:=h;exact⟨fz',cs',rfl⟩
 | 2,h=>simp at h
 | 3,h=>simp at h
 | 4,h=>simp at h
 |n+5,h=>simp at h
end Go.Abs
namespace Go.Proofs.YtdnelmeboihpkaaGreatDoor
open Go.Abs
theorem zRC{d:Dfn}{j:Nat}(h:j<d.slots.length):(fE d)[j]'(by simpa using h)=⟨d.slots[j].id,0,d.slots[j].typ⟩:=by simp[fE]
theorem qHw(l:wB)(M:List Md)(n:Nat)(hn:n<=100)(next:Int)(m0:Mk)(hm0:m0={mods:=M,defs:=m0.defs,l:=l,at_:=24,temp:=0,left:=0,own:=0,home:=Id.zero,name:=0})(ms:Nat->Mk)(h0:ms 0=m0)
 (hlen:∀i≤n,(ms i).defs.length=n)(hsl:∀i≤n,∀d∈(ms i).defs,d.slots.length<=6)(hst:∀i<n,zNt i (ms i) (ms (i+1)))(p:Prg)
 (hD:wpK prog 0 zNy (zLZ p) (qV [(2,.ptr 2 0),(4,.ptr 3 0),(8,int next),(13,.ptr 0 0)]) (mkS (ms n)++[.box [.nil,.nil],.box [.sl M.length (qH M),.row 1 (ms n).defs.length]])) :
 wpK prog 0 zNx (zLZ p) (qV [(0,.sl l.length (yH l)),(2,.ptr 0 0),(4,.ptr 1 0),(8,int next)])
  [.box [.nil,.nil],.box [.sl M.length (qH M),.row 2 n],.row false 41 31 n (z6 m0.defs)]:=by
 have hl0:=hlen 0 (by omega);rw[h0]at hl0;have e0:mkS m0=[.box [.sl M.length (qH M),.row 1 n,.sl l.length (yH l),int 24,int 0,int 0,int 0,int 0,int 0,int 0,int 0],.row false 41 31 n (z6 m0.defs)]:=by rw[hm0];simp[mkS,mkB,Id.zero,hl0]
 unfold zNx;simp;refine qK (S:=Nat) (fun i=>[(2,.ptr 2 0),(4,.ptr 3 0),(8,int next),(13,.ptr 0 0),(14,int i)])
  (fun i=>mkS (ms i)++[.box [.nil,.nil],.box [.sl M.length (qH M),.row 1 n]]) (fun i=>i<=n) (fun i=>n-i) 0 (by simp)
  (mu [3,2,0,1] 0 (by rfl) (by simp[h0,e0])) ?_
 intro i hi;by_cases h:i<n
 .obtain⟨d,hd,hcase⟩:=hst i h;obtain⟨hlt,hce⟩:=jA4.1 hd;have hli:=hlen i hi;have hd6:=hsl i hi d (hce▸jA0 hlt);generalize hms':ms (i+1)=m' at hcase;generalize hms:ms i=m at *
  have hdr:=yG hlt;have hi8:(i:Int)<=100:=by omega
  have wi:=jZ i (by omega);rw[hce]at hdr;have hb31:i*31+31<=n*31:=by omega
  rcases hcase with ⟨hk,hm'⟩|⟨⟨hk0,hk1⟩,e1,m1,g1,gd,gm,gl,hcase⟩
  .subst hm';rcases hk with hk|hk
   all_goals
    simp[mkS,mkB,h,hdr,hb31,hli,zJ,hk];exact zO (i+1) h (by omega) (mu [0,1,2,3] 0 (by rfl) (by simp[mkS,mkB,hms',hli,wi]))
  .simp[mkS,mkB,h,hdr,hb31,hli,zJ,hk0,hk1];refine qK (S:=Nat) (fun j=>[(2,.ptr 2 0),(4,.ptr 3 0),(8,int next),(13,.ptr 0 0),(14,int i),(15,.ptr 4 0),(16,.row 5 j),(17,int j)])
    (fun j=>mkS m++[.box [.nil,.nil],.box [.sl M.length (qH M),.row 1 n],.box (zJ d),.row false 139 9 j (qC ((fE d).take j))]) (fun j=>j<=d.slots.length) (fun j=>d.slots.length-j) 0 (by simp)
    ((qS (t:=16) (by simp) 139 9).trans (mu [0,1,2,3,4,5] 0 (by rfl) (by simp[mkS,mkB,zJ,hli]))) ?_
   intro j hj;by_cases hjl:j<d.slots.length
   .have hdS0:List.drop (j*11) (jS d.slots)=j8 d.slots[j]++jS (d.slots.drop (j+1)):=qZ hjl;have hdS:List.drop (j*11+4) (jS d.slots)=(j8 d.slots[j]++jS (d.slots.drop (j+1))).drop 4:=by rw[<-jBc,hdS0]
    have hbS:j*11+4+5<=d.slots.length*11:=by omega
    have hbS3:j*11+3<=d.slots.length*11:=by omega
    have hst2:=zCs (l:=fE d) (i:=j) (by simpa using hjl);rw[zRC hjl]at hst2;have wj:=jZ j (by omega);simp[mkS,mkB,zJ,hjl,hdS0,hdS,hbS,hbS3,j8];intro _;refine⟨⟨by simp[maxLen];omega,by omega⟩,?_⟩;exact zO (j+1) hjl (by omega) (mu [0,1,2,3,4,5] 0 (by rfl) (by simp[mkS,mkB,zJ,hst2,c7,wj]))
   .have hje:j=d.slots.length:=by omega
    subst hje;have hall:(fE d).take d.slots.length=fE d:=jA9 (by simp);have hw1:=zCu hlt e1;rw[hce]at hw1;have hdr14:List.drop (i*31+14) (z6 (m.defs.set i (d.wb e1)))=(zJ (d.wb e1)++z6 ((m.defs.set i (d.wb e1)).drop (i+1))).drop 14:=by have:=yG (l:=m.defs.set i (d.wb e1)) (i:=i) (by simpa using hlt);rw[<-jBc,this,jDu]
    have hb14:i*31+14+15<=n*31:=by omega
    have hnodes:=zK6 e1 gl;simp[mkS,mkB,zJ];intro _;refine⟨qV [(2,.ptr 2 0),(4,.ptr 3 0),(8,int next),(13,.ptr 0 0),(14,int i),(15,.ptr 4 0),(16,.sl (fE d).length (qC (fE d)))],mkS m++[.box [.nil,.nil],.box [.sl M.length (qH M),.row 1 n],.box (zJ d)],
     mu [0,1,2,3,4] 1 (by rfl) (by simp[mkS,mkB,zJ,hall]),?_⟩
    unfold zWl;simp[mkS,mkB,zJ];refine zNF g1 [0,1] (by decide) (by simp[mkS,mkB,mkA]) (by simp[zB]) (by simp) (by simp) (by simp[mkS]) (by simp[mkS,gd,hli];exact zXD) ?_;have hclen:(z6 m.defs).length=n*31:=by rw[zLH,hli]
    have hdq:∀X:wE,List.drop (i*31+14) (List.take (i*31+14) (z6 m.defs)++X)=X:=fun X=>jD3 (by rw[jAs,hclen];omega)
    have hlen15:i*31+14+15<=min (i*31+14) (n*31)+(15+(n*31-(i*31+14+15))):=by omega
    simp[mkS,mkB,gd,hli,h,hb14,hdq,hlen15];refine mq hnodes (by simp) ?_;rcases hcase with ⟨c30,hm'⟩|⟨c30,e2,m2,g2,gd2,gm2,hm'⟩
    .have c30':¬(30:Int)<(tmps e1).length:=by omega
     simp[c30'];exact zO (i+1) h (by omega) (m_ [0,1,2,3] 0 (by rfl) (by simp[mkS,mkB,hms',hm',mkD,gd,hli,<-hw1]) (by simp[wi]))
    .have c30':(30:Int)<(tmps e1).length:=by omega
     have hw2:=zCu (ds:=m.defs.set i (d.wb e1)) (i:=i) (by simpa using hlt) e2;rw[jDu]at hw2;have hww:(d.wb e1).wb e2=d.wb e2:=rfl;rw[hww,List.set_set]at hw2;simp[c30',hw1];refine zNF g2 [0,1] (by decide) (by simp[mkS,mkB,mkL,mkD,gd,hli]) (by simp[zB]) (by simp) (by simp) (by simp[mkS]) (by simp[mkS,gd2,hli];exact zXD) ?_;simp[mkS,mkB,gd2,hli,h,hb14];exact zO (i+1) h (by omega) (m_ [0,1,2,3] 0 (by rfl) (by simp[mkS,mkB,hms',hm',mkD,gd2,hli,<-hw2]) (by simp[wi]))
 .have hie:i=n:=by omega
  subst hie;have hli:=hlen i hi;simp[mkS,mkB,hli];exact⟨_,_,mu [0,1,2,3] 0 (by rfl) (by simp[mkS,mkB,hli]),hD⟩
end Go.Proofs.YtdnelmeboihpkaaGreatDoor
