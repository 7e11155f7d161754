/- The maker's plans. -/
import Derived.Test.YtolkhapmieigcaaGreatDoorX14
set_option linter.unusedVariables false
set_option maxHeartbeats 8000000
set_option maxRecDepth 100000
set_option linter.unusedSimpArgs false
open Go.Proofs.Tryz
namespace Go.Proofs.YtolkhapmieigcaaGreatDoor
open Go.Abs
def zP4:K:=(G [M 212 10,M 4 212] kr)
def zP3:K:=(Z (G [M 196 0,kC 197 34 [(kt 196),(kc 22),(kc 4)],kBi 198 197 0 .gtr] (Y 198 (K.dops [(0,0,M 199 10),(1,0,J 200 13 5),(2,0,kd 201 36 5 1 kz2 [(0,5,(kt 200))]),(3,0,⟨none,.bslice (some 202) 9 1 1 [(.string ⟨#[]⟩)] [(0,1,(.const (.string ⟨#[111,108,100]⟩)))]⟩),(4,0,M 203 0),(5,0,kC 204 34 [(kt 203),(kc 23),(kc 6)]),(6,0,J 205 6 5),(7,0,J 206 13 5),(8,0,kC 207 82 [(kt 204),(kt 205),(kt 206)]),(9,0,M 208 12),(10,0,⟨none,.build (some 209) kz3 [(0,1,(kc 5)),(1,1,(.const (.string ⟨#[99]⟩))),(2,1,(kt 201)),(3,1,(kt 202)),(5,5,(kt 207)),(10,1,(kt 208))]⟩),(11,0,kd 210 95 11 1 kz3 [(0,11,(kt 209))]),(12,0,kP 211 95 11 160 199 210),(13,0,M 10 211)]) ks)) (K.wk zP4))
def zP2:K:=(G [M 178 0,J 179 6 5,kC 180 84 [(kt 178),(kc 18),(kt 179)],M 177 180,kE 181 177 0,kE 182 177 1,M 17 181,M 18 182] (Z (K.dops [(0,0,M 183 10),(1,0,M 184 17),(2,0,⟨none,.bslice (some 185) 9 1 2 [(.string ⟨#[]⟩),(.string ⟨#[]⟩)] [(0,1,(.const (.string ⟨#[97]⟩))),(1,1,(.const (.string ⟨#[98]⟩)))]⟩),(3,0,M 186 18),(4,0,M 187 0),(5,0,kC 188 34 [(kt 187),(kc 21),(kc 6)]),(6,0,J 189 6 5),(7,0,J 190 16 5),(8,0,kC 191 82 [(kt 188),(kt 189),(kt 190)]),(9,0,M 192 12),(10,0,⟨none,.build (some 193) kz3 [(0,1,(kc 4)),(1,1,(.const (.string ⟨#[116]⟩))),(2,1,(kt 184)),(3,1,(kt 185)),(4,1,(kt 186)),(5,5,(kt 191)),(10,1,(kt 192))]⟩),(11,0,kd 194 95 11 1 kz3 [(0,11,(kt 193))]),(12,0,kP 195 95 11 160 183 194),(13,0,M 10 195)]) (K.wk zP3)))
def zP1:K:=(G [M 134 0,M 135 1,kC 136 34 [(kt 134),(kc 15),(kt 135)],M 15 136] (Z (K.dops [(0,0,M 137 0),(1,1,kC 138 34 [(kt 137),(kc 16),(kc 6)]),(2,1,J 139 6 5),(3,1,J 140 6 5),(4,1,kC 141 82 [(kt 138),(kt 139),(kt 140)]),(5,0,kZ 16 kz2),(6,0,S 16 141 5)]) (G [M 142 10,M 143 8,⟨none,.bslice (some 144) 9 1 2 [(.string ⟨#[]⟩),(.string ⟨#[]⟩)] [(0,1,(.const (.string ⟨#[97]⟩))),(1,1,(.const (.string ⟨#[98]⟩)))]⟩,J 145 16 5,M 146 15,⟨none,.build (some 147) kz3 [(0,1,(kc 2)),(1,1,(.const (.string ⟨#[102]⟩))),(2,1,(kt 143)),(3,1,(kt 144)),(5,5,(kt 145)),(10,1,(kt 146))]⟩,kd 148 95 11 1 kz3 [(0,11,(kt 147))],kP 149 95 11 160 142 148,M 10 149] (Z (G [M 150 5] (Y 150 (K.dops [(0,0,M 151 10),(1,0,J 152 13 5),(2,0,J 153 7 5),(3,0,kd 154 36 5 2 [ki,ki,ki,ki,kl,ki,ki,ki,ki,kl] [(0,5,(kt 152)),(5,5,(kt 153))]),(4,0,⟨none,.bslice (some 155) 9 1 2 [(.string ⟨#[]⟩),(.string ⟨#[]⟩)] [(0,1,(.const (.string ⟨#[115]⟩))),(1,1,(.const (.string ⟨#[101]⟩)))]⟩),(5,0,M 156 1),(6,0,kBi 157 156 3 .add),(7,0,kC 158 35 [(kt 157)]),(8,0,kC 159 81 [(kt 158)]),(9,0,M 160 12),(10,0,⟨none,.build (some 161) kz3 [(0,1,(kc 3)),(1,1,(.const (.string ⟨#[115,116,101,112]⟩))),(2,1,(kt 154)),(3,1,(kt 155)),(5,5,(kt 159)),(10,1,(kt 160))]⟩),(11,0,kd 162 95 11 1 kz3 [(0,11,(kt 161))]),(12,0,kP 163 95 11 160 151 162),(13,0,M 10 163)]) (K.dops [(0,0,M 164 10),(1,0,J 165 7 5),(2,0,kd 166 36 5 1 kz2 [(0,5,(kt 165))]),(3,0,⟨none,.bslice (some 167) 9 1 1 [(.string ⟨#[]⟩)] [(0,1,(.const (.string ⟨#[101]⟩)))]⟩),(4,0,
 M 168 0),(5,0,kC 169 34 [(kt 168),(kc 17),(kc 6)]),(6,0,J 170 6 5),(7,0,J 171 7 5),(8,0,kC 172 82 [(kt 169),(kt 170),(kt 171)]),(9,0,M 173 12),(10,0,⟨none,.build (some 174) kz3 [(0,1,(kc 2)),(1,1,(.const (.string ⟨#[103]⟩))),(2,1,(kt 166)),(3,1,(kt 167)),(5,5,(kt 172)),(10,1,(kt 173))]⟩),(11,0,kd 175 95 11 1 kz3 [(0,11,(kt 174))]),(12,0,kP 176 95 11 160 164 175),(13,0,M 10 176)]))) (K.wk zP2)))))
def zP0:K:=(Z (K.dops [(0,0,M 117 0),(1,0,kC 118 34 [(kt 117),(kc 12),(kc 6)]),(2,0,J 119 6 5),(3,0,J 120 7 5),(4,0,kC 121 82 [(kt 118),(kt 119),(kt 120)]),(5,9,⟨none,.brow (some 122) 36 5 1 kz2 [(0,5,(kt 121))]⟩),(6,0,M 8 122)]) (Z (G [M 123 0,kC 124 34 [(kt 123),(kc 13),(kc 2)],kQi 125 124 1 false] (Y 125 (K.dops [(0,0,M 126 8),(1,0,M 127 0),(2,0,kC 128 34 [(kt 127),(kc 14),(kc 6)]),(3,0,J 129 6 5),(4,0,J 130 7 5),(5,0,kC 131 82 [(kt 128),(kt 129),(kt 130)]),(6,0,kd 132 36 5 1 kz2 [(0,5,(kt 131))]),(7,0,kP 133 36 5 56 126 132),(8,0,M 8 133)]) ks)) (K.wk zP1)))
def zP6:K:=(G [M 69 10,M 70 8,⟨none,.bslice (some 71) 9 1 3 zQU [(0,1,(.const (.string ⟨#[84,105,99,107]⟩))),(1,1,(.const (.string ⟨#[80,117,115,104]⟩))),(2,1,(.const (.string ⟨#[83,101,116]⟩)))]⟩,⟨none,.build (some 72) kz3 [(0,1,(kc 1)),(1,1,(.const (.string ⟨#[69,118,101,110,116]⟩))),(2,1,(kt 70)),(3,1,(kt 71))]⟩,kd 73 95 11 1 kz3 [(0,11,(kt 72))],kP 74 95 11 160 69 73,M 10 74] (G [M 75 1,kBi 76 75 1 .sub,M 12 76] (G [J 77 6 5,kZ 13 kz2,S 13 77 5] (Z (G [M 78 5] (Y 78 (G [kb 79 kz2 [],⟨none,.brow (some 80) 36 5 1 kz2 [(0,5,(kt 79))]⟩,M 8 80] (Z (G [kMi 14 0] (K.block 4 (K.loop (Z (G [M 81 14,M 82 0,kC 83 34 [(kt 82),(kc 9),(kc 3)],kB 84 81 83 .lss] (Y 84 ks (K.exit 4))) (Z (K.block 5 (K.dops [(0,0,M 87 8),(1,0,M 88 0),(2,0,M 89 14),(3,0,⟨none,.bin (some 90) .add (kc 10) (kt 89)⟩),(4,0,kC 91 34 [(kt 88),(kt 90),(kc 4)]),(5,0,J 92 6 5),(6,0,J 93 6 5),(7,0,kC 94 82 [(kt 91),(kt 92),(kt 93)]),(8,0,kd 95 36 5 1 kz2 [(0,5,(kt 94))]),(9,0,kP 96 36 5 56 87 95),(10,0,M 8 96)])) (K.ops [M 85 14,kBi 86 85 1 .add,M 14 86])))))) (Z (K.wk (K.ops [M 97 1,kBi 98 97 2 .add,kC 99 35 [(kt 98)],kC 100 81 [(kt 99)],S 13 100 5])) (G [M 101 10,M 102 8,⟨none,.bslice (some 103) 9 1 3 zQU [(0,1,(.const (.string ⟨#[99,111,117,110,116]⟩))),(1,1,(.const (.string ⟨#[108,111,103]⟩))),(2,1,(.const (.string ⟨#[109,111,114,101]⟩)))]⟩,⟨none,.build (some 104) kz3 [(0,1,(kc 0)),(1,1,(.const (.string ⟨#[83,116,97,116,101]⟩))),(2,1,(kt 102)),(3,1,(kt 103))]⟩,kd 105 95 11 1 kz3 [(0,11,(kt 104))],kP 106 95 11 160 101 105,
 M 10 106] (K.dops [(0,0,M 107 10),(1,0,J 108 13 5),(2,0,kb 109 kz2 []),(3,0,kC 110 83 [(kt 109)]),(4,0,kb 111 kz2 []),(5,0,kd 112 36 5 3 qKY [(0,5,(kt 108)),(5,5,(kt 110)),(10,5,(kt 111))]),(6,0,⟨none,.bslice (some 113) 9 1 3 zQU [(0,1,(.const (.string ⟨#[115,116,97,116,101]⟩))),(1,1,(.const (.string ⟨#[115,105,103,110,97,108,115]⟩))),(2,1,(.const (.string ⟨#[110,101,120,116]⟩)))]⟩),(7,0,⟨none,.build (some 114) kz3 [(0,1,(kc 0)),(1,1,(.const (.string ⟨#[79,117,116]⟩))),(2,1,(kt 112)),(3,1,(kt 113))]⟩),(8,0,kd 115 95 11 1 kz3 [(0,11,(kt 114))]),(9,0,kP 116 95 11 160 107 115),(10,0,M 10 116)]))))) ks)) (K.wk zP0)))))
def zP5:K:=(G [M 46 8,⟨none,.bslice (some 47) 9 1 3 zQU [(0,1,(.const (.string ⟨#[120]⟩))),(1,1,(.const (.string ⟨#[121]⟩))),(2,1,(.const (.string ⟨#[122]⟩)))]⟩,⟨none,.build (some 48) kz3 [(0,1,(kc 0)),(1,1,(.const (.string ⟨#[80,111,105,110,116]⟩))),(2,1,(kt 46)),(3,1,(kt 47))]⟩,⟨none,.brow (some 49) 95 11 1 kz3 [(0,11,(kt 48))]⟩,M 10 49] (G [kb 50 kz2 [],⟨none,.brow (some 51) 36 5 1 kz2 [(0,5,(kt 50))]⟩,M 8 51] (Z (G [kMi 11 0] (K.block 2 (K.loop (Z (G [M 52 11,M 53 0,kC 54 34 [(kt 53),(kc 6),(kc 2)],⟨none,.bin (some 55) .add (kc 1) (kt 54)⟩,kB 56 52 55 .lss] (Y 56 ks (K.exit 2))) (Z (K.block 3 (K.dops [(0,0,M 59 8),(1,0,M 60 0),(2,0,M 61 11),(3,0,⟨none,.bin (some 62) .add (kc 7) (kt 61)⟩),(4,0,kC 63 34 [(kt 60),(kt 62),(kc 4)]),(5,0,J 64 6 5),(6,0,J 65 6 5),(7,0,kC 66 82 [(kt 63),(kt 64),(kt 65)]),(8,0,kd 67 36 5 1 kz2 [(0,5,(kt 66))]),(9,0,kP 68 36 5 56 59 67),(10,0,M 8 68)])) (K.ops [M 57 11,kBi 58 57 1 .add,M 11 58])))))) (K.wk zP6))))
def qAN:K:=G [kMn 4] (G [M 19 0,kC 20 34 [(kt 19),(kc 1),(kc 4)],kBi 21 20 0 .gtr,M 5 21] (G [M 22 1,kC 23 35 [(kt 22)],kC 24 81 [(kt 23)],kZ 6 kz2,S 6 24 5] (G [M 25 1,kBi 26 25 1 .add,kC 27 35 [(kt 26)],kC 28 81 [(kt 27)],kZ 7 kz2,S 7 28 5] (G [kMn 8] (Z (G [kMi 9 0] (K.block 0 (K.loop (Z (G [M 29 9,M 30 0,kC 31 34 [(kt 30),(kc 2),(kc 3)],⟨none,.bin (some 32) .add (kc 1) (kt 31)⟩,kB 33 29 32 .lss] (Y 33 ks (K.exit 0))) (Z (K.block 1 (K.dops [(0,0,M 36 8),(1,0,M 37 0),(2,0,M 38 9),(3,0,⟨none,.bin (some 39) .add (kc 3) (kt 38)⟩),(4,0,kC 40 34 [(kt 37),(kt 39),(kc 3)]),(5,0,J 41 6 5),(6,0,J 42 6 5),(7,0,kC 43 82 [(kt 40),(kt 41),(kt 42)]),(8,0,kd 44 36 5 1 kz2 [(0,5,(kt 43))]),(9,0,kP 45 36 5 56 36 44),(10,0,M 8 45)])) (K.ops [M 34 9,kBi 35 34 1 .add,M 9 35])))))) (K.wk zP5))))))
def qKP:Nat->Option wE:=fun|27=>k_ [0,0,0,0,0,9,0]|_=>none
theorem qIy:kx f36 qKP qAN:=mz (by kernel_rfl)
structure Pln where
 kind:Int
 name:ByteArray
 types:List Typ
 names:List ByteArray
 most:List Int
 out:Typ
 mod:Int
def cY(p:Pln):wF:=[int p.kind,.lit (.string p.name),.sl p.types.length (jL p.types),.sl p.names.length (aC p.names),.sl p.most.length (y3 p.most),int p.out.k,int p.out.id.a,int p.out.id.b,int p.out.id.c,.sl p.out.kids.length (jL p.out.kids),int p.mod]
theorem xQ(p:Pln):qT (cY p):=by have h1:=yK p.types;have h2:=dJ p.names;have h3:=yK p.out.kids;exact⟨by simp[cY,h1.1,h2.1,h3.1],fun rf g=>by simp[cY,h1.2,h2.2,h3.2]⟩
def yS(l:List Pln):wF:=l.flatMap cY
theorem zA5(l:List Pln):qT (yS l):=cN xQ l
@[simp]theorem zVg(l:List Pln):jE (yS l)=yS l:=(zA5 l).1
@[simp]theorem zZM{rf g}(l:List Pln):vwL rf g (yS l)=yS l:=(zA5 l).2 _ _
@[simp]theorem zWt:yS []=[]:=rfl
theorem gB(x:Pln)(l:List Pln):yS (x::l)=cY x++yS l:=rfl
theorem iY(l l':List Pln):yS (l++l')=yS l++yS l':=by simp only[yS,jC9]
@[simp]theorem zWs(l:List Pln):(yS l).length=l.length*11:=by rw[yS,dS (k:=11) (fun _=>rfl)]
variable{i:Nat}
theorem zIx{l:List Pln}(h:i<l.length):(yS l).drop (i*11)=cY l[i]++yS (l.drop (i+1)):=by rw[yS,yS,gE (k:=11) (fun _=>rfl) h]
@[simp]theorem qCN(d:Pln):(cY d).length=11:=rfl
@[simp]theorem qCM(d:Pln):(cY d).take 11=cY d:=jAh (jA _)
@[simp]theorem zYA(d:Pln)(l:wF):(cY d++l).take 11=cY d:=by rw[jCa (by simp)];exact jAh (by simp)
@[simp]theorem zZh(d:Pln):jE (cY d)=cY d:=(xQ d).1
@[simp]theorem qHx(d:Pln) {rf g}:vwL rf g (cY d)=cY d:=(xQ d).2 _ _
def tyL(l:wC)(at_ most n:Int)(one:Typ):wT:=(List.range n.toNat).map fun(i:Nat)=>gV (atV l (at_+i) most) one one
section
variable(l:wC)(mods:Int)
def oJ:Bool:=decide (0<atV l 1 4)
def qJ:Typ:=dP (idR mods)
def dB:Typ:=dP (idR (mods+1))
def lR:Typ:=if oJ l then dP (idR (mods+2))else qJ mods
def zLY:Typ:=gV (atV l 16 6) (qJ mods) (qJ mods)
def cP:Pln:=⟨0,⟨#[80,111,105,110,116]⟩,tyL l 3 3 (1+atV l 2 3) (qJ mods),[⟨#[120]⟩,⟨#[121]⟩,⟨#[122]⟩],[],jI,0⟩
def c6:Pln:=⟨1,⟨#[69,118,101,110,116]⟩,jI::tyL l 7 4 (1+atV l 6 2) (qJ mods),[⟨#[84,105,99,107]⟩,⟨#[80,117,115,104]⟩,⟨#[83,101,116]⟩],[],jI,0⟩
def gU:Pln:=⟨0,⟨#[83,116,97,116,101]⟩,jI::tyL l 10 4 (atV l 9 3) (qJ mods),[⟨#[99,111,117,110,116]⟩,⟨#[108,111,103]⟩,⟨#[109,111,114,101]⟩],[],jI,0⟩
def zCb:Pln:=⟨0,⟨#[79,117,116]⟩,[dP (idR (mods+2)),jP jI,jI],[⟨#[115,116,97,116,101]⟩,⟨#[115,105,103,110,97,108,115]⟩,⟨#[110,101,120,116]⟩],[],jI,0⟩
def rC:wT:=gV (atV l 12 6) (qJ mods) (dB mods)::(if atV l 13 2=1 then [gV (atV l 14 6) (qJ mods) (dB mods)]else [])
def pF:Pln:=⟨2,⟨#[102]⟩,rC l mods,[⟨#[97]⟩,⟨#[98]⟩],[],zLY l mods,atV l 15 mods⟩
def vX:Pln:=⟨3,⟨#[115,116,101,112]⟩,[dP (idR (mods+2)),dB mods],[⟨#[115]⟩,⟨#[101]⟩],[],dP (idR (mods+3)),mods-1⟩
def pG:Pln:=⟨2,⟨#[103]⟩,[dB mods],[⟨#[101]⟩],[],gV (atV l 17 6) (qJ mods) (dB mods),mods-1⟩
def pT:Pln:=⟨4,⟨#[116]⟩,(inV l 18 (qJ mods)).map (·.1),[⟨#[97]⟩,⟨#[98]⟩],(inV l 18 (qJ mods)).map (·.2),gV (atV l 21 6) (qJ mods) (zLY l mods),mods-1⟩
def pC:Pln:=⟨5,⟨#[99]⟩,[lR l mods],[⟨#[111,108,100]⟩],[],gV (atV l 23 6) (qJ mods) (lR l mods),mods-1⟩
def plE:List Pln:=if 0<atV l 22 4 then [pC l mods]else []
def plD:List Pln:=pT l mods::plE l mods
def plC:List Pln:=(if oJ l then vX mods else pG l mods)::plD l mods
def plB:List Pln:=pF l mods::plC l mods
def qA:List Pln:=[cP l mods,c6 l mods]++(if oJ l then [gU l mods,zCb mods]else [])++plB l mods
end
abbrev zLa(L:List Pln):=fin [RS.slot 4] (sM 0 (.sl L.length (yS L)) [])
theorem zVx(L:List Pln):wpK prog 0 zP4 (zLa L) (jR [(10,.sl L.length (yS L))]) []:=by unfold zP4;simp;exact zC 0 (by simp)
theorem qEo(l:wC)(mods:Int)(hm:1<=mods)(hm2:mods<=2)(hl:∀x∈l,w64 x=x)(L:List Pln)(hL:L.length<=20) :
 wpK prog 0 zP3 (zLa (L++plE l mods)) (jR [(0,.sl l.length (y3 l)),(6,.ptr 0 0),(10,.row 2 L.length),(12,int (mods-1)),(13,.ptr 1 0)])
  [.box (zB (qJ mods)),.box (zB (lR l mods)),.row false 95 11 L.length (yS L)]:=by
 have h0:=dQ l 22 4 (by omega);have h1:=dQ l 23 6 (by omega);obtain⟨r0,r0'⟩:=yN (i:=23) hl (most:=6) (by omega);have h2:=zGC (atV l 23 6) (qJ mods) (lR l mods) (IntWalk.i64_in _ (by omega));unfold zP3;simp;refine mu h0 (by simp) ?_;by_cases h:0<atV l 22 4
 .simp[h,zB];refine qB h1 (by simp) (by simp) ?_;simp[zB];refine qB h2 (by simp[zB]) (by simp) ?_;simp[zB];refine⟨⟨by simp[maxLen];omega,by omega⟩,?_⟩;exact⟨_,_,mw [] 1 (by rfl) (by simp[plE,h,pC,iY,gB,cY,qK,zB,dI]),zVx _⟩
 .simp[h];exact⟨_,_,mw [] 1 (by rfl) (by simp[plE,h]),zVx _⟩
theorem gG(l:wC)(i m:Int)(hm:0<m)(hl:∀x∈l,w64 x=x)(hm2:m<=1000)(a b:Typ):my 82 [int (atV l i m),.agg (zB a),.agg (zB b)] [] (.agg (zB (gV (atV l i m) a b))) []:=by obtain⟨r0,r0'⟩:=yN (i:=i) hl (most:=m) hm;exact zGC _ _ _ (IntWalk.i64_in _ (by omega))
theorem qEn(l:wC)(mods:Int)(hm:1<=mods)(hm2:mods<=2)(hl:∀x∈l,w64 x=x)(L:List Pln)(hL:L.length<=19) :
 wpK prog 0 zP2 (zLa (L++plD l mods)) (jR [(0,.sl l.length (y3 l)),(6,.ptr 0 0),(10,.row 3 L.length),(12,int (mods-1)),(13,.ptr 1 0),(16,.ptr 2 0)])
  [.box (zB (qJ mods)),.box (zB (lR l mods)),.box (zB (zLY l mods)),.row false 95 11 L.length (yS L)]:=by
 have h0:=zXb l 18 (qJ mods) (by omega) (by omega) hl;have h1:=dQ l 21 6 (by omega);have h2:=gG l 21 6 (by omega) hl (by omega) (qJ mods) (zLY l mods);have hD:=qEo l mods hm hm2 hl (L++[pT l mods]) (by simp;omega);rw[jAq]at hD;unfold zP2;simp[zB];refine mu h0 (by simp[zB,inR,zMc,zEq]) ?_;simp[inR,zMc,zEq];refine qB h1 (by simp) (by simp) ?_;simp[zB];refine qB h2 (by simp[zB]) (by simp) ?_;simp[zB];refine⟨⟨by simp[maxLen];omega,by omega⟩,?_⟩;refine⟨_,_,kf [0,1,3] 0 (by rfl) ?_ (by simp),hD⟩;simp[zB,iY,gB,cY,pT,dK]
theorem qEm(l:wC)(mods:Int)(hm:1<=mods)(hm2:mods<=2)(hl:∀x∈l,w64 x=x)(L:List Pln)(hL:L.length<=17) :
 wpK prog 0 zP1 (zLa (L++plB l mods)) (jR [(0,.sl l.length (y3 l)),(1,int mods),(5,bl (oJ l)),(6,.ptr 0 0),(7,.ptr 1 0),(8,.sl (rC l mods).length (jL (rC l mods))),(10,.row 3 L.length),(12,int (mods-1)),(13,.ptr 2 0)])
  [.box (zB (qJ mods)),.box (zB (dB mods)),.box (zB (lR l mods)),.row false 95 11 L.length (yS L)]:=by
 have w3:=z8 (mods+3) (by omega);have h0:=dQ l 15 mods (by omega);have h1:=dQ l 16 6 (by omega);have h2:=gG l 16 6 (by omega) hl (by omega) (qJ mods) (qJ mods);have h3:=sE (mods+3);have h4:=zG0 (idR (mods+3));have h5:=dQ l 17 6 (by omega);have h6:=gG l 17 6 (by omega) hl (by omega) (qJ mods) (dB mods);have hC:=qEn l mods hm hm2 hl (L++[pF l mods]++[if oJ l then vX mods else pG l mods]) (by simp;omega);rw[jAq,jAq]at hC;unfold zP1;simp;refine mu h0 (by simp) ?_;simp;refine zHe h1 [] (by decide) (by simp) (by simp) (by simp) ?_;simp[zB];refine zHe h2 [] (by decide) (by simp) (by simp[zB]) (by simp) ?_;simp[zB];refine⟨⟨by simp[maxLen];omega,by omega⟩,?_⟩;cases hh:oJ l
 .simp[zB];refine qB h5 (by simp) (by simp) ?_;simp[zB];refine qB h6 (by simp[zB]) (by simp) ?_;simp[zB];refine⟨⟨by simp[maxLen];omega,by omega⟩,?_⟩;refine⟨_,_,kf [0,2,4,3] 0 (by rfl) ?_ (by simp),hC⟩;simp[zB,iY,gB,cY,pF,pG,hh,zLY,dI,dK,qK]
 .simp[zB,w3];refine qB h3 (by simp) (by simp) ?_;simp[zB];refine qB h4 (by simp[zX]) (by simp) ?_;simp[zB];refine⟨⟨by simp[maxLen];omega,by omega⟩,?_⟩;refine⟨_,_,kf [0,2,4,3] 0 (by rfl) ?_ (by simp),hC⟩;simp[zB,iY,gB,cY,pF,vX,hh,zLY,lR,dI,dK,qK]
theorem zVw(l:wC)(mods:Int)(hm:1<=mods)(hm2:mods<=2)(hl:∀x∈l,w64 x=x)(L:List Pln)(hL:L.length<=17) :
 wpK prog 0 zP0 (zLa (L++plB l mods)) (jR [(0,.sl l.length (y3 l)),(1,int mods),(5,bl (oJ l)),(6,.ptr 0 0),(7,.ptr 1 0),(10,.row 3 L.length),(12,int (mods-1)),(13,.ptr 2 0)])
  [.box (zB (qJ mods)),.box (zB (dB mods)),.box (zB (lR l mods)),.row false 95 11 L.length (yS L)]:=by
 have h0:=dQ l 12 6 (by omega);have h1:=gG l 12 6 (by omega) hl (by omega) (qJ mods) (dB mods);have h2:=dQ l 13 2 (by omega);have h3:=dQ l 14 6 (by omega);have h4:=gG l 14 6 (by omega) hl (by omega) (qJ mods) (dB mods);have hB:=qEm l mods hm hm2 hl L hL;unfold zP0;simp;refine qB h0 (by simp) (by simp) ?_;simp[zB];refine qB h1 (by simp[zB]) (by simp) ?_;simp[zB];refine mu h2 (by simp) ?_;by_cases h:atV l 13 2=1
 .simp[h,zB];refine qB h3 (by simp) (by simp) ?_;simp[zB];refine qB h4 (by simp[zB]) (by simp) ?_;simp[zB,maxLen];refine⟨_,_,kf [0,1,2,3] 1 (by rfl) (by simp[zB]) ?_,hB⟩;simp[rC,h,qK,zB]
 .simp[h,zB];refine⟨_,_,kf [0,1,2,3] 1 (by rfl) (by simp[zB]) ?_,hB⟩;simp[rC,h,qK,zB]
def zSh:K:=(G [M 63 1,kBi 64 63 1 .sub,M 1 64] (G [kMn 8] (Z (G [kMi 9 0] (K.block 1 (K.loop (Z (G [M 65 9,D 66 3 13,L 67 66 1,kN 68 67,kB 69 65 68 .lss] (Y 69 ks (K.exit 1))) (Z (K.block 2 (G [D 72 3 13,L 73 72 1,M 74 9,kX 75 73 74 15,J 76 75 15,kZ 10 kz1,S 10 76 15] (Z (G [M 77 1,kBi 78 77 0 .geq] (Y 78 (K.ops [J 80 10 15,M 81 1,M 82 2,kC 83 115 [(kt 80),(kt 81),(kt 82)],M 79 83,kE 84 79 0,kE 85 79 1,S 10 84 15,M 1 85]) ks)) (K.ops [M 86 8,J 87 10 15,kd 88 40 15 1 kz1 [(0,15,(kt 87))],kP 89 40 15 168 86 88,M 8 89])))) (K.ops [M 70 9,kBi 71 70 1 .add,M 9 71])))))) (G [M 90 8,D 91 3 13,S 91 90 1] (G [J 92 3 15,M 93 1,S 6 92 15,M 7 93] kr)))))
def KTw:K:=G [kO 3 0,kZ 6 kz1,kMi 7 0] (Z (G [M 11 1,kQi 12 11 0 false] (Y 12 (G [D 13 3 3,L 14 13 1] (K.block 0 (G [kQi 16 14 0 false,M 15 16] (Y 15 (K.ops [M 17 2,kBi 18 17 9 .rem,kBi 19 18 4 .sub,D 20 3 4,S 20 19 1]) (G [kQi 22 14 1 false,M 21 22] (Y 21 (K.ops [D 23 3 4,L 24 23 1,⟨none,.bin (some 25) .sub (kc 1) (kt 24)⟩,D 26 3 4,S 26 25 1]) (G [kQi 28 14 4 false,M 27 28] (Y 27 (G [D 29 3 4,L 30 29 1,kBi 31 30 4 .leq] (Y 31 (K.ops [M 32 2,kBi 33 32 5 .rem,D 34 3 4,S 34 33 1]) (G [D 35 3 4,L 36 35 1,kQi 37 36 7 false,M 38 37,T 38 false (D 39 3 4),T 38 false (L 40 39 1),T 38 false (kQi 41 40 8 false),kPt 42 38 41] (Y 42 (K.ops [D 43 3 4,L 44 43 1,⟨none,.bin (some 45) .sub (kc 15) (kt 44)⟩,D 46 3 4,S 46 45 1]) ks)))) (G [kQi 48 14 5 false,M 47 48] (Y 47 (K.dops [(0,0,D 49 3 13),(1,0,L 50 49 1),(2,0,kXi 51 50 15 0),(3,0,J 52 51 15),(4,0,D 53 3 13),(5,0,L 54 53 1),(6,0,kXi 55 54 15 2),(7,0,J 56 55 15),(8,0,D 57 3 13),(9,0,L 58 57 1),(10,0,kXi 59 58 15 1),(11,0,J 60 59 15),(12,0,kd 61 40 15 3 kz4 [(0,15,(kt 52)),(15,15,(kt 56)),(30,15,(kt 60))]),(13,0,D 62 3 13),(14,0,S 62 61 1)]) ks)))))))))) ks)) (K.wk zSh))
theorem cTw:ky f115 KTw:=m_ (by kernel_rfl)
def zPx:K:=G [kO 1 0,kMi 2 0] (G [kMi 3 1] (Z (G [kMi 4 0] (K.block 0 (K.loop (Z (G [M 5 4,D 6 1 13,L 7 6 1,kN 8 7,kB 9 5 8 .lss] (Y 9 ks (K.exit 0))) (Z (K.block 1 (K.ops [M 12 3,D 13 1 13,L 14 13 1,M 15 4,kX 16 14 15 15,J 17 16 15,kC 18 114 [(kt 17)],kB 19 12 18 .add,M 3 19])) (K.ops [M 10 4,kBi 11 10 1 .add,M 4 11])))))) (G [M 20 3,M 2 20] kr)))
theorem zVW:ky f114 zPx:=m_ (by kernel_rfl)
def twN(e:Exp)(n:Int):Exp:=.mk e.id e.k n e.ref e.typ e.kids e.names
def twK(e:Exp)(ks:wH):Exp:=.mk e.id e.k e.n e.ref e.typ ks e.names
def yP(e:Exp)(x:Int):Exp :=
 if e.k=0 then twN e (IntKind.i64.wrap (x.tmod 9-4))
 else if e.k=1 then twN e (IntKind.i64.wrap (1-e.n))
 else if e.k=4 then (if e.n<=4 then twN e (x.tmod 5)else if e.n=7\/e.n=8 then twN e (IntKind.i64.wrap (15-e.n))else e)
 else if e.k=5 then (match e.kids with
  |[a,b,c]=>twK e [a,c,b]
  |_=>e)
 else e
mutual
def yT:Exp->Int->Int->Exp×Int
 | .mk i k n r t ks ns,a,x=>if a=0 then (yP (.mk i k n r t ks ns) x,-1)else (.mk i k n r t (qN ks (a-1) x).1 ns,(qN ks (a-1) x).2)
def qN:List Exp->Int->Int->wH×Int
 |[],a,_=>([],a)
 |e::l,a,x=>if 0<=a then ((yT e a x).1::(qN l (yT e a x).2 x).1,(qN l (yT e a x).2 x).2)else (e::(qN l a x).1,(qN l a x).2)
end
theorem aM(e:Exp)(a x:Int):yT e a x=if a=0 then (yP e x,-1)else (twK e (qN e.kids (a-1) x).1,(qN e.kids (a-1) x).2):=by cases e;simp only[yT,twK,Exp.kids_mk,Exp.id_mk,Exp.k_mk,Exp.n_mk,Exp.ref_mk,Exp.typ_mk,Exp.names_mk]
theorem zFe{a x:Int}(h:a<0):∀l:wH,qN l a x=(l,a)
 |[]=>rfl
 |e::l=>by simp only[qN,if_neg (show ¬0<=a by omega),zFe h l]
theorem uG(e:Exp)(x:Int):∀(l:wH) (a:Int),qN (l++[e]) a x=if 0<=(qN l a x).2 then ((qN l a x).1++[(yT e (qN l a x).2 x).1],(yT e (qN l a x).2 x).2)else ((qN l a x).1++[e],(qN l a x).2)
 |[],a=>by by_cases h:0<=a<;>simp[qN,h]
 |y::l,a=>by
  simp only[jBf,qN];by_cases h:0<=a
  .simp only[if_pos h];rw[uG e x l];split<;>simp
  .simp only[if_neg h];rw[uG e x l];split<;>simp
mutual
theorem zPf:∀(e:Exp) (a x:Int),0<=a->-1<=(yT e a x).2/\(yT e a x).2<=a
 | .mk i k n r t ks ns,a,x,h=>by
  simp only[yT];split
  .simp only;omega
  .have:=vG ks (a-1) x (by omega);simp only;omega
theorem vG:∀(l:wH) (a x:Int),-1<=a->-1<=(qN l a x).2/\(qN l a x).2<=a
 |[],a,x,h=>by simp only[qN];omega
 |e::l,a,x,h=>by
  simp only[qN];split
  .have h1:=zPf e a x (by omega);have:=vG l (yT e a x).2 x h1.1;simp only;omega
  .have:=vG l a x h;simp only;omega
end
theorem sA(x:Int):∀(l:wH) (a:Int),(qN l a x).1.length=l.length
 |[],_=>rfl
 |e::l,a=>by simp only[qN];split<;>simp[sA x l]
theorem zCo{l:wH}(h:i<l.length)(a x:Int):qN (l.take (i+1)) a x=if 0<=(qN (l.take i) a x).2 then ((qN (l.take i) a x).1++[(yT l[i] (qN (l.take i) a x).2 x).1],(yT l[i] (qN (l.take i) a x).2 x).2)else ((qN (l.take i) a x).1++[l[i]],(qN (l.take i) a x).2):=by rw[jA8 h,uG]
def zGP(e:Exp):Prop:=∀z∈aB e,z.k=5->z.kids.length=3
theorem zFG{z k:Exp}(hz:z∈aB k):∀{l:wH},k∈l->z∈yR l
 |y::l,h=>by
  simp only[yR,jA6];rcases jA3.1 h with rfl|h
  .exact .inl hz
  .exact .inr (zFG hz h)
theorem zGP.kid{e k:Exp}(h:zGP e)(hk:k∈e.kids):zGP k:=fun z hz=>h z (by rw[fW];exact jAi _ (zFG hz hk))
theorem zGP.here{e:Exp}(h:zGP e)(hk:e.k=5):∃a b c,e.kids=[a,b,c]:=by
 have:=h e (by rw[fW];exact jAp ..) hk
 match hh:e.kids,this with
 |[a,b,c],_=>exact⟨a,b,c,rfl⟩
abbrev twF:FuncId:=115
def twR(q:Exp×Int):A:=.tup [.agg (zH q.1),int q.2]
theorem zNs(e1:Exp)(a x:Int)(hkl:e1.kids.length<=1000000)(ha:0<=a)(ha2:a<=1000000000)(ih:0<=a-1->∀k∈e1.kids,∀b,0<=b->b<=1000000000->my twF [.agg (zH k),int b,int x] [] (twR (yT k b x)) []) :
 wpK prog 0 zSh (fin [RS.cell 6 15 true,RS.slot 7] (sM 0 (twR (twK e1 (qN e1.kids (a-1) x).1,(qN e1.kids (a-1) x).2)) [])) (jR [(1,int a),(2,int x),(3,.ptr 0 0),(6,.ptr 1 0)]) [.box (zH e1),.box (zH Exp.zero)]:=by
 have wa:=z8 (a-1) (by omega);unfold zSh;simp[wa];refine qH (S:=Nat) (fun i=>[(1,int (qN (e1.kids.take i) (a-1) x).2),(2,int x),(3,.ptr 0 0),(6,.ptr 1 0),(8,.row 2 i),(9,int i)])
  (fun i=>[.box (zH e1),.box (zH Exp.zero),.row false 40 15 i (qS (qN (e1.kids.take i) (a-1) x).1)]) (fun i=>i<=e1.kids.length) (fun i=>e1.kids.length-i) 0 (by simp)
  ((jS (t:=8) (by simp) 40 15).trans (mw [0,1,2] 0 (by rfl) (by simp[zH,qN]))) ?_
 intro i hi;have hat:=vG (e1.kids.take i) (a-1) x (by omega);by_cases h:i<e1.kids.length
 .have hst:=zCo h (a-1) x;have hlen:=sA x (e1.kids.take i) (a-1);rw[jAv,jAu hi]at hlen;have hdr:=yX h;have hb15:i*15+15<=e1.kids.length*15:=by omega
  have ihk:=fun h0=>ih h0 e1.kids[i] (jA0 h)
  generalize e1.kids[i]=k at *
  by_cases h0:0<=(qN (e1.kids.take i) (a-1) x).2
  .have hc:=ihk (by omega) _ h0 (by omega);rw[if_pos h0]at hst;generalize qN (e1.kids.take i) (a-1) x=q at *
   simp[zH,h,hdr,hb15,h0];intro hl;refine mu hc (by simp[zH,twR]) ?_;simp[twR];refine⟨⟨by simp[maxLen];omega,by omega⟩,?_⟩;exact zN (i+1) h (by omega) (mw [0,1,2] 0 (by rfl) (by simp[zH,hst,vP,zM,zY h hl]))
  .rw[if_neg h0]at hst;generalize qN (e1.kids.take i) (a-1) x=q at *
   simp[zH,h,hdr,hb15,h0];intro hl;refine⟨⟨by simp[maxLen];omega,by omega⟩,?_⟩;exact zN (i+1) h (by omega) (mw [0,1,2] 0 (by rfl) (by simp[zH,hst,vP,zM,zY h hl]))
 .have hie:i=e1.kids.length:=by omega
  subst hie;rw[jB2];have hlen:=sA x e1.kids (a-1);simp[zH]
  intros
  exact zC 1 (by simp[twR,twK,zH,hlen])
theorem zRL(e:Exp):twK e e.kids=e:=by cases e;rfl
theorem zKp(e:Exp)(x:Int):(yP e x).kids.length=e.kids.length:=by
 unfold yP;split
 .rfl
 .split
  .rfl
  .split
   .split
    .rfl
    .split<;>rfl
   .split
    .split
     .rename_i h;rw[h];rfl
     .rfl
    .rfl
theorem zJk:∀(ks:wH),ks.length<=(jG ks).length
 |[]=>jA _
 |e::ks=>by
  have:=zJk ks;have h1:1<=(tmps e).length:=by rw[a7,jA4,jAn];omega
  simp only[jG,jA4,jAb];omega
theorem zEV{e:Exp}(h:(tmps e).length<=1000000):e.kids.length<=1000000/\∀k∈e.kids,(tmps k).length<=1000000:=by rw[a7,jA4,jAn]at h;have:=zJk e.kids;exact⟨by omega,fun k hk=>by have:=uF hk;omega⟩
theorem zMb(e:Exp)(hif:zGP e)(hle:(tmps e).length<=1000000)(ih:∀k∈e.kids,∀a x,0<=a->a<=1000000000->my twF [.agg (zH k),int a,int x] [] (twR (yT k a x)) [])(a x:Int)(ha:0<=a)(ha2:a<=1000000000) :
 my twF [.agg (zH e),int a,int x] [] (twR (yT e a x)) []:=by
 obtain⟨hk,_⟩:=zEV hle;rw[aM];refine zG func115 rfl cTw (rs:=[.cell 6 15 true,.slot 7]) (by kernel_rfl) ?_;unfold KTw;have zero:a=0->∀e1:Exp,e1=yP e x->wpK prog 0 zSh (fin [RS.cell 6 15 true,RS.slot 7] (sM 0 (twR (yP e x,-1)) [])) (jR [(1,int a),(2,int x),(3,.ptr 0 0),(6,.ptr 1 0)]) [.box (zH e1),.box (zH Exp.zero)]:=fun h0 e1 he=>by have ht:=zNs e1 a x (by rw[he,zKp];exact hk) ha ha2 (fun h=>by omega);rw[zFe (show a-1<0 by omega),zRL,he,h0]at ht;rw[he,h0];exact ht
 by_cases h0:a=0
 .rw[if_pos h0];have zero:=zero h0;subst h0;by_cases k0:e.k=0
  .have hh:twN e (IntKind.i64.wrap (x.tmod 9-4))=yP e x:=by simp only[yP,if_pos k0]
   have ht:=zero _ hh;simp[zH,k0];exact⟨_,_,mw [0,1] 0 (by rfl) (by simp[zH,twN,Exp.zero,Id.zero,Typ.zero,k0]),ht⟩
  by_cases k1:e.k=1
  .have hh:twN e (IntKind.i64.wrap (1-e.n))=yP e x:=by simp only[yP,if_neg k0,if_pos k1]
   have ht:=zero _ hh;simp[zH,k1];exact⟨_,_,mw [0,1] 0 (by rfl) (by simp[zH,twN,Exp.zero,Id.zero,Typ.zero,k1]),ht⟩
  by_cases k4:e.k=4
  .by_cases n4:e.n<=4
   .have hh:twN e (x.tmod 5)=yP e x:=by simp only[yP,if_neg k0,if_neg k1,if_pos k4,if_pos n4]
    have ht:=zero _ hh;simp[zH,k4,n4];exact⟨_,_,mw [0,1] 0 (by rfl) (by simp[zH,twN,Exp.zero,Id.zero,Typ.zero,k4,n4]),ht⟩
   by_cases n7:e.n=7
   .have hh:twN e (IntKind.i64.wrap (15-e.n))=yP e x:=by simp only[yP,if_neg k0,if_neg k1,if_pos k4,if_neg n4,if_pos (show e.n=7\/e.n=8 from .inl n7)]
    have ht:=zero _ hh;simp[zH,k4,n7];exact⟨_,_,mw [0,1] 0 (by rfl) (by simp[zH,twN,Exp.zero,Id.zero,Typ.zero,k4,n7]),ht⟩
   by_cases n8:e.n=8
   .have hh:twN e (IntKind.i64.wrap (15-e.n))=yP e x:=by simp only[yP,if_neg k0,if_neg k1,if_pos k4,if_neg n4,if_pos (show e.n=7\/e.n=8 from .inr n8)]
    have ht:=zero _ hh;simp[zH,k4,n8];exact⟨_,_,mw [0,1] 0 (by rfl) (by simp[zH,twN,Exp.zero,Id.zero,Typ.zero,k4,n8]),ht⟩
   .have hh:e=yP e x:=by simp only[yP,if_neg k0,if_neg k1,if_pos k4,if_neg n4,if_neg (show ¬(e.n=7\/e.n=8) from fun h=>h.elim n7 n8)]
    have ht:=zero _ hh;simp[zH,k4,n4,n7,n8];exact⟨_,_,mw [0,1] 0 (by rfl) (by simp[zH,twN,Exp.zero,Id.zero,Typ.zero,k4,n4,n7,n8]),ht⟩
  by_cases k5:e.k=5
  .obtain⟨y0,y1,y2,hy⟩:=hif.here k5;have hh:twK e [y0,y2,y1]=yP e x:=by simp only[yP,if_neg k0,if_neg k1,if_neg k4,if_pos k5,hy]
   have ht:=zero _ hh;simp[zH,k5,hy,zM];exact⟨_,_,mw [0,1] 0 (by rfl) (by simp[zH,twK,Exp.zero,Id.zero,Typ.zero,k5,hy,zM]),ht⟩
  .have hh:e=yP e x:=by simp only[yP,if_neg k0,if_neg k1,if_neg k4,if_neg k5]
   have ht:=zero _ hh;simp[zH,k0,k1,k4,k5];exact⟨_,_,mw [0,1] 0 (by rfl) (by simp[zH,twN,Exp.zero,Id.zero,Typ.zero,k0,k1,k4,k5]),ht⟩
 .rw[if_neg h0];have ht:=zNs e a x hk ha ha2 (fun _ k hk' b hb hb2=>ih k hk' b x hb hb2);simp[zH,h0];exact⟨_,_,mw [0,1] 0 (by rfl) (by simp[zH,Exp.zero,Id.zero,Typ.zero]),ht⟩
mutual
theorem zKs:∀(e:Exp),zGP e->(tmps e).length<=1000000->∀a x,0<=a->a<=1000000000->my twF [.agg (zH e),int a,int x] [] (twR (yT e a x)) []
 | .mk i k n r t ks ns,hif,hle=>zMb _ hif hle fun y hy=>zGM ks y hy (hif.kid hy) ((zEV hle).2 y hy)
theorem zGM:∀(l:wH),∀e∈l,zGP e->(tmps e).length<=1000000->∀a x,0<=a->a<=1000000000->my twF [.agg (zH e),int a,int x] [] (twR (yT e a x)) []
 |[],e,he=>by simp at he
 |y::l,e,he=>by
  rcases jA3.1 he with h|h
  .rw[h];exact zKs y
  .exact zGM l e h
end
mutual
theorem zEy:∀(e:Exp),(tmps e).length<=1000000000->my 114 [.agg (zH e)] [] (int (tmps e).length) []
 | .mk a b c d t l ns,hle=>by
  have ih:=zCN l;generalize ha:Exp.mk a b c d t l ns=e at hle;have hal:e.kids=l:=by rw[<-ha];rfl
  rw[<-hal]at ih;rw[a7,jA4,jAn]at hle;refine zG func114 rfl zVW (rs:=[.slot 2]) (by kernel_rfl) ?_;unfold zPx;simp[zH];refine qH (S:=Nat) (fun i=>[(1,.ptr 0 0),(3,int ((jG (e.kids.take i)).length+1:Nat)),(4,int i)]) (fun _=>[.box (zH e)]) (fun i=>i<=e.kids.length) (fun i=>e.kids.length-i) 0 (by simp)
   (mw [0] 0 (by rfl) (by simp[zH,jG])) ?_
  intro i hi;by_cases h:i<e.kids.length
  .have hle2:(tmps e.kids[i]).length<=1000000000:=by have:=uF (jA0 h);omega
   have h3:=i8 (l:=e.kids) (i+1);rw[yQ h,jA4]at h3;simp[zH,h,yX h];intro hl;refine mu (ih e.kids[i] (jA0 h) hle2) (by simp[zH]) ?_;have hw:IntKind.i64.wrap ((((jG (e.kids.take i)).length:Int)+1)+((tmps e.kids[i]).length:Int))=((jG (e.kids.take i)).length:Int)+1+(tmps e.kids[i]).length:=IntWalk.i64_in _ (by omega);simp[hw];exact zN (i+1) h (by omega) (kf [0] 0 (by rfl) (by simp[zH]) (by simp[zY h hl,yQ h];omega))
  .have hie:i=e.kids.length:=by omega
   subst hie;simp[zH]
   first|exact fun _=>zC 0 (by simp[a7])|exact zC 0 (by simp[a7])
theorem zCN:∀(l:wH),∀x∈l,(tmps x).length<=1000000000->my 114 [.agg (zH x)] [] (int (tmps x).length) []
 |[],x,hx=>by simp at hx
 |z::l,x,hx=>by
  rcases jA3.1 hx with e|hx
  .rw[e];exact zEy z
  .exact zCN l x hx
end
mutual
def zH0(s:ByteArray):Exp->Exp
 | .mk i k n r t ks ns=>.mk i k n r t (zTs s ks) (ns.map fun _=>s)
def zTs(s:ByteArray):List Exp->wH
 |[]=>[]
 |e::l=>zH0 s e::zTs s l
end
theorem zJx(s:ByteArray):∀l:wH,zTs s l=l.map (zH0 s)
 |[]=>rfl
 |e::l=>by simp only[zTs,jAc,zJx s l]
theorem nO{s:ByteArray}{l:List ByteArray}:aC (s::l)=.lit (.string s)::aC l:=rfl
theorem vH(l:wC)(at_ most:Int)(n:Nat)(one:Typ):(tyL l at_ most n one).length=n:=by simp[tyL]
theorem zFh(l:wC)(at_ most:Int){n i:Nat}(h:i<n)(one:Typ):(tyL l at_ most n one).take (i+1)=(tyL l at_ most n one).take i++[gV (atV l (at_+i) most) one one]:=by
 have hi:i<(tyL l at_ most n one).length:=by rw[vH];exact h
 rw[jA8 hi]
 congr 2
 simp[tyL]
theorem uI(l:wC)(at_ most:Int){n i:Nat}(h:i<=n)(one:Typ):((tyL l at_ most n one).take i).length=i:=by rw[jAv,vH];omega
theorem zHR(l:wC)(at_ most:Int)(n:Nat)(one:Typ):(tyL l at_ most n one).take n=tyL l at_ most n one:=jAh (by rw[vH];exact jA _)
theorem qEq(l:wC)(mods:Int)(hm:1<=mods)(hm2:mods<=2)(hl:∀x∈l,w64 x=x) :
 wpK prog 0 zP6 (zLa (qA l mods)) (jR [(0,.sl l.length (y3 l)),(1,int mods),(5,bl (oJ l)),(6,.ptr 0 0),(7,.ptr 1 0),(8,.sl (c6 l mods).types.length (jL (c6 l mods).types)),(10,.row 2 1)])
  [.box (zB (qJ mods)),.box (zB (dB mods)),.row false 95 11 1 (cY (cP l mods))]:=by
 have w1:=z8 (mods-1) (by omega);have w2:=z8 (mods+2) (by omega);have h0:=dQ l 9 3 (by omega);obtain⟨r0,r0'⟩:=yN (i:=9) hl (most:=3) (by omega);obtain⟨N,hN⟩:∃N:Nat,(N:Int)=atV l 9 3:=⟨(atV l 9 3).toNat,by omega⟩;unfold zP6;cases hh:oJ l
 .have hA:=zVw l mods hm hm2 hl [cP l mods,c6 l mods] (by simp);have hpl:[cP l mods,c6 l mods]++plB l mods=qA l mods:=by simp[qA,hh]
  rw[hpl,hh]at hA;simp[w1];refine⟨by simp[maxLen],?_⟩;refine⟨_,_,kf [0,1,3,2] 0 (by rfl) ?_ (by simp),hA⟩;simp[zB,gB,cY,c6,jI,Id.zero,lR,hh,nO]
 .have hA:=zVw l mods hm hm2 hl [cP l mods,c6 l mods,gU l mods,zCb mods] (by simp);have hpl:[cP l mods,c6 l mods,gU l mods,zCb mods]++plB l mods=qA l mods:=by simp[qA,hh]
  rw[hpl,hh]at hA;simp[w1];refine⟨by simp[maxLen],?_⟩;refine qH (S:=Nat) (fun i=>[(0,.sl l.length (y3 l)),(1,int mods),(5,bl true),(6,.ptr 0 0),(7,.ptr 1 0),(8,.row 4 (1+i)),(10,.row 2 2),(12,int (mods-1)),(13,.ptr 3 0),(14,int i)])
   (fun i=>[.box (zB (qJ mods)),.box (zB (dB mods)),.row false 95 11 2 (cY (cP l mods)++cY (c6 l mods)),.box (zB (qJ mods)),.row false 36 5 (1+i) (zB jI++jL ((tyL l 10 4 N (qJ mods)).take i))]) (fun i=>i<=N) (fun i=>N-i) 0 (by simp)
   (mw [0,1,2,3,4] 0 (by rfl) (by simp[zB,cY,c6,jI,Id.zero,nO])) ?_
  intro i hi;by_cases h:i<N
  .have h1:=dQ l (10+i) 4 (by omega);have h2:=gG l (10+i) 4 (by omega) hl (by omega) (qJ mods) (qJ mods);have hlt:(i:Int)<atV l 9 3:=by omega
   have v1:=z8 (10+(i:Int)) (by omega);have v2:=yU i (by omega);have hst:=zFh l 10 4 h (qJ mods);have hsl:=uI l 10 4 hi (qJ mods);simp;refine mu h0 (by simp) ?_;simp[hlt,v1];refine qB h1 (by simp) (by simp) ?_;simp[zB];refine qB h2 (by simp[zB]) (by simp) ?_;simp[zB];refine⟨⟨by simp[maxLen];omega,by omega⟩,?_⟩;exact zN (i+1) h (by omega) (kf [0,1,2,3,4] 0 (by rfl) (by rw[hst];simp[zB,oF,qK,hsl];omega) (by simp[v2];omega))
  .have hie:i=N:=by omega
   subst hie;have h3:=sE (mods+2);have h4:=zG0 (idR (mods+2));have hall:=zHR l 10 4 i (qJ mods);have hty:(gU l mods).types=jI::tyL l 10 4 i (qJ mods):=by rw[hN];rfl
   have hlen:=vH l 10 4 i (qJ mods);simp;refine mu h0 (by simp) ?_;simp[hN];refine⟨jR [(0,.sl l.length (y3 l)),(1,int mods),(5,bl true),(6,.ptr 0 0),(7,.ptr 1 0),(8,.sl (gU l mods).types.length (jL (gU l mods).types)),(10,.row 2 2),(12,int (mods-1)),(13,.ptr 3 0)],[.box (zB (qJ mods)),.box (zB (dB mods)),.row false 95 11 2 (cY (cP l mods)++cY (c6 l mods)),.box (zB (qJ mods))],
    kf [0,1,2,3] 1 (by rfl) (by simp) (by rw[hty];simp[<-hN,hall,hlen,qK];omega),?_⟩
   simp[w2];refine mu h3 (by simp) ?_;simp;refine mu h4 (by simp[zX]) ?_;simp[zB];refine⟨by simp[maxLen],?_⟩;refine qB zEk (by simp[zB,jI,Id.zero]) (by simp) ?_;simp[zB];refine⟨by simp[maxLen],?_⟩;refine⟨_,_,kf [0,1,3,2] 0 (by rfl) ?_ (by simp),hA⟩;simp[zB,gB,cY,zCb,gU,qK,jI,Id.zero,lR,hh,nO]
theorem qEp(l:wC)(mods:Int)(hm:1<=mods)(hm2:mods<=2)(hl:∀x∈l,w64 x=x) :
 wpK prog 0 zP5 (zLa (qA l mods)) (jR [(0,.sl l.length (y3 l)),(1,int mods),(5,bl (oJ l)),(6,.ptr 0 0),(7,.ptr 1 0),(8,.sl (cP l mods).types.length (jL (cP l mods).types))])
  [.box (zB (qJ mods)),.box (zB (dB mods))]:=by
 have h0:=dQ l 6 2 (by omega);obtain⟨r0,r0'⟩:=yN (i:=6) hl (most:=2) (by omega);obtain⟨N,hN⟩:∃N:Nat,(N:Int)=1+atV l 6 2:=⟨(1+atV l 6 2).toNat,by omega⟩;have wN:IntKind.i64.wrap (1+atV l 6 2)=N:=by rw[hN];exact IntWalk.i64_in _ (by omega)
 have hQ:=qEq l mods hm hm2 hl;unfold zP5;simp;refine qH (S:=Nat) (fun i=>[(0,.sl l.length (y3 l)),(1,int mods),(5,bl (oJ l)),(6,.ptr 0 0),(7,.ptr 1 0),(8,.row 3 (1+i)),(10,.row 2 1),(11,int i)])
  (fun i=>[.box (zB (qJ mods)),.box (zB (dB mods)),.row false 95 11 1 (cY (cP l mods)),.row false 36 5 (1+i) (zB jI++jL ((tyL l 7 4 N (qJ mods)).take i))]) (fun i=>i<=N) (fun i=>N-i) 0 (by simp)
  (mw [0,1,2,3] 0 (by rfl) (by simp[zB,cY,cP,jI,Id.zero,nO])) ?_
 intro i hi;by_cases h:i<N
 .have h1:=dQ l (7+i) 4 (by omega);have h2:=gG l (7+i) 4 (by omega) hl (by omega) (qJ mods) (qJ mods);have v1:=z8 (7+(i:Int)) (by omega);have v2:=yU i (by omega);have hst:=zFh l 7 4 h (qJ mods);have hsl:=uI l 7 4 hi (qJ mods);simp;refine mu h0 (by simp) ?_;simp[h,v1,wN];refine qB h1 (by simp) (by simp) ?_;simp[zB];refine qB h2 (by simp[zB]) (by simp) ?_;simp[zB];refine⟨⟨by simp[maxLen];omega,by omega⟩,?_⟩;exact zN (i+1) h (by omega) (kf [0,1,2,3] 0 (by rfl) (by rw[hst];simp[zB,oF,qK,hsl];omega) (by simp[v2];omega))
 .have hie:i=N:=by omega
  subst hie;have hall:=zHR l 7 4 i (qJ mods);have hty:(c6 l mods).types=jI::tyL l 7 4 i (qJ mods):=by rw[hN];rfl
  have hlen:=vH l 7 4 i (qJ mods);simp;refine mu h0 (by simp) ?_;simp[wN];exact⟨_,_,kf [0,1,2] 1 (by rfl) (by simp) (by rw[hty];simp[hall,hlen,qK];omega),hQ⟩
theorem zRw(l:wC)(mods:Int)(hm:1<=mods)(hm2:mods<=2)(hl:∀x∈l,w64 x=x) :
 my 36 [.sl l.length (y3 l),int mods] [] (.sl (qA l mods).length (yS (qA l mods))) []:=by
 have w1:=z8 (mods+1) (by omega);have k0:=dQ l 1 4 (by omega);have k1:=sE mods;have k2:=zG0 (idR mods);have k3:=sE (mods+1);have k4:=zG0 (idR (mods+1));have h0:=dQ l 2 3 (by omega);obtain⟨r0,r0'⟩:=yN (i:=2) hl (most:=3) (by omega);obtain⟨N,hN⟩:∃N:Nat,(N:Int)=1+atV l 2 3:=⟨(1+atV l 2 3).toNat,by omega⟩;have wN:IntKind.i64.wrap (1+atV l 2 3)=N:=by rw[hN];exact IntWalk.i64_in _ (by omega)
 have hP:=qEp l mods hm hm2 hl;refine zJ func36 rfl qIy (rs:=[.slot 4]) (by kernel_rfl) ?_;unfold qAN;simp;refine mu k0 (by simp) ?_;simp;refine mu k1 (by simp) ?_;simp;refine mu k2 (by simp[zX]) ?_;simp[zB,w1];refine mu k3 (by simp) ?_;simp;refine mu k4 (by simp[zX]) ?_;simp[zB];refine qH (S:=Nat) (fun i=>[(0,.sl l.length (y3 l)),(1,int mods),(5,bl (oJ l)),(6,.ptr 0 0),(7,.ptr 1 0),(8,.row 2 i),(9,int i)])
  (fun i=>[.box (zB (qJ mods)),.box (zB (dB mods)),.row false 36 5 i (jL ((tyL l 3 3 N (qJ mods)).take i))]) (fun i=>i<=N) (fun i=>N-i) 0 (by simp)
  ((jS (t:=8) (by simp) 36 5).trans (mw [0,1,2] 0 (by rfl) (by simp[zB,qJ,dB,oJ]))) ?_
 intro i hi;by_cases h:i<N
 .have h1:=dQ l (3+i) 3 (by omega);have h2:=gG l (3+i) 3 (by omega) hl (by omega) (qJ mods) (qJ mods);have v1:=z8 (3+(i:Int)) (by omega);have v2:=yU i (by omega);have hst:=zFh l 3 3 h (qJ mods);have hsl:=uI l 3 3 hi (qJ mods);simp;refine mu h0 (by simp) ?_;simp[h,v1,wN];refine qB h1 (by simp) (by simp) ?_;simp[zB];refine qB h2 (by simp[zB]) (by simp) ?_;simp[zB];refine⟨⟨by simp[maxLen];omega,by omega⟩,?_⟩;exact zN (i+1) h (by omega) (kf [0,1,2] 0 (by rfl) (by rw[hst];simp[zB,oF,qK,hsl]) (by simp[v2]))
 .have hie:i=N:=by omega
  subst hie;have hall:=zHR l 3 3 i (qJ mods);have hty:(cP l mods).types=tyL l 3 3 i (qJ mods):=by rw[hN];rfl
  have hlen:=vH l 3 3 i (qJ mods);simp;refine mu h0 (by simp) ?_;simp[wN];exact⟨_,_,kf [0,1] 1 (by rfl) (by simp) (by rw[hty];simp[hall,hlen]),hP⟩
def zXt{α:Type}(idf : α->Id)(same : α->α->Bool)(P Q:List α)(d : α):Option Id:=match yZ idf P (idf d)with
 |none=>none
 |some a=>match yZ idf Q (idf a)with
  |none=>some (idf a)
  |some b=>if same a b then none else some (idf a)
def zBf{α:Type}(idf : α->Id)(same : α->α->Bool)(P Q:List α):wG:=P.filterMap (zXt idf same P Q)
theorem uW{α:Type}{idf : α->Id}{l:List α}{x:Id}{a : α}(h:yZ idf l x=some a):idf a=x:=by
 have:=jD6 h
 simpa using this
theorem tM{α:Type}{idf : α->Id}{l:List α}{x:Id}{a : α}(h:yZ idf l x=some a):a∈l:=jD7 h
theorem zBO{α:Type}{idf : α->Id}{l:List α}{a : α}(h:a∈l):∃b,yZ idf l (idf a)=some b:=by
 cases hh:yZ idf l (idf a)with
 |some b=>exact⟨b,rfl⟩
 |none =>
  unfold yZ at hh;rw[jD5]at hh;have:=hh a h;simp at this
theorem zIY{α:Type}{idf : α->Id}(l l':List α)(x:Id):yZ idf (l++l') x=(yZ idf l x).or (yZ idf l' x):=by simp only[yZ,List.find?_append]
theorem zIZ{α:Type}{idf : α->Id}(l:List α)(a : α)(x:Id):yZ idf (cE idf l a) x=(yZ idf l x).or (if idf a=x then some a else none):=by
 unfold cE;by_cases h:(yZ idf l (idf a)).isSome
 .rw[if_pos h];by_cases e:idf a=x
  .subst e;obtain⟨b,hb⟩:=Option.isSome_iff_exists.1 h;rw[hb];rfl
  .rw[if_neg e];simp
 .rw[if_neg h,zIY]
  congr 1
  simp only[yZ,jC5,List.find?_nil];by_cases e:idf a=x
  .rw[if_pos e];simp[e]
  .rw[if_neg e];simp[e]
theorem zBN{α:Type}{idf : α->Id}(x:Id):∀(L acc:List α),yZ idf (L.foldl (cE idf) acc) x=(yZ idf acc x).or (yZ idf L x)
 |[],acc=>by simp[yZ]
 |a::L,acc=>by
  rw[jAt,zBN x L,zIZ];have:yZ idf (a::L) x=(if idf a=x then some a else none).or (yZ idf L x):=by
   simp only[yZ,jC5];by_cases e:idf a=x
   .simp[e]
   .simp[e]
  rw[this,Option.or_assoc]
theorem zPk:(∀(e:Exp) (N:wH),zFA e N=(aB e).foldl (cE Exp.id) N)/\∀(l:wH) (N:wH),lV l N=(yR l).foldl (cE Exp.id) N:=by
 constructor
 .exact fun e=>vf e
 .exact fun l=>vfs l
where
 vf:∀(e:Exp) (N:wH),zFA e N=(aB e).foldl (cE Exp.id) N
  | .mk a b c d t ks ns,N=>by simp only[zFA,aB,jAt];exact vfs ks _
 vfs:∀(l:wH) (N:wH),lV l N=(yR l).foldl (cE Exp.id) N
  |[],N=>rfl
  |e::l,N=>by simp only[lV,yR,jBr];rw[vf e N,vfs l]
theorem o7(ds:wS):oL ds=(jZ ds).foldl (cE Exp.id) []:=by
 have key:∀(ds:wS) (N:wH),ds.foldl zJ2 N=(jZ ds).foldl (cE Exp.id) N:=by
  intro ds;induction ds with
  |nil=>intro N;rfl
  |cons d ds ih =>
   intro N;rw[jAt,ih];have e:jZ (d::ds)=(if eV d.kind then aB d.body else [])++jZ ds:=by simp[jZ]
   rw[e,jBr]
   congr 1
   unfold zJ2;split
   .exact zPk.1 _ _
   .rfl
 exact key ds []
section
variable{α:Type}{idf : α->Id}{same : α->α->Bool}
theorem zGi(L:List α){a : α}(h:a∈L.foldl (cE idf) []):yZ idf (L.foldl (cE idf) []) (idf a)=some a:=by
 have key:∀(L acc:List α),(∀b∈acc,yZ idf acc (idf b)=some b)->∀b∈L.foldl (cE idf) acc,yZ idf (L.foldl (cE idf) acc) (idf b)=some b:=by
  intro L;induction L with
  |nil=>exact fun acc h=>h
  |cons x L ih =>
   intro acc hacc;rw[jAt];refine ih _ fun b hb=>?_
   rw[zIZ];unfold cE at hb;split at hb
   .rw[hacc b hb];rfl
   .rename_i hn;rcases jA6.1 hb with hb|hb
    .rw[hacc b hb];rfl
    .rw[jAk.1 hb];have:yZ idf acc (idf x)=none:=by simpa using hn
     rw[this];simp
 exact key L [] (by simp) a h
variable{P Q:List α}{x:Id}
theorem lJ:x∈zBf idf same P Q↔∃a,yZ idf P x=some a/\∀b,yZ idf Q x=some b->same a b=false:=by
 simp only[zBf,jDb];constructor
 .rintro⟨d,hd,h⟩;obtain⟨a,ha⟩:=zBO (idf:=idf) hd;have hai:=uW ha;simp only[zXt,ha,hai]at h;cases hq:yZ idf Q (idf d)with
  |none =>
   rw[hq]at h;simp only[jA1]at h;subst h;exact⟨a,ha,fun b hb=>by rw[hq]at hb;cases hb⟩
  |some b =>
   rw[hq]at h;simp only at h;split at h
   .cases h
   .rename_i hs;simp only[jA1]at h;subst h;exact⟨a,ha,fun b' hb=>by rw[hq]at hb;cases hb;simpa using hs⟩
 .rintro⟨a,ha,h⟩;have hai:=uW ha;subst hai;refine⟨a,tM ha,?_⟩;simp only[zXt,ha];cases hq:yZ idf Q (idf a)with
  |none=>rfl
  |some b =>
   simp only;rw[h b hq];simp
theorem zJs:x∈zDK idf same (P.foldl (cE idf) []) (Q.foldl (cE idf) [])↔(∃a,yZ idf P x=some a/\∀b,yZ idf Q x=some b->same a b=false)\/(yZ idf P x=none/\∃b,yZ idf Q x=some b):=by
 have hP:∀x,yZ idf (P.foldl (cE idf) []) x=yZ idf P x:=fun x=>by rw[zBN];rfl
 have hQ:∀x,yZ idf (Q.foldl (cE idf) []) x=yZ idf Q x:=fun x=>by rw[zBN];rfl
 simp only[zDK,jA6,jAf,List.mem_filter];constructor
 .rintro(⟨a,⟨h1,h2⟩,rfl⟩|⟨b,⟨h1,h2⟩,rfl⟩)
  .have ha:=zGi P h1;rw[hP]at ha;refine .inl ⟨a,ha,fun b hb=>?_⟩;simp only[cD1,hQ,hb]at h2
   simpa using h2
  .have hb:=zGi Q h1;rw[hQ]at hb;simp only[cD2,hP,jCc]at h2;exact .inr ⟨h2,b,hb⟩
 .rintro(⟨a,ha,h⟩|⟨h,b,hb⟩)
  .have hai:=uW ha;subst hai;have ha':=ha;rw[<-hP]at ha';refine .inl ⟨a,⟨tM ha',?_⟩,rfl⟩;simp only[cD1,hQ];cases hq:yZ idf Q (idf a)with
   |none=>rfl
   |some b=>simp[h b hq]
  .have hbi:=uW hb;subst hbi;have hb':=hb;rw[<-hQ]at hb';refine .inr ⟨b,⟨tM hb',?_⟩,rfl⟩;simp only[cD2,hP,h];rfl
theorem zMX(hsym:∀a b,same a b=same b a):(x∈zBf idf same P Q\/x∈zBf idf same Q P)↔x∈zDK idf same (P.foldl (cE idf) []) (Q.foldl (cE idf) []):=by
 rw[lJ,lJ,zJs];constructor
 .rintro(h|⟨b,hb,h⟩)
  .exact .inl h
  .cases hp:yZ idf P x with
   |none=>exact .inr ⟨rfl,b,hb⟩
   |some a=>exact .inl ⟨a,rfl,fun b' hb'=>by rw[hb]at hb';cases hb';rw[hsym];exact h a hp⟩
 .rintro(h|⟨h,b,hb⟩)
  .exact .inl h
  .exact .inr ⟨b,hb,fun a ha=>by rw[h]at ha;cases ha⟩
end
theorem zB2{α:Type}{same : α->α->Bool}(h:∀a b,same a b=same b a):∀a b:List α,bX same a b=bX same b a
 |[],[]=>rfl
 |[],_::_=>rfl
 |_::_,[]=>rfl
 |a::l,b::l'=>by simp only[bX,h a b,zB2 h l l']
theorem zAi(a b:Typ):yH a b=yH b a:=by rw[Bool.eq_iff_iff,gF,gF];exact⟨Eq.symm,Eq.symm⟩
theorem mT{α:Type} [DecidableEq α](a b : α):decide (a=b)=decide (b=a):=by rw[Bool.eq_iff_iff];simp only[decide_eq_true_eq];exact⟨Eq.symm,Eq.symm⟩
theorem nY(a b:Dfn):aU a b=aU b a:=by
 unfold aU;by_cases h:a.kind=b.kind
 .rw[zB2 (same:=m8) (fun x y=>by simp only[m8,mT x.id,zAi x.typ,mT x.most]) a.slots,zAi a.res,mT a.body.id,h]
 .simp[h,fun e:b.kind=a.kind=>h e.symm,Ne.symm h]
theorem zCY(a b:Exp):bS a b=bS b a:=by unfold bS;rw[zB2 (same:=sG) (fun x y=>by simp only[sG,mT x.id]) a.kids,zAi a.typ,mT a.k,mT a.n,mT a.ref]
theorem zB1{α:Type}{same : α->α->Bool}(h:∀a,same a a=true):∀a:List α,bX same a a=true
 |[]=>rfl
 |a::l=>by simp only[bX,h a,zB1 h l,Bool.and_self]
theorem zJR(a:Dfn):aU a a=true:=by unfold aU;rw[zB1 (same:=m8) (fun x=>by simp[m8,iR]),iR];simp
theorem zJT(a:Exp):bS a a=true:=by unfold bS;rw[zB1 (same:=sG) (fun x=>by simp[sG]),iR];simp
def zGo(p q:wS):wG:=(zBf Dfn.id aU p q++zBf Exp.id bS (jZ p) (jZ q))++(zBf Dfn.id aU q p++zBf Exp.id bS (jZ q) (jZ p))
theorem zAA(p q:wS):aP (zGo p q)=l9 p q:=by
 refine(i7 _).unique (i7 _) fun x=>?_
 unfold l9;rw[aQ,aQ,zGo,o7,o7];simp only[jA6];have h1:=zMX (x:=x) (P:=p) (Q:=q) (idf:=Dfn.id) nY;have h2:=zMX (x:=x) (P:=jZ p) (Q:=jZ q) (idf:=Exp.id) zCY;rw[show mV p=p.foldl (cE Dfn.id) [] from rfl,show mV q=q.foldl (cE Dfn.id) [] from rfl,<-h1,<-h2];constructor
 all_goals
  rintro((h|h)|(h|h))
  .exact .inl (.inl h)
  .exact .inr (.inl h)
  .exact .inl (.inr h)
  .exact .inr (.inr h)
theorem zNF(p:wS):l9 p p=[]:=by
 have h:∀x,x∉l9 p p:=fun x hx=>by
  rw[<-zAA,aQ,zGo]at hx;simp only[jA6,or_self]at hx;rcases hx with hx|hx
  .rw[lJ]at hx;obtain⟨a,ha,h⟩:=hx;have:=h a ha;rw[zJR]at this;cases this
  .rw[lJ]at hx;obtain⟨a,ha,h⟩:=hx;have:=h a ha;rw[zJT]at this;cases this
 cases hc:l9 p p with
 |nil=>rfl
 |cons x l=>exact(h x (by rw[hc];simp)).elim
theorem zHo{k:Int}(h0:0<=k)(h1:k<=1000000000000000):idR k=⟨0,1+k / 32,k % 32⟩:=by unfold idR;have e1:k.tdiv 32=k / 32:=tdN h0;have e2:k.tmod 32=k % 32:=tmN h0;have w1:=z8 (k.tdiv 32) (by omega);rw[w1,e2];have w2:=z8 (1+k.tdiv 32) (by omega);rw[w2,e1]
theorem zUU{k:Int}(h0:0<=k)(h1:k<=1000000000000000):1<=(idR k).b:=by rw[zHo h0 h1];show 1<=1+k / 32;omega
theorem zAQ{k j:Int}(h0:0<=k)(h1:k<=1000000000000000)(g0:0<=j)(g1:j<=1000000000000000)(h:idR k=idR j):k=j:=by
 rw[zHo h0 h1,zHo g0 g1]at h;injection h with _ h2 h3
 omega
def zGE(next:Int)(p:Pln)(k:Nat):Slt:=⟨idR (next+k),p.names.getD k ⟨#[]⟩,p.types.getD k jI,if p.kind=4 then p.most.getD k 0 else 0,k⟩
def dA(next:Int)(p:Pln):List Slt:=(List.range p.types.length).map (zGE next p)
def zDI(mods next:Int)(i:Nat)(p:Pln):Dfn:=⟨idR (mods+i),p.kind,idR p.mod,p.name,dA next p,p.out,Exp.zero,0,[]⟩
def a8(mods:Int)(ps:List Pln):Nat->Int
 | 0=>mods+ps.length
 |i+1=>a8 mods ps i+(match ps[i]? with|some p=>(p.types.length:Int)|none=>0)
def nP(mods:Int)(ps:List Pln):wS:=ps.mapIdx fun i p=>zDI mods (a8 mods ps i) i p
def sJ(mods:Int)(ps:List Pln)(c:Int)(i:Nat):wG:=((List.range i).filter fun j=>match ps[j]? with|some p=>decide (p.mod=c)|none=>false).map fun(j:Nat)=>idR (mods+j)
def zAY(mods:Int)(ps:List Pln):List Md :=
 (⟨idR 0,⟨#[99,111,114,101]⟩,[],sJ mods ps 0 ps.length⟩:Md)::(if mods=2 then [⟨idR 1,⟨#[109,105,108,108]⟩,[idR 0],sJ mods ps 1 ps.length⟩]else [])
@[simp]theorem zNM(mods:Int)(ps:List Pln):(nP mods ps).length=ps.length:=by simp[nP]
@[simp]theorem iT(next:Int)(p:Pln):(dA next p).length=p.types.length:=by simp[dA]
theorem uR(mods:Int)(ps:List Pln)(h:i<ps.length):(nP mods ps)[i]'(by simpa using h)=zDI mods (a8 mods ps i) i ps[i]:=by simp[nP]
theorem zEv(mods:Int)(ps:List Pln)(h:i<ps.length):a8 mods ps (i+1)=a8 mods ps i+ps[i].types.length:=by simp only[a8];rw[jA2 h]
structure PlnOk(mods:Int)(p:Pln):Prop where
 kind0:0<=p.kind
 kind5:p.kind<=5
 mod0:0<=p.mod
 mod1:p.mod<mods
 t1:1<=p.types.length
 t6:p.types.length<=6
 names:p.types.length<=p.names.length
 most:p.kind=4->p.types.length<=p.most.length
theorem zLT(x:Int)(a b:Typ)(hx:w64 x=x):gV x a b=jI\/gV x a b=jV\/gV x a b=jP jI\/gV x a b=a\/gV x a b=b:=by
 obtain⟨k0,k6⟩:=eQ (k:=6) hx (by omega);unfold gV;generalize jX x 6=k at *
 have:k=0\/k=1\/k=2\/k=3\/k=4\/k=5:=by omega
 rcases this with rfl|rfl|rfl|rfl|rfl|rfl<;>simp
theorem zD4{l:wC}{i most:Int}(hl:∀x∈l,w64 x=x)(hm:0<most)(h2:most<=1000):w64 (atV l i most)=atV l i most:=by obtain⟨a,b⟩:=yN (i:=i) hl hm;exact IntWalk.i64_in _ (by omega)
theorem zA2{k:Int}(h0:0<=k)(h:k<6):jX k 6=k:=by
 have:k=0\/k=1\/k=2\/k=3\/k=4\/k=5:=by omega
 rcases this with rfl|rfl|rfl|rfl|rfl|rfl<;>decide
theorem zR6{x:Int}(h0:0<=x)(h:x<3)(a b:Typ):gV x a b=jI\/gV x a b=jV\/gV x a b=jP jI:=by
 unfold gV;rw[zA2 h0 (by omega)];have:x=0\/x=1\/x=2:=by omega
 rcases this with rfl|rfl|rfl<;>simp
theorem zR7{x:Int}(h0:0<=x)(h:x<4)(a b:Typ):gV x a b=jI\/gV x a b=jV\/gV x a b=jP jI\/gV x a b=a:=by
 unfold gV;rw[zA2 h0 (by omega)];have:x=0\/x=1\/x=2\/x=3:=by omega
 rcases this with rfl|rfl|rfl|rfl<;>simp
theorem zDq{l:wC}{at_ most n:Int}{one t:Typ}(h:t∈tyL l at_ most n one):∃i:Nat,t=gV (atV l (at_+i) most) one one:=by simp only[tyL,jAf]at h;obtain⟨i,_,rfl⟩:=h;exact⟨i,rfl⟩
theorem iW(l:wC)(at_ most n:Int)(one:Typ):(tyL l at_ most n one).length=n.toNat:=by simp[tyL]
section
variable(l:wC)(mods:Int)(hm:1<=mods)(hm2:mods<=2)(hl:∀x∈l,w64 x=x)
include hm hm2 hl
theorem dX:∀p∈qA l mods,PlnOk mods p:=by
 intro p hp;have a2:=yN (i:=2) hl (most:=3) (by omega);have a6:=yN (i:=6) hl (most:=2) (by omega);have a9:=yN (i:=9) hl (most:=3) (by omega);have a15:=yN (i:=15) hl (most:=mods) (by omega);have hF:(rC l mods).length=1\/(rC l mods).length=2:=by unfold rC;split<;>simp
 have hT:(inV l 18 (qJ mods)).length=1\/(inV l 18 (qJ mods)).length=2:=by
  unfold inV zQK;split
  .simp
  .split<;>simp
 have hp':p=cP l mods\/p=c6 l mods\/p=gU l mods\/p=zCb mods\/p=pF l mods\/p=vX mods\/p=pG l mods\/p=pT l mods\/p=pC l mods:=by
  simp only[qA,plB,plC,plD,plE,jA6,jA3]at hp;rcases hp with ((h|h|h)|h)|h|h|h|h
  .simp[h]
  .simp[h]
  .simp at h
  .split at h
   .simp at h;rcases h with h|h<;>simp[h]
   .simp at h
  .simp[h]
  .split at h<;>simp[h]
  .simp[h]
  .split at h
   .simp at h;simp[h]
   .simp at h
 rcases hp' with rfl|rfl|rfl|rfl|rfl|rfl|rfl|rfl|rfl
 .refine⟨?_,?_,?_,?_,?_,?_,?_,?_⟩<;>simp only[cP,iW]<;>first|omega|simp<;>omega
 .refine⟨?_,?_,?_,?_,?_,?_,?_,?_⟩<;>simp only[c6,jAb,iW]<;>first|omega|simp<;>omega
 .refine⟨?_,?_,?_,?_,?_,?_,?_,?_⟩<;>simp only[gU,jAb,iW]<;>first|omega|simp<;>omega
 .refine⟨?_,?_,?_,?_,?_,?_,?_,?_⟩<;>simp only[zCb,jAb,jB4]<;>first|omega|simp<;>omega
 .refine⟨?_,?_,?_,?_,?_,?_,?_,?_⟩<;>simp only[pF,jAb,jB4]<;>first|omega|simp<;>omega
 .refine⟨?_,?_,?_,?_,?_,?_,?_,?_⟩<;>simp only[vX,jAb,jB4]<;>first|omega|simp<;>omega
 .refine⟨?_,?_,?_,?_,?_,?_,?_,?_⟩<;>simp only[pG,jAb,jB4]<;>first|omega|simp<;>omega
 .refine⟨?_,?_,?_,?_,?_,?_,?_,?_⟩<;>simp only[pT,jAb,jB4,jAa]<;>first|omega|simp<;>omega
 .refine⟨?_,?_,?_,?_,?_,?_,?_,?_⟩<;>simp only[pC,jAb,jB4]<;>first|omega|simp<;>omega
omit hm hm2 hl in
theorem bR:5<=(qA l mods).length/\(qA l mods).length<=8:=by unfold qA plB plC plD plE;split<;>split<;>simp
end
theorem lK{mods:Int}{ps:List Pln}(hm:0<=mods)(h6:∀p∈ps,p.types.length<=6):∀i:Nat,mods+ps.length<=a8 mods ps i/\a8 mods ps i<=mods+ps.length+6*i
 | 0=>by simp[a8]
 |i+1=>by
  have ih:=lK hm h6 i;simp only[a8];split
  .rename_i p hp;have:=h6 p (jBu hp);omega
  .omega
variable{mods:Int}{ps:List Pln}
theorem zL7{j:Nat}(h:i<=j):a8 mods ps i<=a8 mods ps j:=by
 induction h with
 |refl=>exact jCl _
 |step h ih =>
  simp only[a8];split
  .rename_i p _;have:=Int.natCast_nonneg p.types.length;omega
  .omega
def zF2(mods:Int)(ps:List Pln):wQ:=(nP mods ps).map Dfn.hd
@[simp]theorem zQG(mods:Int)(ps:List Pln):(zF2 mods ps).length=ps.length:=by simp[zF2]
theorem mW(mods:Int)(ps:List Pln){k:Nat}(h:k<ps.length):(zF2 mods ps)[k]'(by simpa using h)=⟨idR (mods+k),ps[k].kind,dA (a8 mods ps k) ps[k],ps[k].out⟩:=by simp only[zF2,jB5];rw[uR mods ps h];rfl
theorem zAl{next:Int}{p:Pln}{s:Slt}(h:s∈dA next p):s.typ∈p.types:=by simp only[dA,jAf,jC]at h;obtain⟨k,hk,rfl⟩:=h;simp only[zGE,jBz,jA2 hk,jCn];exact jA0 hk
theorem zHh(hm:1<=mods)(hm2:mods<=2)(hps:ps.length<=8)(h6:∀p∈ps,PlnOk mods p){k:Nat}(hk:k<ps.length)(hkd:ps[k].kind=0\/ps[k].kind=1){r:Nat}(ht:∀t∈ps[k].types,TyOk (zF2 mods ps) r t) :
 TyOk (zF2 mods ps) (r+1) (dP (idR (mods+k))):=by
 have hk':k<(zF2 mods ps).length:=by simpa using hk
 have hg:=mW mods ps hk;have hp:=h6 _ (jA0 hk);have:=TyOk.dfn (hs:=zF2 mods ps) r k hk' (fun j hj=>by
  rw[hg,mW mods ps (show j<ps.length by omega)];intro e;have:=zAQ (by omega) (by omega) (by omega) (by omega) e;omega) (by
  rw[hg];rcases hkd with h|h
  .exact .inl h
  .exact .inr ⟨h,by simp only[iT];exact hp.t1⟩) (by rw[hg];simp only[iT];exact hp.t6) (fun s hs=>by
  rw[hg]at hs;exact ht _ (zAl hs))
 rw[hg]at this;exact this
section
variable(l:wC)(mods:Int)(hm:1<=mods)(hm2:mods<=2)(hl:∀x∈l,w64 x=x)
abbrev hsV:wQ:=zF2 mods (qA l mods)
theorem pv0:∃h:0<(qA l mods).length,(qA l mods)[0]=cP l mods:=⟨by simp[qA],by simp[qA]⟩
theorem pv1:∃h:1<(qA l mods).length,(qA l mods)[1]=c6 l mods:=⟨by simp[qA],by simp[qA]⟩
theorem pv2(hh:oJ l=true):∃h:2<(qA l mods).length,(qA l mods)[2]=gU l mods:=⟨by simp[qA,hh],by simp[qA,hh]⟩
theorem pv3(hh:oJ l=true):∃h:3<(qA l mods).length,(qA l mods)[3]=zCb mods:=⟨by simp[qA,hh],by simp[qA,hh]⟩
include hm hm2 hl
theorem zBu:TyOk (hsV l mods) 2 (qJ mods):=by
 obtain⟨h,e⟩:=pv0 l mods;have h8:=(bR l mods).2;have:=zHh hm hm2 h8 (dX l mods hm hm2 hl) h (by rw[e];exact .inl rfl) (r:=1) (fun t ht=>by
  rw[e]at ht;obtain⟨i,rfl⟩:=zDq ht;obtain⟨a,b⟩:=yN (i:=3+i) hl (most:=3) (by omega);rcases zR6 a b (qJ mods) (qJ mods)with e|e|e<;>rw[e]
  .exact .int _
  .exact .bool _
  .exact .list _ _ (.int _))
 simpa[qJ]using this
theorem zRO{r:Nat}(hr:2<=r){x:Int}(h0:0<=x)(h:x<4):TyOk (hsV l mods) r (gV x (qJ mods) (qJ mods)):=by
 refine TyOk.mono ?_ hr;rcases zR7 h0 h (qJ mods) (qJ mods)with e|e|e|e<;>rw[e]
 .exact .int _
 .exact .bool _
 .exact .list _ _ (.int _)
 .exact zBu l mods hm hm2 hl
theorem zKt:TyOk (hsV l mods) 3 (dB mods):=by
 obtain⟨h,e⟩:=pv1 l mods;have h8:=(bR l mods).2;have:=zHh hm hm2 h8 (dX l mods hm hm2 hl) h (by rw[e];exact .inr rfl) (r:=2) (fun t ht=>by
  rw[e]at ht;rcases jA3.1 ht with rfl|ht
  .exact .int _
  .obtain⟨i,rfl⟩:=zDq ht;obtain⟨a,b⟩:=yN (i:=7+i) hl (most:=4) (by omega);exact zRO l mods hm hm2 hl (jA _) a b)
 simpa[dB]using this
theorem pN(hh:oJ l=true):TyOk (hsV l mods) 3 (dP (idR (mods+2))):=by
 obtain⟨h,e⟩:=pv2 l mods hh;have h8:=(bR l mods).2;have:=zHh hm hm2 h8 (dX l mods hm hm2 hl) h (by rw[e];exact .inl rfl) (r:=2) (fun t ht=>by
  rw[e]at ht;rcases jA3.1 ht with rfl|ht
  .exact .int _
  .obtain⟨i,rfl⟩:=zDq ht;obtain⟨a,b⟩:=yN (i:=10+i) hl (most:=4) (by omega);exact zRO l mods hm hm2 hl (jA _) a b)
 simpa using this
theorem zRQ:TyOk (hsV l mods) 3 (lR l mods):=by
 unfold lR;split
 .rename_i hh;exact pN l mods hm hm2 hl hh
 .exact(zBu l mods hm hm2 hl).mono (by omega)
theorem zRP(hh:oJ l=true):TyOk (hsV l mods) 4 (dP (idR (mods+3))):=by
 obtain⟨h,e⟩:=pv3 l mods hh;have h8:=(bR l mods).2;have:=zHh hm hm2 h8 (dX l mods hm hm2 hl) h (by rw[e];exact .inl rfl) (r:=3) (fun t ht=>by
  rw[e]at ht;simp only[zCb,jA3,jAr,or_false]at ht;rcases ht with rfl|rfl|rfl
  .exact pN l mods hm hm2 hl hh
  .exact .list _ _ (.int _)
  .exact .int _)
 simpa using this
omit hm hm2 hl in
theorem zAp{a b:Typ}(ha:TyOk (hsV l mods) 4 a)(hb:TyOk (hsV l mods) 4 b){x:Int}(hx:w64 x=x):TyOk (hsV l mods) 4 (gV x a b):=by
 rcases zLT x a b hx with e|e|e|e|e<;>rw[e]
 .exact .int _
 .exact .bool _
 .exact .list _ _ (.int _)
 .exact ha
 .exact hb
theorem zCc:∀p∈qA l mods,(∀t∈p.types,TyOk (hsV l mods) 4 t)/\TyOk (hsV l mods) 4 p.out:=by
 have t1:=(zBu l mods hm hm2 hl).mono (show 2<=4 by omega);have t2:=(zKt l mods hm hm2 hl).mono (show 3<=4 by omega);have t3:=(zRQ l mods hm hm2 hl).mono (show 3<=4 by omega);have tR:TyOk (hsV l mods) 4 (zLY l mods):=zAp l mods t1 t1 (zD4 hl (by omega) (by omega));have tL:∀(a m n:Int),0<m->m<=4->∀t∈tyL l a m n (qJ mods),TyOk (hsV l mods) 4 t:=fun a m n h0 h1 t ht=>by obtain⟨i,rfl⟩:=zDq ht;exact zAp l mods t1 t1 (zD4 hl h0 (by omega))
 intro p hp;simp only[qA,plB,plC,plD,plE,jA6,jA3]at hp;rcases hp with ((rfl|rfl|h)|h)|rfl|h|rfl|h
 .exact⟨tL _ _ _ (by omega) (by omega),.int _⟩
 .refine⟨fun t ht=>?_,.int _⟩;rcases jA3.1 ht with rfl|ht
  .exact .int _
  .exact tL _ _ _ (by omega) (by omega) t ht
 .simp at h
 .split at h
  .rename_i hh;simp at h;rcases h with rfl|rfl
   .refine⟨fun t ht=>?_,.int _⟩;rcases jA3.1 ht with rfl|ht
    .exact .int _
    .exact tL _ _ _ (by omega) (by omega) t ht
   .refine⟨fun t ht=>?_,.int _⟩;simp only[zCb,jA3,jAr,or_false]at ht;rcases ht with rfl|rfl|rfl
    .exact(pN l mods hm hm2 hl hh).mono (by omega)
    .exact .list _ _ (.int _)
    .exact .int _
  .simp at h
 .refine⟨fun t ht=>?_,tR⟩;simp only[pF,rC,jA3]at ht;rcases ht with rfl|ht
  .exact zAp l mods t1 t2 (zD4 hl (by omega) (by omega))
  .split at ht
   .simp at ht;rw[ht];exact zAp l mods t1 t2 (zD4 hl (by omega) (by omega))
   .simp at ht
 .split at h
  .rename_i hh;subst h;refine⟨fun t ht=>?_,zRP l mods hm hm2 hl hh⟩;simp only[vX,jA3,jAr,or_false]at ht;rcases ht with rfl|rfl
   .exact(pN l mods hm hm2 hl hh).mono (by omega)
   .exact t2
  .subst h;refine⟨fun t ht=>?_,zAp l mods t1 t2 (zD4 hl (by omega) (by omega))⟩;simp only[pG,jA3,jAr,or_false]at ht;rw[ht];exact t2
 .refine⟨fun t ht=>?_,zAp l mods t1 tR (zD4 hl (by omega) (by omega))⟩;simp only[pT,jAf]at ht;obtain⟨q,hq,rfl⟩:=ht;simp only[inV,jA3]at hq;rcases hq with rfl|hq
  .unfold zXa;split
   .exact .bool _
   .split
    .exact .list _ _ (.int _)
    .split
     .exact t1
     .exact .int _
  .unfold zQK at hq;split at hq
   .simp at hq;rw[hq];exact .int _
   .split at hq
    .simp at hq;rw[hq];exact .bool _
    .simp at hq
 .split at h
  .simp at h;subst h;refine⟨fun t ht=>?_,zAp l mods t1 t3 (zD4 hl (by omega) (by omega))⟩;simp only[pC,jA3,jAr,or_false]at ht;rw[ht];exact t3
  .simp at h
theorem cxV(m:Mk)(hd:m.defs.map Dfn.hd=hsV l mods)(hmods:0<m.mods.length)(hml:m.l=l)(ho:m.own<=1000):Cx (hsV l mods) 4 m:=by
 obtain⟨n5,n8⟩:=bR l mods;refine⟨hd,by simp;omega,by simp;omega,hmods,hml▸hl,ho,fun k h hk=>?_,fun k h=>?_⟩
 .have h':k<(qA l mods).length:=by simpa using h
  have hg:=mW mods (qA l mods) h';rw[hg]at hk ⊢;have hpt:=zCc l mods hm hm2 hl _ (jA0 h');have hk4:k<2\/oJ l=true/\k<4:=by
   by_cases h2:k<2
   .exact .inl h2
   cases hh:oJ l with
   |true =>
    refine .inr ⟨rfl,?_⟩;by_cases h4:k<4
    .exact h4
    .exfalso;have hmem:(qA l mods)[k]∈plB l mods:=by
      have e:qA l mods=[cP l mods,c6 l mods,gU l mods,zCb mods]++plB l mods:=by simp[qA,hh]
      simp only[e];rw[jCk (by simp;omega)];exact jA0 _
     simp only[plB,plC,plD,plE,jA3]at hmem;rcases hmem with e|e|e|e
     .rw[e]at hk;simp[pF]at hk
     .rw[e]at hk;split at hk<;>simp[vX,pG]at hk
     .rw[e]at hk;simp[pT]at hk
     .split at e
      .simp at e;rw[e]at hk;simp[pC]at hk
      .simp at e
   |false =>
    exfalso;have hmem:(qA l mods)[k]∈plB l mods:=by
     have e:qA l mods=[cP l mods,c6 l mods]++plB l mods:=by simp[qA,hh]
     simp only[e];rw[jCk (by simp;omega)];exact jA0 _
    simp only[plB,plC,plD,plE,jA3]at hmem;rcases hmem with e|e|e|e
    .rw[e]at hk;simp[pF]at hk
    .rw[e]at hk;split at hk<;>simp[vX,pG]at hk
    .rw[e]at hk;simp[pT]at hk
    .split at e
     .simp at e;rw[e]at hk;simp[pC]at hk
     .simp at e
  have hc:k=0\/k=1\/(oJ l=true/\k=2)\/(oJ l=true/\k=3):=by
   rcases hk4 with h|⟨h,h'⟩
   .omega
   .have:k=0\/k=1\/k=2\/k=3:=by omega
    rcases this with e|e|e|e
    .exact .inl e
    .exact .inr (.inl e)
    .exact .inr (.inr (.inl ⟨h,e⟩))
    .exact .inr (.inr (.inr ⟨h,e⟩))
  rcases hc with rfl|rfl|⟨hh,rfl⟩|⟨hh,rfl⟩
  .have:=(zBu l mods hm hm2 hl).mono (show 2<=4 by omega)
   simpa[qJ]using this
  .have:=(zKt l mods hm hm2 hl).mono (show 3<=4 by omega)
   simpa[dB]using this
  .exact(pN l mods hm hm2 hl hh).mono (by omega)
  .exact zRP l mods hm hm2 hl hh
 .have h':k<(qA l mods).length:=by simpa using h
  have hg:=mW mods (qA l mods) h';have hpt:=zCc l mods hm hm2 hl _ (jA0 h');rw[hg];exact⟨by simp only[iT];exact(dX l mods hm hm2 hl _ (jA0 h')).t6,fun s hs=>hpt.1 _ (zAl hs)⟩
end
end Go.Proofs.YtolkhapmieigcaaGreatDoor
namespace Go.Proofs.YtolkhapmieigcaaGreatDoor
open Go.Abs
theorem zR5{α:Type}(I:Nat->α->Prop)(S:Nat->α->α->Prop)(a0 : α)(h0:I 0 a0):∀n:Nat,(∀i<n,∀a,I i a->∃b,I (i+1) b/\S i a b)->∃f:Nat->α,f 0=a0/\(∀i≤n,I i (f i))/\∀i<n,S i (f i) (f (i+1))
 | 0,_=>⟨fun _=>a0,rfl,(fun i hi=>by
  obtain rfl:i=0:=by omega
  exact h0),fun i hi=>by omega⟩
 |n+1,h=>by
  obtain⟨f,f0,f1,f2⟩:=zR5 I S a0 h0 n fun i hi=>h i (by omega)
  obtain⟨b,b1,b2⟩:=h n (by omega) (f n) (f1 n (jA _));refine⟨fun i=>if i<=n then f i else b,by simp[f0],fun i hi=>?_,fun i hi=>?_⟩
  .by_cases e:i<=n
   .simp only[e,if_true];exact f1 i e
   .obtain rfl:i=n+1:=by omega
    simp only[show ¬n+1<=n by omega,if_false];exact b1
  .by_cases e:i=n
   .subst e;simp only[jA,if_true,show ¬i+1<=i by omega,if_false];exact b2
   .simp only[show i<=n by omega,show i+1<=n by omega,if_true];exact f2 i (by omega)
def Dfn.wb(d:Dfn)(e:Exp):Dfn:={d with body:=e}
@[simp]theorem Dfn.hd_wb(d:Dfn)(e:Exp):(d.wb e).hd=d.hd:=rfl
def cC(d:Dfn):wJ:=d.slots.map fun s=>⟨s.id,0,s.typ⟩
@[simp]theorem tD(d:Dfn):(cC d).length=d.slots.length:=by simp[cC]
@[simp]theorem qG2(d:Dfn)(e:Exp):cC (d.wb e)=cC d:=rfl
def mkA(m:Mk)(i:Nat)(d:Dfn):Mk:={m with own:=i,home:=d.mod,left:=14,name:=0}
def mkD(m:Mk)(i:Nat)(d:Dfn):Mk:={m with defs:=m.defs.set i d}
def mkL(m:Mk):Mk:={m with left:=0}
theorem uX{ds:wS}{i:Nat}{d:Dfn}(h:ds[i]?=some d)(e:Exp):(ds.set i (d.wb e)).map Dfn.hd=ds.map Dfn.hd:=by
 apply jCd;intro j;rw[jBn,jBn];by_cases hj:j=i
 .subst hj;rw[jAm (jA5.1 h).1,h];rfl
 .rw[jAd (Ne.symm hj)]
def zMj(i:Nat)(m m':Mk):Prop:=∃d,m.defs[i]?=some d /\
 ((d.kind=0\/d.kind=1)/\m'=m \/
  (d.kind≠0/\d.kind≠1)/\∃(e1:Exp) (m1:Mk),my aX [.ptr 0 0,.agg (zB d.res),.sl (cC d).length (zU (cC d)),int 4] (mkS (mkA m i d)) (.agg (zH e1)) (mkS m1)/\m1.defs=m.defs/\m1.mods=m.mods/\(tmps e1).length<=1000000000 /\
   ((tmps e1).length<=30/\m'=mkD m1 i (d.wb e1) \/
    30<(tmps e1).length/\∃(e2:Exp) (m2:Mk),my aX [.ptr 0 0,.agg (zB d.res),.sl (cC d).length (zU (cC d)),int 0] (mkS (mkL (mkD m1 i (d.wb e1)))) (.agg (zH e2)) (mkS m2)/\m2.defs=m.defs.set i (d.wb e1)/\m2.mods=m.mods /\
     m'=mkD m2 i (d.wb e2)))
structure BGood(hs:List Hd)(k:Nat)(d:Dfn)(lo hi:Int)(e:Exp):Prop where
 wt:WT hs k (cC d) e d.res
 seg:Seg lo hi (tmps e)
 num:e.num0
 len:(tmps e).length<=32768
def zMi(hs:wQ)(i:Nat)(m m':Mk):Prop:=∃d,m.defs[i]?=some d/\m.temp<=m'.temp /\
 ((d.kind=0\/d.kind=1)/\m'.defs=m.defs\/(d.kind≠0/\d.kind≠1)/\∃e,m'.defs=m.defs.set i (d.wb e)/\BGood hs i d m.temp m'.temp e)
structure BInv(l:List Int)(mods:Int)(i:Nat)(m:Mk):Prop where
 heads:m.defs.map Dfn.hd=hsV l mods
 mods:m.mods=zAY mods (qA l mods)
 l:m.l=l
 at0:0<=m.at_
 at1:m.at_<=24+i*200000000
 temp0:0<=m.temp
 temp1:m.temp<=i*200000000
theorem zNf{a b:Int}{l:wC}(h:Seg a b l)(hab:a<=b):(l.length:Int)<=b-a:=by
 have hp:(l.map fun x=>(x-a).toNat).Nodup:=by rw[jDr,jCw];refine List.Pairwise.imp_of_mem (fun {x y} hx hy hne=>?_) (jDr.1 h.nd);have:=h.rng x hx;have:=h.rng y hy;intro e;exact hne (by omega)
 have hs:(l.map fun x=>(x-a).toNat)⊆List.range (b-a).toNat:=fun n hn=>by obtain⟨x,hx,rfl⟩:=jAf.1 hn;have:=h.rng x hx;rw[jC];omega
 have:=hp.length_le_of_subset hs;rw[jAa,List.length_range]at this;omega
section
variable{l:wC}{mods:Int}(hm:1<=mods)(hm2:mods<=2)(hl:∀x∈l,w64 x=x)
include hm hm2 hl
theorem xT{i:Nat}{d:Dfn}(h:(hsV l mods)[i]?=some d.hd)(temp:Int):EnvOk (hsV l mods) 4 temp (cC d)/\1<=(cC d).length/\(cC d).length<=6/\TyOk (hsV l mods) 4 d.res:=by
 obtain⟨hi,he⟩:=jA5.1 h;have hi':i<(qA l mods).length:=by simpa using hi
 rw[mW mods (qA l mods) hi']at he;have hp:=dX l mods hm hm2 hl _ (jA0 hi');have ht:=zCc l mods hm hm2 hl _ (jA0 hi');obtain⟨n1,n2⟩:=lK (show 0<=mods by omega) (fun p hp=>(dX l mods hm hm2 hl p hp).t6) i;have n8:=(bR l mods).2;have eS:d.slots=dA (a8 mods (qA l mods) i) (qA l mods)[i]:=by have:=congrArg Hd.slots he;exact this.symm
 have eR:d.res=(qA l mods)[i].out:=by have:=congrArg Hd.res he;exact this.symm
 generalize (qA l mods)[i]=p at *
 generalize a8 mods (qA l mods) i=nx at *
 refine⟨⟨fun b hb=>?_,?_,fun b hb h0=>?_⟩,by simp only[tD,eS,iT];exact hp.t1,by simp only[tD,eS,iT];exact hp.t6,by rw[eR];exact ht.2⟩
 .simp only[cC,jAf]at hb;obtain⟨s,hs,rfl⟩:=hb;rw[eS]at hs;exact ht.1 _ (zAl hs)
 .simp only[cC,eS,dA,jCb];rw[jCw];refine List.Pairwise.imp_of_mem (fun {a b} ha hb hlt=>?_) List.pairwise_lt_range;rw[jC]at ha hb;have:=hp.t6;intro e;have:=zAQ (by omega) (by omega) (by omega) (by omega) e.1;omega
 .exfalso;simp only[cC,jAf]at hb;obtain⟨s,hs,rfl⟩:=hb;rw[eS]at hs;simp only[dA,jAf,jC]at hs;obtain⟨k,hk,rfl⟩:=hs;have:=hp.t6;have:=zUU (k:=nx+k) (by omega) (by omega);simp only[zGE]at h0;omega
theorem zSs(i:Nat)(hi:i<(qA l mods).length)(m:Mk)(h:BInv l mods i m):∃m',BInv l mods (i+1) m'/\zMj i m m'/\zMi (hsV l mods) i m m':=by
 have hlen:m.defs.length=(qA l mods).length:=by have:=congrArg List.length h.heads;simpa using this
 have n8:=(bR l mods).2;obtain⟨d,hd⟩:∃d,m.defs[i]?=some d:=⟨m.defs[i]'(by omega),by simp⟩;have hhd:(hsV l mods)[i]?=some d.hd:=by rw[<-h.heads,jBn,hd];rfl
 by_cases hk:d.kind=0\/d.kind=1
 .refine⟨m,⟨h.heads,h.mods,h.l,h.at0,by have:=h.at1;omega,h.temp0,by have:=h.temp1;omega⟩,⟨d,hd,.inl ⟨hk,rfl⟩⟩,⟨d,hd,jCl _,.inl ⟨hk,rfl⟩⟩⟩
 have hk':d.kind≠0/\d.kind≠1:=⟨fun e=>hk (.inl e),fun e=>hk (.inr e)⟩;have hmne:0<m.mods.length:=by rw[h.mods];simp[zAY]
 have h89:(8:Int) ^ (4+4+1)=134217728:=by decide
 have h85:(8:Int) ^ (0+4+1)=32768:=by decide
 obtain⟨k4,_⟩:=zDS (hsV l mods) 4 (by omega) (by omega) 4 (by omega);obtain⟨k0,_⟩:=zDS (hsV l mods) 4 (by omega) (by omega) 0 (by omega);rw[h89]at k4;rw[h85]at k0;obtain⟨at0,at1,tp0,tp1⟩:=(⟨h.at0,h.at1,h.temp0,h.temp1⟩:_/\_/\_/\_);have hi8:(i:Int)<=8:=by omega
 obtain⟨eo,e1,e6,et⟩:=xT hm hm2 hl hhd (mkA m i d).temp;have cA:Cx (hsV l mods) 4 (mkA m i d):=cxV l mods hm hm2 hl _ h.heads hmne h.l (by simp only[mkA];omega);have lA:Lim (mkA m i d) 134217728:=⟨at0,by simp only[mkA];omega,tp0,by simp only[mkA];omega,by simp only[mkA];omega,by simp only[mkA];omega,by simp only[mkA];omega,by simp only[mkA];omega⟩;obtain⟨x1,m1,g1,g2,g3,g4,g5⟩:=k4 (mkA m i d) 4 d.res (cC d) cA lA et (jA _) eo e1 (by omega);have htA:(mkA m i d).temp=m.temp:=rfl;have sl1:=zNf g4 g2.temp1;rw[htA]at sl1 g4;have a1:m.at_<=m1.at_:=g2.at1;have a2:m1.at_<=m.at_+134217728:=g2.at2;have b1:m.temp<=m1.temp:=g2.temp1;have b2:m1.temp<=m.temp+134217728:=g2.temp2;have dd:m1.defs=m.defs:=g2.defs;have dm:m1.mods=m.mods:=g2.mods;have dl:m1.l=m.l:=g2.l;by_cases h30:(tmps x1).length<=30
 .refine⟨mkD m1 i (d.wb x1),⟨?_,dm.trans h.mods,dl.trans h.l,by simp only[mkD];omega,by simp only[mkD];omega,by simp only[mkD];omega,by simp only[mkD];omega⟩,⟨d,hd,.inr ⟨hk',x1,m1,g1,dd,dm,by omega,.inl ⟨h30,rfl⟩⟩⟩,⟨d,hd,b1,.inr ⟨hk',x1,?_,g3,g4,g5,by omega⟩⟩⟩
  .simp only[mkD,dd];rw[uX hd];exact h.heads
  .simp only[mkD,dd]
 .have cB:Cx (hsV l mods) 4 (mkL (mkD m1 i (d.wb x1))):=cxV l mods hm hm2 hl _ (by simp only[mkL,mkD,dd];rw[uX hd];exact h.heads) (by simp only[mkL,mkD,dm];exact hmne) (dl.trans h.l) (by
   have:m1.own=i:=g2.own;simp only[mkL,mkD];omega)
  have nm:m1.name<=134217728:=by have:m1.name<=0+134217728:=g2.name2;omega
  have nm0:0<=m1.name:=g2.name1;have lB:Lim (mkL (mkD m1 i (d.wb x1))) 32768:=⟨by simp only[mkL,mkD];omega,by simp only[mkL,mkD];omega,by simp only[mkL,mkD];omega,by simp only[mkL,mkD];omega,by simp only[mkL,mkD];omega,by simp only[mkL,mkD];omega,nm0,by simp only[mkL,mkD];omega⟩;obtain⟨x2,m2,f1,f2,f3,f4,f5⟩:=k0 (mkL (mkD m1 i (d.wb x1))) 4 d.res (cC d) cB lB et (jA _) (xT hm hm2 hl hhd _).1 e1 (by omega);have sl2:=zNf f4 f2.temp1;have p1:m1.at_<=m2.at_:=f2.at1;have p2:m2.at_<=m1.at_+32768:=f2.at2;have q1:m1.temp<=m2.temp:=f2.temp1;have q2:m2.temp<=m1.temp+32768:=f2.temp2;have dd2:m2.defs=m.defs.set i (d.wb x1):=by have:=f2.defs;rw[this];simp only[mkL,mkD,dd]
  have dm2:m2.mods=m.mods:=by have:=f2.mods;rw[this];simp only[mkL,mkD,dm]
  have dl2:m2.l=m.l:=by have:=f2.l;rw[this];simp only[mkL,mkD,dl]
  have hset:(m.defs.set i (d.wb x1)).set i (d.wb x2)=m.defs.set i (d.wb x2):=by rw[List.set_set]
  have o1:m1.own=i:=g2.own;have hwt:WT (hsV l mods) i (cC d) x2 d.res:=by have:(mkL (mkD m1 i (d.wb x1))).own=i:=o1;rw[this]at f3;exact f3
  have ht1:(mkL (mkD m1 i (d.wb x1))).temp=m1.temp:=rfl;rw[ht1]at f4 sl2;refine⟨mkD m2 i (d.wb x2),⟨?_,dm2.trans h.mods,dl2.trans h.l,by simp only[mkD];omega,by simp only[mkD];omega,by simp only[mkD];omega,by simp only[mkD];omega⟩,⟨d,hd,.inr ⟨hk',x1,m1,g1,dd,dm,by omega,.inr ⟨by omega,x2,m2,f1,dd2,dm2,rfl⟩⟩⟩,
   ⟨d,hd,by simp only[mkD];omega,.inr ⟨hk',x2,?_,hwt,f4.mono b1 (jCl _),f5,by omega⟩⟩⟩
  .simp only[mkD,dd2,hset];rw[uX hd];exact h.heads
  .simp only[mkD,dd2,hset]
theorem zN7(m0:Mk)(h0:BInv l mods 0 m0):∃ms:Nat->Mk,ms 0=m0/\(∀i≤(qA l mods).length,BInv l mods i (ms i))/\∀i<(qA l mods).length,zMj i (ms i) (ms (i+1))/\zMi (hsV l mods) i (ms i) (ms (i+1)) :=
 zR5 (BInv l mods) (fun i m m'=>zMj i m m'/\zMi (hsV l mods) i m m') m0 h0 _ fun i hi a ha=>by obtain⟨b,h1,h2⟩:=zSs hm hm2 hl i hi a ha;exact⟨b,h1,h2⟩
end
end Go.Proofs.YtolkhapmieigcaaGreatDoor
namespace Go.Abs
theorem zWE{P:Program}{KD:Env->Prop}{env:Env} {U:St}{d:wD}{f:FuncId}{args args':wF} {U0:St}{r:A}(h:Ret P f args U0 r U0)(js:wA)(hd:js.Nodup)(ho:bT U jW (qR js) js U0)(ha:eJ js args' args)
 (hr:ren js U.length r=r)(hp:j9 U js (U0.map (fE js U.length)) = U)(hq:KD (env.put d r)):zBw P U d KD f args' env:=by
 refine⟨r,cV h js hd ho ha ?_,hq⟩;rw[hr,hp];simp
end Go.Abs
namespace Go.Proofs.YtolkhapmieigcaaGreatDoor
open Go.Abs
def lQ:List Id->Int->List Int->wG
 |ids,_,[]=>ids
 |ids,next,c::cs=>lQ (ids.set c.toNat (idR next)) (next+1) cs
theorem zGB(c:Int):∀(cs:wC) (ids:wG) (next:Int),lQ ids next (cs++[c])=(lQ ids next cs).set c.toNat (idR (next+cs.length))
 |[],ids,next=>by simp[lQ]
 |x::cs,ids,next=>by simp only[jBf,lQ];rw[zGB c cs,jAb,show next+1+(cs.length:Int)=next+((cs.length+1:Nat):Int) by omega]
theorem zOV{cs:wC}{k:Nat}(h:k<cs.length)(ids:wG)(next:Int):lQ ids next (cs.take (k+1))=(lQ ids next (cs.take k)).set cs[k].toNat (idR (next+k)):=by rw[jA8 h,zGB,jAv,jAu (by omega)]
@[simp]theorem zBn:∀(cs:wC) (ids:wG) (next:Int),(lQ ids next cs).length=ids.length
 |[],_,_=>rfl
 |_::cs,ids,next=>by simp only[lQ];rw[zBn cs,jCx]
theorem zEQ{c:Nat}:∀(cs:wC) (ids:wG) (next:Int),(∀x∈cs,0<=x/\x≠c)->(lQ ids next cs)[c]?=ids[c]?
 |[],_,_,_=>rfl
 |x::cs,ids,next,h=>by simp only[lQ];obtain⟨h1,h2⟩:=h x (by simp);rw[zEQ cs _ _ (fun y hy=>h y (by simp[hy])),jAd (by omega)]
theorem zKc:∀(cs:wC) (ids:wG) (next:Int),cs.Nodup->(∀x∈cs,0<=x/\x<ids.length)->∀(k:Nat) (h:k<cs.length),oK (lQ ids next cs) cs[k]=idR (next+k)
 |[],_,_,_,_,k,h=>by simp at h
 |x::cs,ids,next,hn,hb,0,h=>by
  rw[jD2]at hn;obtain⟨h1,h2⟩:=hb x (by simp);obtain⟨n,rfl⟩:∃n:Nat,x=n:=⟨x.toNat,by omega⟩;have hne:∀y∈cs,0<=y/\y≠n:=fun y hy=>⟨(hb y (by simp[hy])).1,fun e=>hn.1 (e▸hy)⟩
  simp only[jDj,lQ,oK,jCm,jBz];rw[zEQ cs _ _ hne,jAm (by omega)];simp
 |x::cs,ids,next,hn,hb,k+1,h=>by rw[jD2]at hn;simp only[lQ,List.getElem_cons_succ];have:=zKc cs (ids.set x.toNat (idR next)) (next+1) hn.2 (fun y hy=>by rw[jCx];exact hb y (by simp[hy])) k (by simpa using h);rw[this,show next+1+(k:Int)=next+((k+1:Nat):Int) by omega]
def eU(d:Dfn):Bool:=!(decide (d.kind=0)||decide (d.kind=1))
structure NSt where
 ds:List Dfn
 ids:List Id
 next:Int
def zEt(s:NSt)(i:Nat):NSt:=match s.ds[i]? with
 |some d=>if eU d then ⟨s.ds.set i (d.wb (fK (oK (lQ s.ids s.next (tmps d.body))) d.body)),lQ s.ids s.next (tmps d.body),s.next+(tmps d.body).length⟩ else s
 |none=>s
def cZ(s:NSt):Nat->NSt
 | 0=>s
 |i+1=>zEt (cZ s i) i
theorem tV(s:NSt):∀i:Nat,(cZ s i).ds.length=s.ds.length/\(cZ s i).ids.length=s.ids.length
 | 0=>⟨rfl,rfl⟩
 |i+1=>by
  have ih:=tV s i;simp only[cZ,zEt];split
  .split
   .simp[ih]
   .exact ih
  .exact ih
theorem rO(s:NSt):∀(i j:Nat),i<=j->(cZ s i).ds[j]?=s.ds[j]?
 | 0,j,_=>rfl
 |i+1,j,h=>by
  have ih:=rO s i j (by omega);simp only[cZ,zEt];split
  .split
   .simp only;rw[jAd (by omega),ih]
   .exact ih
  .exact ih
theorem zBU(s:NSt){i:Nat}{d:Dfn}(hd:s.ds[i]?=some d):cZ s (i+1)=if eU d then ⟨(cZ s i).ds.set i (d.wb (fK (oK (lQ (cZ s i).ids (cZ s i).next (tmps d.body))) d.body)),lQ (cZ s i).ids (cZ s i).next (tmps d.body),(cZ s i).next+(tmps d.body).length⟩ else cZ s i:=by simp only[cZ,zEt];rw[rO s i i (jA _),hd]
theorem zEr(s:NSt):∀i:Nat,(cZ s i).ds.map Dfn.hd=s.ds.map Dfn.hd
 | 0=>rfl
 |i+1=>by
  have ih:=zEr s i;simp only[cZ,zEt];split
  .rename_i d hd;split
   .simp only;rw[uX hd,ih]
   .exact ih
  .exact ih
theorem zGs(s:NSt){i:Nat}:∀(j:Nat),i<j->(cZ s j).ds[i]?=(cZ s (i+1)).ds[i]?
 | 0,h=>by omega
 |j+1,h=>by
  by_cases e:i=j
  .rw[e]
  .have ih:=zGs s (i:=i) j (by omega);rw[<-ih];simp only[cZ,zEt];split
   .split
    .simp only;rw[jAd (by omega)]
    .rfl
   .rfl
theorem uP{ds:wS}{i:Nat}(h:i<ds.length)(e:Exp):(zV ds).take (i*31+14)++(zH e++(zV ds).drop (i*31+14+15))=zV (ds.set i (ds[i].wb e)):=by
 have hs:=zKI (ds[i].wb e) h;rw[<-hs];have hd:=j5 h;have h1:(zV ds).take (i*31+14)=(zV ds).take (i*31)++(zQ ds[i]).take 14:=by rw[List.take_add,hd,jCa (by simp)]
 have h2:(zV ds).drop (i*31+14+15)=(zQ ds[i]).drop 29++(zV ds).drop (i*31+31):=by
  have h3:(zV ds).drop (i*31+31)=zV (ds.drop (i+1)):=by rw[<-jAy,hd,jD3 (zQu _)]
  rw[h3,jB9,<-jAy,hd,List.drop_append_of_le_length (by simp)]
 rw[h1,h2,jAq]
 congr 1
end Go.Proofs.YtolkhapmieigcaaGreatDoor
