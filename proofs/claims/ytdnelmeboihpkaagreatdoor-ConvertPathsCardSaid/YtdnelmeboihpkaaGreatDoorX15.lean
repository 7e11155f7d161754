/- The maker's plans: what definitions are to be made. -/
import Derived.Test.YtdnelmeboihpkaaGreatDoorX14
set_option linter.unusedVariables false
set_option maxHeartbeats 8000000
set_option maxRecDepth 100000
set_option linter.unusedSimpArgs false
open Go.Proofs.Tryz
namespace Go.Proofs.YtdnelmeboihpkaaGreatDoor
open Go.Abs
def zPt:K:=(G [M 72 9,M 73 10,M 6 72,M 7 73] kr)
def zPs:K:=(G [M 50 0,M 51 1,kBi 52 51 2 .add,kC 53 38 [(kt 50),(kt 52),(kc 3)],M 11 53] (Z (G [M 54 11,kQi 55 54 1 false] (Y 55 (G [M 56 9,kb 57 kz2 [],kd 58 35 5 1 kz2 [(0,5,(kt 57))],kP 59 35 5 56 56 58,M 9 59] (K.ops [M 60 10,kd 61 3 1 1 [ki] [(0,1,(kc 1))],kP 62 3 1 8 60 61,M 10 62])) ks)) (Z (G [M 63 11,kQi 64 63 2 false] (Y 64 (G [M 65 9,kb 66 kz2 [(0,1,(kc 1))],kd 67 35 5 1 kz2 [(0,5,(kt 66))],kP 68 35 5 56 65 67,M 9 68] (K.ops [M 69 10,kd 70 3 1 1 [ki] [(0,1,(kc 0))],kP 71 3 1 8 69 70,M 10 71])) ks)) (K.wk zPt))))
def qBF:K:=G [kO 5 2,kMn 6,kMn 7] (G [M 12 0,M 13 1,kC 14 38 [(kt 12),(kt 13),(kc 5)],M 8 14] (G [kb 15 kz2 [],⟨none,.brow (some 16) 35 5 1 kz2 [(0,5,(kt 15))]⟩,M 9 16] (G [M 17 0,M 18 1,kBi 19 18 1 .add,kC 20 38 [(kt 17),(kt 19),(kc 3)],⟨none,.bin (some 21) .add (kc 1) (kt 20)⟩,⟨none,.brow (some 22) 3 1 1 [ki] [(0,1,(kt 21))]⟩,M 10 22] (Z (G [M 23 8,kQi 24 23 1 false] (Y 24 (G [M 25 9,kb 26 kz2 [(0,1,(kc 1))],kXi 27 25 5 0,S 27 26 5] (K.ops [M 28 10,kXi 29 28 1 0,⟨none,.st none (kt 29) (kc 0) 1⟩])) ks)) (Z (G [M 30 8,kQi 31 30 2 false] (Y 31 (G [M 32 9,kb 33 kz2 [],kC 34 126 [(kt 33)],kXi 35 32 5 0,S 35 34 5] (K.ops [M 36 10,M 37 0,M 38 1,kBi 39 38 1 .add,kC 40 38 [(kt 37),(kt 39),(kc 2)],⟨none,.bin (some 41) .add (kc 1) (kt 40)⟩,kXi 42 36 1 0,S 42 41 1])) ks)) (Z (G [M 43 8,kQi 44 43 3 false] (Y 44 (G [M 45 9,J 46 5 5,kXi 47 45 5 0,S 47 46 5] (K.ops [M 48 10,kXi 49 48 1 0,⟨none,.st none (kt 49) (kc 1) 1⟩])) ks)) (K.wk zPs)))))))
theorem qJt:ky f127 qBF:=m_ (by kernel_rfl)
def iO(x:Int)(one two:Typ):Typ:=[q9,jO,j5 q9,one,two,q9].getD (bO x 6).toNat q9
theorem zG2(x:Int)(one two:Typ)(hx:w64 x=x):my 125 [int x,.agg (zB one),.agg (zB two)] [] (.agg (zB (iO x one two))) []:=by
 obtain⟨k0,k6⟩:=rA (k:=6) hx (by omega);have ha:=zBv x 6 (by omega);have hk:bO x 6=0\/bO x 6=1\/bO x 6=2\/bO x 6=3\/bO x 6=4\/bO x 6=5:=by omega
 unfold iO;generalize bO x 6=k at ha k0 k6 hk;refine mq [] [.cell 6 5 true] func125 (by kernel_rfl) ?_
 (conv in kq _ _=>cbv)
 simp[zB];refine zZ zDX (by simp[zB,q9]) (by simp) ?_;simp[zB];refine zZ ha (by simp) (by simp) ?_;rcases hk with rfl|rfl|rfl|rfl|rfl|rfl
 all_goals
  simp[zB,q9,jO,j5];exact zA 0 (by simp[zB,q9,jO,j5,Id.zero,qW])
def zXO(l:wB)(at_:Int)(point:Typ):Typ×Int:=if atV l at_ 5=1 then (jO,0)else if atV l at_ 5=2 then (j5 q9,1+atV l (at_+1) 2)else if atV l at_ 5=3 then (point,1)else (q9,1+atV l (at_+1) 3)
def zRc(l:wB)(at_:Int):List (Typ×Int):=if atV l (at_+2) 3=1 then [(q9,1)]else if atV l (at_+2) 3=2 then [(jO,0)]else []
def inV(l:wB)(at_:Int)(point:Typ):List (Typ×Int):=zXO l at_ point::zRc l at_
def zLU(L:List (Typ×Int)):wE:=jG (L.map (·.1))
def zEc(L:List (Typ×Int)):wE:=jQ (L.map (·.2))
def inR(L:List (Typ×Int)):A:=.tup [.sl L.length (zLU L),.sl L.length (zEc L)]
theorem zRd(l:wB)(at_:Int)(ha:0<=at_)(ha':at_<=1000)(hl:∀x∈l,w64 x=x)(p:Typ×Int) :
 wpK prog 0 zPs (fin [RS.slot 6,RS.slot 7] (s8 0 (inR (p::zRc l at_)) [])) (qK [(0,.sl l.length (jQ l)),(1,int at_),(9,.row 0 1),(10,.row 1 1)])
  [.row false 35 5 1 (zB p.1),.row false 3 1 1 [int p.2]]:=by
 have w2:=qA (at_+2) (by omega);have h3:=fB l (at_+2) 3 (by omega);unfold zRc;generalize atV l (at_+2) 3=z at *
 have tailU:∀L:List (Typ×Int),wpK prog 0 zPt (fin [RS.slot 6,RS.slot 7] (s8 0 (inR L) [])) (qK [(9,.sl L.length (zLU L)),(10,.sl L.length (zEc L))]) []:=fun L=>by unfold zPt;simp;exact zA 0 (by simp[inR,zLU,zEc])
 unfold zPs;simp[w2];refine mu h3 (by simp) ?_;by_cases hz1:z=1
 .simp[hz1,maxLen];exact⟨_,_,mw [] 1 (by rfl) (by simp[zLU,zEc,qW,zB,q9,Id.zero]),tailU _⟩
 .by_cases hz2:z=2
  all_goals
   simp[hz1,hz2,maxLen];exact⟨_,_,mw [] 1 (by rfl) (by simp[zLU,zEc,qW,zB,jO,Id.zero]),tailU _⟩
theorem zXP(l:wB)(at_:Int)(point:Typ)(ha:0<=at_)(ha':at_<=1000)(hl:∀x∈l,w64 x=x) :
 my 127 [.sl l.length (jQ l),int at_,.agg (zB point)] [] (inR (inV l at_ point)) []:=by
 have w1:=qA (at_+1) (by omega);have h0:=fB l at_ 5 (by omega)
 have h1:=fB l (at_+1) 3 (by omega);have h2:=fB l (at_+1) 2 (by omega);have ht:=zRd l at_ ha ha' hl
 obtain⟨r1,r1'⟩:=yA (i:=at_+1) hl (most:=3) (by omega);obtain⟨r2,r2'⟩:=yA (i:=at_+1) hl (most:=2) (by omega);unfold inV zXO;generalize atV l at_ 5=x at *
 generalize atV l (at_+1) 3=y1 at *
 generalize atV l (at_+1) 2=y2 at *
 have v1:=qA (1+y1) (by omega);have v2:=qA (1+y2) (by omega);refine zJ func127 rfl qJt (rs:=[.slot 6,.slot 7]) (by kernel_rfl) ?_;unfold qBF;simp[zB];refine mu h0 (by simp) ?_;simp[w1];refine mu h1 (by simp) ?_;by_cases hx1:x=1
 .simp[v1,hx1];exact⟨_,_,mw [1,2] 0 (by rfl) (by simp[zB,jO,Id.zero]),ht (jO,0)⟩
 .by_cases hx2:x=2
  .simp[v1,hx1,hx2];refine mu zDX (by simp[zB,q9,Id.zero]) ?_;simp[zB,w1];refine mu h2 (by simp) ?_;simp[v2];exact⟨_,_,mw [1,2] 0 (by rfl) (by simp[zB,j5,Id.zero]),ht (j5 q9,1+y2)⟩
  .by_cases hx3:x=3
   .simp[v1,hx1,hx2,hx3];exact⟨_,_,mw [1,2] 0 (by rfl) (by simp[zB]),ht (point,1)⟩
   .simp[v1,hx1,hx2,hx3];exact⟨_,_,mw [1,2] 0 (by rfl) (by simp[zB,q9,Id.zero]),ht (q9,1+y1)⟩
def zP4:K:=(G [M 212 10,M 4 212] kr)
def zP3:K:=(Z (G [M 196 0,kC 197 38 [(kt 196),(kc 22),(kc 4)],kBi 198 197 0 .gtr] (Y 198 (K.dops [(0,0,M 199 10),(1,0,J 200 13 5),(2,0,kd 201 35 5 1 kz2 [(0,5,(kt 200))]),(3,0,⟨none,.bslice (some 202) 9 1 1 [(.string ⟨#[]⟩)] [(0,1,(.const (.string ⟨#[111,108,100]⟩)))]⟩),(4,0,M 203 0),(5,0,kC 204 38 [(kt 203),(kc 23),(kc 6)]),(6,0,J 205 6 5),(7,0,J 206 13 5),(8,0,kC 207 125 [(kt 204),(kt 205),(kt 206)]),(9,0,M 208 12),(10,0,⟨none,.build (some 209) kz3 [(0,1,(kc 5)),(1,1,(.const (.string ⟨#[99]⟩))),(2,1,(kt 201)),(3,1,(kt 202)),(5,5,(kt 207)),(10,1,(kt 208))]⟩),(11,0,kd 210 133 11 1 kz3 [(0,11,(kt 209))]),(12,0,kP 211 133 11 160 199 210),(13,0,M 10 211)]) ks)) (K.wk zP4))
def zP2:K:=(G [M 178 0,J 179 6 5,kC 180 127 [(kt 178),(kc 18),(kt 179)],M 177 180,kE 181 177 0,kE 182 177 1,M 17 181,M 18 182] (Z (K.dops [(0,0,M 183 10),(1,0,M 184 17),(2,0,⟨none,.bslice (some 185) 9 1 2 [(.string ⟨#[]⟩),(.string ⟨#[]⟩)] [(0,1,(.const (.string ⟨#[97]⟩))),(1,1,(.const (.string ⟨#[98]⟩)))]⟩),(3,0,M 186 18),(4,0,M 187 0),(5,0,kC 188 38 [(kt 187),(kc 21),(kc 6)]),(6,0,J 189 6 5),(7,0,J 190 16 5),(8,0,kC 191 125 [(kt 188),(kt 189),(kt 190)]),(9,0,M 192 12),(10,0,⟨none,.build (some 193) kz3 [(0,1,(kc 4)),(1,1,(.const (.string ⟨#[116]⟩))),(2,1,(kt 184)),(3,1,(kt 185)),(4,1,(kt 186)),(5,5,(kt 191)),(10,1,(kt 192))]⟩),(11,0,kd 194 133 11 1 kz3 [(0,11,(kt 193))]),(12,0,kP 195 133 11 160 183 194),(13,0,M 10 195)]) (K.wk zP3)))
def zP1:K:=(G [M 134 0,M 135 1,kC 136 38 [(kt 134),(kc 15),(kt 135)],M 15 136] (Z (K.dops [(0,0,M 137 0),(1,1,kC 138 38 [(kt 137),(kc 16),(kc 6)]),(2,1,J 139 6 5),(3,1,J 140 6 5),(4,1,kC 141 125 [(kt 138),(kt 139),(kt 140)]),(5,0,kZ 16 kz2),(6,0,S 16 141 5)]) (G [M 142 10,M 143 8,⟨none,.bslice (some 144) 9 1 2 [(.string ⟨#[]⟩),(.string ⟨#[]⟩)] [(0,1,(.const (.string ⟨#[97]⟩))),(1,1,(.const (.string ⟨#[98]⟩)))]⟩,J 145 16 5,M 146 15,⟨none,.build (some 147) kz3 [(0,1,(kc 2)),(1,1,(.const (.string ⟨#[102]⟩))),(2,1,(kt 143)),(3,1,(kt 144)),(5,5,(kt 145)),(10,1,(kt 146))]⟩,kd 148 133 11 1 kz3 [(0,11,(kt 147))],kP 149 133 11 160 142 148,M 10 149] (Z (G [M 150 5] (Y 150 (K.dops [(0,0,M 151 10),(1,0,J 152 13 5),(2,0,J 153 7 5),(3,0,kd 154 35 5 2 [ki,ki,ki,ki,kl,ki,ki,ki,ki,kl] [(0,5,(kt 152)),(5,5,(kt 153))]),(4,0,⟨none,.bslice (some 155) 9 1 2 [(.string ⟨#[]⟩),(.string ⟨#[]⟩)] [(0,1,(.const (.string ⟨#[115]⟩))),(1,1,(.const (.string ⟨#[101]⟩)))]⟩),(5,0,M 156 1),(6,0,kBi 157 156 3 .add),(7,0,kC 158 83 [(kt 157)]),(8,0,kC 159 62 [(kt 158)]),(9,0,M 160 12),(10,0,⟨none,.build (some 161) kz3 [(0,1,(kc 3)),(1,1,(.const (.string ⟨#[115,116,101,112]⟩))),(2,1,(kt 154)),(3,1,(kt 155)),(5,5,(kt 159)),(10,1,(kt 160))]⟩),(11,0,kd 162 133 11 1 kz3 [(0,11,(kt 161))]),(12,0,kP 163 133 11 160 151 162),(13,0,M 10 163)]) (K.dops [(0,0,M 164 10),(1,0,J 165 7 5),(2,0,kd 166 35 5 1 kz2 [(0,5,(kt 165))]),(3,0,⟨none,.bslice (some 167) 9 1 1 [(.string ⟨#[]⟩)] [(0,1,(.const (.string ⟨#[101]⟩)))]⟩),(4,0,
 M 168 0),(5,0,kC 169 38 [(kt 168),(kc 17),(kc 6)]),(6,0,J 170 6 5),(7,0,J 171 7 5),(8,0,kC 172 125 [(kt 169),(kt 170),(kt 171)]),(9,0,M 173 12),(10,0,⟨none,.build (some 174) kz3 [(0,1,(kc 2)),(1,1,(.const (.string ⟨#[103]⟩))),(2,1,(kt 166)),(3,1,(kt 167)),(5,5,(kt 172)),(10,1,(kt 173))]⟩),(11,0,kd 175 133 11 1 kz3 [(0,11,(kt 174))]),(12,0,kP 176 133 11 160 164 175),(13,0,M 10 176)]))) (K.wk zP2)))))
def zP0:K:=(Z (K.dops [(0,0,M 117 0),(1,0,kC 118 38 [(kt 117),(kc 12),(kc 6)]),(2,0,J 119 6 5),(3,0,J 120 7 5),(4,0,kC 121 125 [(kt 118),(kt 119),(kt 120)]),(5,9,⟨none,.brow (some 122) 35 5 1 kz2 [(0,5,(kt 121))]⟩),(6,0,M 8 122)]) (Z (G [M 123 0,kC 124 38 [(kt 123),(kc 13),(kc 2)],kQi 125 124 1 false] (Y 125 (K.dops [(0,0,M 126 8),(1,0,M 127 0),(2,0,kC 128 38 [(kt 127),(kc 14),(kc 6)]),(3,0,J 129 6 5),(4,0,J 130 7 5),(5,0,kC 131 125 [(kt 128),(kt 129),(kt 130)]),(6,0,kd 132 35 5 1 kz2 [(0,5,(kt 131))]),(7,0,kP 133 35 5 56 126 132),(8,0,M 8 133)]) ks)) (K.wk zP1)))
def zP6:K:=(G [M 69 10,M 70 8,⟨none,.bslice (some 71) 9 1 3 zT5 [(0,1,(.const (.string ⟨#[84,105,99,107]⟩))),(1,1,(.const (.string ⟨#[80,117,115,104]⟩))),(2,1,(.const (.string ⟨#[83,101,116]⟩)))]⟩,⟨none,.build (some 72) kz3 [(0,1,(kc 1)),(1,1,(.const (.string ⟨#[69,118,101,110,116]⟩))),(2,1,(kt 70)),(3,1,(kt 71))]⟩,kd 73 133 11 1 kz3 [(0,11,(kt 72))],kP 74 133 11 160 69 73,M 10 74] (G [M 75 1,kBi 76 75 1 .sub,M 12 76] (G [J 77 6 5,kZ 13 kz2,S 13 77 5] (Z (G [M 78 5] (Y 78 (G [kb 79 kz2 [],⟨none,.brow (some 80) 35 5 1 kz2 [(0,5,(kt 79))]⟩,M 8 80] (Z (G [kMi 14 0] (K.block 4 (K.loop (Z (G [M 81 14,M 82 0,kC 83 38 [(kt 82),(kc 9),(kc 3)],kB 84 81 83 .lss] (Y 84 ks (K.exit 4))) (Z (K.block 5 (K.dops [(0,0,M 87 8),(1,0,M 88 0),(2,0,M 89 14),(3,0,⟨none,.bin (some 90) .add (kc 10) (kt 89)⟩),(4,0,kC 91 38 [(kt 88),(kt 90),(kc 4)]),(5,0,J 92 6 5),(6,0,J 93 6 5),(7,0,kC 94 125 [(kt 91),(kt 92),(kt 93)]),(8,0,kd 95 35 5 1 kz2 [(0,5,(kt 94))]),(9,0,kP 96 35 5 56 87 95),(10,0,M 8 96)])) (K.ops [M 85 14,kBi 86 85 1 .add,M 14 86])))))) (Z (K.wk (K.ops [M 97 1,kBi 98 97 2 .add,kC 99 83 [(kt 98)],kC 100 62 [(kt 99)],S 13 100 5])) (G [M 101 10,
 M 102 8,⟨none,.bslice (some 103) 9 1 3 zT5 [(0,1,(.const (.string ⟨#[99,111,117,110,116]⟩))),(1,1,(.const (.string ⟨#[108,111,103]⟩))),(2,1,(.const (.string ⟨#[109,111,114,101]⟩)))]⟩,⟨none,.build (some 104) kz3 [(0,1,(kc 0)),(1,1,(.const (.string ⟨#[83,116,97,116,101]⟩))),(2,1,(kt 102)),(3,1,(kt 103))]⟩,kd 105 133 11 1 kz3 [(0,11,(kt 104))],kP 106 133 11 160 101 105,M 10 106] (K.dops [(0,0,M 107 10),(1,0,J 108 13 5),(2,0,kb 109 kz2 []),(3,0,kC 110 126 [(kt 109)]),(4,0,kb 111 kz2 []),(5,0,kd 112 35 5 3 qLh [(0,5,(kt 108)),(5,5,(kt 110)),(10,5,(kt 111))]),(6,0,⟨none,.bslice (some 113) 9 1 3 zT5 [(0,1,(.const (.string ⟨#[115,116,97,116,101]⟩))),(1,1,(.const (.string ⟨#[115,105,103,110,97,108,115]⟩))),(2,1,(.const (.string ⟨#[110,101,120,116]⟩)))]⟩),(7,0,⟨none,.build (some 114) kz3 [(0,1,(kc 0)),(1,1,(.const (.string ⟨#[79,117,116]⟩))),(2,1,(kt 112)),(3,1,(kt 113))]⟩),(8,0,kd 115 133 11 1 kz3 [(0,11,(kt 114))]),(9,0,kP 116 133 11 160 107 115),(10,0,M 10 116)]))))) ks)) (K.wk zP0)))))
def zP5:K:=(G [M 46 8,⟨none,.bslice (some 47) 9 1 3 zT5 [(0,1,(.const (.string ⟨#[120]⟩))),(1,1,(.const (.string ⟨#[121]⟩))),(2,1,(.const (.string ⟨#[122]⟩)))]⟩,⟨none,.build (some 48) kz3 [(0,1,(kc 0)),(1,1,(.const (.string ⟨#[80,111,105,110,116]⟩))),(2,1,(kt 46)),(3,1,(kt 47))]⟩,⟨none,.brow (some 49) 133 11 1 kz3 [(0,11,(kt 48))]⟩,M 10 49] (G [kb 50 kz2 [],⟨none,.brow (some 51) 35 5 1 kz2 [(0,5,(kt 50))]⟩,M 8 51] (Z (G [kMi 11 0] (K.block 2 (K.loop (Z (G [M 52 11,M 53 0,kC 54 38 [(kt 53),(kc 6),(kc 2)],⟨none,.bin (some 55) .add (kc 1) (kt 54)⟩,kB 56 52 55 .lss] (Y 56 ks (K.exit 2))) (Z (K.block 3 (K.dops [(0,0,M 59 8),(1,0,M 60 0),(2,0,M 61 11),(3,0,⟨none,.bin (some 62) .add (kc 7) (kt 61)⟩),(4,0,kC 63 38 [(kt 60),(kt 62),(kc 4)]),(5,0,J 64 6 5),(6,0,J 65 6 5),(7,0,kC 66 125 [(kt 63),(kt 64),(kt 65)]),(8,0,kd 67 35 5 1 kz2 [(0,5,(kt 66))]),(9,0,kP 68 35 5 56 59 67),(10,0,M 8 68)])) (K.ops [M 57 11,kBi 58 57 1 .add,M 11 58])))))) (K.wk zP6))))
def qBJ:K:=G [kMn 4] (G [M 19 0,kC 20 38 [(kt 19),(kc 1),(kc 4)],kBi 21 20 0 .gtr,M 5 21] (G [M 22 1,kC 23 83 [(kt 22)],kC 24 62 [(kt 23)],kZ 6 kz2,S 6 24 5] (G [M 25 1,kBi 26 25 1 .add,kC 27 83 [(kt 26)],kC 28 62 [(kt 27)],kZ 7 kz2,S 7 28 5] (G [kMn 8] (Z (G [kMi 9 0] (K.block 0 (K.loop (Z (G [M 29 9,M 30 0,kC 31 38 [(kt 30),(kc 2),(kc 3)],⟨none,.bin (some 32) .add (kc 1) (kt 31)⟩,kB 33 29 32 .lss] (Y 33 ks (K.exit 0))) (Z (K.block 1 (K.dops [(0,0,M 36 8),(1,0,M 37 0),(2,0,M 38 9),(3,0,⟨none,.bin (some 39) .add (kc 3) (kt 38)⟩),(4,0,kC 40 38 [(kt 37),(kt 39),(kc 3)]),(5,0,J 41 6 5),(6,0,J 42 6 5),(7,0,kC 43 125 [(kt 40),(kt 41),(kt 42)]),(8,0,kd 44 35 5 1 kz2 [(0,5,(kt 43))]),(9,0,kP 45 35 5 56 36 44),(10,0,M 8 45)])) (K.ops [M 34 9,kBi 35 34 1 .add,M 9 35])))))) (K.wk zP5))))))
def qLe:Nat->Option wD:=fun|27=>k_ [0,0,0,0,0,9,0]|_=>none
theorem qJx:kx f84 qLe qBJ:=mz (by kernel_rfl)
structure Pln where
 kind:Int
 name:ByteArray
 types:List Typ
 names:List ByteArray
 most:List Int
 out:Typ
 mod:Int
def dD(p:Pln):wE:=[int p.kind,.lit (.string p.name),.sl p.types.length (jG p.types),.sl p.names.length (yI p.names),.sl p.most.length (jQ p.most),int p.out.k,int p.out.id.a,int p.out.id.b,int p.out.id.c,.sl p.out.kids.length (jG p.out.kids),int p.mod]
theorem xP(p:Pln):qP (dD p):=by have h1:=yW p.types;have h2:=dU p.names;have h3:=yW p.out.kids;exact⟨by simp[dD,h1.1,h2.1,h3.1],fun rf g=>by simp[dD,h1.2,h2.2,h3.2]⟩
def y3(l:List Pln):wE:=l.flatMap dD
theorem zAy(l:List Pln):qP (y3 l):=cW xP l
@[simp]theorem zVW(l:List Pln):jH (y3 l)=y3 l:=(zAy l).1
@[simp]theorem qAL{rf g}(l:List Pln):vwL rf g (y3 l)=y3 l:=(zAy l).2 _ _
@[simp]theorem zXf:y3 []=[]:=rfl
theorem gP(x:Pln)(l:List Pln):y3 (x::l)=dD x++y3 l:=rfl
theorem lG(l l':List Pln):y3 (l++l')=y3 l++y3 l':=by simp only[y3,jBw]
@[simp]theorem zXe(l:List Pln):(y3 l).length=l.length*11:=by rw[y3,fF (k:=11) (fun _=>rfl)]
variable{i:Nat}
theorem zIm{l:List Pln}(h:i<l.length):(y3 l).drop (i*11)=dD l[i]++y3 (l.drop (i+1)):=by rw[y3,y3,fR (k:=11) (fun _=>rfl) h]
@[simp]theorem qDJ(d:Pln):(dD d).length=11:=rfl
@[simp]theorem qDI(d:Pln):(dD d).take 11=dD d:=jAc (jA _)
@[simp]theorem zZB(d:Pln)(l:wE):(dD d++l).take 11=dD d:=by rw[jBz (by simp)];exact jAc (by simp)
@[simp]theorem qAh(d:Pln):jH (dD d)=dD d:=(xP d).1
@[simp]theorem qIx(d:Pln) {rf g}:vwL rf g (dD d)=dD d:=(xP d).2 _ _
def tyL(l:wB)(at_ most n:Int)(one:Typ):wQ:=(List.range n.toNat).map fun(i:Nat)=>iO (atV l (at_+i) most) one one
section
variable(l:wB)(mods:Int)
def oS:Bool:=decide (0<atV l 1 4)
def qT:Typ:=yB (idR mods)
def dH:Typ:=yB (idR (mods+1))
def lZ:Typ:=if oS l then yB (idR (mods+2))else qT mods
def zLT:Typ:=iO (atV l 16 6) (qT mods) (qT mods)
def cY:Pln:=⟨0,⟨#[80,111,105,110,116]⟩,tyL l 3 3 (1+atV l 2 3) (qT mods),[⟨#[120]⟩,⟨#[121]⟩,⟨#[122]⟩],[],q9,0⟩
def eC:Pln:=⟨1,⟨#[69,118,101,110,116]⟩,q9::tyL l 7 4 (1+atV l 6 2) (qT mods),[⟨#[84,105,99,107]⟩,⟨#[80,117,115,104]⟩,⟨#[83,101,116]⟩],[],q9,0⟩
def i8:Pln:=⟨0,⟨#[83,116,97,116,101]⟩,q9::tyL l 10 4 (atV l 9 3) (qT mods),[⟨#[99,111,117,110,116]⟩,⟨#[108,111,103]⟩,⟨#[109,111,114,101]⟩],[],q9,0⟩
def zCQ:Pln:=⟨0,⟨#[79,117,116]⟩,[yB (idR (mods+2)),j5 q9,q9],[⟨#[115,116,97,116,101]⟩,⟨#[115,105,103,110,97,108,115]⟩,⟨#[110,101,120,116]⟩],[],q9,0⟩
def rQ:wQ:=iO (atV l 12 6) (qT mods) (dH mods)::(if atV l 13 2=1 then [iO (atV l 14 6) (qT mods) (dH mods)]else [])
def pF:Pln:=⟨2,⟨#[102]⟩,rQ l mods,[⟨#[97]⟩,⟨#[98]⟩],[],zLT l mods,atV l 15 mods⟩
def zAV:Pln:=⟨3,⟨#[115,116,101,112]⟩,[yB (idR (mods+2)),dH mods],[⟨#[115]⟩,⟨#[101]⟩],[],yB (idR (mods+3)),mods-1⟩
def pG:Pln:=⟨2,⟨#[103]⟩,[dH mods],[⟨#[101]⟩],[],iO (atV l 17 6) (qT mods) (dH mods),mods-1⟩
def pT:Pln:=⟨4,⟨#[116]⟩,(inV l 18 (qT mods)).map (·.1),[⟨#[97]⟩,⟨#[98]⟩],(inV l 18 (qT mods)).map (·.2),iO (atV l 21 6) (qT mods) (zLT l mods),mods-1⟩
def pC:Pln:=⟨5,⟨#[99]⟩,[lZ l mods],[⟨#[111,108,100]⟩],[],iO (atV l 23 6) (qT mods) (lZ l mods),mods-1⟩
def plE:List Pln:=if 0<atV l 22 4 then [pC l mods]else []
def plD:List Pln:=pT l mods::plE l mods
def plC:List Pln:=(if oS l then zAV mods else pG l mods)::plD l mods
def plB:List Pln:=pF l mods::plC l mods
def qD:List Pln:=[cY l mods,eC l mods]++(if oS l then [i8 l mods,zCQ mods]else [])++plB l mods
end
abbrev zKK(L:List Pln):=fin [RS.slot 4] (s8 0 (.sl L.length (y3 L)) [])
theorem zWm(L:List Pln):wpK prog 0 zP4 (zKK L) (qK [(10,.sl L.length (y3 L))]) []:=by unfold zP4;simp;exact zA 0 (by simp)
theorem qF1(l:wB)(mods:Int)(hm:1<=mods)(hm2:mods<=2)(hl:∀x∈l,w64 x=x)(L:List Pln)(hL:L.length<=20) :
 wpK prog 0 zP3 (zKK (L++plE l mods)) (qK [(0,.sl l.length (jQ l)),(6,.ptr 0 0),(10,.row 2 L.length),(12,int (mods-1)),(13,.ptr 1 0)])
  [.box (zB (qT mods)),.box (zB (lZ l mods)),.row false 133 11 L.length (y3 L)]:=by
 have h0:=fB l 22 4 (by omega);have h1:=fB l 23 6 (by omega);obtain⟨r0,r0'⟩:=yA (i:=23) hl (most:=6) (by omega);have h2:=zG2 (atV l 23 6) (qT mods) (lZ l mods) (IntWalk.i64_in _ (by omega));unfold zP3;simp;refine mu h0 (by simp) ?_;by_cases h:0<atV l 22 4
 .simp[h,zB];refine zZ h1 (by simp) (by simp) ?_;simp[zB];refine zZ h2 (by simp[zB]) (by simp) ?_;simp[zB];refine⟨⟨by simp[maxLen];omega,by omega⟩,?_⟩;exact⟨_,_,mw [] 1 (by rfl) (by simp[plE,h,pC,lG,gP,dD,qW,zB,dT]),zWm _⟩
 .simp[h];exact⟨_,_,mw [] 1 (by rfl) (by simp[plE,h]),zWm _⟩
theorem gT(l:wB)(i m:Int)(hm:0<m)(hl:∀x∈l,w64 x=x)(hm2:m<=1000)(a b:Typ):my 125 [int (atV l i m),.agg (zB a),.agg (zB b)] [] (.agg (zB (iO (atV l i m) a b))) []:=by obtain⟨r0,r0'⟩:=yA (i:=i) hl (most:=m) hm;exact zG2 _ _ _ (IntWalk.i64_in _ (by omega))
theorem qF0(l:wB)(mods:Int)(hm:1<=mods)(hm2:mods<=2)(hl:∀x∈l,w64 x=x)(L:List Pln)(hL:L.length<=19) :
 wpK prog 0 zP2 (zKK (L++plD l mods)) (qK [(0,.sl l.length (jQ l)),(6,.ptr 0 0),(10,.row 3 L.length),(12,int (mods-1)),(13,.ptr 1 0),(16,.ptr 2 0)])
  [.box (zB (qT mods)),.box (zB (lZ l mods)),.box (zB (zLT l mods)),.row false 133 11 L.length (y3 L)]:=by
 have h0:=zXP l 18 (qT mods) (by omega) (by omega) hl;have h1:=fB l 21 6 (by omega);have h2:=gT l 21 6 (by omega) hl (by omega) (qT mods) (zLT l mods);have hD:=qF1 l mods hm hm2 hl (L++[pT l mods]) (by simp;omega);rw[jAp]at hD;unfold zP2;simp[zB];refine mu h0 (by simp[zB,inR,zLU,zEc]) ?_;simp[inR,zLU,zEc];refine zZ h1 (by simp) (by simp) ?_;simp[zB];refine zZ h2 (by simp[zB]) (by simp) ?_;simp[zB];refine⟨⟨by simp[maxLen];omega,by omega⟩,?_⟩;refine⟨_,_,kf [0,1,3] 0 (by rfl) ?_ (by simp),hD⟩;simp[zB,lG,gP,dD,pT,dV]
theorem qFz(l:wB)(mods:Int)(hm:1<=mods)(hm2:mods<=2)(hl:∀x∈l,w64 x=x)(L:List Pln)(hL:L.length<=17) :
 wpK prog 0 zP1 (zKK (L++plB l mods)) (qK [(0,.sl l.length (jQ l)),(1,int mods),(5,bl (oS l)),(6,.ptr 0 0),(7,.ptr 1 0),(8,.sl (rQ l mods).length (jG (rQ l mods))),(10,.row 3 L.length),(12,int (mods-1)),(13,.ptr 2 0)])
  [.box (zB (qT mods)),.box (zB (dH mods)),.box (zB (lZ l mods)),.row false 133 11 L.length (y3 L)]:=by
 have w3:=qA (mods+3) (by omega);have h0:=fB l 15 mods (by omega);have h1:=fB l 16 6 (by omega);have h2:=gT l 16 6 (by omega) hl (by omega) (qT mods) (qT mods);have h3:=sR (mods+3);have h4:=zC7 (idR (mods+3));have h5:=fB l 17 6 (by omega);have h6:=gT l 17 6 (by omega) hl (by omega) (qT mods) (dH mods);have hC:=qF0 l mods hm hm2 hl (L++[pF l mods]++[if oS l then zAV mods else pG l mods]) (by simp;omega);rw[jAp,jAp]at hC;unfold zP1;simp;refine mu h0 (by simp) ?_;simp;refine zGO h1 [] (by decide) (by simp) (by simp) (by simp) ?_;simp[zB];refine zGO h2 [] (by decide) (by simp) (by simp[zB]) (by simp) ?_;simp[zB];refine⟨⟨by simp[maxLen];omega,by omega⟩,?_⟩;cases hh:oS l
 .simp[zB];refine zZ h5 (by simp) (by simp) ?_;simp[zB];refine zZ h6 (by simp[zB]) (by simp) ?_;simp[zB];refine⟨⟨by simp[maxLen];omega,by omega⟩,?_⟩;refine⟨_,_,kf [0,2,4,3] 0 (by rfl) ?_ (by simp),hC⟩;simp[zB,lG,gP,dD,pF,pG,hh,zLT,dT,dV,qW]
 .simp[zB,w3];refine zZ h3 (by simp) (by simp) ?_;simp[zB];refine zZ h4 (by simp[zG]) (by simp) ?_;simp[zB];refine⟨⟨by simp[maxLen];omega,by omega⟩,?_⟩;refine⟨_,_,kf [0,2,4,3] 0 (by rfl) ?_ (by simp),hC⟩;simp[zB,lG,gP,dD,pF,zAV,hh,zLT,lZ,dT,dV,qW]
theorem zWl(l:wB)(mods:Int)(hm:1<=mods)(hm2:mods<=2)(hl:∀x∈l,w64 x=x)(L:List Pln)(hL:L.length<=17) :
 wpK prog 0 zP0 (zKK (L++plB l mods)) (qK [(0,.sl l.length (jQ l)),(1,int mods),(5,bl (oS l)),(6,.ptr 0 0),(7,.ptr 1 0),(10,.row 3 L.length),(12,int (mods-1)),(13,.ptr 2 0)])
  [.box (zB (qT mods)),.box (zB (dH mods)),.box (zB (lZ l mods)),.row false 133 11 L.length (y3 L)]:=by
 have h0:=fB l 12 6 (by omega);have h1:=gT l 12 6 (by omega) hl (by omega) (qT mods) (dH mods);have h2:=fB l 13 2 (by omega);have h3:=fB l 14 6 (by omega);have h4:=gT l 14 6 (by omega) hl (by omega) (qT mods) (dH mods);have hB:=qFz l mods hm hm2 hl L hL;unfold zP0;simp;refine zZ h0 (by simp) (by simp) ?_;simp[zB];refine zZ h1 (by simp[zB]) (by simp) ?_;simp[zB];refine mu h2 (by simp) ?_;by_cases h:atV l 13 2=1
 .simp[h,zB];refine zZ h3 (by simp) (by simp) ?_;simp[zB];refine zZ h4 (by simp[zB]) (by simp) ?_;simp[zB,maxLen];refine⟨_,_,kf [0,1,2,3] 1 (by rfl) (by simp[zB]) ?_,hB⟩;simp[rQ,h,qW,zB]
 .simp[h,zB];refine⟨_,_,kf [0,1,2,3] 1 (by rfl) (by simp[zB]) ?_,hB⟩;simp[rQ,h,qW,zB]
theorem nW{s:ByteArray}{l:List ByteArray}:yI (s::l)=.lit (.string s)::yI l:=rfl
theorem vN(l:wB)(at_ most:Int)(n:Nat)(one:Typ):(tyL l at_ most n one).length=n:=by simp[tyL]
theorem zEP(l:wB)(at_ most:Int){n i:Nat}(h:i<n)(one:Typ):(tyL l at_ most n one).take (i+1)=(tyL l at_ most n one).take i++[iO (atV l (at_+i) most) one one]:=by
 have hi:i<(tyL l at_ most n one).length:=by rw[vN];exact h
 rw[jA8 hi]
 congr 2
 simp[tyL]
theorem uW(l:wB)(at_ most:Int){n i:Nat}(h:i<=n)(one:Typ):((tyL l at_ most n one).take i).length=i:=by rw[jAq,vN];omega
theorem zHG(l:wB)(at_ most:Int)(n:Nat)(one:Typ):(tyL l at_ most n one).take n=tyL l at_ most n one:=jAc (by rw[vN];exact jA _)
theorem qF3(l:wB)(mods:Int)(hm:1<=mods)(hm2:mods<=2)(hl:∀x∈l,w64 x=x) :
 wpK prog 0 zP6 (zKK (qD l mods)) (qK [(0,.sl l.length (jQ l)),(1,int mods),(5,bl (oS l)),(6,.ptr 0 0),(7,.ptr 1 0),(8,.sl (eC l mods).types.length (jG (eC l mods).types)),(10,.row 2 1)])
  [.box (zB (qT mods)),.box (zB (dH mods)),.row false 133 11 1 (dD (cY l mods))]:=by
 have w1:=qA (mods-1) (by omega);have w2:=qA (mods+2) (by omega);have h0:=fB l 9 3 (by omega);obtain⟨r0,r0'⟩:=yA (i:=9) hl (most:=3) (by omega);obtain⟨N,hN⟩:∃N:Nat,(N:Int)=atV l 9 3:=⟨(atV l 9 3).toNat,by omega⟩;unfold zP6;cases hh:oS l
 .have hA:=zWl l mods hm hm2 hl [cY l mods,eC l mods] (by simp);have hpl:[cY l mods,eC l mods]++plB l mods=qD l mods:=by simp[qD,hh]
  rw[hpl,hh]at hA;simp[w1];refine⟨by simp[maxLen],?_⟩;refine⟨_,_,kf [0,1,3,2] 0 (by rfl) ?_ (by simp),hA⟩;simp[zB,gP,dD,eC,q9,Id.zero,lZ,hh,nW]
 .have hA:=zWl l mods hm hm2 hl [cY l mods,eC l mods,i8 l mods,zCQ mods] (by simp);have hpl:[cY l mods,eC l mods,i8 l mods,zCQ mods]++plB l mods=qD l mods:=by simp[qD,hh]
  rw[hpl,hh]at hA;simp[w1];refine⟨by simp[maxLen],?_⟩;refine qM (S:=Nat) (fun i=>[(0,.sl l.length (jQ l)),(1,int mods),(5,bl true),(6,.ptr 0 0),(7,.ptr 1 0),(8,.row 4 (1+i)),(10,.row 2 2),(12,int (mods-1)),(13,.ptr 3 0),(14,int i)])
   (fun i=>[.box (zB (qT mods)),.box (zB (dH mods)),.row false 133 11 2 (dD (cY l mods)++dD (eC l mods)),.box (zB (qT mods)),.row false 35 5 (1+i) (zB q9++jG ((tyL l 10 4 N (qT mods)).take i))]) (fun i=>i<=N) (fun i=>N-i) 0 (by simp)
   (mw [0,1,2,3,4] 0 (by rfl) (by simp[zB,dD,eC,q9,Id.zero,nW])) ?_
  intro i hi;by_cases h:i<N
  .have h1:=fB l (10+i) 4 (by omega);have h2:=gT l (10+i) 4 (by omega) hl (by omega) (qT mods) (qT mods);have hlt:(i:Int)<atV l 9 3:=by omega
   have v1:=qA (10+(i:Int)) (by omega);have v2:=yK i (by omega);have hst:=zEP l 10 4 h (qT mods);have hsl:=uW l 10 4 hi (qT mods);simp;refine mu h0 (by simp) ?_;simp[hlt,v1];refine zZ h1 (by simp) (by simp) ?_;simp[zB];refine zZ h2 (by simp[zB]) (by simp) ?_;simp[zB];refine⟨⟨by simp[maxLen];omega,by omega⟩,?_⟩;exact zN (i+1) h (by omega) (kf [0,1,2,3,4] 0 (by rfl) (by rw[hst];simp[zB,oP,qW,hsl];omega) (by simp[v2];omega))
  .have hie:i=N:=by omega
   subst hie;have h3:=sR (mods+2);have h4:=zC7 (idR (mods+2));have hall:=zHG l 10 4 i (qT mods);have hty:(i8 l mods).types=q9::tyL l 10 4 i (qT mods):=by rw[hN];rfl
   have hlen:=vN l 10 4 i (qT mods);simp;refine mu h0 (by simp) ?_;simp[hN];refine⟨qK [(0,.sl l.length (jQ l)),(1,int mods),(5,bl true),(6,.ptr 0 0),(7,.ptr 1 0),(8,.sl (i8 l mods).types.length (jG (i8 l mods).types)),(10,.row 2 2),(12,int (mods-1)),(13,.ptr 3 0)],[.box (zB (qT mods)),.box (zB (dH mods)),.row false 133 11 2 (dD (cY l mods)++dD (eC l mods)),.box (zB (qT mods))],
    kf [0,1,2,3] 1 (by rfl) (by simp) (by rw[hty];simp[<-hN,hall,hlen,qW];omega),?_⟩
   simp[w2];refine mu h3 (by simp) ?_;simp;refine mu h4 (by simp[zG]) ?_;simp[zB];refine⟨by simp[maxLen],?_⟩;refine zZ zDX (by simp[zB,q9,Id.zero]) (by simp) ?_;simp[zB];refine⟨by simp[maxLen],?_⟩;refine⟨_,_,kf [0,1,3,2] 0 (by rfl) ?_ (by simp),hA⟩;simp[zB,gP,dD,zCQ,i8,qW,q9,Id.zero,lZ,hh,nW]
theorem qF2(l:wB)(mods:Int)(hm:1<=mods)(hm2:mods<=2)(hl:∀x∈l,w64 x=x) :
 wpK prog 0 zP5 (zKK (qD l mods)) (qK [(0,.sl l.length (jQ l)),(1,int mods),(5,bl (oS l)),(6,.ptr 0 0),(7,.ptr 1 0),(8,.sl (cY l mods).types.length (jG (cY l mods).types))])
  [.box (zB (qT mods)),.box (zB (dH mods))]:=by
 have h0:=fB l 6 2 (by omega);obtain⟨r0,r0'⟩:=yA (i:=6) hl (most:=2) (by omega);obtain⟨N,hN⟩:∃N:Nat,(N:Int)=1+atV l 6 2:=⟨(1+atV l 6 2).toNat,by omega⟩;have wN:IntKind.i64.wrap (1+atV l 6 2)=N:=by rw[hN];exact IntWalk.i64_in _ (by omega)
 have hQ:=qF3 l mods hm hm2 hl;unfold zP5;simp;refine qM (S:=Nat) (fun i=>[(0,.sl l.length (jQ l)),(1,int mods),(5,bl (oS l)),(6,.ptr 0 0),(7,.ptr 1 0),(8,.row 3 (1+i)),(10,.row 2 1),(11,int i)])
  (fun i=>[.box (zB (qT mods)),.box (zB (dH mods)),.row false 133 11 1 (dD (cY l mods)),.row false 35 5 (1+i) (zB q9++jG ((tyL l 7 4 N (qT mods)).take i))]) (fun i=>i<=N) (fun i=>N-i) 0 (by simp)
  (mw [0,1,2,3] 0 (by rfl) (by simp[zB,dD,cY,q9,Id.zero,nW])) ?_
 intro i hi;by_cases h:i<N
 .have h1:=fB l (7+i) 4 (by omega);have h2:=gT l (7+i) 4 (by omega) hl (by omega) (qT mods) (qT mods);have v1:=qA (7+(i:Int)) (by omega);have v2:=yK i (by omega);have hst:=zEP l 7 4 h (qT mods);have hsl:=uW l 7 4 hi (qT mods);simp;refine mu h0 (by simp) ?_;simp[h,v1,wN];refine zZ h1 (by simp) (by simp) ?_;simp[zB];refine zZ h2 (by simp[zB]) (by simp) ?_;simp[zB];refine⟨⟨by simp[maxLen];omega,by omega⟩,?_⟩;exact zN (i+1) h (by omega) (kf [0,1,2,3] 0 (by rfl) (by rw[hst];simp[zB,oP,qW,hsl];omega) (by simp[v2];omega))
 .have hie:i=N:=by omega
  subst hie;have hall:=zHG l 7 4 i (qT mods);have hty:(eC l mods).types=q9::tyL l 7 4 i (qT mods):=by rw[hN];rfl
  have hlen:=vN l 7 4 i (qT mods);simp;refine mu h0 (by simp) ?_;simp[wN];exact⟨_,_,kf [0,1,2] 1 (by rfl) (by simp) (by rw[hty];simp[hall,hlen,qW];omega),hQ⟩
theorem zRF(l:wB)(mods:Int)(hm:1<=mods)(hm2:mods<=2)(hl:∀x∈l,w64 x=x) :
 my 84 [.sl l.length (jQ l),int mods] [] (.sl (qD l mods).length (y3 (qD l mods))) []:=by
 have w1:=qA (mods+1) (by omega);have k0:=fB l 1 4 (by omega);have k1:=sR mods;have k2:=zC7 (idR mods);have k3:=sR (mods+1);have k4:=zC7 (idR (mods+1));have h0:=fB l 2 3 (by omega);obtain⟨r0,r0'⟩:=yA (i:=2) hl (most:=3) (by omega);obtain⟨N,hN⟩:∃N:Nat,(N:Int)=1+atV l 2 3:=⟨(1+atV l 2 3).toNat,by omega⟩;have wN:IntKind.i64.wrap (1+atV l 2 3)=N:=by rw[hN];exact IntWalk.i64_in _ (by omega)
 have hP:=qF2 l mods hm hm2 hl;refine zO func84 rfl qJx (rs:=[.slot 4]) (by kernel_rfl) ?_;unfold qBJ;simp;refine mu k0 (by simp) ?_;simp;refine mu k1 (by simp) ?_;simp;refine mu k2 (by simp[zG]) ?_;simp[zB,w1];refine mu k3 (by simp) ?_;simp;refine mu k4 (by simp[zG]) ?_;simp[zB];refine qM (S:=Nat) (fun i=>[(0,.sl l.length (jQ l)),(1,int mods),(5,bl (oS l)),(6,.ptr 0 0),(7,.ptr 1 0),(8,.row 2 i),(9,int i)])
  (fun i=>[.box (zB (qT mods)),.box (zB (dH mods)),.row false 35 5 i (jG ((tyL l 3 3 N (qT mods)).take i))]) (fun i=>i<=N) (fun i=>N-i) 0 (by simp)
  ((jW (t:=8) (by simp) 35 5).trans (mw [0,1,2] 0 (by rfl) (by simp[zB,qT,dH,oS]))) ?_
 intro i hi;by_cases h:i<N
 .have h1:=fB l (3+i) 3 (by omega);have h2:=gT l (3+i) 3 (by omega) hl (by omega) (qT mods) (qT mods);have v1:=qA (3+(i:Int)) (by omega);have v2:=yK i (by omega);have hst:=zEP l 3 3 h (qT mods);have hsl:=uW l 3 3 hi (qT mods);simp;refine mu h0 (by simp) ?_;simp[h,v1,wN];refine zZ h1 (by simp) (by simp) ?_;simp[zB];refine zZ h2 (by simp[zB]) (by simp) ?_;simp[zB];refine⟨⟨by simp[maxLen];omega,by omega⟩,?_⟩;exact zN (i+1) h (by omega) (kf [0,1,2] 0 (by rfl) (by rw[hst];simp[zB,oP,qW,hsl]) (by simp[v2]))
 .have hie:i=N:=by omega
  subst hie;have hall:=zHG l 3 3 i (qT mods);have hty:(cY l mods).types=tyL l 3 3 i (qT mods):=by rw[hN];rfl
  have hlen:=vN l 3 3 i (qT mods);simp;refine mu h0 (by simp) ?_;simp[wN];exact⟨_,_,kf [0,1] 1 (by rfl) (by simp) (by rw[hty];simp[hall,hlen]),hP⟩
theorem zHe{k:Int}(h0:0<=k)(h1:k<=1000000000000000):idR k=⟨0,1+k / 32,k % 32⟩:=by unfold idR;have e1:k.tdiv 32=k / 32:=tdN h0;have e2:k.tmod 32=k % 32:=tmN h0;have w1:=qA (k.tdiv 32) (by omega);rw[w1,e2];have w2:=qA (1+k.tdiv 32) (by omega);rw[w2,e1]
theorem zVK{k:Int}(h0:0<=k)(h1:k<=1000000000000000):1<=(idR k).b:=by rw[zHe h0 h1];show 1<=1+k / 32;omega
theorem r6{k j:Int}(h0:0<=k)(h1:k<=1000000000000000)(g0:0<=j)(g1:j<=1000000000000000)(h:idR k=idR j):k=j:=by
 rw[zHe h0 h1,zHe g0 g1]at h;injection h with _ h2 h3
 omega
def zG4(next:Int)(p:Pln)(k:Nat):Slt:=⟨idR (next+k),p.names.getD k ⟨#[]⟩,p.types.getD k q9,if p.kind=4 then p.most.getD k 0 else 0,k⟩
def dG(next:Int)(p:Pln):List Slt:=(List.range p.types.length).map (zG4 next p)
def zIs(mods next:Int)(i:Nat)(p:Pln):Dfn:=⟨idR (mods+i),p.kind,idR p.mod,p.name,dG next p,p.out,Exp.zero,0,[]⟩
def bW(mods:Int)(ps:List Pln):Nat->Int
 | 0=>mods+ps.length
 |i+1=>bW mods ps i+(match ps[i]? with|some p=>(p.types.length:Int)|none=>0)
def nY(mods:Int)(ps:List Pln):wP:=ps.mapIdx fun i p=>zIs mods (bW mods ps i) i p
def sY(mods:Int)(ps:List Pln)(c:Int)(i:Nat):wF:=((List.range i).filter fun j=>match ps[j]? with|some p=>decide (p.mod=c)|none=>false).map fun(j:Nat)=>idR (mods+j)
def zC5(mods:Int)(ps:List Pln):List Md :=
 (⟨idR 0,⟨#[99,111,114,101]⟩,[],sY mods ps 0 ps.length⟩:Md)::(if mods=2 then [⟨idR 1,⟨#[109,105,108,108]⟩,[idR 0],sY mods ps 1 ps.length⟩]else [])
@[simp]theorem zNF(mods:Int)(ps:List Pln):(nY mods ps).length=ps.length:=by simp[nY]
@[simp]theorem lD(next:Int)(p:Pln):(dG next p).length=p.types.length:=by simp[dG]
theorem zB8(mods:Int)(ps:List Pln)(h:i<ps.length):(nY mods ps)[i]'(by simpa using h)=zIs mods (bW mods ps i) i ps[i]:=by simp[nY]
theorem zEg(mods:Int)(ps:List Pln)(h:i<ps.length):bW mods ps (i+1)=bW mods ps i+ps[i].types.length:=by simp only[bW];rw[jA0 h]
structure PlnOk(mods:Int)(p:Pln):Prop where
 kind0:0<=p.kind
 kind5:p.kind<=5
 mod0:0<=p.mod
 mod1:p.mod<mods
 t1:1<=p.types.length
 t6:p.types.length<=6
 names:p.types.length<=p.names.length
 most:p.kind=4->p.types.length<=p.most.length
theorem zLO(x:Int)(a b:Typ)(hx:w64 x=x):iO x a b=q9\/iO x a b=jO\/iO x a b=j5 q9\/iO x a b=a\/iO x a b=b:=by
 obtain⟨k0,k6⟩:=rA (k:=6) hx (by omega);unfold iO;generalize bO x 6=k at *
 have:k=0\/k=1\/k=2\/k=3\/k=4\/k=5:=by omega
 rcases this with rfl|rfl|rfl|rfl|rfl|rfl<;>simp
theorem zDl{l:wB}{i most:Int}(hl:∀x∈l,w64 x=x)(hm:0<most)(h2:most<=1000):w64 (atV l i most)=atV l i most:=by obtain⟨a,b⟩:=yA (i:=i) hl hm;exact IntWalk.i64_in _ (by omega)
theorem zAt{k:Int}(h0:0<=k)(h:k<6):bO k 6=k:=by
 have:k=0\/k=1\/k=2\/k=3\/k=4\/k=5:=by omega
 rcases this with rfl|rfl|rfl|rfl|rfl|rfl<;>decide
theorem zRW{x:Int}(h0:0<=x)(h:x<3)(a b:Typ):iO x a b=q9\/iO x a b=jO\/iO x a b=j5 q9:=by
 unfold iO;rw[zAt h0 (by omega)];have:x=0\/x=1\/x=2:=by omega
 rcases this with rfl|rfl|rfl<;>simp
theorem zRX{x:Int}(h0:0<=x)(h:x<4)(a b:Typ):iO x a b=q9\/iO x a b=jO\/iO x a b=j5 q9\/iO x a b=a:=by
 unfold iO;rw[zAt h0 (by omega)];have:x=0\/x=1\/x=2\/x=3:=by omega
 rcases this with rfl|rfl|rfl|rfl<;>simp
theorem zCZ{l:wB}{at_ most n:Int}{one t:Typ}(h:t∈tyL l at_ most n one):∃i:Nat,t=iO (atV l (at_+i) most) one one:=by simp only[tyL,jAk]at h;obtain⟨i,_,rfl⟩:=h;exact⟨i,rfl⟩
theorem lE(l:wB)(at_ most n:Int)(one:Typ):(tyL l at_ most n one).length=n.toNat:=by simp[tyL]
section
variable(l:wB)(mods:Int)(hm:1<=mods)(hm2:mods<=2)(hl:∀x∈l,w64 x=x)
include hm hm2 hl
theorem eK:∀p∈qD l mods,PlnOk mods p:=by
 intro p hp;have a2:=yA (i:=2) hl (most:=3) (by omega);have a6:=yA (i:=6) hl (most:=2) (by omega);have a9:=yA (i:=9) hl (most:=3) (by omega);have a15:=yA (i:=15) hl (most:=mods) (by omega);have hF:(rQ l mods).length=1\/(rQ l mods).length=2:=by unfold rQ;split<;>simp
 have hT:(inV l 18 (qT mods)).length=1\/(inV l 18 (qT mods)).length=2:=by
  unfold inV zRc;split
  .simp
  .split<;>simp
 have hp':p=cY l mods\/p=eC l mods\/p=i8 l mods\/p=zCQ mods\/p=pF l mods\/p=zAV mods\/p=pG l mods\/p=pT l mods\/p=pC l mods:=by
  simp only[qD,plB,plC,plD,plE,jAa,jA1]at hp;rcases hp with ((h|h|h)|h)|h|h|h|h
  .simp[h]
  .simp[h]
  .simp at h
  .split at h
   .simp at h;rcases h with h|h<;>simp[h]
   .simp at h
  .simp[h]
  .split at h<;>simp[h]
  .simp[h]
  .split at h
   .simp at h;simp[h]
   .simp at h
 rcases hp' with rfl|rfl|rfl|rfl|rfl|rfl|rfl|rfl|rfl
 .refine⟨?_,?_,?_,?_,?_,?_,?_,?_⟩<;>simp only[cY,lE]<;>first|omega|simp<;>omega
 .refine⟨?_,?_,?_,?_,?_,?_,?_,?_⟩<;>simp only[eC,jAb,lE]<;>first|omega|simp<;>omega
 .refine⟨?_,?_,?_,?_,?_,?_,?_,?_⟩<;>simp only[i8,jAb,lE]<;>first|omega|simp<;>omega
 .refine⟨?_,?_,?_,?_,?_,?_,?_,?_⟩<;>simp only[zCQ,jAb,jBc]<;>first|omega|simp<;>omega
 .refine⟨?_,?_,?_,?_,?_,?_,?_,?_⟩<;>simp only[pF,jAb,jBc]<;>first|omega|simp<;>omega
 .refine⟨?_,?_,?_,?_,?_,?_,?_,?_⟩<;>simp only[zAV,jAb,jBc]<;>first|omega|simp<;>omega
 .refine⟨?_,?_,?_,?_,?_,?_,?_,?_⟩<;>simp only[pG,jAb,jBc]<;>first|omega|simp<;>omega
 .refine⟨?_,?_,?_,?_,?_,?_,?_,?_⟩<;>simp only[pT,jAb,jBc,jAd]<;>first|omega|simp<;>omega
 .refine⟨?_,?_,?_,?_,?_,?_,?_,?_⟩<;>simp only[pC,jAb,jBc]<;>first|omega|simp<;>omega
omit hm hm2 hl in
theorem bR:5<=(qD l mods).length/\(qD l mods).length<=8:=by unfold qD plB plC plD plE;split<;>split<;>simp
end
theorem lQ{mods:Int}{ps:List Pln}(hm:0<=mods)(h6:∀p∈ps,p.types.length<=6):∀i:Nat,mods+ps.length<=bW mods ps i/\bW mods ps i<=mods+ps.length+6*i
 | 0=>by simp[bW]
 |i+1=>by
  have ih:=lQ hm h6 i;simp only[bW];split
  .rename_i p hp;have:=h6 p (jC2 hp);omega
  .omega
variable{mods:Int}{ps:List Pln}
theorem zLw{j:Nat}(h:i<=j):bW mods ps i<=bW mods ps j:=by
 induction h with
 |refl=>exact jAe _
 |step h ih =>
  simp only[bW];split
  .rename_i p _;have:=Int.natCast_nonneg p.types.length;omega
  .omega
def zFl(mods:Int)(ps:List Pln):wO:=(nY mods ps).map Dfn.hd
@[simp]theorem qEp(mods:Int)(ps:List Pln):(zFl mods ps).length=ps.length:=by simp[zFl]
theorem nB(mods:Int)(ps:List Pln){k:Nat}(h:k<ps.length):(zFl mods ps)[k]'(by simpa using h)=⟨idR (mods+k),ps[k].kind,dG (bW mods ps k) ps[k],ps[k].out⟩:=by simp only[zFl,jAy];rw[zB8 mods ps h];rfl
theorem zAi{next:Int}{p:Pln}{s:Slt}(h:s∈dG next p):s.typ∈p.types:=by simp only[dG,jAk,jBr]at h;obtain⟨k,hk,rfl⟩:=h;simp only[zG4,jBe,jA0 hk,jBf];exact jA3 hk
theorem zGP(hm:1<=mods)(hm2:mods<=2)(hps:ps.length<=8)(h6:∀p∈ps,PlnOk mods p){k:Nat}(hk:k<ps.length)(hkd:ps[k].kind=0\/ps[k].kind=1){r:Nat}(ht:∀t∈ps[k].types,TyOk (zFl mods ps) r t) :
 TyOk (zFl mods ps) (r+1) (yB (idR (mods+k))):=by
 have hk':k<(zFl mods ps).length:=by simpa using hk
 have hg:=nB mods ps hk;have hp:=h6 _ (jA3 hk);have:=TyOk.dfn (hs:=zFl mods ps) r k hk' (fun j hj=>by
  rw[hg,nB mods ps (show j<ps.length by omega)];intro e;have:=r6 (by omega) (by omega) (by omega) (by omega) e;omega) (by
  rw[hg];rcases hkd with h|h
  .exact .inl h
  .exact .inr ⟨h,by simp only[lD];exact hp.t1⟩) (by rw[hg];simp only[lD];exact hp.t6) (fun s hs=>by
  rw[hg]at hs;exact ht _ (zAi hs))
 rw[hg]at this;exact this
section
variable(l:wB)(mods:Int)(hm:1<=mods)(hm2:mods<=2)(hl:∀x∈l,w64 x=x)
abbrev hsV:wO:=zFl mods (qD l mods)
theorem pv0:∃h:0<(qD l mods).length,(qD l mods)[0]=cY l mods:=⟨by simp[qD],by simp[qD]⟩
theorem pv1:∃h:1<(qD l mods).length,(qD l mods)[1]=eC l mods:=⟨by simp[qD],by simp[qD]⟩
theorem pv2(hh:oS l=true):∃h:2<(qD l mods).length,(qD l mods)[2]=i8 l mods:=⟨by simp[qD,hh],by simp[qD,hh]⟩
theorem pv3(hh:oS l=true):∃h:3<(qD l mods).length,(qD l mods)[3]=zCQ mods:=⟨by simp[qD,hh],by simp[qD,hh]⟩
include hm hm2 hl
theorem zBl:TyOk (hsV l mods) 2 (qT mods):=by
 obtain⟨h,e⟩:=pv0 l mods;have h8:=(bR l mods).2;have:=zGP hm hm2 h8 (eK l mods hm hm2 hl) h (by rw[e];exact .inl rfl) (r:=1) (fun t ht=>by
  rw[e]at ht;obtain⟨i,rfl⟩:=zCZ ht;obtain⟨a,b⟩:=yA (i:=3+i) hl (most:=3) (by omega);rcases zRW a b (qT mods) (qT mods)with e|e|e<;>rw[e]
  .exact .int _
  .exact .bool _
  .exact .list _ _ (.int _))
 simpa[qT]using this
theorem zSq{r:Nat}(hr:2<=r){x:Int}(h0:0<=x)(h:x<4):TyOk (hsV l mods) r (iO x (qT mods) (qT mods)):=by
 refine TyOk.mono ?_ hr;rcases zRX h0 h (qT mods) (qT mods)with e|e|e|e<;>rw[e]
 .exact .int _
 .exact .bool _
 .exact .list _ _ (.int _)
 .exact zBl l mods hm hm2 hl
theorem zJZ:TyOk (hsV l mods) 3 (dH mods):=by
 obtain⟨h,e⟩:=pv1 l mods;have h8:=(bR l mods).2;have:=zGP hm hm2 h8 (eK l mods hm hm2 hl) h (by rw[e];exact .inr rfl) (r:=2) (fun t ht=>by
  rw[e]at ht;rcases jA1.1 ht with rfl|ht
  .exact .int _
  .obtain⟨i,rfl⟩:=zCZ ht;obtain⟨a,b⟩:=yA (i:=7+i) hl (most:=4) (by omega);exact zSq l mods hm hm2 hl (jA _) a b)
 simpa[dH]using this
theorem pZ(hh:oS l=true):TyOk (hsV l mods) 3 (yB (idR (mods+2))):=by
 obtain⟨h,e⟩:=pv2 l mods hh;have h8:=(bR l mods).2;have:=zGP hm hm2 h8 (eK l mods hm hm2 hl) h (by rw[e];exact .inl rfl) (r:=2) (fun t ht=>by
  rw[e]at ht;rcases jA1.1 ht with rfl|ht
  .exact .int _
  .obtain⟨i,rfl⟩:=zCZ ht;obtain⟨a,b⟩:=yA (i:=10+i) hl (most:=4) (by omega);exact zSq l mods hm hm2 hl (jA _) a b)
 simpa using this
theorem zSs:TyOk (hsV l mods) 3 (lZ l mods):=by
 unfold lZ;split
 .rename_i hh;exact pZ l mods hm hm2 hl hh
 .exact(zBl l mods hm hm2 hl).mono (by omega)
theorem zSr(hh:oS l=true):TyOk (hsV l mods) 4 (yB (idR (mods+3))):=by
 obtain⟨h,e⟩:=pv3 l mods hh;have h8:=(bR l mods).2;have:=zGP hm hm2 h8 (eK l mods hm hm2 hl) h (by rw[e];exact .inl rfl) (r:=3) (fun t ht=>by
  rw[e]at ht;simp only[zCQ,jA1,jAu,or_false]at ht;rcases ht with rfl|rfl|rfl
  .exact pZ l mods hm hm2 hl hh
  .exact .list _ _ (.int _)
  .exact .int _)
 simpa using this
omit hm hm2 hl in
theorem zAk{a b:Typ}(ha:TyOk (hsV l mods) 4 a)(hb:TyOk (hsV l mods) 4 b){x:Int}(hx:w64 x=x):TyOk (hsV l mods) 4 (iO x a b):=by
 rcases zLO x a b hx with e|e|e|e|e<;>rw[e]
 .exact .int _
 .exact .bool _
 .exact .list _ _ (.int _)
 .exact ha
 .exact hb
theorem zBV:∀p∈qD l mods,(∀t∈p.types,TyOk (hsV l mods) 4 t)/\TyOk (hsV l mods) 4 p.out:=by
 have t1:=(zBl l mods hm hm2 hl).mono (show 2<=4 by omega);have t2:=(zJZ l mods hm hm2 hl).mono (show 3<=4 by omega);have t3:=(zSs l mods hm hm2 hl).mono (show 3<=4 by omega);have tR:TyOk (hsV l mods) 4 (zLT l mods):=zAk l mods t1 t1 (zDl hl (by omega) (by omega));have tL:∀(a m n:Int),0<m->m<=4->∀t∈tyL l a m n (qT mods),TyOk (hsV l mods) 4 t:=fun a m n h0 h1 t ht=>by obtain⟨i,rfl⟩:=zCZ ht;exact zAk l mods t1 t1 (zDl hl h0 (by omega))
 intro p hp;simp only[qD,plB,plC,plD,plE,jAa,jA1]at hp;rcases hp with ((rfl|rfl|h)|h)|rfl|h|rfl|h
 .exact⟨tL _ _ _ (by omega) (by omega),.int _⟩
 .refine⟨fun t ht=>?_,.int _⟩;rcases jA1.1 ht with rfl|ht
  .exact .int _
  .exact tL _ _ _ (by omega) (by omega) t ht
 .simp at h
 .split at h
  .rename_i hh;simp at h;rcases h with rfl|rfl
   .refine⟨fun t ht=>?_,.int _⟩;rcases jA1.1 ht with rfl|ht
    .exact .int _
    .exact tL _ _ _ (by omega) (by omega) t ht
   .refine⟨fun t ht=>?_,.int _⟩;simp only[zCQ,jA1,jAu,or_false]at ht;rcases ht with rfl|rfl|rfl
    .exact(pZ l mods hm hm2 hl hh).mono (by omega)
    .exact .list _ _ (.int _)
    .exact .int _
  .simp at h
 .refine⟨fun t ht=>?_,tR⟩;simp only[pF,rQ,jA1]at ht;rcases ht with rfl|ht
  .exact zAk l mods t1 t2 (zDl hl (by omega) (by omega))
  .split at ht
   .simp at ht;rw[ht];exact zAk l mods t1 t2 (zDl hl (by omega) (by omega))
   .simp at ht
 .split at h
  .rename_i hh;subst h;refine⟨fun t ht=>?_,zSr l mods hm hm2 hl hh⟩;simp only[zAV,jA1,jAu,or_false]at ht;rcases ht with rfl|rfl
   .exact(pZ l mods hm hm2 hl hh).mono (by omega)
   .exact t2
  .subst h;refine⟨fun t ht=>?_,zAk l mods t1 t2 (zDl hl (by omega) (by omega))⟩;simp only[pG,jA1,jAu,or_false]at ht;rw[ht];exact t2
 .refine⟨fun t ht=>?_,zAk l mods t1 tR (zDl hl (by omega) (by omega))⟩;simp only[pT,jAk]at ht;obtain⟨q,hq,rfl⟩:=ht;simp only[inV,jA1]at hq;rcases hq with rfl|hq
  .unfold zXO;split
   .exact .bool _
   .split
    .exact .list _ _ (.int _)
    .split
     .exact t1
     .exact .int _
  .unfold zRc at hq;split at hq
   .simp at hq;rw[hq];exact .int _
   .split at hq
    .simp at hq;rw[hq];exact .bool _
    .simp at hq
 .split at h
  .simp at h;subst h;refine⟨fun t ht=>?_,zAk l mods t1 t3 (zDl hl (by omega) (by omega))⟩;simp only[pC,jA1,jAu,or_false]at ht;rw[ht];exact t3
  .simp at h
theorem cxV(m:Mk)(hd:m.defs.map Dfn.hd=hsV l mods)(hmods:0<m.mods.length)(hml:m.l=l)(ho:m.own<=1000):Cx (hsV l mods) 4 m:=by
 obtain⟨n5,n8⟩:=bR l mods;refine⟨hd,by simp;omega,by simp;omega,hmods,hml▸hl,ho,fun k h hk=>?_,fun k h=>?_⟩
 .have h':k<(qD l mods).length:=by simpa using h
  have hg:=nB mods (qD l mods) h';rw[hg]at hk ⊢;have hpt:=zBV l mods hm hm2 hl _ (jA3 h');have hk4:k<2\/oS l=true/\k<4:=by
   by_cases h2:k<2
   .exact .inl h2
   cases hh:oS l with
   |true =>
    refine .inr ⟨rfl,?_⟩;by_cases h4:k<4
    .exact h4
    .exfalso;have hmem:(qD l mods)[k]∈plB l mods:=by
      have e:qD l mods=[cY l mods,eC l mods,i8 l mods,zCQ mods]++plB l mods:=by simp[qD,hh]
      simp only[e];rw[jC1 (by simp;omega)];exact jA3 _
     simp only[plB,plC,plD,plE,jA1]at hmem;rcases hmem with e|e|e|e
     .rw[e]at hk;simp[pF]at hk
     .rw[e]at hk;split at hk<;>simp[zAV,pG]at hk
     .rw[e]at hk;simp[pT]at hk
     .split at e
      .simp at e;rw[e]at hk;simp[pC]at hk
      .simp at e
   |false =>
    exfalso;have hmem:(qD l mods)[k]∈plB l mods:=by
     have e:qD l mods=[cY l mods,eC l mods]++plB l mods:=by simp[qD,hh]
     simp only[e];rw[jC1 (by simp;omega)];exact jA3 _
    simp only[plB,plC,plD,plE,jA1]at hmem;rcases hmem with e|e|e|e
    .rw[e]at hk;simp[pF]at hk
    .rw[e]at hk;split at hk<;>simp[zAV,pG]at hk
    .rw[e]at hk;simp[pT]at hk
    .split at e
     .simp at e;rw[e]at hk;simp[pC]at hk
     .simp at e
  have hc:k=0\/k=1\/(oS l=true/\k=2)\/(oS l=true/\k=3):=by
   rcases hk4 with h|⟨h,h'⟩
   .omega
   .have:k=0\/k=1\/k=2\/k=3:=by omega
    rcases this with e|e|e|e
    .exact .inl e
    .exact .inr (.inl e)
    .exact .inr (.inr (.inl ⟨h,e⟩))
    .exact .inr (.inr (.inr ⟨h,e⟩))
  rcases hc with rfl|rfl|⟨hh,rfl⟩|⟨hh,rfl⟩
  .have:=(zBl l mods hm hm2 hl).mono (show 2<=4 by omega)
   simpa[qT]using this
  .have:=(zJZ l mods hm hm2 hl).mono (show 3<=4 by omega)
   simpa[dH]using this
  .exact(pZ l mods hm hm2 hl hh).mono (by omega)
  .exact zSr l mods hm hm2 hl hh
 .have h':k<(qD l mods).length:=by simpa using h
  have hg:=nB mods (qD l mods) h';have hpt:=zBV l mods hm hm2 hl _ (jA3 h');rw[hg];exact⟨by simp only[lD];exact(eK l mods hm hm2 hl _ (jA3 h')).t6,fun s hs=>hpt.1 _ (zAi hs)⟩
end
end Go.Proofs.YtdnelmeboihpkaaGreatDoor
namespace Go.Proofs.YtdnelmeboihpkaaGreatDoor
open Go.Abs
theorem zRU{α:Type}(I:Nat->α->Prop)(S:Nat->α->α->Prop)(a0 : α)(h0:I 0 a0):∀n:Nat,(∀i<n,∀a,I i a->∃b,I (i+1) b/\S i a b)->∃f:Nat->α,f 0=a0/\(∀i≤n,I i (f i))/\∀i<n,S i (f i) (f (i+1))
 | 0,_=>⟨fun _=>a0,rfl,(fun i hi=>by
  obtain rfl:i=0:=by omega
  exact h0),fun i hi=>by omega⟩
 |n+1,h=>by
  obtain⟨f,f0,f1,f2⟩:=zRU I S a0 h0 n fun i hi=>h i (by omega)
  obtain⟨b,b1,b2⟩:=h n (by omega) (f n) (f1 n (jA _));refine⟨fun i=>if i<=n then f i else b,by simp[f0],fun i hi=>?_,fun i hi=>?_⟩
  .by_cases e:i<=n
   .simp only[e,if_true];exact f1 i e
   .obtain rfl:i=n+1:=by omega
    simp only[show ¬n+1<=n by omega,if_false];exact b1
  .by_cases e:i=n
   .subst e;simp only[jA,if_true,show ¬i+1<=i by omega,if_false];exact b2
   .simp only[show i<=n by omega,show i+1<=n by omega,if_true];exact f2 i (by omega)
def Dfn.wb(d:Dfn)(e:Exp):Dfn:={d with body:=e}
@[simp]theorem Dfn.hd_wb(d:Dfn)(e:Exp):(d.wb e).hd=d.hd:=rfl
def cV(d:Dfn):wI:=d.slots.map fun s=>⟨s.id,0,s.typ⟩
@[simp]theorem zA6(d:Dfn):(cV d).length=d.slots.length:=by simp[cV]
@[simp]theorem qH7(d:Dfn)(e:Exp):cV (d.wb e)=cV d:=rfl
def mkA(m:Mk)(i:Nat)(d:Dfn):Mk:={m with own:=i,home:=d.mod,left:=14,name:=0}
def mkD(m:Mk)(i:Nat)(d:Dfn):Mk:={m with defs:=m.defs.set i d}
def mkL(m:Mk):Mk:={m with left:=0}
theorem vD{ds:wP}{i:Nat}{d:Dfn}(h:ds[i]?=some d)(e:Exp):(ds.set i (d.wb e)).map Dfn.hd=ds.map Dfn.hd:=by
 apply jCe;intro j;rw[jC,jC];by_cases hj:j=i
 .subst hj;rw[jAm (jA4.1 h).1,h];rfl
 .rw[jA9 (Ne.symm hj)]
def zMe(i:Nat)(m m':Mk):Prop:=∃d,m.defs[i]?=some d /\
 ((d.kind=0\/d.kind=1)/\m'=m \/
  (d.kind≠0/\d.kind≠1)/\∃(e1:Exp) (m1:Mk),my bL [.ptr 0 0,.agg (zB d.res),.sl (cV d).length (zW (cV d)),int 4] (mkS (mkA m i d)) (.agg (zH e1)) (mkS m1)/\m1.defs=m.defs/\m1.mods=m.mods/\(tmps e1).length<=1000000000 /\
   ((tmps e1).length<=30/\m'=mkD m1 i (d.wb e1) \/
    30<(tmps e1).length/\∃(e2:Exp) (m2:Mk),my bL [.ptr 0 0,.agg (zB d.res),.sl (cV d).length (zW (cV d)),int 0] (mkS (mkL (mkD m1 i (d.wb e1)))) (.agg (zH e2)) (mkS m2)/\m2.defs=m.defs.set i (d.wb e1)/\m2.mods=m.mods /\
     m'=mkD m2 i (d.wb e2)))
structure BGood(hs:List Hd)(k:Nat)(d:Dfn)(lo hi:Int)(e:Exp):Prop where
 wt:WT hs k (cV d) e d.res
 seg:Seg lo hi (tmps e)
 num:e.num0
 len:(tmps e).length<=32768
def zMd(hs:wO)(i:Nat)(m m':Mk):Prop:=∃d,m.defs[i]?=some d/\m.temp<=m'.temp /\
 ((d.kind=0\/d.kind=1)/\m'.defs=m.defs\/(d.kind≠0/\d.kind≠1)/\∃e,m'.defs=m.defs.set i (d.wb e)/\BGood hs i d m.temp m'.temp e)
structure BInv(l:List Int)(mods:Int)(i:Nat)(m:Mk):Prop where
 heads:m.defs.map Dfn.hd=hsV l mods
 mods:m.mods=zC5 mods (qD l mods)
 l:m.l=l
 at0:0<=m.at_
 at1:m.at_<=24+i*200000000
 temp0:0<=m.temp
 temp1:m.temp<=i*200000000
theorem zNh{a b:Int}{l:wB}(h:Seg a b l)(hab:a<=b):(l.length:Int)<=b-a:=by
 have hp:(l.map fun x=>(x-a).toNat).Nodup:=by rw[jDt,jCq];refine List.Pairwise.imp_of_mem (fun {x y} hx hy hne=>?_) (jDt.1 h.nd);have:=h.rng x hx;have:=h.rng y hy;intro e;exact hne (by omega)
 have hs:(l.map fun x=>(x-a).toNat)⊆List.range (b-a).toNat:=fun n hn=>by obtain⟨x,hx,rfl⟩:=jAk.1 hn;have:=h.rng x hx;rw[jBr];omega
 have:=hp.length_le_of_subset hs;rw[jAd,List.length_range]at this;omega
section
variable{l:wB}{mods:Int}(hm:1<=mods)(hm2:mods<=2)(hl:∀x∈l,w64 x=x)
include hm hm2 hl
theorem zBC{i:Nat}{d:Dfn}(h:(hsV l mods)[i]?=some d.hd)(temp:Int):EnvOk (hsV l mods) 4 temp (cV d)/\1<=(cV d).length/\(cV d).length<=6/\TyOk (hsV l mods) 4 d.res:=by
 obtain⟨hi,he⟩:=jA4.1 h;have hi':i<(qD l mods).length:=by simpa using hi
 rw[nB mods (qD l mods) hi']at he;have hp:=eK l mods hm hm2 hl _ (jA3 hi');have ht:=zBV l mods hm hm2 hl _ (jA3 hi');obtain⟨n1,n2⟩:=lQ (show 0<=mods by omega) (fun p hp=>(eK l mods hm hm2 hl p hp).t6) i;have n8:=(bR l mods).2;have eS:d.slots=dG (bW mods (qD l mods) i) (qD l mods)[i]:=by have:=congrArg Hd.slots he;exact this.symm
 have eR:d.res=(qD l mods)[i].out:=by have:=congrArg Hd.res he;exact this.symm
 generalize (qD l mods)[i]=p at *
 generalize bW mods (qD l mods) i=nx at *
 refine⟨⟨fun b hb=>?_,?_,fun b hb h0=>?_⟩,by simp only[zA6,eS,lD];exact hp.t1,by simp only[zA6,eS,lD];exact hp.t6,by rw[eR];exact ht.2⟩
 .simp only[cV,jAk]at hb;obtain⟨s,hs,rfl⟩:=hb;rw[eS]at hs;exact ht.1 _ (zAi hs)
 .simp only[cV,eS,dG,jCg];rw[jCq];refine List.Pairwise.imp_of_mem (fun {a b} ha hb hlt=>?_) List.pairwise_lt_range;rw[jBr]at ha hb;have:=hp.t6;intro e;have:=r6 (by omega) (by omega) (by omega) (by omega) e.1;omega
 .exfalso;simp only[cV,jAk]at hb;obtain⟨s,hs,rfl⟩:=hb;rw[eS]at hs;simp only[dG,jAk,jBr]at hs;obtain⟨k,hk,rfl⟩:=hs;have:=hp.t6;have:=zVK (k:=nx+k) (by omega) (by omega);simp only[zG4]at h0;omega
theorem zSI(i:Nat)(hi:i<(qD l mods).length)(m:Mk)(h:BInv l mods i m):∃m',BInv l mods (i+1) m'/\zMe i m m'/\zMd (hsV l mods) i m m':=by
 have hlen:m.defs.length=(qD l mods).length:=by have:=congrArg List.length h.heads;simpa using this
 have n8:=(bR l mods).2;obtain⟨d,hd⟩:∃d,m.defs[i]?=some d:=⟨m.defs[i]'(by omega),by simp⟩;have hhd:(hsV l mods)[i]?=some d.hd:=by rw[<-h.heads,jC,hd];rfl
 by_cases hk:d.kind=0\/d.kind=1
 .refine⟨m,⟨h.heads,h.mods,h.l,h.at0,by have:=h.at1;omega,h.temp0,by have:=h.temp1;omega⟩,⟨d,hd,.inl ⟨hk,rfl⟩⟩,⟨d,hd,jAe _,.inl ⟨hk,rfl⟩⟩⟩
 have hk':d.kind≠0/\d.kind≠1:=⟨fun e=>hk (.inl e),fun e=>hk (.inr e)⟩;have hmne:0<m.mods.length:=by rw[h.mods];simp[zC5]
 have h89:(8:Int) ^ (4+4+1)=134217728:=by decide
 have h85:(8:Int) ^ (0+4+1)=32768:=by decide
 obtain⟨k4,_⟩:=zDC (hsV l mods) 4 (by omega) (by omega) 4 (by omega);obtain⟨k0,_⟩:=zDC (hsV l mods) 4 (by omega) (by omega) 0 (by omega);rw[h89]at k4;rw[h85]at k0;obtain⟨at0,at1,tp0,tp1⟩:=(⟨h.at0,h.at1,h.temp0,h.temp1⟩:_/\_/\_/\_);have hi8:(i:Int)<=8:=by omega
 obtain⟨eo,e1,e6,et⟩:=zBC hm hm2 hl hhd (mkA m i d).temp;have cA:Cx (hsV l mods) 4 (mkA m i d):=cxV l mods hm hm2 hl _ h.heads hmne h.l (by simp only[mkA];omega);have lA:Lim (mkA m i d) 134217728:=⟨at0,by simp only[mkA];omega,tp0,by simp only[mkA];omega,by simp only[mkA];omega,by simp only[mkA];omega,by simp only[mkA];omega,by simp only[mkA];omega⟩;obtain⟨x1,m1,g1,g2,g3,g4,g5⟩:=k4 (mkA m i d) 4 d.res (cV d) cA lA et (jA _) eo e1 (by omega);have htA:(mkA m i d).temp=m.temp:=rfl;have sl1:=zNh g4 g2.temp1;rw[htA]at sl1 g4;have a1:m.at_<=m1.at_:=g2.at1;have a2:m1.at_<=m.at_+134217728:=g2.at2;have b1:m.temp<=m1.temp:=g2.temp1;have b2:m1.temp<=m.temp+134217728:=g2.temp2;have dd:m1.defs=m.defs:=g2.defs;have dm:m1.mods=m.mods:=g2.mods;have dl:m1.l=m.l:=g2.l;by_cases h30:(tmps x1).length<=30
 .refine⟨mkD m1 i (d.wb x1),⟨?_,dm.trans h.mods,dl.trans h.l,by simp only[mkD];omega,by simp only[mkD];omega,by simp only[mkD];omega,by simp only[mkD];omega⟩,⟨d,hd,.inr ⟨hk',x1,m1,g1,dd,dm,by omega,.inl ⟨h30,rfl⟩⟩⟩,⟨d,hd,b1,.inr ⟨hk',x1,?_,g3,g4,g5,by omega⟩⟩⟩
  .simp only[mkD,dd];rw[vD hd];exact h.heads
  .simp only[mkD,dd]
 .have cB:Cx (hsV l mods) 4 (mkL (mkD m1 i (d.wb x1))):=cxV l mods hm hm2 hl _ (by simp only[mkL,mkD,dd];rw[vD hd];exact h.heads) (by simp only[mkL,mkD,dm];exact hmne) (dl.trans h.l) (by
   have:m1.own=i:=g2.own;simp only[mkL,mkD];omega)
  have nm:m1.name<=134217728:=by have:m1.name<=0+134217728:=g2.name2;omega
  have nm0:0<=m1.name:=g2.name1;have lB:Lim (mkL (mkD m1 i (d.wb x1))) 32768:=⟨by simp only[mkL,mkD];omega,by simp only[mkL,mkD];omega,by simp only[mkL,mkD];omega,by simp only[mkL,mkD];omega,by simp only[mkL,mkD];omega,by simp only[mkL,mkD];omega,nm0,by simp only[mkL,mkD];omega⟩;obtain⟨x2,m2,f1,f2,f3,f4,f5⟩:=k0 (mkL (mkD m1 i (d.wb x1))) 4 d.res (cV d) cB lB et (jA _) (zBC hm hm2 hl hhd _).1 e1 (by omega);have sl2:=zNh f4 f2.temp1;have p1:m1.at_<=m2.at_:=f2.at1;have p2:m2.at_<=m1.at_+32768:=f2.at2;have q1:m1.temp<=m2.temp:=f2.temp1;have q2:m2.temp<=m1.temp+32768:=f2.temp2;have dd2:m2.defs=m.defs.set i (d.wb x1):=by have:=f2.defs;rw[this];simp only[mkL,mkD,dd]
  have dm2:m2.mods=m.mods:=by have:=f2.mods;rw[this];simp only[mkL,mkD,dm]
  have dl2:m2.l=m.l:=by have:=f2.l;rw[this];simp only[mkL,mkD,dl]
  have hset:(m.defs.set i (d.wb x1)).set i (d.wb x2)=m.defs.set i (d.wb x2):=by rw[List.set_set]
  have o1:m1.own=i:=g2.own;have hwt:WT (hsV l mods) i (cV d) x2 d.res:=by have:(mkL (mkD m1 i (d.wb x1))).own=i:=o1;rw[this]at f3;exact f3
  have ht1:(mkL (mkD m1 i (d.wb x1))).temp=m1.temp:=rfl;rw[ht1]at f4 sl2;refine⟨mkD m2 i (d.wb x2),⟨?_,dm2.trans h.mods,dl2.trans h.l,by simp only[mkD];omega,by simp only[mkD];omega,by simp only[mkD];omega,by simp only[mkD];omega⟩,⟨d,hd,.inr ⟨hk',x1,m1,g1,dd,dm,by omega,.inr ⟨by omega,x2,m2,f1,dd2,dm2,rfl⟩⟩⟩,
   ⟨d,hd,by simp only[mkD];omega,.inr ⟨hk',x2,?_,hwt,f4.mono b1 (jAe _),f5,by omega⟩⟩⟩
  .simp only[mkD,dd2,hset];rw[vD hd];exact h.heads
  .simp only[mkD,dd2,hset]
theorem zN1(m0:Mk)(h0:BInv l mods 0 m0):∃ms:Nat->Mk,ms 0=m0/\(∀i≤(qD l mods).length,BInv l mods i (ms i))/\∀i<(qD l mods).length,zMe i (ms i) (ms (i+1))/\zMd (hsV l mods) i (ms i) (ms (i+1)) :=
 zRU (BInv l mods) (fun i m m'=>zMe i m m'/\zMd (hsV l mods) i m m') m0 h0 _ fun i hi a ha=>by obtain⟨b,h1,h2⟩:=zSI hm hm2 hl i hi a ha;exact⟨b,h1,h2⟩
end
end Go.Proofs.YtdnelmeboihpkaaGreatDoor
namespace Go.Abs
theorem zXy{P:Program}{KD:Env->Prop}{env:Env} {U:St}{d:wC}{f:FuncId}{args args':wE} {U0:St}{r:A}(h:Ret P f args U0 r U0)(js:wA)(hd:js.Nodup)(ho:yX U jX (qH js) js U0)(ha:cZ js args' args)
 (hr:ren js U.length r=r)(hp:qS U js (U0.map (bX js U.length)) = U)(hq:KD (env.put d r)):sO P U d KD f args' env:=by
 refine⟨r,b6 h js hd ho ha ?_,hq⟩;rw[hr,hp];simp
end Go.Abs
namespace Go.Proofs.YtdnelmeboihpkaaGreatDoor
open Go.Abs
def lY:List Id->Int->List Int->wF
 |ids,_,[]=>ids
 |ids,next,c::cs=>lY (ids.set c.toNat (idR next)) (next+1) cs
theorem zG1(c:Int):∀(cs:wB) (ids:wF) (next:Int),lY ids next (cs++[c])=(lY ids next cs).set c.toNat (idR (next+cs.length))
 |[],ids,next=>by simp[lY]
 |x::cs,ids,next=>by simp only[jBa,lY];rw[zG1 c cs,jAb,show next+1+(cs.length:Int)=next+((cs.length+1:Nat):Int) by omega]
theorem zOX{cs:wB}{k:Nat}(h:k<cs.length)(ids:wF)(next:Int):lY ids next (cs.take (k+1))=(lY ids next (cs.take k)).set cs[k].toNat (idR (next+k)):=by rw[jA8 h,zG1,jAq,jAt (by omega)]
@[simp]theorem zBf:∀(cs:wB) (ids:wF) (next:Int),(lY ids next cs).length=ids.length
 |[],_,_=>rfl
 |_::cs,ids,next=>by simp only[lY];rw[zBf cs,jBy]
theorem zEH{c:Nat}:∀(cs:wB) (ids:wF) (next:Int),(∀x∈cs,0<=x/\x≠c)->(lY ids next cs)[c]?=ids[c]?
 |[],_,_,_=>rfl
 |x::cs,ids,next,h=>by simp only[lY];obtain⟨h1,h2⟩:=h x (by simp);rw[zEH cs _ _ (fun y hy=>h y (by simp[hy])),jA9 (by omega)]
theorem zJP:∀(cs:wB) (ids:wF) (next:Int),cs.Nodup->(∀x∈cs,0<=x/\x<ids.length)->∀(k:Nat) (h:k<cs.length),oT (lY ids next cs) cs[k]=idR (next+k)
 |[],_,_,_,_,k,h=>by simp at h
 |x::cs,ids,next,hn,hb,0,h=>by
  rw[jD3]at hn;obtain⟨h1,h2⟩:=hb x (by simp);obtain⟨n,rfl⟩:∃n:Nat,x=n:=⟨x.toNat,by omega⟩;have hne:∀y∈cs,0<=y/\y≠n:=fun y hy=>⟨(hb y (by simp[hy])).1,fun e=>hn.1 (e▸hy)⟩
  simp only[jCl,lY,oT,jCp,jBe];rw[zEH cs _ _ hne,jAm (by omega)];simp
 |x::cs,ids,next,hn,hb,k+1,h=>by rw[jD3]at hn;simp only[lY,jDd];have:=zJP cs (ids.set x.toNat (idR next)) (next+1) hn.2 (fun y hy=>by rw[jBy];exact hb y (by simp[hy])) k (by simpa using h);rw[this,show next+1+(k:Int)=next+((k+1:Nat):Int) by omega]
def fA(d:Dfn):Bool:=!(decide (d.kind=0)||decide (d.kind=1))
structure NSt where
 ds:List Dfn
 ids:List Id
 next:Int
def zGj(s:NSt)(i:Nat):NSt:=match s.ds[i]? with
 |some d=>if fA d then ⟨s.ds.set i (d.wb (gY (oT (lY s.ids s.next (tmps d.body))) d.body)),lY s.ids s.next (tmps d.body),s.next+(tmps d.body).length⟩ else s
 |none=>s
def eB(s:NSt):Nat->NSt
 | 0=>s
 |i+1=>zGj (eB s i) i
theorem uJ(s:NSt):∀i:Nat,(eB s i).ds.length=s.ds.length/\(eB s i).ids.length=s.ids.length
 | 0=>⟨rfl,rfl⟩
 |i+1=>by
  have ih:=uJ s i;simp only[eB,zGj];split
  .split
   .simp[ih]
   .exact ih
  .exact ih
theorem sB(s:NSt):∀(i j:Nat),i<=j->(eB s i).ds[j]?=s.ds[j]?
 | 0,j,_=>rfl
 |i+1,j,h=>by
  have ih:=sB s i j (by omega);simp only[eB,zGj];split
  .split
   .simp only;rw[jA9 (by omega),ih]
   .exact ih
  .exact ih
theorem zBO(s:NSt){i:Nat}{d:Dfn}(hd:s.ds[i]?=some d):eB s (i+1)=if fA d then ⟨(eB s i).ds.set i (d.wb (gY (oT (lY (eB s i).ids (eB s i).next (tmps d.body))) d.body)),lY (eB s i).ids (eB s i).next (tmps d.body),(eB s i).next+(tmps d.body).length⟩ else eB s i:=by simp only[eB,zGj];rw[sB s i i (jA _),hd]
theorem zEe(s:NSt):∀i:Nat,(eB s i).ds.map Dfn.hd=s.ds.map Dfn.hd
 | 0=>rfl
 |i+1=>by
  have ih:=zEe s i;simp only[eB,zGj];split
  .rename_i d hd;split
   .simp only;rw[vD hd,ih]
   .exact ih
  .exact ih
theorem zGi(s:NSt){i:Nat}:∀(j:Nat),i<j->(eB s j).ds[i]?=(eB s (i+1)).ds[i]?
 | 0,h=>by omega
 |j+1,h=>by
  by_cases e:i=j
  .rw[e]
  .have ih:=zGi s (i:=i) j (by omega);rw[<-ih];simp only[eB,zGj];split
   .split
    .simp only;rw[jA9 (by omega)]
    .rfl
   .rfl
theorem zB2{ds:wP}{i:Nat}(h:i<ds.length)(e:Exp):(z7 ds).take (i*31+14)++(zH e++(z7 ds).drop (i*31+14+15))=z7 (ds.set i (ds[i].wb e)):=by
 have hs:=zK2 (ds[i].wb e) h;rw[<-hs];have hd:=j6 h;have h1:(z7 ds).take (i*31+14)=(z7 ds).take (i*31)++(zI ds[i]).take 14:=by rw[List.take_add,hd,jBz (by simp)]
 have h2:(z7 ds).drop (i*31+14+15)=(zI ds[i]).drop 29++(z7 ds).drop (i*31+31):=by
  have h3:(z7 ds).drop (i*31+31)=z7 (ds.drop (i+1)):=by rw[<-jBb,hd,jD4 (zIx _)]
  rw[h3,jBp,<-jBb,hd,List.drop_append_of_le_length (by simp)]
 rw[h1,h2,jAp]
 congr 1
end Go.Proofs.YtdnelmeboihpkaaGreatDoor
