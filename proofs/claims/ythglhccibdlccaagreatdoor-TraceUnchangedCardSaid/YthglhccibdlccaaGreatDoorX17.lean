/-
  The maker's plans: what definitions are to be made.
  The reference's nodes, in preorder; the first node with an ID; same nodes and definitions.
  The maker's plans.
  The reference's comparisons of nodes and definitions.
  Tweaked nodes, other names.
  The maker's plans: the types of records and variants; all plans.
  What the reference says of changes, as data: the same set.
  The maker's definitions before their bodies: what is known of them.
  The reference's changes, walked.
  The types of the maker's definitions are types of the program.
-/
import Derived.Test.YthglhccibdlccaaGreatDoorX16
import Derived.Test.YthglhccibdlccaaGreatDoorX13
import Derived.Test.YthglhccibdlccaaGreatDoorX10
import Derived.Test.YthglhccibdlccaaGreatDoorX8
set_option linter.unusedVariables false
set_option maxHeartbeats 8000000
set_option maxRecDepth 100000
set_option linter.unusedSimpArgs false
open Go.Proofs.Tryz (prog)
namespace Go.Proofs.YthglhccibdlccaaGreatDoor
open Go.Abs
def qHD:K:=G [kO 4 1,kO 5 2,kZ 6 kz2] (Z (K.dops [(0,0,kb 7 kz2 []),(1,0,kb 8 kz2 [(0,1,(kc 1))]),(2,0,kb 9 kz2 []),(3,0,kC 10 74 [(kt 9)]),(4,0,J 11 4 5),(5,0,J 12 5 5),(6,0,kb 13 kz2 []),(7,0,kd 14 33 5 6 qQO [(0,5,(kt 7)),(5,5,(kt 8)),(10,5,(kt 10)),(15,5,(kt 11)),(20,5,(kt 12)),(25,5,(kt 13))]),(8,0,M 15 0),(9,0,kC 16 12 [(kt 15),(kc 6)]),(10,0,kX 17 14 16 5),(11,0,J 18 17 5),(12,0,S 6 18 5)]) kr)
theorem qO9:zL prog Tryz.f73.ntmps (Tryz.f73.body.getD .skip)=some qHD.erase:=by kernel_rfl
@[simp] theorem qPQ:zA prog 73=true:=by kernel_rfl
def zUV:K:=(G [M 72 9,M 73 10,M 6 72,M 7 73] kr)
def zUU:K:=(G [M 50 0,M 51 1,kBi 52 51 2 .add,kC 53 31 [(kt 50),(kt 52),(kc 3)],M 11 53] (Z (G [M 54 11,kQi 55 54 1 false] (Y 55 (G [M 56 9,kb 57 kz2 [],kd 58 33 5 1 kz2 [(0,5,(kt 57))],kP 59 33 5 56 56 58,M 9 59] (K.ops [M 60 10,kd 61 3 1 1 [ki] [(0,1,(kc 1))],kP 62 3 1 8 60 61,M 10 62])) ks)) (Z (G [M 63 11,kQi 64 63 2 false] (Y 64 (G [M 65 9,kb 66 kz2 [(0,1,(kc 1))],kd 67 33 5 1 kz2 [(0,5,(kt 66))],kP 68 33 5 56 65 67,M 9 68] (K.ops [M 69 10,kd 70 3 1 1 [ki] [(0,1,(kc 0))],kP 71 3 1 8 69 70,M 10 71])) ks)) (K.wk zUV))))
def qHs:K:=G [kO 5 2,kMn 6,kMn 7] (G [M 12 0,M 13 1,kC 14 31 [(kt 12),(kt 13),(kc 5)],M 8 14] (G [kb 15 kz2 [],⟨none,.brow (some 16) 33 5 1 kz2 [(0,5,(kt 15))]⟩,M 9 16] (G [M 17 0,M 18 1,kBi 19 18 1 .add,kC 20 31 [(kt 17),(kt 19),(kc 3)],⟨none,.bin (some 21) .add (kc 1) (kt 20)⟩,⟨none,.brow (some 22) 3 1 1 [ki] [(0,1,(kt 21))]⟩,M 10 22] (Z (G [M 23 8,kQi 24 23 1 false] (Y 24 (G [M 25 9,kb 26 kz2 [(0,1,(kc 1))],kXi 27 25 5 0,S 27 26 5] (K.ops [M 28 10,kXi 29 28 1 0,⟨none,.st none (kt 29) (kc 0) 1⟩])) ks)) (Z (G [M 30 8,kQi 31 30 2 false] (Y 31 (G [M 32 9,kb 33 kz2 [],kC 34 74 [(kt 33)],kXi 35 32 5 0,S 35 34 5] (K.ops [M 36 10,M 37 0,M 38 1,kBi 39 38 1 .add,kC 40 31 [(kt 37),(kt 39),(kc 2)],⟨none,.bin (some 41) .add (kc 1) (kt 40)⟩,kXi 42 36 1 0,S 42 41 1])) ks)) (Z (G [M 43 8,kQi 44 43 3 false] (Y 44 (G [M 45 9,J 46 5 5,kXi 47 45 5 0,S 47 46 5] (K.ops [M 48 10,kXi 49 48 1 0,⟨none,.st none (kt 49) (kc 1) 1⟩])) ks)) (K.wk zUU)))))))
theorem qOo:zL prog Tryz.f75.ntmps (Tryz.f75.body.getD .skip)=some qHs.erase:=by kernel_rfl
@[simp] theorem qPr:zA prog 75=true:=by kernel_rfl
def zCD (x:Int)(one two:Typ):Typ:=[jT,yC,jV jT,one,two,jT].getD (zA4 x 6).toNat jT
theorem zN9 (x:Int)(one two:Typ)(hx:w64 x=x):Ret prog 73 [int x,.agg (zB one),.agg (zB two)] [] (.agg (zB (zCD x one two))) []:=by
 obtain⟨k0,k6⟩:=zC2 (k:=6) hx (by omega);have ha:=zG1 x 6 (by omega);have hk:zA4 x 6=0∨zA4 x 6=1∨zA4 x 6=2∨zA4 x 6=3∨zA4 x 6=4∨zA4 x 6=5:=by omega
 unfold zCD;generalize zA4 x 6=k at ha k0 k6 hk;refine zI Tryz.func73 rfl qO9 (rs:=[.cell 6 5 true]) (by kernel_rfl) ?_;unfold qHD;simp[zB];refine qK zLm (by simp[zB,jT]) (by simp) ?_;simp[zB];refine qK ha (by simp) (by simp) ?_;rcases hk with rfl | rfl | rfl | rfl | rfl | rfl
 all_goals
  simp[zB,jT,yC,jV];exact zC 0 (by simp[zB,jT,yC,jV,Id.zero,qN])
def qDG (l:List Int)(at_:Int)(point:Typ):Typ×Int:=if atV l at_ 5=1 then (yC,0) else if atV l at_ 5=2 then (jV jT,1+atV l (at_+1) 2) else if atV l at_ 5=3 then (point,1) else (jT,1+atV l (at_+1) 3)
def zWP (l:List Int)(at_:Int):List (Typ×Int):=if atV l (at_+2) 3=1 then [(jT,1)] else if atV l (at_+2) 3=2 then [(yC,0)] else []
def inV (l:List Int)(at_:Int)(point:Typ):List (Typ×Int):=qDG l at_ point::zWP l at_
def zQ2 (L:List (Typ×Int)):List A:=jH (L.map (·.1))
def zJU (L:List (Typ×Int)):List A:=yH (L.map (·.2))
def inR (L:List (Typ×Int)):A:=.tup [.sl L.length (zQ2 L),.sl L.length (zJU L)]
theorem zWQ (l:List Int)(at_:Int)(ha:0≤at_)(ha':at_≤1000)(hl:∀x∈l,w64 x=x)(p:Typ×Int) :
 wpK prog 0 zUU (fin [RS.slot 6,RS.slot 7] (zGS 0 (inR (p::zWP l at_)) [])) (qT [(0,.sl l.length (yH l)),(1,int at_),(9,.row 0 1),(10,.row 1 1)])
  [.row false 33 5 1 (zB p.1),.row false 3 1 1 [int p.2]]:=by
 have w2:=qF (at_+2) (by omega);have h3:=zB2 l (at_+2) 3 (by omega);unfold zWP;generalize atV l (at_+2) 3=z at *
 have tailU:∀L:List (Typ×Int),wpK prog 0 zUV (fin [RS.slot 6,RS.slot 7] (zGS 0 (inR L) [])) (qT [(9,.sl L.length (zQ2 L)),(10,.sl L.length (zJU L))]) []:=fun L=>by unfold zUV;simp;exact zC 0 (by simp[inR,zQ2,zJU])
 unfold zUU;simp[w2];refine zT h3 (by simp) (by simp) ?_;by_cases hz1:z=1
 ·simp[hz1,maxLen];exact⟨_,_,zR [] 1 (by decide) (by simp) (by simp) (by simp[zQ2,zJU,qN,zB,jT,Id.zero]),tailU _⟩
 ·by_cases hz2:z=2
  ·simp[hz1,hz2,maxLen];exact⟨_,_,zR [] 1 (by decide) (by simp) (by simp) (by simp[zQ2,zJU,qN,zB,yC,Id.zero]),tailU _⟩
  ·simp[hz1,hz2,maxLen];exact⟨_,_,zR [] 1 (by decide) (by simp) (by simp) (by simp[zQ2,zJU,qN,zB,yC,Id.zero]),tailU _⟩
theorem qDH (l:List Int)(at_:Int)(point:Typ)(ha:0≤at_)(ha':at_≤1000)(hl:∀x∈l,w64 x=x) :
 Ret prog 75 [.sl l.length (yH l),int at_,.agg (zB point)] [] (inR (inV l at_ point)) []:=by
 have w1:=qF (at_+1) (by omega);have h0:=zB2 l at_ 5 (by omega)
 have h1:=zB2 l (at_+1) 3 (by omega);have h2:=zB2 l (at_+1) 2 (by omega);have ht:=zWQ l at_ ha ha' hl
 obtain⟨r1,r1'⟩:=yM (i:=at_+1) hl (most:=3) (by omega);obtain⟨r2,r2'⟩:=yM (i:=at_+1) hl (most:=2) (by omega);unfold inV qDG;generalize atV l at_ 5=x at *
 generalize atV l (at_+1) 3=y1 at *
 generalize atV l (at_+1) 2=y2 at *
 have v1:=qF (1+y1) (by omega);have v2:=qF (1+y2) (by omega);refine zK Tryz.func75 rfl qOo (rs:=[.slot 6,.slot 7]) (by kernel_rfl) ?_;unfold qHs;simp[zB];refine zT h0 (by simp) (by simp) ?_;simp[w1];refine zT h1 (by simp) (by simp) ?_;by_cases hx1:x=1
 ·simp[v1,hx1];exact⟨_,_,zR [1,2] 0 (by decide) (by simp) (by simp[zB,yC,Id.zero]) (by simp),ht (yC,0)⟩
 ·by_cases hx2:x=2
  ·simp[v1,hx1,hx2];refine zT zLm (by simp[zB,jT,Id.zero]) (by simp) ?_;simp[zB,w1];refine zT h2 (by simp) (by simp) ?_;simp[v2];exact⟨_,_,zR [1,2] 0 (by decide) (by simp) (by simp[zB,jV,Id.zero]) (by simp),ht (jV jT,1+y2)⟩
  ·by_cases hx3:x=3
   ·simp[v1,hx1,hx2,hx3];exact⟨_,_,zR [1,2] 0 (by decide) (by simp) (by simp[zB]) (by simp),ht (point,1)⟩
   ·simp[v1,hx1,hx2,hx3];exact⟨_,_,zR [1,2] 0 (by decide) (by simp) (by simp[zB,jT,Id.zero]) (by simp),ht (jT,1+y1)⟩
@[simp] theorem qIT:zA prog 111=true:=by kernel_rfl
@[simp] theorem qFb:zA prog 62=true:=by kernel_rfl
@[simp] theorem qIX:zA prog 63=true:=by kernel_rfl
@[simp] theorem qJc:zA prog 64=true:=by kernel_rfl
@[simp] theorem qJb:zA prog 60=true:=by kernel_rfl
def qAE:K:=G [kO 1 0,kMb 2 false] (G [D 3 1 3,L 4 3 1,kQi 5 4 2 false,M 6 5,T 6 false (D 7 1 3),T 6 false (L 8 7 1),T 6 false (kQi 9 8 3 false),kPt 10 6 9,M 11 10,T 11 false (D 12 1 3),T 11 false (L 13 12 1),T 11 false (kQi 14 13 4 false),kPt 15 11 14,M 16 15,T 16 false (D 17 1 3),T 16 false (L 18 17 1),T 16 false (kQi 19 18 5 false),kPt 20 16 19,M 2 20] kr)
theorem qI4:zL prog Tryz.f25.ntmps (Tryz.f25.body.getD .skip)=some qAE.erase:=by kernel_rfl
@[simp] theorem qLN:zA prog 25=true:=by kernel_rfl
mutual
def zAm:Exp→List Exp
 | .mk a b c d t ks ns=>.mk a b c d t ks ns::zAe ks
def zAe:List Exp→List Exp
 | []=>[]
 | e::l=>zAm e++zAe l
end
theorem zCm (e:Exp):zAm e=e::zAe e.kids:=by cases e; simp only[zAm,Exp.kids]
theorem zOF (e:Exp):∀l:List Exp,zAe (l++[e])=zAe l++zAm e
 | []=>by simp[zAe]
 | x::l=>by simp[zAe,zOF e l]
mutual
theorem zK8:∀e:Exp,(zAm e).length=(tmps e).length
 | .mk a b c d t ks ns=>by have:=zK9 ks;simp only[zAm,tmps,jAd,jA5,jBm,this]
theorem zK9:∀l:List Exp,(zAe l).length=(jL l).length
 | []=>rfl
 | e::l=>by have:=zK8 e;have:=zK9 l;simp only[zAe,jL,jA5, *]
end
theorem zS8 (d:Dfn):Ret prog 25 [.agg (zO d)] [] (bl (zAI d.kind)) []:=by
 refine zK Tryz.func25 rfl qI4 (rs:=[.slot 2]) (by kernel_rfl) ?_;unfold qAE;by_cases h2:d.kind=2
 ·simp[zO,h2];exact zC 0 (by simp[zAI,h2])
 ·by_cases h3:d.kind=3
  ·simp[zO,h3];exact zC 0 (by simp[zAI,h3])
  ·by_cases h4:d.kind=4
   ·simp[zO,h4];exact zC 0 (by simp[zAI,h4])
   ·simp[zO,h2,h3,h4];exact zC 0 (by simp[zAI,h2,h3,h4])
def zAi (ds:List Dfn):List Exp:=ds.flatMap fun d=>if zAI d.kind then zAm d.body else []
theorem zUq (ds:List Dfn)(B:Nat)(h:∀d∈ds,(tmps d.body).length≤B):(zAi ds).length≤ds.length*B:=by
 induction ds with
 | nil=>simp[zAi]
 | cons d ds ih =>
  have h1:=h d (by simp);have h2:=ih fun d hd=>h d (by simp[hd])
  have e:zAi (d::ds)=(if zAI d.kind then zAm d.body else [])++zAi ds:=by simp[zAi]
  rw[e,jA5,jAd,jC8];have h3:(if zAI d.kind=true then zAm d.body else []).length≤B:=by
   split
   ·rw[zK8]; exact h1
   ·simp
  omega
def zVf:K:=(G [M 212 10,M 4 212] kr)
def zVe:K:=(Z (G [M 196 0,kC 197 31 [(kt 196),(kc 22),(kc 4)],kBi 198 197 0 .gtr] (Y 198 (K.dops [(0,0,M 199 10),(1,0,J 200 13 5),(2,0,kd 201 33 5 1 kz2 [(0,5,(kt 200))]),(3,0,⟨none,.bslice (some 202) 9 1 1 [(.string ⟨#[]⟩)] [(0,1,(.const (.string ⟨#[111,108,100]⟩)))]⟩),(4,0,M 203 0),(5,0,kC 204 31 [(kt 203),(kc 23),(kc 6)]),(6,0,J 205 6 5),(7,0,J 206 13 5),(8,0,kC 207 73 [(kt 204),(kt 205),(kt 206)]),(9,0,M 208 12),(10,0,⟨none,.build (some 209) kz3 [(0,1,(kc 5)),(1,1,(.const (.string ⟨#[99]⟩))),(2,1,(kt 201)),(3,1,(kt 202)),(5,5,(kt 207)),(10,1,(kt 208))]⟩),(11,0,kd 210 88 11 1 kz3 [(0,11,(kt 209))]),(12,0,kP 211 88 11 160 199 210),(13,0,M 10 211)]) ks)) (K.wk zVf))
def zVd:K:=(G [M 178 0,J 179 6 5,kC 180 75 [(kt 178),(kc 18),(kt 179)],M 177 180,kE 181 177 0,kE 182 177 1,M 17 181,M 18 182] (Z (K.dops [(0,0,M 183 10),(1,0,M 184 17),(2,0,⟨none,.bslice (some 185) 9 1 2 [(.string ⟨#[]⟩),(.string ⟨#[]⟩)] [(0,1,(.const (.string ⟨#[97]⟩))),(1,1,(.const (.string ⟨#[98]⟩)))]⟩),(3,0,M 186 18),(4,0,M 187 0),(5,0,kC 188 31 [(kt 187),(kc 21),(kc 6)]),(6,0,J 189 6 5),(7,0,J 190 16 5),(8,0,kC 191 73 [(kt 188),(kt 189),(kt 190)]),(9,0,M 192 12),(10,0,⟨none,.build (some 193) kz3 [(0,1,(kc 4)),(1,1,(.const (.string ⟨#[116]⟩))),(2,1,(kt 184)),(3,1,(kt 185)),(4,1,(kt 186)),(5,5,(kt 191)),(10,1,(kt 192))]⟩),(11,0,kd 194 88 11 1 kz3 [(0,11,(kt 193))]),(12,0,kP 195 88 11 160 183 194),(13,0,M 10 195)]) (K.wk zVe)))
def zVc:K:=(G [M 134 0,M 135 1,kC 136 31 [(kt 134),(kc 15),(kt 135)],M 15 136] (Z (K.dops [(0,0,M 137 0),(1,1,kC 138 31 [(kt 137),(kc 16),(kc 6)]),(2,1,J 139 6 5),(3,1,J 140 6 5),(4,1,kC 141 73 [(kt 138),(kt 139),(kt 140)]),(5,0,kZ 16 kz2),(6,0,S 16 141 5)]) (G [M 142 10,M 143 8,⟨none,.bslice (some 144) 9 1 2 [(.string ⟨#[]⟩),(.string ⟨#[]⟩)] [(0,1,(.const (.string ⟨#[97]⟩))),(1,1,(.const (.string ⟨#[98]⟩)))]⟩,J 145 16 5,M 146 15,⟨none,.build (some 147) kz3 [(0,1,(kc 2)),(1,1,(.const (.string ⟨#[102]⟩))),(2,1,(kt 143)),(3,1,(kt 144)),(5,5,(kt 145)),(10,1,(kt 146))]⟩,kd 148 88 11 1 kz3 [(0,11,(kt 147))],kP 149 88 11 160 142 148,M 10 149] (Z (G [M 150 5] (Y 150 (K.dops [(0,0,M 151 10),(1,0,J 152 13 5),(2,0,J 153 7 5),(3,0,kd 154 33 5 2 [ki,ki,ki,ki,kl,ki,ki,ki,ki,kl] [(0,5,(kt 152)),(5,5,(kt 153))]),(4,0,⟨none,.bslice (some 155) 9 1 2 [(.string ⟨#[]⟩),(.string ⟨#[]⟩)] [(0,1,(.const (.string ⟨#[115]⟩))),(1,1,(.const (.string ⟨#[101]⟩)))]⟩),(5,0,M 156 1),(6,0,kBi 157 156 3 .add),(7,0,kC 158 32 [(kt 157)]),(8,0,kC 159 72 [(kt 158)]),(9,0,M 160 12),(10,0,⟨none,.build (some 161) kz3 [(0,1,(kc 3)),(1,1,(.const (.string ⟨#[115,116,101,112]⟩))),(2,1,(kt 154)),(3,1,(kt 155)),(5,5,(kt 159)),(10,1,(kt 160))]⟩),(11,0,kd 162 88 11 1 kz3 [(0,11,(kt 161))]),(12,0,kP 163 88 11 160 151 162),(13,0,M 10 163)]) (K.dops [(0,0,M 164 10),(1,0,J 165 7 5),(2,0,kd 166 33 5 1 kz2 [(0,5,(kt 165))]),(3,0,⟨none,.bslice (some 167) 9 1 1 [(.string ⟨#[]⟩)] [(0,1,(.const (.string ⟨#[101]⟩)))]⟩),(4,0,
 M 168 0),(5,0,kC 169 31 [(kt 168),(kc 17),(kc 6)]),(6,0,J 170 6 5),(7,0,J 171 7 5),(8,0,kC 172 73 [(kt 169),(kt 170),(kt 171)]),(9,0,M 173 12),(10,0,⟨none,.build (some 174) kz3 [(0,1,(kc 2)),(1,1,(.const (.string ⟨#[103]⟩))),(2,1,(kt 166)),(3,1,(kt 167)),(5,5,(kt 172)),(10,1,(kt 173))]⟩),(11,0,kd 175 88 11 1 kz3 [(0,11,(kt 174))]),(12,0,kP 176 88 11 160 164 175),(13,0,M 10 176)]))) (K.wk zVd)))))
def zVb:K:=(Z (K.dops [(0,0,M 117 0),(1,0,kC 118 31 [(kt 117),(kc 12),(kc 6)]),(2,0,J 119 6 5),(3,0,J 120 7 5),(4,0,kC 121 73 [(kt 118),(kt 119),(kt 120)]),(5,9,⟨none,.brow (some 122) 33 5 1 kz2 [(0,5,(kt 121))]⟩),(6,0,M 8 122)]) (Z (G [M 123 0,kC 124 31 [(kt 123),(kc 13),(kc 2)],kQi 125 124 1 false] (Y 125 (K.dops [(0,0,M 126 8),(1,0,M 127 0),(2,0,kC 128 31 [(kt 127),(kc 14),(kc 6)]),(3,0,J 129 6 5),(4,0,J 130 7 5),(5,0,kC 131 73 [(kt 128),(kt 129),(kt 130)]),(6,0,kd 132 33 5 1 kz2 [(0,5,(kt 131))]),(7,0,kP 133 33 5 56 126 132),(8,0,M 8 133)]) ks)) (K.wk zVc)))
def zVh:K:=(G [M 69 10,M 70 8,⟨none,.bslice (some 71) 9 1 3 zWX [(0,1,(.const (.string ⟨#[84,105,99,107]⟩))),(1,1,(.const (.string ⟨#[80,117,115,104]⟩))),(2,1,(.const (.string ⟨#[83,101,116]⟩)))]⟩,⟨none,.build (some 72) kz3 [(0,1,(kc 1)),(1,1,(.const (.string ⟨#[69,118,101,110,116]⟩))),(2,1,(kt 70)),(3,1,(kt 71))]⟩,kd 73 88 11 1 kz3 [(0,11,(kt 72))],kP 74 88 11 160 69 73,M 10 74] (G [M 75 1,kBi 76 75 1 .sub,M 12 76] (G [J 77 6 5,kZ 13 kz2,S 13 77 5] (Z (G [M 78 5] (Y 78 (G [kb 79 kz2 [],⟨none,.brow (some 80) 33 5 1 kz2 [(0,5,(kt 79))]⟩,M 8 80] (Z (G [kMi 14 0] (K.block 4 (K.loop (Z (G [M 81 14,M 82 0,kC 83 31 [(kt 82),(kc 9),(kc 3)],kB 84 81 83 .lss] (Y 84 ks (K.exit 4))) (Z (K.block 5 (K.dops [(0,0,M 87 8),(1,0,M 88 0),(2,0,M 89 14),(3,0,⟨none,.bin (some 90) .add (kc 10) (kt 89)⟩),(4,0,kC 91 31 [(kt 88),(kt 90),(kc 4)]),(5,0,J 92 6 5),(6,0,J 93 6 5),(7,0,kC 94 73 [(kt 91),(kt 92),(kt 93)]),(8,0,kd 95 33 5 1 kz2 [(0,5,(kt 94))]),(9,0,kP 96 33 5 56 87 95),(10,0,M 8 96)])) (K.ops [M 85 14,kBi 86 85 1 .add,M 14 86])))))) (Z (K.wk (K.ops [M 97 1,kBi 98 97 2 .add,kC 99 32 [(kt 98)],kC 100 72 [(kt 99)],S 13 100 5])) (G [M 101 10,M 102 8,⟨none,.bslice (some 103) 9 1 3 zWX [(0,1,(.const (.string ⟨#[99,111,117,110,116]⟩))),(1,1,(.const (.string ⟨#[108,111,103]⟩))),(2,1,(.const (.string ⟨#[109,111,114,101]⟩)))]⟩,⟨none,.build (some 104) kz3 [(0,1,(kc 0)),(1,1,(.const (.string ⟨#[83,116,97,116,101]⟩))),(2,1,(kt 102)),(3,1,(kt 103))]⟩,kd 105 88 11 1 kz3 [(0,11,(kt 104))],kP 106 88 11 160 101 105,
 M 10 106] (K.dops [(0,0,M 107 10),(1,0,J 108 13 5),(2,0,kb 109 kz2 []),(3,0,kC 110 74 [(kt 109)]),(4,0,kb 111 kz2 []),(5,0,kd 112 33 5 3 qQP [(0,5,(kt 108)),(5,5,(kt 110)),(10,5,(kt 111))]),(6,0,⟨none,.bslice (some 113) 9 1 3 zWX [(0,1,(.const (.string ⟨#[115,116,97,116,101]⟩))),(1,1,(.const (.string ⟨#[115,105,103,110,97,108,115]⟩))),(2,1,(.const (.string ⟨#[110,101,120,116]⟩)))]⟩),(7,0,⟨none,.build (some 114) kz3 [(0,1,(kc 0)),(1,1,(.const (.string ⟨#[79,117,116]⟩))),(2,1,(kt 112)),(3,1,(kt 113))]⟩),(8,0,kd 115 88 11 1 kz3 [(0,11,(kt 114))]),(9,0,kP 116 88 11 160 107 115),(10,0,M 10 116)]))))) ks)) (K.wk zVb)))))
def zVg:K:=(G [M 46 8,⟨none,.bslice (some 47) 9 1 3 zWX [(0,1,(.const (.string ⟨#[120]⟩))),(1,1,(.const (.string ⟨#[121]⟩))),(2,1,(.const (.string ⟨#[122]⟩)))]⟩,⟨none,.build (some 48) kz3 [(0,1,(kc 0)),(1,1,(.const (.string ⟨#[80,111,105,110,116]⟩))),(2,1,(kt 46)),(3,1,(kt 47))]⟩,⟨none,.brow (some 49) 88 11 1 kz3 [(0,11,(kt 48))]⟩,M 10 49] (G [kb 50 kz2 [],⟨none,.brow (some 51) 33 5 1 kz2 [(0,5,(kt 50))]⟩,M 8 51] (Z (G [kMi 11 0] (K.block 2 (K.loop (Z (G [M 52 11,M 53 0,kC 54 31 [(kt 53),(kc 6),(kc 2)],⟨none,.bin (some 55) .add (kc 1) (kt 54)⟩,kB 56 52 55 .lss] (Y 56 ks (K.exit 2))) (Z (K.block 3 (K.dops [(0,0,M 59 8),(1,0,M 60 0),(2,0,M 61 11),(3,0,⟨none,.bin (some 62) .add (kc 7) (kt 61)⟩),(4,0,kC 63 31 [(kt 60),(kt 62),(kc 4)]),(5,0,J 64 6 5),(6,0,J 65 6 5),(7,0,kC 66 73 [(kt 63),(kt 64),(kt 65)]),(8,0,kd 67 33 5 1 kz2 [(0,5,(kt 66))]),(9,0,kP 68 33 5 56 59 67),(10,0,M 8 68)])) (K.ops [M 57 11,kBi 58 57 1 .add,M 11 58])))))) (K.wk zVh))))
def qHx:K:=G [kMn 4] (G [M 19 0,kC 20 31 [(kt 19),(kc 1),(kc 4)],kBi 21 20 0 .gtr,M 5 21] (G [M 22 1,kC 23 32 [(kt 22)],kC 24 72 [(kt 23)],kZ 6 kz2,S 6 24 5] (G [M 25 1,kBi 26 25 1 .add,kC 27 32 [(kt 26)],kC 28 72 [(kt 27)],kZ 7 kz2,S 7 28 5] (G [kMn 8] (Z (G [kMi 9 0] (K.block 0 (K.loop (Z (G [M 29 9,M 30 0,kC 31 31 [(kt 30),(kc 2),(kc 3)],⟨none,.bin (some 32) .add (kc 1) (kt 31)⟩,kB 33 29 32 .lss] (Y 33 ks (K.exit 0))) (Z (K.block 1 (K.dops [(0,0,M 36 8),(1,0,M 37 0),(2,0,M 38 9),(3,0,⟨none,.bin (some 39) .add (kc 3) (kt 38)⟩),(4,0,kC 40 31 [(kt 37),(kt 39),(kc 3)]),(5,0,J 41 6 5),(6,0,J 42 6 5),(7,0,kC 43 73 [(kt 40),(kt 41),(kt 42)]),(8,0,kd 44 33 5 1 kz2 [(0,5,(kt 43))]),(9,0,kP 45 33 5 56 36 44),(10,0,M 8 45)])) (K.ops [M 34 9,kBi 35 34 1 .add,M 9 35])))))) (K.wk zVg))))))
def qQH:Nat→Option (List (Nat×Nat)):=fun r=>match r with | 27=>some [(0,0),(1,0),(2,0),(3,0),(4,0),(5,9),(6,0)] | _=>none
theorem qOt:qD prog Tryz.f33.ntmps qQH (Tryz.f33.body.getD .skip)=some qHx.erase:=by kernel_rfl
@[simp] theorem qPz:zA prog 33=true:=by kernel_rfl
structure Pln where
 kind:Int
 name:ByteArray
 types:List Typ
 names:List ByteArray
 most:List Int
 out:Typ
 mod:Int
def zBj (p:Pln):List A:=[int p.kind,.lit (.string p.name),.sl p.types.length (jH p.types),.sl p.names.length (yK p.names),.sl p.most.length (yH p.most),int p.out.k,int p.out.id.a,int p.out.id.b,int p.out.id.c,.sl p.out.kids.length (jH p.out.kids),int p.mod]
theorem zHt (p:Pln):jM (zBj p):=by have h1:=yZ p.types;have h2:=zB5 p.names;have h3:=yZ p.out.kids;exact⟨by simp[zBj,h1.1,h2.1,h3.1],fun rf g=>by simp[zBj,h1.2,h2.2,h3.2]⟩
def yY (l:List Pln):List A:=l.flatMap zBj
theorem zHP (l:List Pln):jM (yY l):=zBg zHt l
@[simp] theorem qBI (l:List Pln):jK (yY l)=yY l:=(zHP l).1
@[simp] theorem qGq {rf g}(l:List Pln):vwL rf g (yY l)=yY l:=(zHP l).2 _ _
@[simp] theorem qCU:yY []=[]:=rfl
theorem zCr (x:Pln)(l:List Pln):yY (x::l)=zBj x++yY l:=rfl
theorem zCZ (l l':List Pln):yY (l++l')=yY l++yY l':=by simp only[yY,jCh]
@[simp] theorem qCT (l:List Pln):(yY l).length=l.length*11:=by rw[yY,zBD (k:=11) (fun _=>rfl)]
theorem zON {l:List Pln}{i:Nat}(h:i<l.length):(yY l).drop (i*11)=zBj l[i]++yY (l.drop (i+1)):=by rw[yY,yY,zCu (k:=11) (fun _=>rfl) h]
@[simp] theorem qJq (d:Pln):(zBj d).length=11:=rfl
@[simp] theorem qJp (d:Pln):(zBj d).take 11=zBj d:=jAk (jA _)
@[simp] theorem qFh (d:Pln)(l:List A):(zBj d++l).take 11=zBj d:=by rw[jC4 (by simp)]; exact jAk (by simp)
@[simp] theorem qFE (d:Pln):jK (zBj d)=zBj d:=(zHt d).1
@[simp] theorem qNu (d:Pln) {rf g}:vwL rf g (zBj d)=zBj d:=(zHt d).2 _ _
def tyL (l:List Int)(at_ most n:Int)(one:Typ):List Typ:=(List.range n.toNat).map fun(i:Nat)=>zCD (atV l (at_+i) most) one one
section
variable (l:List Int)(mods:Int)
def zEz:Bool:=decide (0<atV l 1 4)
def qQ:Typ:=zBA (idR mods)
def zBx:Typ:=zBA (idR (mods+1))
def zDp:Typ:=if zEz l then zBA (idR (mods+2)) else qQ mods
def zRN:Typ:=zCD (atV l 16 6) (qQ mods) (qQ mods)
def zBr:Pln:=⟨0,⟨#[80,111,105,110,116]⟩,tyL l 3 3 (1+atV l 2 3) (qQ mods),[⟨#[120]⟩,⟨#[121]⟩,⟨#[122]⟩],[],jT,0⟩
def zB8:Pln:=⟨1,⟨#[69,118,101,110,116]⟩,jT::tyL l 7 4 (1+atV l 6 2) (qQ mods),[⟨#[84,105,99,107]⟩,⟨#[80,117,115,104]⟩,⟨#[83,101,116]⟩],[],jT,0⟩
def zCS:Pln:=⟨0,⟨#[83,116,97,116,101]⟩,jT::tyL l 10 4 (atV l 9 3) (qQ mods),[⟨#[99,111,117,110,116]⟩,⟨#[108,111,103]⟩,⟨#[109,111,114,101]⟩],[],jT,0⟩
def zKh:Pln:=⟨0,⟨#[79,117,116]⟩,[zBA (idR (mods+2)),jV jT,jT],[⟨#[115,116,97,116,101]⟩,⟨#[115,105,103,110,97,108,115]⟩,⟨#[110,101,120,116]⟩],[],jT,0⟩
def zEY:List Typ:=zCD (atV l 12 6) (qQ mods) (zBx mods)::(if atV l 13 2=1 then [zCD (atV l 14 6) (qQ mods) (zBx mods)] else [])
def pF:Pln:=⟨2,⟨#[102]⟩,zEY l mods,[⟨#[97]⟩,⟨#[98]⟩],[],zRN l mods,atV l 15 mods⟩
def zIq:Pln:=⟨3,⟨#[115,116,101,112]⟩,[zBA (idR (mods+2)),zBx mods],[⟨#[115]⟩,⟨#[101]⟩],[],zBA (idR (mods+3)),mods-1⟩
def pG:Pln:=⟨2,⟨#[103]⟩,[zBx mods],[⟨#[101]⟩],[],zCD (atV l 17 6) (qQ mods) (zBx mods),mods-1⟩
def pT:Pln:=⟨4,⟨#[116]⟩,(inV l 18 (qQ mods)).map (·.1),[⟨#[97]⟩,⟨#[98]⟩],(inV l 18 (qQ mods)).map (·.2),zCD (atV l 21 6) (qQ mods) (zRN l mods),mods-1⟩
def pC:Pln:=⟨5,⟨#[99]⟩,[zDp l mods],[⟨#[111,108,100]⟩],[],zCD (atV l 23 6) (qQ mods) (zDp l mods),mods-1⟩
def plE:List Pln:=if 0<atV l 22 4 then [pC l mods] else []
def plD:List Pln:=pT l mods::plE l mods
def plC:List Pln:=(if zEz l then zIq mods else pG l mods)::plD l mods
def plB:List Pln:=pF l mods::plC l mods
def qC:List Pln:=[zBr l mods,zB8 l mods]++(if zEz l then [zCS l mods,zKh mods] else [])++plB l mods
end
abbrev zRc (L:List Pln):=fin [RS.slot 4] (zGS 0 (.sl L.length (yY L)) [])
theorem qBY (L:List Pln):wpK prog 0 zVf (zRc L) (qT [(10,.sl L.length (yY L))]) []:=by unfold zVf;simp;exact zC 0 (by simp)
theorem qKJ (l:List Int)(mods:Int)(hm:1≤mods)(hm2:mods≤2)(hl:∀x∈l,w64 x=x)(L:List Pln)(hL:L.length≤20) :
 wpK prog 0 zVe (zRc (L++plE l mods)) (qT [(0,.sl l.length (yH l)),(6,.ptr 0 0),(10,.row 2 L.length),(12,int (mods-1)),(13,.ptr 1 0)])
  [.box (zB (qQ mods)),.box (zB (zDp l mods)),.row false 88 11 L.length (yY L)]:=by
 have h0:=zB2 l 22 4 (by omega);have h1:=zB2 l 23 6 (by omega);obtain⟨r0,r0'⟩:=yM (i:=23) hl (most:=6) (by omega);have h2:=zN9 (atV l 23 6) (qQ mods) (zDp l mods) (IntWalk.i64_in _ (by omega));unfold zVe;simp;refine zT h0 (by simp) (by simp) ?_;by_cases h:0<atV l 22 4
 ·simp[h,zB];refine qK h1 (by simp) (by simp) ?_;simp[zB];refine qK h2 (by simp[zB]) (by simp) ?_;simp[zB];refine⟨⟨by simp[maxLen]; omega,by omega⟩,?_⟩;exact⟨_,_,zR [] 1 (by decide) (by simp) (by simp) (by simp[plE,h,pC,zCZ,zCr,zBj,qN,zB,zB4]),qBY _⟩
 ·simp[h];exact⟨_,_,zR [] 1 (by decide) (by simp) (by simp) (by simp[plE,h]),qBY _⟩
theorem zCy (l:List Int)(i m:Int)(hm:0<m)(hl:∀x∈l,w64 x=x)(hm2:m≤1000)(a b:Typ):Ret prog 73 [int (atV l i m),.agg (zB a),.agg (zB b)] [] (.agg (zB (zCD (atV l i m) a b))) []:=by obtain⟨r0,r0'⟩:=yM (i:=i) hl (most:=m) hm;exact zN9 _ _ _ (IntWalk.i64_in _ (by omega))
theorem qKI (l:List Int)(mods:Int)(hm:1≤mods)(hm2:mods≤2)(hl:∀x∈l,w64 x=x)(L:List Pln)(hL:L.length≤19) :
 wpK prog 0 zVd (zRc (L++plD l mods)) (qT [(0,.sl l.length (yH l)),(6,.ptr 0 0),(10,.row 3 L.length),(12,int (mods-1)),(13,.ptr 1 0),(16,.ptr 2 0)])
  [.box (zB (qQ mods)),.box (zB (zDp l mods)),.box (zB (zRN l mods)),.row false 88 11 L.length (yY L)]:=by
 have h0:=qDH l 18 (qQ mods) (by omega) (by omega) hl;have h1:=zB2 l 21 6 (by omega);have h2:=zCy l 21 6 (by omega) hl (by omega) (qQ mods) (zRN l mods);have hD:=qKJ l mods hm hm2 hl (L++[pT l mods]) (by simp; omega);rw[jAv]at hD;unfold zVd;simp[zB];refine zT h0 (by simp[zB]) (by simp[inR,zQ2,zJU]) ?_;simp[inR,zQ2,zJU];refine qK h1 (by simp) (by simp) ?_;simp[zB];refine qK h2 (by simp[zB]) (by simp) ?_;simp[zB];refine⟨⟨by simp[maxLen]; omega,by omega⟩,?_⟩;refine⟨_,_,zR [0,1,3] 0 (by decide) (by simp) ?_ (by simp),hD⟩;simp[zB,zCZ,zCr,zBj,pT,zB6]
theorem qKH (l:List Int)(mods:Int)(hm:1≤mods)(hm2:mods≤2)(hl:∀x∈l,w64 x=x)(L:List Pln)(hL:L.length≤17) :
 wpK prog 0 zVc (zRc (L++plB l mods)) (qT [(0,.sl l.length (yH l)),(1,int mods),(5,bl (zEz l)),(6,.ptr 0 0),(7,.ptr 1 0),(8,.sl (zEY l mods).length (jH (zEY l mods))),(10,.row 3 L.length),(12,int (mods-1)),(13,.ptr 2 0)])
  [.box (zB (qQ mods)),.box (zB (zBx mods)),.box (zB (zDp l mods)),.row false 88 11 L.length (yY L)]:=by
 have w3:=qF (mods+3) (by omega);have h0:=zB2 l 15 mods (by omega);have h1:=zB2 l 16 6 (by omega);have h2:=zCy l 16 6 (by omega) hl (by omega) (qQ mods) (qQ mods);have h3:=zF6 (mods+3);have h4:=zNy (idR (mods+3));have h5:=zB2 l 17 6 (by omega);have h6:=zCy l 17 6 (by omega) hl (by omega) (qQ mods) (zBx mods);have hC:=qKI l mods hm hm2 hl (L++[pF l mods]++[if zEz l then zIq mods else pG l mods]) (by simp; omega);rw[jAv,jAv]at hC;unfold zVc;simp;refine zT h0 (by simp) (by simp) ?_;simp;refine zSy h1 [] (by decide) (by simp) (by simp) (by simp) ?_;simp[zB];refine zSy h2 [] (by decide) (by simp) (by simp[zB]) (by simp) ?_;simp[zB];refine⟨⟨by simp[maxLen]; omega,by omega⟩,?_⟩;cases hh:zEz l
 ·simp[zB];refine qK h5 (by simp) (by simp) ?_;simp[zB];refine qK h6 (by simp[zB]) (by simp) ?_;simp[zB];refine⟨⟨by simp[maxLen]; omega,by omega⟩,?_⟩;refine⟨_,_,zR [0,2,4,3] 0 (by decide) (by simp) ?_ (by simp),hC⟩;simp[zB,zCZ,zCr,zBj,pF,pG,hh,zRN,zB4,zB6,qN]
 ·simp[zB,w3];refine qK h3 (by simp) (by simp) ?_;simp[zB];refine qK h4 (by simp[jF]) (by simp) ?_;simp[zB];refine⟨⟨by simp[maxLen]; omega,by omega⟩,?_⟩;refine⟨_,_,zR [0,2,4,3] 0 (by decide) (by simp) ?_ (by simp),hC⟩;simp[zB,zCZ,zCr,zBj,pF,zIq,hh,zRN,zDp,zB4,zB6,qN]
theorem qBX (l:List Int)(mods:Int)(hm:1≤mods)(hm2:mods≤2)(hl:∀x∈l,w64 x=x)(L:List Pln)(hL:L.length≤17) :
 wpK prog 0 zVb (zRc (L++plB l mods)) (qT [(0,.sl l.length (yH l)),(1,int mods),(5,bl (zEz l)),(6,.ptr 0 0),(7,.ptr 1 0),(10,.row 3 L.length),(12,int (mods-1)),(13,.ptr 2 0)])
  [.box (zB (qQ mods)),.box (zB (zBx mods)),.box (zB (zDp l mods)),.row false 88 11 L.length (yY L)]:=by
 have h0:=zB2 l 12 6 (by omega);have h1:=zCy l 12 6 (by omega) hl (by omega) (qQ mods) (zBx mods);have h2:=zB2 l 13 2 (by omega);have h3:=zB2 l 14 6 (by omega);have h4:=zCy l 14 6 (by omega) hl (by omega) (qQ mods) (zBx mods);have hB:=qKH l mods hm hm2 hl L hL;unfold zVb;simp;refine qK h0 (by simp) (by simp) ?_;simp[zB];refine qK h1 (by simp[zB]) (by simp) ?_;simp[zB];refine zT h2 (by simp) (by simp) ?_;by_cases h:atV l 13 2=1
 ·simp[h,zB];refine qK h3 (by simp) (by simp) ?_;simp[zB];refine qK h4 (by simp[zB]) (by simp) ?_;simp[zB,maxLen];refine⟨_,_,zR [0,1,2,3] 1 (by decide) (by simp) (by simp[zB]) ?_,hB⟩;simp[zEY,h,qN,zB]
 ·simp[h,zB];refine⟨_,_,zR [0,1,2,3] 1 (by decide) (by simp) (by simp[zB]) ?_,hB⟩;simp[zEY,h,qN,zB]
def zYg:K:=(G [M 63 1,kBi 64 63 1 .sub,M 1 64] (G [kMn 8] (Z (G [kMi 9 0] (K.block 1 (K.loop (Z (G [M 65 9,D 66 3 13,L 67 66 1,kN 68 67,kB 69 65 68 .lss] (Y 69 ks (K.exit 1))) (Z (K.block 2 (G [D 72 3 13,L 73 72 1,M 74 9,kX 75 73 74 15,J 76 75 15,kZ 10 kz1,S 10 76 15] (Z (G [M 77 1,kBi 78 77 0 .geq] (Y 78 (K.ops [J 80 10 15,M 81 1,M 82 2,kC 83 53 [(kt 80),(kt 81),(kt 82)],M 79 83,kE 84 79 0,kE 85 79 1,S 10 84 15,M 1 85]) ks)) (K.ops [M 86 8,J 87 10 15,kd 88 37 15 1 kz1 [(0,15,(kt 87))],kP 89 37 15 168 86 88,M 8 89])))) (K.ops [M 70 9,kBi 71 70 1 .add,M 9 71])))))) (G [M 90 8,D 91 3 13,S 91 90 1] (G [J 92 3 15,M 93 1,S 6 92 15,M 7 93] kr)))))
def KTw:K:=G [kO 3 0,kZ 6 kz1,kMi 7 0] (Z (G [M 11 1,kQi 12 11 0 false] (Y 12 (G [D 13 3 3,L 14 13 1] (K.block 0 (G [kQi 16 14 0 false,M 15 16] (Y 15 (K.ops [M 17 2,kBi 18 17 9 .rem,kBi 19 18 4 .sub,D 20 3 4,S 20 19 1]) (G [kQi 22 14 1 false,M 21 22] (Y 21 (K.ops [D 23 3 4,L 24 23 1,⟨none,.bin (some 25) .sub (kc 1) (kt 24)⟩,D 26 3 4,S 26 25 1]) (G [kQi 28 14 4 false,M 27 28] (Y 27 (G [D 29 3 4,L 30 29 1,kBi 31 30 4 .leq] (Y 31 (K.ops [M 32 2,kBi 33 32 5 .rem,D 34 3 4,S 34 33 1]) (G [D 35 3 4,L 36 35 1,kQi 37 36 7 false,M 38 37,T 38 false (D 39 3 4),T 38 false (L 40 39 1),T 38 false (kQi 41 40 8 false),kPt 42 38 41] (Y 42 (K.ops [D 43 3 4,L 44 43 1,⟨none,.bin (some 45) .sub (kc 15) (kt 44)⟩,D 46 3 4,S 46 45 1]) ks)))) (G [kQi 48 14 5 false,M 47 48] (Y 47 (K.dops [(0,0,D 49 3 13),(1,0,L 50 49 1),(2,0,kXi 51 50 15 0),(3,0,J 52 51 15),(4,0,D 53 3 13),(5,0,L 54 53 1),(6,0,kXi 55 54 15 2),(7,0,J 56 55 15),(8,0,D 57 3 13),(9,0,L 58 57 1),(10,0,kXi 59 58 15 1),(11,0,J 60 59 15),(12,0,kd 61 37 15 3 kz4 [(0,15,(kt 52)),(15,15,(kt 56)),(30,15,(kt 60))]),(13,0,D 62 3 13),(14,0,S 62 61 1)]) ks)))))))))) ks)) (K.wk zYg))
theorem cTw:zL prog Tryz.f53.ntmps (Tryz.f53.body.getD .skip)=some KTw.erase:=by kernel_rfl
@[simp] theorem qRI:zA prog 53=true:=by kernel_rfl
@[simp] theorem qPv:zA prog 54=true:=by kernel_rfl
def zUY:K:=G [kO 1 0,kMi 2 0] (G [kMi 3 1] (Z (G [kMi 4 0] (K.block 0 (K.loop (Z (G [M 5 4,D 6 1 13,L 7 6 1,kN 8 7,kB 9 5 8 .lss] (Y 9 ks (K.exit 0))) (Z (K.block 1 (K.ops [M 12 3,D 13 1 13,L 14 13 1,M 15 4,kX 16 14 15 15,J 17 16 15,kC 18 52 [(kt 17)],kB 19 12 18 .add,M 3 19])) (K.ops [M 10 4,kBi 11 10 1 .add,M 4 11])))))) (G [M 20 3,M 2 20] kr)))
theorem qC4:zL prog Tryz.f52.ntmps (Tryz.f52.body.getD .skip)=some zUY.erase:=by kernel_rfl
@[simp] theorem qJa:zA prog 52=true:=by kernel_rfl
def twN (e:Exp)(n:Int):Exp:=.mk e.id e.k n e.ref e.typ e.kids e.names
def twK (e:Exp)(ks:List Exp):Exp:=.mk e.id e.k e.n e.ref e.typ ks e.names
def yU (e:Exp)(x:Int):Exp :=
 if e.k=0 then twN e (IntKind.i64.wrap (x.tmod 9-4))
 else if e.k=1 then twN e (IntKind.i64.wrap (1-e.n))
 else if e.k=4 then (if e.n≤4 then twN e (x.tmod 5) else if e.n=7∨e.n=8 then twN e (IntKind.i64.wrap (15-e.n)) else e)
 else if e.k=5 then (match e.kids with
  | [a,b,c]=>twK e [a,c,b]
  | _=>e)
 else e
mutual
def zAc:Exp→Int→Int→Exp×Int
 | .mk i k n r t ks ns,a,x=>if a=0 then (yU (.mk i k n r t ks ns) x,-1) else (.mk i k n r t (qV ks (a-1) x).1 ns,(qV ks (a-1) x).2)
def qV:List Exp→Int→Int→List Exp×Int
 | [],a,_=>([],a)
 | e::l,a,x=>if 0≤a then ((zAc e a x).1::(qV l (zAc e a x).2 x).1,(qV l (zAc e a x).2 x).2) else (e::(qV l a x).1,(qV l a x).2)
end
theorem zAs (e:Exp)(a x:Int):zAc e a x=if a=0 then (yU e x,-1) else (twK e (qV e.kids (a-1) x).1,(qV e.kids (a-1) x).2):=by cases e; simp only[zAc,twK,Exp.kids_mk,Exp.id_mk,Exp.k_mk,Exp.n_mk,Exp.ref_mk,Exp.typ_mk,Exp.names_mk]
theorem zMc {a x:Int}(h:a<0):∀l:List Exp,qV l a x=(l,a)
 | []=>rfl
 | e::l=>by simp only[qV,if_neg (show ¬0≤a by omega),zMc h l]
theorem zGs (e:Exp)(x:Int):∀(l:List Exp) (a:Int),qV (l++[e]) a x=if 0≤(qV l a x).2 then ((qV l a x).1++[(zAc e (qV l a x).2 x).1],(zAc e (qV l a x).2 x).2) else ((qV l a x).1++[e],(qV l a x).2)
 | [],a=>by by_cases h:0≤a<;>simp[qV,h]
 | y::l,a=>by
  simp only[jBi,qV];by_cases h:0≤a
  ·simp only[if_pos h];rw[zGs e x l];split<;>simp
  ·simp only[if_neg h];rw[zGs e x l];split<;>simp
mutual
theorem zU9:∀(e:Exp) (a x:Int),0≤a→-1≤(zAc e a x).2∧(zAc e a x).2≤a
 | .mk i k n r t ks ns,a,x,h=>by
  simp only[zAc];split
  ·simp only; omega
  ·have:=zGP ks (a-1) x (by omega);simp only;omega
theorem zGP:∀(l:List Exp) (a x:Int),-1≤a→-1≤(qV l a x).2∧(qV l a x).2≤a
 | [],a,x,h=>by simp only[qV]; omega
 | e::l,a,x,h=>by
  simp only[qV];split
  ·have h1:=zU9 e a x (by omega);have:=zGP l (zAc e a x).2 x h1.1;simp only;omega
  ·have:=zGP l a x h;simp only;omega
end
theorem zF2 (x:Int):∀(l:List Exp) (a:Int),(qV l a x).1.length=l.length
 | [],_=>rfl
 | e::l,a=>by simp only[qV];split<;>simp[zF2 x l]
theorem zJx {l:List Exp}{i:Nat}(h:i<l.length)(a x:Int):qV (l.take (i+1)) a x=if 0≤(qV (l.take i) a x).2 then ((qV (l.take i) a x).1++[(zAc l[i] (qV (l.take i) a x).2 x).1],(zAc l[i] (qV (l.take i) a x).2 x).2) else ((qV (l.take i) a x).1++[l[i]],(qV (l.take i) a x).2):=by rw[jA9 h,zGs]
def zNI (e:Exp):Prop:=∀z∈zAm e,z.k=5→z.kids.length=3
theorem zMG {z k:Exp}(hz:z∈zAm k):∀{l:List Exp},k∈l→z∈zAe l
 | y::l,h=>by
  simp only[zAe,jA8];rcases jA3.1 h with rfl | h
  ·exact .inl hz
  ·exact .inr (zMG hz h)
theorem zNI.kid {e k:Exp}(h:zNI e)(hk:k∈e.kids):zNI k:=fun z hz=>h z (by rw[zCm]; exact jAm _ (zMG hz hk))
theorem zNI.here {e:Exp}(h:zNI e)(hk:e.k=5):∃a b c,e.kids=[a,b,c]:=by
 have:=h e (by rw[zCm]; exact jAn ..) hk
 match hh:e.kids,this with
 | [a,b,c],_=>exact⟨a,b,c,rfl⟩
abbrev twF:FuncId:=53
def twR (q:Exp×Int):A:=.tup [.agg (zF q.1),int q.2]
theorem zTf (e1:Exp)(a x:Int)(hkl:e1.kids.length≤1000000)(ha:0≤a)(ha2:a≤1000000000)(ih:0≤a-1→∀k∈e1.kids,∀b,0≤b→b≤1000000000→Ret prog twF [.agg (zF k),int b,int x] [] (twR (zAc k b x)) []) :
 wpK prog 0 zYg (fin [RS.cell 6 15 true,RS.slot 7] (zGS 0 (twR (twK e1 (qV e1.kids (a-1) x).1,(qV e1.kids (a-1) x).2)) [])) (qT [(1,int a),(2,int x),(3,.ptr 0 0),(6,.ptr 1 0)]) [.box (zF e1),.box (zF Exp.zero)]:=by
 have wa:=qF (a-1) (by omega);unfold zYg;simp[wa];refine qW (S:=Nat) (fun i=>[(1,int (qV (e1.kids.take i) (a-1) x).2),(2,int x),(3,.ptr 0 0),(6,.ptr 1 0),(8,.row 2 i),(9,int i)])
  (fun i=>[.box (zF e1),.box (zF Exp.zero),.row false 37 15 i (qL (qV (e1.kids.take i) (a-1) x).1)]) (fun i=>i≤e1.kids.length) (fun i=>e1.kids.length-i) 0 (by simp)
  ((yG (t:=8) (by simp) 37 15).trans (zR [0,1,2] 0 (by decide) (by simp) (by simp[zF,qV]) (by simp[qV]))) ?_
 intro i hi;have hat:=zGP (e1.kids.take i) (a-1) x (by omega);by_cases h:i<e1.kids.length
 ·have hst:=zJx h (a-1) x;have hlen:=zF2 x (e1.kids.take i) (a-1);rw[jAt,jB9 hi]at hlen;have hdr:=yJ h;have hb15:i*15+15≤e1.kids.length*15:=by omega
  have ihk:=fun h0=>ih h0 e1.kids[i] (jA0 h)
  generalize e1.kids[i]=k at *
  by_cases h0:0≤(qV (e1.kids.take i) (a-1) x).2
  ·have hc:=ihk (by omega) _ h0 (by omega);rw[if_pos h0]at hst;generalize qV (e1.kids.take i) (a-1) x=q at *
   simp[zF,h,hdr,hb15,h0];intro hl;refine zT hc (by simp[zF]) (by simp[twR]) ?_;simp[twR];refine⟨⟨by simp[maxLen]; omega,by omega⟩,?_⟩;exact zU (i+1) h (by omega) (zR [0,1,2] 0 (by decide) (by simp) (by simp[zF,hst,zHc,zH]) (by simp[qA h hl,hst]))
  ·rw[if_neg h0]at hst;generalize qV (e1.kids.take i) (a-1) x=q at *
   simp[zF,h,hdr,hb15,h0];intro hl;refine⟨⟨by simp[maxLen]; omega,by omega⟩,?_⟩;exact zU (i+1) h (by omega) (zR [0,1,2] 0 (by decide) (by simp) (by simp[zF,hst,zHc,zH]) (by simp[qA h hl,hst]))
 ·have hie:i=e1.kids.length:=by omega
  subst hie;rw[jAp];have hlen:=zF2 x e1.kids (a-1);simp[zF]
  intros
  exact zC 1 (by simp[twR,twK,zF,hlen])
theorem zXL (e:Exp):twK e e.kids=e:=by cases e; rfl
theorem zQx (e:Exp)(x:Int):(yU e x).kids.length=e.kids.length:=by
 unfold yU;split
 ·rfl
 ·split
  ·rfl
  ·split
   ·split
    ·rfl
    ·split<;>rfl
   ·split
    ·split
     ·rename_i h; rw[h]; rfl
     ·rfl
    ·rfl
theorem zPy:∀(ks:List Exp),ks.length≤(jL ks).length
 | []=>jA _
 | e::ks=>by
  have:=zPy ks;have h1:1≤(tmps e).length:=by rw[zA7,jA5,jAl]; omega
  simp only[jL,jA5,jAd];omega
theorem zLU {e:Exp}(h:(tmps e).length≤1000000):e.kids.length≤1000000∧∀k∈e.kids,(tmps k).length≤1000000:=by rw[zA7,jA5,jAl]at h;have:=zPy e.kids;exact⟨by omega,fun k hk=>by have:=zGr hk; omega⟩
theorem zRQ (e:Exp)(hif:zNI e)(hle:(tmps e).length≤1000000)(ih:∀k∈e.kids,∀a x,0≤a→a≤1000000000→Ret prog twF [.agg (zF k),int a,int x] [] (twR (zAc k a x)) [])(a x:Int)(ha:0≤a)(ha2:a≤1000000000) :
 Ret prog twF [.agg (zF e),int a,int x] [] (twR (zAc e a x)) []:=by
 obtain⟨hk,_⟩:=zLU hle;rw[zAs];refine zK Tryz.func53 rfl cTw (rs:=[.cell 6 15 true,.slot 7]) (by kernel_rfl) ?_;unfold KTw;have zero:a=0→∀e1:Exp,e1=yU e x→wpK prog 0 zYg (fin [RS.cell 6 15 true,RS.slot 7] (zGS 0 (twR (yU e x,-1)) [])) (qT [(1,int a),(2,int x),(3,.ptr 0 0),(6,.ptr 1 0)]) [.box (zF e1),.box (zF Exp.zero)]:=fun h0 e1 he=>by have ht:=zTf e1 a x (by rw[he,zQx]; exact hk) ha ha2 (fun h=>by omega);rw[zMc (show a-1<0 by omega),zXL,he,h0]at ht;rw[he,h0];exact ht
 by_cases h0:a=0
 ·rw[if_pos h0];have zero:=zero h0;subst h0;by_cases k0:e.k=0
  ·have hh:twN e (IntKind.i64.wrap (x.tmod 9-4))=yU e x:=by simp only[yU,if_pos k0]
   have ht:=zero _ hh;simp[zF,k0];exact⟨_,_,zR [0,1] 0 (by decide) (by simp) (by simp[zF,twN,Exp.zero,Id.zero,Typ.zero,k0]) (by simp),ht⟩
  by_cases k1:e.k=1
  ·have hh:twN e (IntKind.i64.wrap (1-e.n))=yU e x:=by simp only[yU,if_neg k0,if_pos k1]
   have ht:=zero _ hh;simp[zF,k1];exact⟨_,_,zR [0,1] 0 (by decide) (by simp) (by simp[zF,twN,Exp.zero,Id.zero,Typ.zero,k1]) (by simp),ht⟩
  by_cases k4:e.k=4
  ·by_cases n4:e.n≤4
   ·have hh:twN e (x.tmod 5)=yU e x:=by simp only[yU,if_neg k0,if_neg k1,if_pos k4,if_pos n4]
    have ht:=zero _ hh;simp[zF,k4,n4];exact⟨_,_,zR [0,1] 0 (by decide) (by simp) (by simp[zF,twN,Exp.zero,Id.zero,Typ.zero,k4,n4]) (by simp),ht⟩
   by_cases n7:e.n=7
   ·have hh:twN e (IntKind.i64.wrap (15-e.n))=yU e x:=by simp only[yU,if_neg k0,if_neg k1,if_pos k4,if_neg n4,if_pos (show e.n=7∨e.n=8 from .inl n7)]
    have ht:=zero _ hh;simp[zF,k4,n7];exact⟨_,_,zR [0,1] 0 (by decide) (by simp) (by simp[zF,twN,Exp.zero,Id.zero,Typ.zero,k4,n7]) (by simp),ht⟩
   by_cases n8:e.n=8
   ·have hh:twN e (IntKind.i64.wrap (15-e.n))=yU e x:=by simp only[yU,if_neg k0,if_neg k1,if_pos k4,if_neg n4,if_pos (show e.n=7∨e.n=8 from .inr n8)]
    have ht:=zero _ hh;simp[zF,k4,n8];exact⟨_,_,zR [0,1] 0 (by decide) (by simp) (by simp[zF,twN,Exp.zero,Id.zero,Typ.zero,k4,n8]) (by simp),ht⟩
   ·have hh:e=yU e x:=by simp only[yU,if_neg k0,if_neg k1,if_pos k4,if_neg n4,if_neg (show ¬(e.n=7∨e.n=8) from fun h=>h.elim n7 n8)]
    have ht:=zero _ hh;simp[zF,k4,n4,n7,n8];exact⟨_,_,zR [0,1] 0 (by decide) (by simp) (by simp[zF,twN,Exp.zero,Id.zero,Typ.zero,k4,n4,n7,n8]) (by simp),ht⟩
  by_cases k5:e.k=5
  ·obtain⟨y0,y1,y2,hy⟩:=hif.here k5;have hh:twK e [y0,y2,y1]=yU e x:=by simp only[yU,if_neg k0,if_neg k1,if_neg k4,if_pos k5,hy]
   have ht:=zero _ hh;simp[zF,k5,hy,zH];exact⟨_,_,zR [0,1] 0 (by decide) (by simp) (by simp[zF,twK,Exp.zero,Id.zero,Typ.zero,k5,hy,zH]) (by simp),ht⟩
  ·have hh:e=yU e x:=by simp only[yU,if_neg k0,if_neg k1,if_neg k4,if_neg k5]
   have ht:=zero _ hh;simp[zF,k0,k1,k4,k5];exact⟨_,_,zR [0,1] 0 (by decide) (by simp) (by simp[zF,twN,Exp.zero,Id.zero,Typ.zero,k0,k1,k4,k5]) (by simp),ht⟩
 ·rw[if_neg h0];have ht:=zTf e a x hk ha ha2 (fun _ k hk' b hb hb2=>ih k hk' b x hb hb2);simp[zF,h0];exact⟨_,_,zR [0,1] 0 (by decide) (by simp) (by simp[zF,Exp.zero,Id.zero,Typ.zero]) (by simp),ht⟩
mutual
theorem zQ0:∀(e:Exp),zNI e→(tmps e).length≤1000000→∀a x,0≤a→a≤1000000000→Ret prog twF [.agg (zF e),int a,int x] [] (twR (zAc e a x)) []
 | .mk i k n r t ks ns,hif,hle=>zRQ _ hif hle fun y hy=>zNF ks y hy (hif.kid hy) ((zLU hle).2 y hy)
theorem zNF:∀(l:List Exp),∀e∈l,zNI e→(tmps e).length≤1000000→∀a x,0≤a→a≤1000000000→Ret prog twF [.agg (zF e),int a,int x] [] (twR (zAc e a x)) []
 | [],e,he=>by simp at he
 | y::l,e,he=>by
  rcases jA3.1 he with h | h
  ·rw[h]; exact zQ0 y
  ·exact zNF l e h
end
mutual
theorem zLx:∀(e:Exp),(tmps e).length≤1000000000→Ret prog 52 [.agg (zF e)] [] (int (tmps e).length) []
 | .mk a b c d t l ns,hle=>by
  have ih:=zJV l;generalize ha:Exp.mk a b c d t l ns=e at hle;have hal:e.kids=l:=by rw[←ha]; rfl
  rw[←hal]at ih;rw[zA7,jA5,jAl]at hle;refine zK Tryz.func52 rfl qC4 (rs:=[.slot 2]) (by kernel_rfl) ?_;unfold zUY;simp[zF];refine qW (S:=Nat) (fun i=>[(1,.ptr 0 0),(3,int ((jL (e.kids.take i)).length+1:Nat)),(4,int i)]) (fun _=>[.box (zF e)]) (fun i=>i≤e.kids.length) (fun i=>e.kids.length-i) 0 (by simp)
   (zR [0] 0 (by decide) (by simp) (by simp[zF]) (by simp[jL])) ?_
  intro i hi;by_cases h:i<e.kids.length
  ·have hle2:(tmps e.kids[i]).length≤1000000000:=by have:=zGr (jA0 h); omega
   have h3:=zDd (l:=e.kids) (i+1);rw[yW h,jA5]at h3;simp[zF,h,yJ h];intro hl;refine zT (ih e.kids[i] (jA0 h) hle2) (by simp[zF]) (by simp) ?_;have hw:IntKind.i64.wrap ((((jL (e.kids.take i)).length:Int)+1)+((tmps e.kids[i]).length:Int))=((jL (e.kids.take i)).length:Int)+1+(tmps e.kids[i]).length:=IntWalk.i64_in _ (by omega);simp[hw];exact zU (i+1) h (by omega) (zR [0] 0 (by decide) (by simp) (by simp[zF]) (by simp[qA h hl,yW h]; omega))
  ·have hie:i=e.kids.length:=by omega
   subst hie;simp[zF]
   first | exact fun _=>zC 0 (by simp[zA7]) | exact zC 0 (by simp[zA7])
theorem zJV:∀(l:List Exp),∀x∈l,(tmps x).length≤1000000000→Ret prog 52 [.agg (zF x)] [] (int (tmps x).length) []
 | [],x,hx=>by simp at hx
 | z::l,x,hx=>by
  rcases jA3.1 hx with e | hx
  ·rw[e]; exact zLx z
  ·exact zJV l x hx
end
mutual
def zOj (s:ByteArray):Exp→Exp
 | .mk i k n r t ks ns=>.mk i k n r t (zZ6 s ks) (ns.map fun _=>s)
def zZ6 (s:ByteArray):List Exp→List Exp
 | []=>[]
 | e::l=>zOj s e::zZ6 s l
end
theorem zPD (s:ByteArray):∀l:List Exp,zZ6 s l=l.map (zOj s)
 | []=>rfl
 | e::l=>by simp only[zZ6,jAj,zPD s l]
theorem zEe {s:ByteArray}{l:List ByteArray}:yK (s::l)=.lit (.string s)::yK l:=rfl
theorem zGQ (l:List Int)(at_ most:Int)(n:Nat)(one:Typ):(tyL l at_ most n one).length=n:=by simp[tyL]
theorem zMf (l:List Int)(at_ most:Int){n i:Nat}(h:i<n)(one:Typ):(tyL l at_ most n one).take (i+1)=(tyL l at_ most n one).take i++[zCD (atV l (at_+i) most) one one]:=by
 have hi:i<(tyL l at_ most n one).length:=by rw[zGQ]; exact h
 rw[jA9 hi]
 congr 2
 simp[tyL]
theorem zGu (l:List Int)(at_ most:Int){n i:Nat}(h:i≤n)(one:Typ):((tyL l at_ most n one).take i).length=i:=by rw[jAt,zGQ]; omega
theorem zO5 (l:List Int)(at_ most:Int)(n:Nat)(one:Typ):(tyL l at_ most n one).take n=tyL l at_ most n one:=jAk (by rw[zGQ]; exact jA _)
theorem qKL (l:List Int)(mods:Int)(hm:1≤mods)(hm2:mods≤2)(hl:∀x∈l,w64 x=x) :
 wpK prog 0 zVh (zRc (qC l mods)) (qT [(0,.sl l.length (yH l)),(1,int mods),(5,bl (zEz l)),(6,.ptr 0 0),(7,.ptr 1 0),(8,.sl (zB8 l mods).types.length (jH (zB8 l mods).types)),(10,.row 2 1)])
  [.box (zB (qQ mods)),.box (zB (zBx mods)),.row false 88 11 1 (zBj (zBr l mods))]:=by
 have w1:=qF (mods-1) (by omega);have w2:=qF (mods+2) (by omega);have h0:=zB2 l 9 3 (by omega);obtain⟨r0,r0'⟩:=yM (i:=9) hl (most:=3) (by omega);obtain⟨N,hN⟩:∃N:Nat,(N:Int)=atV l 9 3:=⟨(atV l 9 3).toNat,by omega⟩;unfold zVh;cases hh:zEz l
 ·have hA:=qBX l mods hm hm2 hl [zBr l mods,zB8 l mods] (by simp);have hpl:[zBr l mods,zB8 l mods]++plB l mods=qC l mods:=by simp[qC,hh]
  rw[hpl,hh]at hA;simp[w1];refine⟨by simp[maxLen],?_⟩;refine⟨_,_,zR [0,1,3,2] 0 (by decide) (by simp) ?_ (by simp),hA⟩;simp[zB,zCr,zBj,zB8,jT,Id.zero,zDp,hh,zEe]
 ·have hA:=qBX l mods hm hm2 hl [zBr l mods,zB8 l mods,zCS l mods,zKh mods] (by simp);have hpl:[zBr l mods,zB8 l mods,zCS l mods,zKh mods]++plB l mods=qC l mods:=by simp[qC,hh]
  rw[hpl,hh]at hA;simp[w1];refine⟨by simp[maxLen],?_⟩;refine qW (S:=Nat) (fun i=>[(0,.sl l.length (yH l)),(1,int mods),(5,bl true),(6,.ptr 0 0),(7,.ptr 1 0),(8,.row 4 (1+i)),(10,.row 2 2),(12,int (mods-1)),(13,.ptr 3 0),(14,int i)])
   (fun i=>[.box (zB (qQ mods)),.box (zB (zBx mods)),.row false 88 11 2 (zBj (zBr l mods)++zBj (zB8 l mods)),.box (zB (qQ mods)),.row false 33 5 (1+i) (zB jT++jH ((tyL l 10 4 N (qQ mods)).take i))]) (fun i=>i≤N) (fun i=>N-i) 0 (by simp)
   (zR [0,1,2,3,4] 0 (by decide) (by simp) (by simp[zB,zBj,zB8,jT,Id.zero,zEe]) (by simp)) ?_
  intro i hi;by_cases h:i<N
  ·have h1:=zB2 l (10+i) 4 (by omega);have h2:=zCy l (10+i) 4 (by omega) hl (by omega) (qQ mods) (qQ mods);have hlt:(i:Int)<atV l 9 3:=by omega
   have v1:=qF (10+(i:Int)) (by omega);have v2:=zAk i (by omega);have hst:=zMf l 10 4 h (qQ mods);have hsl:=zGu l 10 4 hi (qQ mods);simp;refine zT h0 (by simp) (by simp) ?_;simp[hlt,v1];refine qK h1 (by simp) (by simp) ?_;simp[zB];refine qK h2 (by simp[zB]) (by simp) ?_;simp[zB];refine⟨⟨by simp[maxLen]; omega,by omega⟩,?_⟩;exact zU (i+1) h (by omega) (zR [0,1,2,3,4] 0 (by decide) (by simp) (by rw[hst]; simp[zB,zEu,qN,hsl]; omega) (by simp[v2]; omega))
  ·have hie:i=N:=by omega
   subst hie;have h3:=zF6 (mods+2);have h4:=zNy (idR (mods+2));have hall:=zO5 l 10 4 i (qQ mods);have hty:(zCS l mods).types=jT::tyL l 10 4 i (qQ mods):=by rw[hN]; rfl
   have hlen:=zGQ l 10 4 i (qQ mods);simp;refine zT h0 (by simp) (by simp) ?_;simp[hN];refine⟨qT [(0,.sl l.length (yH l)),(1,int mods),(5,bl true),(6,.ptr 0 0),(7,.ptr 1 0),(8,.sl (zCS l mods).types.length (jH (zCS l mods).types)),(10,.row 2 2),(12,int (mods-1)),(13,.ptr 3 0)],[.box (zB (qQ mods)),.box (zB (zBx mods)),.row false 88 11 2 (zBj (zBr l mods)++zBj (zB8 l mods)),.box (zB (qQ mods))],
    zR [0,1,2,3] 1 (by decide) (by simp) (by simp) (by rw[hty]; simp[←hN,hall,hlen,qN]; omega),?_⟩
   simp[w2];refine zT h3 (by simp) (by simp) ?_;simp;refine zT h4 (by simp[jF]) (by simp) ?_;simp[zB];refine⟨by simp[maxLen],?_⟩;refine qK zLm (by simp[zB,jT,Id.zero]) (by simp) ?_;simp[zB];refine⟨by simp[maxLen],?_⟩;refine⟨_,_,zR [0,1,3,2] 0 (by decide) (by simp) ?_ (by simp),hA⟩;simp[zB,zCr,zBj,zKh,zCS,qN,jT,Id.zero,zDp,hh,zEe]
theorem qKK (l:List Int)(mods:Int)(hm:1≤mods)(hm2:mods≤2)(hl:∀x∈l,w64 x=x) :
 wpK prog 0 zVg (zRc (qC l mods)) (qT [(0,.sl l.length (yH l)),(1,int mods),(5,bl (zEz l)),(6,.ptr 0 0),(7,.ptr 1 0),(8,.sl (zBr l mods).types.length (jH (zBr l mods).types))])
  [.box (zB (qQ mods)),.box (zB (zBx mods))]:=by
 have h0:=zB2 l 6 2 (by omega);obtain⟨r0,r0'⟩:=yM (i:=6) hl (most:=2) (by omega);obtain⟨N,hN⟩:∃N:Nat,(N:Int)=1+atV l 6 2:=⟨(1+atV l 6 2).toNat,by omega⟩;have wN:IntKind.i64.wrap (1+atV l 6 2)=N:=by rw[hN]; exact IntWalk.i64_in _ (by omega)
 have hQ:=qKL l mods hm hm2 hl;unfold zVg;simp;refine qW (S:=Nat) (fun i=>[(0,.sl l.length (yH l)),(1,int mods),(5,bl (zEz l)),(6,.ptr 0 0),(7,.ptr 1 0),(8,.row 3 (1+i)),(10,.row 2 1),(11,int i)])
  (fun i=>[.box (zB (qQ mods)),.box (zB (zBx mods)),.row false 88 11 1 (zBj (zBr l mods)),.row false 33 5 (1+i) (zB jT++jH ((tyL l 7 4 N (qQ mods)).take i))]) (fun i=>i≤N) (fun i=>N-i) 0 (by simp)
  (zR [0,1,2,3] 0 (by decide) (by simp) (by simp[zB,zBj,zBr,jT,Id.zero,zEe]) (by simp)) ?_
 intro i hi;by_cases h:i<N
 ·have h1:=zB2 l (7+i) 4 (by omega);have h2:=zCy l (7+i) 4 (by omega) hl (by omega) (qQ mods) (qQ mods);have v1:=qF (7+(i:Int)) (by omega);have v2:=zAk i (by omega);have hst:=zMf l 7 4 h (qQ mods);have hsl:=zGu l 7 4 hi (qQ mods);simp;refine zT h0 (by simp) (by simp) ?_;simp[h,v1,wN];refine qK h1 (by simp) (by simp) ?_;simp[zB];refine qK h2 (by simp[zB]) (by simp) ?_;simp[zB];refine⟨⟨by simp[maxLen]; omega,by omega⟩,?_⟩;exact zU (i+1) h (by omega) (zR [0,1,2,3] 0 (by decide) (by simp) (by rw[hst]; simp[zB,zEu,qN,hsl]; omega) (by simp[v2]; omega))
 ·have hie:i=N:=by omega
  subst hie;have hall:=zO5 l 7 4 i (qQ mods);have hty:(zB8 l mods).types=jT::tyL l 7 4 i (qQ mods):=by rw[hN]; rfl
  have hlen:=zGQ l 7 4 i (qQ mods);simp;refine zT h0 (by simp) (by simp) ?_;simp[wN];exact⟨_,_,zR [0,1,2] 1 (by decide) (by simp) (by simp) (by rw[hty]; simp[hall,hlen,qN]; omega),hQ⟩
theorem zXy (l:List Int)(mods:Int)(hm:1≤mods)(hm2:mods≤2)(hl:∀x∈l,w64 x=x) :
 Ret prog 33 [.sl l.length (yH l),int mods] [] (.sl (qC l mods).length (yY (qC l mods))) []:=by
 have w1:=qF (mods+1) (by omega);have k0:=zB2 l 1 4 (by omega);have k1:=zF6 mods;have k2:=zNy (idR mods);have k3:=zF6 (mods+1);have k4:=zNy (idR (mods+1));have h0:=zB2 l 2 3 (by omega);obtain⟨r0,r0'⟩:=yM (i:=2) hl (most:=3) (by omega);obtain⟨N,hN⟩:∃N:Nat,(N:Int)=1+atV l 2 3:=⟨(1+atV l 2 3).toNat,by omega⟩;have wN:IntKind.i64.wrap (1+atV l 2 3)=N:=by rw[hN]; exact IntWalk.i64_in _ (by omega)
 have hP:=qKK l mods hm hm2 hl;refine zI Tryz.func33 rfl qOt (rs:=[.slot 4]) (by kernel_rfl) ?_;unfold qHx;simp;refine zT k0 (by simp) (by simp) ?_;simp;refine zT k1 (by simp) (by simp) ?_;simp;refine zT k2 (by simp[jF]) (by simp) ?_;simp[zB,w1];refine zT k3 (by simp) (by simp) ?_;simp;refine zT k4 (by simp[jF]) (by simp) ?_;simp[zB];refine qW (S:=Nat) (fun i=>[(0,.sl l.length (yH l)),(1,int mods),(5,bl (zEz l)),(6,.ptr 0 0),(7,.ptr 1 0),(8,.row 2 i),(9,int i)])
  (fun i=>[.box (zB (qQ mods)),.box (zB (zBx mods)),.row false 33 5 i (jH ((tyL l 3 3 N (qQ mods)).take i))]) (fun i=>i≤N) (fun i=>N-i) 0 (by simp)
  ((yG (t:=8) (by simp) 33 5).trans (zR [0,1,2] 0 (by decide) (by simp) (by simp[zB,qQ,zBx]) (by simp[zEz]))) ?_
 intro i hi;by_cases h:i<N
 ·have h1:=zB2 l (3+i) 3 (by omega);have h2:=zCy l (3+i) 3 (by omega) hl (by omega) (qQ mods) (qQ mods);have v1:=qF (3+(i:Int)) (by omega);have v2:=zAk i (by omega);have hst:=zMf l 3 3 h (qQ mods);have hsl:=zGu l 3 3 hi (qQ mods);simp;refine zT h0 (by simp) (by simp) ?_;simp[h,v1,wN];refine qK h1 (by simp) (by simp) ?_;simp[zB];refine qK h2 (by simp[zB]) (by simp) ?_;simp[zB];refine⟨⟨by simp[maxLen]; omega,by omega⟩,?_⟩;exact zU (i+1) h (by omega) (zR [0,1,2] 0 (by decide) (by simp) (by rw[hst]; simp[zB,zEu,qN,hsl]) (by simp[v2]))
 ·have hie:i=N:=by omega
  subst hie;have hall:=zO5 l 3 3 i (qQ mods);have hty:(zBr l mods).types=tyL l 3 3 i (qQ mods):=by rw[hN]; rfl
  have hlen:=zGQ l 3 3 i (qQ mods);simp;refine zT h0 (by simp) (by simp) ?_;simp[wN];exact⟨_,_,zR [0,1] 1 (by decide) (by simp) (by simp) (by rw[hty]; simp[hall,hlen]),hP⟩
theorem zKq {α : Type}{idf : α→Id}{l:List α}{x:Id}{a : α}(h:zAD idf l x=some a):idf a=x:=by
 have:=jDa h
 simpa using this
theorem zIe {α : Type}{idf : α→Id}{l:List α}{x:Id}{a : α}(h:zAD idf l x=some a):a∈l:=jDb h
theorem zNi {α : Type}{idf : α→Id}{l:List α}{a : α}(h:a∈l):∃b,zAD idf l (idf a)=some b:=by
 cases hh:zAD idf l (idf a)with
 | some b=>exact⟨b,rfl⟩
 | none =>
  unfold zAD at hh;rw[jD8]at hh;have:=hh a h;simp at this
theorem zPp {α : Type}{idf : α→Id}(l l':List α)(x:Id):zAD idf (l++l') x=(zAD idf l x).or (zAD idf l' x):=by simp only[zAD,List.find?_append]
theorem zPq {α : Type}{idf : α→Id}(l:List α)(a : α)(x:Id):zAD idf (zBy idf l a) x=(zAD idf l x).or (if idf a=x then some a else none):=by
 unfold zBy;by_cases h:(zAD idf l (idf a)).isSome
 ·rw[if_pos h];by_cases e:idf a=x
  ·subst e;obtain⟨b,hb⟩:=Option.isSome_iff_exists.1 h;rw[hb]; rfl
  ·rw[if_neg e]; simp
 ·rw[if_neg h,zPp]
  congr 1
  simp only[zAD,jBz,List.find?_nil];by_cases e:idf a=x
  ·rw[if_pos e]; simp[e]
  ·rw[if_neg e]; simp[e]
theorem zIV {α : Type}{idf : α→Id}(x:Id):∀(L acc:List α),zAD idf (L.foldl (zBy idf) acc) x=(zAD idf acc x).or (zAD idf L x)
 | [],acc=>by simp[zAD]
 | a::L,acc=>by
  rw[jBh,zIV x L,zPq];have:zAD idf (a::L) x=(if idf a=x then some a else none).or (zAD idf L x):=by
   simp only[zAD,jBz];by_cases e:idf a=x
   ·simp[e]
   ·simp[e]
  rw[this,Option.or_assoc]
theorem zUE:(∀(e:Exp) (N:List Exp),zMD e N=(zAm e).foldl (zBy Exp.id) N)∧∀(l:List Exp) (N:List Exp),zDy l N=(zAe l).foldl (zBy Exp.id) N:=by
 constructor
 ·exact fun e=>vf e
 ·exact fun l=>vfs l
where
 vf:∀(e:Exp) (N:List Exp),zMD e N=(zAm e).foldl (zBy Exp.id) N
  | .mk a b c d t ks ns,N=>by simp only[zMD,zAm,jBh];exact vfs ks _
 vfs:∀(l:List Exp) (N:List Exp),zDy l N=(zAe l).foldl (zBy Exp.id) N
  | [],N=>rfl
  | e::l,N=>by simp only[zDy,zAe,jC3];rw[vf e N,vfs l]
theorem zJc (ds:List Dfn):zE1 ds=(zAi ds).foldl (zBy Exp.id) []:=by
 have key:∀(ds:List Dfn) (N:List Exp),ds.foldl zPG N=(zAi ds).foldl (zBy Exp.id) N:=by
  intro ds;induction ds with
  | nil=>intro N; rfl
  | cons d ds ih =>
   intro N;rw[jBh,ih];have e:zAi (d::ds)=(if zAI d.kind then zAm d.body else [])++zAi ds:=by simp[zAi]
   rw[e,jC3]
   congr 1
   unfold zPG;split
   ·exact zUE.1 _ _
   ·rfl
 exact key ds []
section
variable {α : Type}{idf : α→Id}{same : α→α→Bool}
theorem zNh (L:List α){a : α}(h:a∈L.foldl (zBy idf) []):zAD idf (L.foldl (zBy idf) []) (idf a)=some a:=by
 have key:∀(L acc:List α),(∀b∈acc,zAD idf acc (idf b)=some b)→∀b∈L.foldl (zBy idf) acc,zAD idf (L.foldl (zBy idf) acc) (idf b)=some b:=by
  intro L;induction L with
  | nil=>exact fun acc h=>h
  | cons x L ih =>
   intro acc hacc;rw[jBh];refine ih _ fun b hb=>?_
   rw[zPq];unfold zBy at hb;split at hb
   ·rw[hacc b hb]; rfl
   ·rename_i hn;rcases jA8.1 hb with hb | hb
    ·rw[hacc b hb]; rfl
    ·rw[jAg.1 hb];have:zAD idf acc (idf x)=none:=by simpa using hn
     rw[this]; simp
 exact key L [] (by simp) a h
theorem zXk {P Q:List α}{x:Id}:x∈zM0 idf same (P.foldl (zBy idf) []) (Q.foldl (zBy idf) [])↔(∃a,zAD idf P x=some a∧∀b,zAD idf Q x=some b→same a b=false)∨(zAD idf P x=none∧∃b,zAD idf Q x=some b):=by
 have hP:∀x,zAD idf (P.foldl (zBy idf) []) x=zAD idf P x:=fun x=>by rw[zIV]; rfl
 have hQ:∀x,zAD idf (Q.foldl (zBy idf) []) x=zAD idf Q x:=fun x=>by rw[zIV]; rfl
 simp only[zM0,jA8,jAi,List.mem_filter];constructor
 ·rintro(⟨a,⟨h1,h2⟩,rfl⟩ | ⟨b,⟨h1,h2⟩,rfl⟩)
  ·have ha:=zNh P h1;rw[hP]at ha;refine .inl ⟨a,ha,fun b hb=>?_⟩;simp only[cD1,hQ,hb]at h2
   simpa using h2
  ·have hb:=zNh Q h1;rw[hQ]at hb;simp only[cD2,hP,jCp]at h2;exact .inr ⟨h2,b,hb⟩
 ·rintro(⟨a,ha,h⟩ | ⟨h,b,hb⟩)
  ·have hai:=zKq ha;subst hai;have ha':=ha;rw[←hP]at ha';refine .inl ⟨a,⟨zIe ha',?_⟩,rfl⟩;simp only[cD1,hQ];cases hq:zAD idf Q (idf a)with
   | none=>rfl
   | some b=>simp[h b hq]
  ·have hbi:=zKq hb;subst hbi;have hb':=hb;rw[←hQ]at hb';refine .inr ⟨b,⟨zIe hb',?_⟩,rfl⟩;simp only[cD2,hP,h];rfl
end
theorem zOd {k:Int}(h0:0≤k)(h1:k≤1000000000000000):idR k=⟨0,1+k / 32,k % 32⟩:=by unfold idR;have e1:k.tdiv 32=k / 32:=tdN h0;have e2:k.tmod 32=k % 32:=tmN h0;have w1:=qF (k.tdiv 32) (by omega);rw[w1,e2];have w2:=qF (1+k.tdiv 32) (by omega);rw[w2,e1]
theorem qB6 {k:Int}(h0:0≤k)(h1:k≤1000000000000000):1≤(idR k).b:=by rw[zOd h0 h1];show 1≤1+k / 32;omega
theorem zFf {k j:Int}(h0:0≤k)(h1:k≤1000000000000000)(g0:0≤j)(g1:j≤1000000000000000)(h:idR k=idR j):k=j:=by
 rw[zOd h0 h1,zOd g0 g1]at h;injection h with _ h2 h3
 omega
def zNA (next:Int)(p:Pln)(k:Nat):Slt:=⟨idR (next+k),p.names.getD k ⟨#[]⟩,p.types.getD k jT,if p.kind=4 then p.most.getD k 0 else 0,k⟩
def zBw (next:Int)(p:Pln):List Slt:=(List.range p.types.length).map (zNA next p)
def zOU (mods next:Int)(i:Nat)(p:Pln):Dfn:=⟨idR (mods+i),p.kind,idR p.mod,p.name,zBw next p,p.out,Exp.zero,0,[]⟩
def zA9 (mods:Int)(ps:List Pln):Nat→Int
 | 0=>mods+ps.length
 | i+1=>zA9 mods ps i+(match ps[i]? with | some p=>(p.types.length:Int) | none=>0)
def zEf (mods:Int)(ps:List Pln):List Dfn:=ps.mapIdx fun i p=>zOU mods (zA9 mods ps i) i p
def zFD (mods:Int)(ps:List Pln)(c:Int)(i:Nat):List Id:=((List.range i).filter fun j=>match ps[j]? with | some p=>decide (p.mod=c) | none=>false).map fun(j:Nat)=>idR (mods+j)
def zIl (mods:Int)(ps:List Pln):List Md :=
 (⟨idR 0,⟨#[99,111,114,101]⟩,[],zFD mods ps 0 ps.length⟩:Md)::(if mods=2 then [⟨idR 1,⟨#[109,105,108,108]⟩,[idR 0],zFD mods ps 1 ps.length⟩] else [])
@[simp] theorem zT3 (mods:Int)(ps:List Pln):(zEf mods ps).length=ps.length:=by simp[zEf]
@[simp] theorem zCW (next:Int)(p:Pln):(zBw next p).length=p.types.length:=by simp[zBw]
theorem zIK (mods:Int)(ps:List Pln){i:Nat}(h:i<ps.length):(zEf mods ps)[i]'(by simpa using h)=zOU mods (zA9 mods ps i) i ps[i]:=by simp[zEf]
theorem zLv (mods:Int)(ps:List Pln){i:Nat}(h:i<ps.length):zA9 mods ps (i+1)=zA9 mods ps i+ps[i].types.length:=by simp only[zA9]; rw[jA2 h]
structure PlnOk (mods:Int)(p:Pln):Prop where
 kind0:0≤p.kind
 kind5:p.kind≤5
 mod0:0≤p.mod
 mod1:p.mod<mods
 t1:1≤p.types.length
 t6:p.types.length≤6
 names:p.types.length≤p.names.length
 most:p.kind=4→p.types.length≤p.most.length
theorem zRI (x:Int)(a b:Typ)(hx:w64 x=x):zCD x a b=jT∨zCD x a b=yC∨zCD x a b=jV jT∨zCD x a b=a∨zCD x a b=b:=by
 obtain⟨k0,k6⟩:=zC2 (k:=6) hx (by omega);unfold zCD;generalize zA4 x 6=k at *
 have:k=0∨k=1∨k=2∨k=3∨k=4∨k=5:=by omega
 rcases this with rfl | rfl | rfl | rfl | rfl | rfl<;>simp
theorem zK6 {l:List Int}{i most:Int}(hl:∀x∈l,w64 x=x)(hm:0<most)(h2:most≤1000):w64 (atV l i most)=atV l i most:=by obtain⟨a,b⟩:=yM (i:=i) hl hm;exact IntWalk.i64_in _ (by omega)
theorem zHL {k:Int}(h0:0≤k)(h:k<6):zA4 k 6=k:=by
 have:k=0∨k=1∨k=2∨k=3∨k=4∨k=5:=by omega
 rcases this with rfl | rfl | rfl | rfl | rfl | rfl<;>decide
theorem zXB {x:Int}(h0:0≤x)(h:x<3)(a b:Typ):zCD x a b=jT∨zCD x a b=yC∨zCD x a b=jV jT:=by
 unfold zCD;rw[zHL h0 (by omega)];have:x=0∨x=1∨x=2:=by omega
 rcases this with rfl | rfl | rfl<;>simp
theorem zXC {x:Int}(h0:0≤x)(h:x<4)(a b:Typ):zCD x a b=jT∨zCD x a b=yC∨zCD x a b=jV jT∨zCD x a b=a:=by
 unfold zCD;rw[zHL h0 (by omega)];have:x=0∨x=1∨x=2∨x=3:=by omega
 rcases this with rfl | rfl | rfl | rfl<;>simp
theorem zKu {l:List Int}{at_ most n:Int}{one t:Typ}(h:t∈tyL l at_ most n one):∃i:Nat,t=zCD (atV l (at_+i) most) one one:=by simp only[tyL,jAi]at h;obtain⟨i,_,rfl⟩:=h;exact⟨i,rfl⟩
theorem zCX (l:List Int)(at_ most n:Int)(one:Typ):(tyL l at_ most n one).length=n.toNat:=by simp[tyL]
section
variable (l:List Int)(mods:Int)(hm:1≤mods)(hm2:mods≤2)(hl:∀x∈l,w64 x=x)
include hm hm2 hl
theorem zBs:∀p∈qC l mods,PlnOk mods p:=by
 intro p hp;have a2:=yM (i:=2) hl (most:=3) (by omega);have a6:=yM (i:=6) hl (most:=2) (by omega);have a9:=yM (i:=9) hl (most:=3) (by omega);have a15:=yM (i:=15) hl (most:=mods) (by omega);have hF:(zEY l mods).length=1∨(zEY l mods).length=2:=by unfold zEY;split<;>simp
 have hT:(inV l 18 (qQ mods)).length=1∨(inV l 18 (qQ mods)).length=2:=by
  unfold inV zWP;split
  ·simp
  ·split<;>simp
 have hp':p=zBr l mods∨p=zB8 l mods∨p=zCS l mods∨p=zKh mods∨p=pF l mods∨p=zIq mods∨p=pG l mods∨p=pT l mods∨p=pC l mods:=by
  simp only[qC,plB,plC,plD,plE,jA8,jA3]at hp;rcases hp with ((h | h | h) | h) | h | h | h | h
  ·simp[h]
  ·simp[h]
  ·simp at h
  ·split at h
   ·simp at h; rcases h with h | h<;>simp[h]
   ·simp at h
  ·simp[h]
  ·split at h<;>simp[h]
  ·simp[h]
  ·split at h
   ·simp at h; simp[h]
   ·simp at h
 rcases hp' with rfl | rfl | rfl | rfl | rfl | rfl | rfl | rfl | rfl
 ·refine⟨?_,?_,?_,?_,?_,?_,?_,?_⟩<;>simp only[zBr,zCX]<;>first | omega | simp<;>omega
 ·refine⟨?_,?_,?_,?_,?_,?_,?_,?_⟩<;>simp only[zB8,jAd,zCX]<;>first | omega | simp<;>omega
 ·refine⟨?_,?_,?_,?_,?_,?_,?_,?_⟩<;>simp only[zCS,jAd,zCX]<;>first | omega | simp<;>omega
 ·refine⟨?_,?_,?_,?_,?_,?_,?_,?_⟩<;>simp only[zKh,jAd,jBm]<;>first | omega | simp<;>omega
 ·refine⟨?_,?_,?_,?_,?_,?_,?_,?_⟩<;>simp only[pF,jAd,jBm]<;>first | omega | simp<;>omega
 ·refine⟨?_,?_,?_,?_,?_,?_,?_,?_⟩<;>simp only[zIq,jAd,jBm]<;>first | omega | simp<;>omega
 ·refine⟨?_,?_,?_,?_,?_,?_,?_,?_⟩<;>simp only[pG,jAd,jBm]<;>first | omega | simp<;>omega
 ·refine⟨?_,?_,?_,?_,?_,?_,?_,?_⟩<;>simp only[pT,jAd,jBm,jAa]<;>first | omega | simp<;>omega
 ·refine⟨?_,?_,?_,?_,?_,?_,?_,?_⟩<;>simp only[pC,jAd,jBm]<;>first | omega | simp<;>omega
omit hm hm2 hl in
theorem zAE:5≤(qC l mods).length∧(qC l mods).length≤8:=by unfold qC plB plC plD plE;split<;>split<;>simp
end
theorem zCw {mods:Int}{ps:List Pln}(hm:0≤mods)(h6:∀p∈ps,p.types.length≤6):∀i:Nat,mods+ps.length≤zA9 mods ps i∧zA9 mods ps i≤mods+ps.length+6*i
 | 0=>by simp[zA9]
 | i+1=>by
  have ih:=zCw hm h6 i;simp only[zA9];split
  ·rename_i p hp;have:=h6 p (jBt hp);omega
  ·omega
theorem zR3 {mods:Int}{ps:List Pln}{i j:Nat}(h:i≤j):zA9 mods ps i≤zA9 mods ps j:=by
 induction h with
 | refl=>exact jC7 _
 | step h ih =>
  simp only[zA9];split
  ·rename_i p _;have:=Int.natCast_nonneg p.types.length;omega
  ·omega
@[simp] theorem qLH:zA prog 22=true:=by kernel_rfl
def zM4 (mods:Int)(ps:List Pln):List Hd:=(zEf mods ps).map Dfn.hd
@[simp] theorem qJB (mods:Int)(ps:List Pln):(zM4 mods ps).length=ps.length:=by simp[zM4]
theorem zE6 (mods:Int)(ps:List Pln){k:Nat}(h:k<ps.length):(zM4 mods ps)[k]'(by simpa using h)=⟨idR (mods+k),ps[k].kind,zBw (zA9 mods ps k) ps[k],ps[k].out⟩:=by simp only[zM4,jAr];rw[zIK mods ps h];rfl
theorem zH6 {next:Int}{p:Pln}{s:Slt}(h:s∈zBw next p):s.typ∈p.types:=by simp only[zBw,jAi,jC0]at h;obtain⟨k,hk,rfl⟩:=h;simp only[zNA,jC5,jA2 hk,jCq];exact jA0 hk
theorem zNU {mods:Int}{ps:List Pln}(hm:1≤mods)(hm2:mods≤2)(hps:ps.length≤8)(h6:∀p∈ps,PlnOk mods p){k:Nat}(hk:k<ps.length)(hkd:ps[k].kind=0∨ps[k].kind=1){r:Nat}(ht:∀t∈ps[k].types,TyOk (zM4 mods ps) r t) :
 TyOk (zM4 mods ps) (r+1) (zBA (idR (mods+k))):=by
 have hk':k<(zM4 mods ps).length:=by simpa using hk
 have hg:=zE6 mods ps hk;have hp:=h6 _ (jA0 hk);have:=TyOk.dfn (hs:=zM4 mods ps) r k hk' (fun j hj=>by
  rw[hg,zE6 mods ps (show j<ps.length by omega)];intro e;have:=zFf (by omega) (by omega) (by omega) (by omega) e;omega) (by
  rw[hg];rcases hkd with h | h
  ·exact .inl h
  ·exact .inr ⟨h,by simp only[zCW]; exact hp.t1⟩) (by rw[hg]; simp only[zCW]; exact hp.t6) (fun s hs=>by
  rw[hg]at hs;exact ht _ (zH6 hs))
 rw[hg]at this;exact this
section
variable (l:List Int)(mods:Int)(hm:1≤mods)(hm2:mods≤2)(hl:∀x∈l,w64 x=x)
abbrev hsV:List Hd:=zM4 mods (qC l mods)
theorem pv0:∃h:0<(qC l mods).length,(qC l mods)[0]=zBr l mods:=⟨by simp[qC],by simp[qC]⟩
theorem pv1:∃h:1<(qC l mods).length,(qC l mods)[1]=zB8 l mods:=⟨by simp[qC],by simp[qC]⟩
theorem pv2 (hh:zEz l=true):∃h:2<(qC l mods).length,(qC l mods)[2]=zCS l mods:=⟨by simp[qC,hh],by simp[qC,hh]⟩
theorem pv3 (hh:zEz l=true):∃h:3<(qC l mods).length,(qC l mods)[3]=zKh mods:=⟨by simp[qC,hh],by simp[qC,hh]⟩
include hm hm2 hl
theorem zI3:TyOk (hsV l mods) 2 (qQ mods):=by
 obtain⟨h,e⟩:=pv0 l mods;have h8:=(zAE l mods).2;have:=zNU hm hm2 h8 (zBs l mods hm hm2 hl) h (by rw[e]; exact .inl rfl) (r:=1) (fun t ht=>by
  rw[e]at ht;obtain⟨i,rfl⟩:=zKu ht;obtain⟨a,b⟩:=yM (i:=3+i) hl (most:=3) (by omega);rcases zXB a b (qQ mods) (qQ mods)with e | e | e<;>rw[e]
  ·exact .int _
  ·exact .bool _
  ·exact .list _ _ (.int _))
 simpa [qQ] using this
theorem zXO {r:Nat}(hr:2≤r){x:Int}(h0:0≤x)(h:x<4):TyOk (hsV l mods) r (zCD x (qQ mods) (qQ mods)):=by
 refine TyOk.mono ?_ hr;rcases zXC h0 h (qQ mods) (qQ mods)with e | e | e | e<;>rw[e]
 ·exact .int _
 ·exact .bool _
 ·exact .list _ _ (.int _)
 ·exact zI3 l mods hm hm2 hl
theorem zQ1:TyOk (hsV l mods) 3 (zBx mods):=by
 obtain⟨h,e⟩:=pv1 l mods;have h8:=(zAE l mods).2;have:=zNU hm hm2 h8 (zBs l mods hm hm2 hl) h (by rw[e]; exact .inr rfl) (r:=2) (fun t ht=>by
  rw[e]at ht;rcases jA3.1 ht with rfl | ht
  ·exact .int _
  ·obtain⟨i,rfl⟩:=zKu ht;obtain⟨a,b⟩:=yM (i:=7+i) hl (most:=4) (by omega);exact zXO l mods hm hm2 hl (jA _) a b)
 simpa [zBx] using this
theorem zEM (hh:zEz l=true):TyOk (hsV l mods) 3 (zBA (idR (mods+2))):=by
 obtain⟨h,e⟩:=pv2 l mods hh;have h8:=(zAE l mods).2;have:=zNU hm hm2 h8 (zBs l mods hm hm2 hl) h (by rw[e]; exact .inl rfl) (r:=2) (fun t ht=>by
  rw[e]at ht;rcases jA3.1 ht with rfl | ht
  ·exact .int _
  ·obtain⟨i,rfl⟩:=zKu ht;obtain⟨a,b⟩:=yM (i:=10+i) hl (most:=4) (by omega);exact zXO l mods hm hm2 hl (jA _) a b)
 simpa using this
theorem zXQ:TyOk (hsV l mods) 3 (zDp l mods):=by
 unfold zDp;split
 ·rename_i hh; exact zEM l mods hm hm2 hl hh
 ·exact(zI3 l mods hm hm2 hl).mono (by omega)
theorem zXP (hh:zEz l=true):TyOk (hsV l mods) 4 (zBA (idR (mods+3))):=by
 obtain⟨h,e⟩:=pv3 l mods hh;have h8:=(zAE l mods).2;have:=zNU hm hm2 h8 (zBs l mods hm hm2 hl) h (by rw[e]; exact .inl rfl) (r:=3) (fun t ht=>by
  rw[e]at ht;simp only[zKh,jA3,jAw,or_false]at ht;rcases ht with rfl | rfl | rfl
  ·exact zEM l mods hm hm2 hl hh
  ·exact .list _ _ (.int _)
  ·exact .int _)
 simpa using this
omit hm hm2 hl in
theorem zH9 {a b:Typ}(ha:TyOk (hsV l mods) 4 a)(hb:TyOk (hsV l mods) 4 b){x:Int}(hx:w64 x=x):TyOk (hsV l mods) 4 (zCD x a b):=by
 rcases zRI x a b hx with e | e | e | e | e<;>rw[e]
 ·exact .int _
 ·exact .bool _
 ·exact .list _ _ (.int _)
 ·exact ha
 ·exact hb
theorem zJj:∀p∈qC l mods,(∀t∈p.types,TyOk (hsV l mods) 4 t)∧TyOk (hsV l mods) 4 p.out:=by
 have t1:=(zI3 l mods hm hm2 hl).mono (show 2≤4 by omega);have t2:=(zQ1 l mods hm hm2 hl).mono (show 3≤4 by omega);have t3:=(zXQ l mods hm hm2 hl).mono (show 3≤4 by omega);have tR:TyOk (hsV l mods) 4 (zRN l mods):=zH9 l mods t1 t1 (zK6 hl (by omega) (by omega));have tL:∀(a m n:Int),0<m→m≤4→∀t∈tyL l a m n (qQ mods),TyOk (hsV l mods) 4 t:=fun a m n h0 h1 t ht=>by obtain⟨i,rfl⟩:=zKu ht;exact zH9 l mods t1 t1 (zK6 hl h0 (by omega))
 intro p hp;simp only[qC,plB,plC,plD,plE,jA8,jA3]at hp;rcases hp with ((rfl | rfl | h) | h) | rfl | h | rfl | h
 ·exact⟨tL _ _ _ (by omega) (by omega),.int _⟩
 ·refine⟨fun t ht=>?_,.int _⟩;rcases jA3.1 ht with rfl | ht
  ·exact .int _
  ·exact tL _ _ _ (by omega) (by omega) t ht
 ·simp at h
 ·split at h
  ·rename_i hh;simp at h;rcases h with rfl | rfl
   ·refine⟨fun t ht=>?_,.int _⟩;rcases jA3.1 ht with rfl | ht
    ·exact .int _
    ·exact tL _ _ _ (by omega) (by omega) t ht
   ·refine⟨fun t ht=>?_,.int _⟩;simp only[zKh,jA3,jAw,or_false]at ht;rcases ht with rfl | rfl | rfl
    ·exact(zEM l mods hm hm2 hl hh).mono (by omega)
    ·exact .list _ _ (.int _)
    ·exact .int _
  ·simp at h
 ·refine⟨fun t ht=>?_,tR⟩;simp only[pF,zEY,jA3]at ht;rcases ht with rfl | ht
  ·exact zH9 l mods t1 t2 (zK6 hl (by omega) (by omega))
  ·split at ht
   ·simp at ht; rw[ht]; exact zH9 l mods t1 t2 (zK6 hl (by omega) (by omega))
   ·simp at ht
 ·split at h
  ·rename_i hh;subst h;refine⟨fun t ht=>?_,zXP l mods hm hm2 hl hh⟩;simp only[zIq,jA3,jAw,or_false]at ht;rcases ht with rfl | rfl
   ·exact(zEM l mods hm hm2 hl hh).mono (by omega)
   ·exact t2
  ·subst h;refine⟨fun t ht=>?_,zH9 l mods t1 t2 (zK6 hl (by omega) (by omega))⟩;simp only[pG,jA3,jAw,or_false]at ht;rw[ht]; exact t2
 ·refine⟨fun t ht=>?_,zH9 l mods t1 tR (zK6 hl (by omega) (by omega))⟩;simp only[pT,jAi]at ht;obtain⟨q,hq,rfl⟩:=ht;simp only[inV,jA3]at hq;rcases hq with rfl | hq
  ·unfold qDG;split
   ·exact .bool _
   ·split
    ·exact .list _ _ (.int _)
    ·split
     ·exact t1
     ·exact .int _
  ·unfold zWP at hq;split at hq
   ·simp at hq; rw[hq]; exact .int _
   ·split at hq
    ·simp at hq; rw[hq]; exact .bool _
    ·simp at hq
 ·split at h
  ·simp at h;subst h;refine⟨fun t ht=>?_,zH9 l mods t1 t3 (zK6 hl (by omega) (by omega))⟩;simp only[pC,jA3,jAw,or_false]at ht;rw[ht]; exact t3
  ·simp at h
theorem cxV (m:Mk)(hd:m.defs.map Dfn.hd=hsV l mods)(hmods:0<m.mods.length)(hml:m.l=l)(ho:m.own≤1000):Cx (hsV l mods) 4 m:=by
 obtain⟨n5,n8⟩:=zAE l mods;refine⟨hd,by simp; omega,by simp; omega,hmods,hml▸hl,ho,fun k h hk=>?_,fun k h=>?_⟩
 ·have h':k<(qC l mods).length:=by simpa using h
  have hg:=zE6 mods (qC l mods) h';rw[hg]at hk ⊢;have hpt:=zJj l mods hm hm2 hl _ (jA0 h');have hk4:k<2∨zEz l=true∧k<4:=by
   by_cases h2:k<2
   ·exact .inl h2
   cases hh:zEz l with
   | true =>
    refine .inr ⟨rfl,?_⟩;by_cases h4:k<4
    ·exact h4
    ·exfalso;have hmem:(qC l mods)[k]∈plB l mods:=by
      have e:qC l mods=[zBr l mods,zB8 l mods,zCS l mods,zKh mods]++plB l mods:=by simp[qC,hh]
      simp only[e];rw[jCc (by simp; omega)];exact jA0 _
     simp only[plB,plC,plD,plE,jA3]at hmem;rcases hmem with e | e | e | e
     ·rw[e]at hk; simp[pF]at hk
     ·rw[e]at hk; split at hk<;>simp[zIq,pG]at hk
     ·rw[e]at hk; simp[pT]at hk
     ·split at e
      ·simp at e; rw[e]at hk; simp[pC]at hk
      ·simp at e
   | false =>
    exfalso;have hmem:(qC l mods)[k]∈plB l mods:=by
     have e:qC l mods=[zBr l mods,zB8 l mods]++plB l mods:=by simp[qC,hh]
     simp only[e];rw[jCc (by simp; omega)];exact jA0 _
    simp only[plB,plC,plD,plE,jA3]at hmem;rcases hmem with e | e | e | e
    ·rw[e]at hk; simp[pF]at hk
    ·rw[e]at hk; split at hk<;>simp[zIq,pG]at hk
    ·rw[e]at hk; simp[pT]at hk
    ·split at e
     ·simp at e; rw[e]at hk; simp[pC]at hk
     ·simp at e
  have hc:k=0∨k=1∨(zEz l=true∧k=2)∨(zEz l=true∧k=3):=by
   rcases hk4 with h | ⟨h,h'⟩
   ·omega
   ·have:k=0∨k=1∨k=2∨k=3:=by omega
    rcases this with e | e | e | e
    ·exact .inl e
    ·exact .inr (.inl e)
    ·exact .inr (.inr (.inl ⟨h,e⟩))
    ·exact .inr (.inr (.inr ⟨h,e⟩))
  rcases hc with rfl | rfl | ⟨hh,rfl⟩ | ⟨hh,rfl⟩
  ·have:=(zI3 l mods hm hm2 hl).mono (show 2≤4 by omega)
   simpa [qQ] using this
  ·have:=(zQ1 l mods hm hm2 hl).mono (show 3≤4 by omega)
   simpa [zBx] using this
  ·exact(zEM l mods hm hm2 hl hh).mono (by omega)
  ·exact zXP l mods hm hm2 hl hh
 ·have h':k<(qC l mods).length:=by simpa using h
  have hg:=zE6 mods (qC l mods) h';have hpt:=zJj l mods hm hm2 hl _ (jA0 h');rw[hg];exact⟨by simp only[zCW]; exact(zBs l mods hm hm2 hl _ (jA0 h')).t6,fun s hs=>hpt.1 _ (zH6 hs)⟩
end
end Go.Proofs.YthglhccibdlccaaGreatDoor
