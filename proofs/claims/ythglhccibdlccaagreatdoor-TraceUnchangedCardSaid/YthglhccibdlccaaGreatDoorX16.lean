/-
  The maker's expressions, walked.
  The maker's expressions, walked: what binds.
  The maker's expressions have the types that they are to have.
  The number of nodes, their numbers, their IDs.
-/
import Derived.Test.YthglhccibdlccaaGreatDoorX15
set_option linter.unusedVariables false
set_option maxHeartbeats 8000000
set_option maxRecDepth 100000
set_option linter.unusedSimpArgs false
open Go.Proofs.Tryz (prog)
namespace Go.Proofs.YthglhccibdlccaaGreatDoor
open Go.Abs
def zBB:K:=G [kO 5 1,kZ 8 kz1] (G [M 21 0,kC 22 76 [(kt 21),(kc 65536)],M 9 22] (G [M 23 2,J 24 5 5,kC 25 77 [(kt 23),(kt 24)],M 10 25] (Z (G [M 26 0,kU 27 26,D 28 27 5,L 29 28 1,kBi 30 29 0 .leq] (Y 30 (K.ops [M 31 3,⟨none,.mm (some 32) false [(kt 31),(kc 0)]⟩,M 3 32]) ks)) (Z (G [M 33 10,kN 34 33,kBi 35 34 0 .gtr,M 36 35,T 36 true (M 37 3),T 36 true (kBi 38 37 0 .leq),T 36 true (M 39 38),T 39 false (M 40 9),T 39 false (kBi 41 40 3 .rem),T 39 false (kQi 42 41 0 false),T 36 true (kPt 43 39 42),kPf 44 36 43] (Y 44 (G [M 45 0,M 46 10,M 47 9,kBi 48 47 3 .quo,M 49 10,kN 50 49,kB 51 48 50 .rem,kX 52 46 51 9,J 53 52 9,kC 54 78 [(kt 45),(kt 53)],S 8 54 15] kr) ks)) (Z (G [M 55 3,kBi 56 55 0 .leq] (Y 56 (G [M 57 0,J 58 5 5,M 59 2,M 60 9,kBi 61 60 3 .quo,M 62 3,kC 63 79 [(kt 57),(kt 58),(kt 59),(kt 61),(kt 62)],S 8 63 15] kr) ks)) (G [M 64 9,kBi 65 64 3 .quo,kBi 66 65 12 .rem,M 11 66] (G [M 67 9,kBi 68 67 36 .quo,M 9 68] (Z (G [M 69 11,kQi 70 69 0 false,M 71 70,T 71 false (M 72 11),T 71 false (kQi 73 72 1 false),kPt 74 71 73] (Y 74 (G [M 75 0,kb 76 kz2 [(0,1,(kc 1))],M 77 2,M 78 3,kBi 79 78 1 .sub,kC 80 34 [(kt 75),(kt 76),(kt 77),(kt 79)],kZ 12 kz1,S 12 80 15] (G [M 81 0,J 82 5 5,M 83 2,M 84 3,kBi 85 84 1 .sub,kC 86 34 [(kt 81),(kt 82),(kt 83),(kt 85)],kZ 13 kz1,S 13 86 15] (Z (K.dops [(0,0,M 87 0),(1,2002,J 88 12 15),(2,2002,J 89 13 15),(3,0,M 90 0),(4,0,J 91 5 5),(5,0,M 92 2),(6,0,
 M 93 3),(7,0,kBi 94 93 1 .sub),(8,1002,kC 95 34 [(kt 90),(kt 91),(kt 92),(kt 94)]),(9,0,kd 96 37 15 3 kz4 [(0,15,(kt 88)),(15,15,(kt 89)),(30,15,(kt 95))]),(10,4,kC 97 80 [(kt 87),(kc 5),(kc 0),(kt 96)]),(11,0,S 8 97 15)]) kr))) ks)) (Z (G [M 98 11,kQi 99 98 2 false] (Y 99 (G [M 100 2,M 101 9,M 102 2,kN 103 102,kB 104 101 103 .rem,kX 105 100 104 9,D 106 105 4,J 107 106 5,kZ 14 kz2,S 14 107 5] (G [M 108 0,J 109 14 5,M 110 2,M 111 3,kBi 112 111 1 .sub,kC 113 34 [(kt 108),(kt 109),(kt 110),(kt 112)],kZ 15 kz1,S 15 113 15] (G [M 114 0,kC 115 80 [(kt 114),(kc 6),(kc 0),(.const kl)],kZ 16 kz1,S 16 115 15] (G [M 116 0,kC 117 81 [(kt 116)],⟨none,.bslice (some 118) 9 1 1 [(.string ⟨#[]⟩)] [(0,1,(kt 117))]⟩,D 119 16 14,S 119 118 1] (Z (K.dops [(0,2002,J 120 15 15),(1,0,M 121 0),(2,0,J 122 5 5),(3,0,M 123 2),(4,0,D 124 16 0),(5,0,J 125 124 3),(6,0,J 126 14 5),(7,0,kb 127 kz7 [(0,3,(kt 125)),(4,5,(kt 126))]),(8,0,kC 128 82 [(kt 123),(kt 127)]),(9,0,M 129 3),(10,0,kBi 130 129 1 .sub),(11,1002,kC 131 34 [(kt 121),(kt 122),(kt 128),(kt 130)]),(12,0,kd 132 37 15 2 kz6 [(0,15,(kt 120)),(15,15,(kt 131))]),(13,2,D 133 16 13),(14,0,S 133 132 1)]) (G [J 134 16 15,S 8 134 15] kr)))))) ks)) (Z (G [M 135 11,kQi 136 135 3 false,M 137 136,T 137 false (M 138 11),T 137 false (kQi 139 138 4 false),kPt 140 137 139] (Y 140 (G [M 141 0,J 142 5 5,M 143 2,M 144 9,M 145 3,kC 146 83 [(kt 141),(kt 142),(kt 143),(kt 144),(kt 145)],S 8 146 15] kr) ks)) (Z (G [M 147 11,kQi 148 147 5 false] (Y 148 (G [M 149 0,
 J 150 5 5,M 151 2,M 152 9,M 153 3,kC 154 84 [(kt 149),(kt 150),(kt 151),(kt 152),(kt 153)],S 8 154 15] kr) ks)) (Z (G [M 155 11,kQi 156 155 6 false,M 157 156,T 157 false (M 158 11),T 157 false (kQi 159 158 7 false),kPt 160 157 159] (Y 160 (G [M 161 0,J 162 5 5,M 163 2,M 164 9,M 165 3,kC 166 85 [(kt 161),(kt 162),(kt 163),(kt 164),(kt 165)],S 8 166 15] kr) ks)) (Z (G [M 167 11,kQi 168 167 8 false] (Y 168 (G [M 169 0,kb 170 kz2 [],kC 171 74 [(kt 170)],M 172 2,M 173 3,kBi 174 173 1 .sub,kC 175 34 [(kt 169),(kt 171),(kt 172),(kt 174)],kZ 17 kz1,S 17 175 15] (G [M 176 0,J 177 5 5,M 178 2,M 179 3,kBi 180 179 1 .sub,kC 181 34 [(kt 176),(kt 177),(kt 178),(kt 180)],kZ 18 kz1,S 18 181 15] (G [M 182 0,kC 183 80 [(kt 182),(kc 12),(kc 0),(.const kl)],kZ 19 kz1,S 19 183 15] (G [M 184 0,kC 185 81 [(kt 184)],M 186 0,kC 187 81 [(kt 186)],⟨none,.bslice (some 188) 9 1 2 [(.string ⟨#[]⟩),(.string ⟨#[]⟩)] [(0,1,(kt 185)),(1,1,(kt 187))]⟩,D 189 19 14,S 189 188 1] (Z (K.dops [(0,0,M 190 2),(1,0,D 191 19 0),(2,0,J 192 191 3),(3,0,kb 193 kz2 []),(4,0,kb 194 kz7 [(0,3,(kt 192)),(4,5,(kt 193))]),(5,0,kC 195 82 [(kt 190),(kt 194)]),(6,0,D 196 19 0),(7,0,J 197 196 3),(8,0,J 198 5 5),(9,0,kb 199 kz7 [(0,3,(kt 197)),(3,1,(kc 1)),(4,5,(kt 198))]),(10,0,kC 200 82 [(kt 195),(kt 199)]),(11,0,M 20 200)]) (Z (K.dops [(0,2002,J 201 17 15),(1,2002,J 202 18 15),(2,0,M 203 0),(3,0,J 204 5 5),(4,0,M 205 20),(5,0,
 M 206 3),(6,0,kBi 207 206 1 .sub),(7,1002,kC 208 34 [(kt 203),(kt 204),(kt 205),(kt 207)]),(8,0,kd 209 37 15 3 kz4 [(0,15,(kt 201)),(15,15,(kt 202)),(30,15,(kt 208))]),(9,2,D 210 19 13),(10,0,S 210 209 1)]) (G [J 211 19 15,S 8 211 15] kr))))))) ks)) (G [M 212 0,J 213 5 5,M 214 2,M 215 9,M 216 3,kC 217 86 [(kt 212),(kt 213),(kt 214),(kt 215),(kt 216)],S 8 217 15] kr))))))))))))))
def qQD:Nat→Option (List (Nat×Nat)):=fun r=>match r with | 14=>some [(0,0),(1,2002),(2,2002),(3,0),(4,0),(5,0),(6,0),(7,0),(8,1002),(9,0),(10,4),(11,0)] | 20=>some [(0,2002),(1,0),(2,0),(3,0),(4,0),(5,0),(6,0),(7,0),(8,0),(9,0),(10,0),(11,1002),(12,0),(13,2),(14,0)] | 34=>some [(0,2002),(1,2002),(2,0),(3,0),(4,0),(5,0),(6,0),(7,1002),(8,0),(9,2),(10,0)] | _=>none
theorem zBH:qD prog Tryz.f34.ntmps qQD (Tryz.f34.body.getD .skip)=some zBB.erase:=by kernel_rfl
@[simp] theorem qPp:zA prog 34=true:=by kernel_rfl
abbrev zJg:FuncId:=76
abbrev zIR:FuncId:=77
theorem zTI {m m0:Mk}{env:List Bnd}{t:Typ}{depth:Int}(hd1 : -1000≤depth)(hd2:depth≤1000){X:Int}(hX0:0≤X)(hX1:X<65536){F:List Bnd}(hF:F.length≤1000)(hE0:0<env.length)(hE:env.length≤1000)
 (hnum:Ret prog zJg [.ptr 0 0,int 65536] (mkS m) (int X) (mkS m0))(hfit:Ret prog zIR [.sl env.length (zQ env),.agg (zB t)] [] (.sl F.length (zQ F)) [])(hleft:0<m0.left)(hd:0<depth)(hF0:F≠[])(hX3:X.tmod 3=0)(h0:0≤m0.temp)(h1:m0.temp≤1000000000000000)(h2 : -1000000000000000≤m0.left)(h3:m0.left≤1000000000000000) :
 ∃b∈F,Ret prog zAg [.ptr 0 0,.agg (zB t),.sl env.length (zQ env),int depth] (mkS m) (.agg (zF (.mk ⟨0,0,m0.temp⟩ 2 b.n b.id Typ.zero [] []))) (mkS {m0 with temp:=m0.temp+1,left:=m0.left-1}):=by
 have hl':¬m0.left≤0:=by omega
 have hd':¬depth≤0:=by omega
 have d3:X.tdiv 3=X / 3:=tdN hX0;have w3:=qF (X.tdiv 3) (by omega);have hFl:0<F.length:=by cases F with
  | nil=>exact(hF0 rfl).elim
  | cons=>simp
 obtain⟨j,hj,e1⟩:∃j:Nat,j<F.length∧(X.tdiv 3).tmod (F.length:Int)=j:=by
  have q0:0≤X.tdiv 3:=by omega
  have q1:=jCz (X.tdiv 3) (b:=(F.length:Int)) (by omega);have q2:=jCo (X.tdiv 3) (b:=(F.length:Int)) (by omega);exact⟨((X.tdiv 3) % F.length).toNat,by omega,by rw[tmN q0]; omega⟩
 have hdr:=zCp hj;have hbj:j*9+9≤F.length*9:=by omega
 have hne:¬((F.length:Int)=0):=by omega
 refine⟨F[j],jA0 hj,?_⟩;have hvar:=zXW m0 F[j] h0 h1 h2 h3;refine zI Tryz.func34 rfl zBH (rs:=[.cell 8 15 true]) (by kernel_rfl) ?_;unfold zBB;simp[mkS,mkB,zB];refine zN hnum [0,1] (by decide) (by simp[mkS,mkB]) (by simp) ?_;simp[mkS,mkB];refine zT hfit (by simp[zB]) (by simp) ?_;simp[mkS,mkB,hl',hd',hX3,hFl,hF0,w3,e1,hne,hj,hdr,hbj];intro _;refine zN hvar [0,1] (by decide) (by simp[mkS,mkB]) (by simp[zAS]) ?_;simp[mkS,mkB,zF];exact zG [0,1] 0 (by decide) (by simp) (by simp) (by simp[zF])
theorem zTJ {m m0:Mk}{env:List Bnd}{t:Typ}{depth:Int}(hd1 : -1000≤depth)(hd2:depth≤1000){X:Int}(hX0:0≤X)(hX1:X<65536){F:List Bnd}(hF:F.length≤1000)(hE0:0<env.length)(hE:env.length≤1000)
 (hnum:Ret prog zJg [.ptr 0 0,int 65536] (mkS m) (int X) (mkS m0))(hfit:Ret prog zIR [.sl env.length (zQ env),.agg (zB t)] [] (.sl F.length (zQ F)) []){d:Int}(hd:d≤0)(hcase:m0.left≤0∧0<depth∧d=0∨m0.left≤0∧depth≤0∧d=depth∨0<m0.left∧depth≤0∧d=depth)(hF0:F≠[])(h0:0≤m0.temp)(h1:m0.temp≤1000000000000000)(h2 : -1000000000000000≤m0.left)(h3:m0.left≤1000000000000000) :
 ∃b∈F,Ret prog zAg [.ptr 0 0,.agg (zB t),.sl env.length (zQ env),int depth] (mkS m) (.agg (zF (.mk ⟨0,0,m0.temp⟩ 2 b.n b.id Typ.zero [] []))) (mkS {m0 with temp:=m0.temp+1,left:=m0.left-1}):=by
 have d3:X.tdiv 3=X / 3:=tdN hX0;have w3:=qF (X.tdiv 3) (by omega);have hFl:0<F.length:=by cases F with
  | nil=>exact(hF0 rfl).elim
  | cons=>simp
 obtain⟨j,hj,e1⟩:∃j:Nat,j<F.length∧(X.tdiv 3).tmod (F.length:Int)=j:=by
  have q0:0≤X.tdiv 3:=by omega
  have q1:=jCz (X.tdiv 3) (b:=(F.length:Int)) (by omega);have q2:=jCo (X.tdiv 3) (b:=(F.length:Int)) (by omega);exact⟨((X.tdiv 3) % F.length).toNat,by omega,by rw[tmN q0]; omega⟩
 have hdr:=zCp hj;have hbj:j*9+9≤F.length*9:=by omega
 have hne:¬((F.length:Int)=0):=by omega
 refine⟨F[j],jA0 hj,?_⟩;have hvar:=zXW m0 F[j] h0 h1 h2 h3;rcases hcase with ⟨hl1,hp,hdd⟩ | ⟨hl1,hp,hdd⟩ | ⟨hl1,hp,hdd⟩
 ·subst hdd;refine zI Tryz.func34 rfl zBH (rs:=[.cell 8 15 true]) (by kernel_rfl) ?_;unfold zBB;simp[mkS,mkB,zB];refine zN hnum [0,1] (by decide) (by simp[mkS,mkB]) (by simp) ?_;simp[mkS,mkB];refine zT hfit (by simp[zB]) (by simp) ?_;simp[mkS,mkB,hl1,hp,hFl,hF0,w3,e1,hne,hj,hdr,hbj];intro _;refine zN hvar [0,1] (by decide) (by simp[mkS,mkB]) (by simp[zAS]) ?_;simp[mkS,mkB,zF];exact zG [0,1] 0 (by decide) (by simp) (by simp) (by simp[zF])
 ·have hp0:¬0<depth:=by omega
  subst hdd;refine zI Tryz.func34 rfl zBH (rs:=[.cell 8 15 true]) (by kernel_rfl) ?_;unfold zBB;simp[mkS,mkB,zB];refine zN hnum [0,1] (by decide) (by simp[mkS,mkB]) (by simp) ?_;simp[mkS,mkB];refine zT hfit (by simp[zB]) (by simp) ?_;simp[mkS,mkB,hl1,hp,hp0,hFl,hF0,w3,e1,hne,hj,hdr,hbj];intro _;refine zN hvar [0,1] (by decide) (by simp[mkS,mkB]) (by simp[zAS]) ?_;simp[mkS,mkB,zF];exact zG [0,1] 0 (by decide) (by simp) (by simp) (by simp[zF])
 ·have hp0:¬0<depth:=by omega
  have hl2:¬m0.left≤0:=by omega
  subst hdd;refine zI Tryz.func34 rfl zBH (rs:=[.cell 8 15 true]) (by kernel_rfl) ?_;unfold zBB;simp[mkS,mkB,zB];refine zN hnum [0,1] (by decide) (by simp[mkS,mkB]) (by simp) ?_;simp[mkS,mkB];refine zT hfit (by simp[zB]) (by simp) ?_;simp[mkS,mkB,hl2,hp,hFl,hF0,w3,e1,hne,hj,hdr,hbj];intro _;refine zN hvar [0,1] (by decide) (by simp[mkS,mkB]) (by simp[zAS]) ?_;simp[mkS,mkB,zF];exact zG [0,1] 0 (by decide) (by simp) (by simp) (by simp[zF])
theorem qD6 {m m0:Mk}{env:List Bnd}{t:Typ}{depth:Int}(hd1 : -1000≤depth)(hd2:depth≤1000){X:Int}(hX0:0≤X)(hX1:X<65536){F:List Bnd}(hF:F.length≤1000)(hE0:0<env.length)(hE:env.length≤1000)
 (hnum:Ret prog zJg [.ptr 0 0,int 65536] (mkS m) (int X) (mkS m0))(hfit:Ret prog zIR [.sl env.length (zQ env),.agg (zB t)] [] (.sl F.length (zQ F)) []){d:Int}(hd:d≤0)(hcase:m0.left≤0∧0<depth∧d=0∨m0.left≤0∧depth≤0∧d=depth∨0<m0.left∧depth≤0∧d=depth)(hF0:F=[]){e:Exp}{m':Mk}(hlit:Ret prog zOi [.ptr 0 0,.agg (zB t),.sl env.length (zQ env),int (X.tdiv 3),int d] (mkS m0) (.agg (zF e)) (mkS m')) :
 Ret prog zAg [.ptr 0 0,.agg (zB t),.sl env.length (zQ env),int depth] (mkS m) (.agg (zF e)) (mkS m'):=by
 have d3:X.tdiv 3=X / 3:=tdN hX0;have w3:=qF (X.tdiv 3) (by omega);subst hF0;rcases hcase with ⟨hl1,hp,hdd⟩ | ⟨hl1,hp,hdd⟩ | ⟨hl1,hp,hdd⟩
 ·subst hdd;refine zI Tryz.func34 rfl zBH (rs:=[.cell 8 15 true]) (by kernel_rfl) ?_;unfold zBB;simp[mkS,mkB,zB];refine zN hnum [0,1] (by decide) (by simp[mkS,mkB]) (by simp) ?_;simp[mkS,mkB];refine zT hfit (by simp[zB]) (by simp) ?_;simp[mkS,mkB,hl1,hp,w3];refine zN hlit [0,1] (by decide) (by simp[mkS,mkB]) (by simp[zB]) ?_;simp[mkS,mkB,zF];exact zG [0,1] 0 (by decide) (by simp) (by simp) (by simp[zF])
 ·have hp0:¬0<depth:=by omega
  subst hdd;refine zI Tryz.func34 rfl zBH (rs:=[.cell 8 15 true]) (by kernel_rfl) ?_;unfold zBB;simp[mkS,mkB,zB];refine zN hnum [0,1] (by decide) (by simp[mkS,mkB]) (by simp) ?_;simp[mkS,mkB];refine zT hfit (by simp[zB]) (by simp) ?_;simp[mkS,mkB,hl1,hp,hp0,w3];refine zN hlit [0,1] (by decide) (by simp[mkS,mkB]) (by simp[zB]) ?_;simp[mkS,mkB,zF];exact zG [0,1] 0 (by decide) (by simp) (by simp) (by simp[zF])
 ·have hp0:¬0<depth:=by omega
  have hl2:¬m0.left≤0:=by omega
  subst hdd;refine zI Tryz.func34 rfl zBH (rs:=[.cell 8 15 true]) (by kernel_rfl) ?_;unfold zBB;simp[mkS,mkB,zB];refine zN hnum [0,1] (by decide) (by simp[mkS,mkB]) (by simp) ?_;simp[mkS,mkB];refine zT hfit (by simp[zB]) (by simp) ?_;simp[mkS,mkB,hl2,hp,w3];refine zN hlit [0,1] (by decide) (by simp[mkS,mkB]) (by simp[zB]) ?_;simp[mkS,mkB,zF];exact zG [0,1] 0 (by decide) (by simp) (by simp) (by simp[zF])
theorem qJ5 {m m0:Mk}{env:List Bnd}{t:Typ}{depth:Int}(hd1 : -1000≤depth)(hd2:depth≤1000){X:Int}(hX0:0≤X)(hX1:X<65536){F:List Bnd}(hF:F.length≤1000)(hE0:0<env.length)(hE:env.length≤1000)
 (hnum:Ret prog zJg [.ptr 0 0,int 65536] (mkS m) (int X) (mkS m0))(hfit:Ret prog zIR [.sl env.length (zQ env),.agg (zB t)] [] (.sl F.length (zQ F)) [])(hleft:0<m0.left)(hd:0<depth)(hc:F=[]∨X.tmod 3≠0)(hk:9≤(X.tdiv 3).tmod 12){e:Exp}{m':Mk}(hop:Ret prog opF [.ptr 0 0,.agg (zB t),.sl env.length (zQ env),int (X.tdiv 36),int depth] (mkS m0) (.agg (zF e)) (mkS m')) :
 Ret prog zAg [.ptr 0 0,.agg (zB t),.sl env.length (zQ env),int depth] (mkS m) (.agg (zF e)) (mkS m'):=by
 have hl':¬m0.left≤0:=by omega
 have hd':¬depth≤0:=by omega
 have d3:X.tdiv 3=X / 3:=tdN hX0;have w3:=qF (X.tdiv 3) (by omega);have d36:X.tdiv 36=X / 36:=tdN hX0;have w36:=qF (X.tdiv 36) (by omega);have d12:(X.tdiv 3).tmod 12=(X.tdiv 3) % 12:=tmN (by omega);have k0:(X.tdiv 3).tmod 12≠0:=by omega
 have k1:(X.tdiv 3).tmod 12≠1:=by omega
 have k2:(X.tdiv 3).tmod 12≠2:=by omega
 have k3:(X.tdiv 3).tmod 12≠3:=by omega
 have k4:(X.tdiv 3).tmod 12≠4:=by omega
 have k5:(X.tdiv 3).tmod 12≠5:=by omega
 have k6:(X.tdiv 3).tmod 12≠6:=by omega
 have k7:(X.tdiv 3).tmod 12≠7:=by omega
 have k8:(X.tdiv 3).tmod 12≠8:=by omega
 rcases hc with hc | hc
 ·subst hc;refine zI Tryz.func34 rfl zBH (rs:=[.cell 8 15 true]) (by kernel_rfl) ?_;unfold zBB;simp[mkS,mkB,zB];refine zN hnum [0,1] (by decide) (by simp[mkS,mkB]) (by simp) ?_;simp[mkS,mkB];refine zT hfit (by simp[zB]) (by simp) ?_;simp[mkS,mkB,hl',hd',w3,w36,k0,k1,k2,k3,k4,k5,k6,k7,k8];refine zN hop [0,1] (by decide) (by simp[mkS,mkB]) (by simp[zB]) ?_;simp[mkS,mkB,zF];exact zG [0,1] 0 (by decide) (by simp) (by simp) (by simp[zF])
 ·by_cases hF0:F=[]
  ·subst hF0;refine zI Tryz.func34 rfl zBH (rs:=[.cell 8 15 true]) (by kernel_rfl) ?_;unfold zBB;simp[mkS,mkB,zB];refine zN hnum [0,1] (by decide) (by simp[mkS,mkB]) (by simp) ?_;simp[mkS,mkB];refine zT hfit (by simp[zB]) (by simp) ?_;simp[mkS,mkB,hl',hd',w3,w36,k0,k1,k2,k3,k4,k5,k6,k7,k8];refine zN hop [0,1] (by decide) (by simp[mkS,mkB]) (by simp[zB]) ?_;simp[mkS,mkB,zF];exact zG [0,1] 0 (by decide) (by simp) (by simp) (by simp[zF])
  ·have hFl:0<F.length:=by cases F with
    | nil=>exact(hF0 rfl).elim
    | cons=>simp
   refine zI Tryz.func34 rfl zBH (rs:=[.cell 8 15 true]) (by kernel_rfl) ?_;unfold zBB;simp[mkS,mkB,zB];refine zN hnum [0,1] (by decide) (by simp[mkS,mkB]) (by simp) ?_;simp[mkS,mkB];refine zT hfit (by simp[zB]) (by simp) ?_;simp[mkS,mkB,hl',hd',hF0,hFl,hc,w3,w36,k0,k1,k2,k3,k4,k5,k6,k7,k8];intro _;refine zN hop [0,1] (by decide) (by simp[mkS,mkB]) (by simp[zB]) ?_;simp[mkS,mkB,zF];exact zG [0,1] 0 (by decide) (by simp) (by simp) (by simp[zF])
theorem zTG {m m0:Mk}{env:List Bnd}{t:Typ}{depth:Int}(hd1 : -1000≤depth)(hd2:depth≤1000){X:Int}(hX0:0≤X)(hX1:X<65536){F:List Bnd}(hF:F.length≤1000)(hE0:0<env.length)(hE:env.length≤1000)
 (hnum:Ret prog zJg [.ptr 0 0,int 65536] (mkS m) (int X) (mkS m0))(hfit:Ret prog zIR [.sl env.length (zQ env),.agg (zB t)] [] (.sl F.length (zQ F)) [])(hleft:0<m0.left)(hd:0<depth)(hc:F=[]∨X.tmod 3≠0)(hk:(X.tdiv 3).tmod 12=3){e:Exp}{m':Mk}(hop:Ret prog zR2 [.ptr 0 0,.agg (zB t),.sl env.length (zQ env),int (X.tdiv 36),int depth] (mkS m0) (.agg (zF e)) (mkS m')) :
 Ret prog zAg [.ptr 0 0,.agg (zB t),.sl env.length (zQ env),int depth] (mkS m) (.agg (zF e)) (mkS m'):=by
 have hl':¬m0.left≤0:=by omega
 have hd':¬depth≤0:=by omega
 have d3:X.tdiv 3=X / 3:=tdN hX0;have w3:=qF (X.tdiv 3) (by omega);have d36:X.tdiv 36=X / 36:=tdN hX0;have w36:=qF (X.tdiv 36) (by omega);have d12:(X.tdiv 3).tmod 12=(X.tdiv 3) % 12:=tmN (by omega);rcases hc with hc | hc
 ·subst hc;refine zI Tryz.func34 rfl zBH (rs:=[.cell 8 15 true]) (by kernel_rfl) ?_;unfold zBB;simp[mkS,mkB,zB];refine zN hnum [0,1] (by decide) (by simp[mkS,mkB]) (by simp) ?_;simp[mkS,mkB];refine zT hfit (by simp[zB]) (by simp) ?_;simp[mkS,mkB,hl',hd',w3,w36,hk];refine zN hop [0,1] (by decide) (by simp[mkS,mkB]) (by simp[zB]) ?_;simp[mkS,mkB,zF];exact zG [0,1] 0 (by decide) (by simp) (by simp) (by simp[zF])
 ·by_cases hF0:F=[]
  ·subst hF0;refine zI Tryz.func34 rfl zBH (rs:=[.cell 8 15 true]) (by kernel_rfl) ?_;unfold zBB;simp[mkS,mkB,zB];refine zN hnum [0,1] (by decide) (by simp[mkS,mkB]) (by simp) ?_;simp[mkS,mkB];refine zT hfit (by simp[zB]) (by simp) ?_;simp[mkS,mkB,hl',hd',w3,w36,hk];refine zN hop [0,1] (by decide) (by simp[mkS,mkB]) (by simp[zB]) ?_;simp[mkS,mkB,zF];exact zG [0,1] 0 (by decide) (by simp) (by simp) (by simp[zF])
  ·have hFl:0<F.length:=by cases F with
    | nil=>exact(hF0 rfl).elim
    | cons=>simp
   refine zI Tryz.func34 rfl zBH (rs:=[.cell 8 15 true]) (by kernel_rfl) ?_;unfold zBB;simp[mkS,mkB,zB];refine zN hnum [0,1] (by decide) (by simp[mkS,mkB]) (by simp) ?_;simp[mkS,mkB];refine zT hfit (by simp[zB]) (by simp) ?_;simp[mkS,mkB,hl',hd',hF0,hFl,hc,w3,w36,hk];intro _;refine zN hop [0,1] (by decide) (by simp[mkS,mkB]) (by simp[zB]) ?_;simp[mkS,mkB,zF];exact zG [0,1] 0 (by decide) (by simp) (by simp) (by simp[zF])
theorem zTH {m m0:Mk}{env:List Bnd}{t:Typ}{depth:Int}(hd1 : -1000≤depth)(hd2:depth≤1000){X:Int}(hX0:0≤X)(hX1:X<65536){F:List Bnd}(hF:F.length≤1000)(hE0:0<env.length)(hE:env.length≤1000)
 (hnum:Ret prog zJg [.ptr 0 0,int 65536] (mkS m) (int X) (mkS m0))(hfit:Ret prog zIR [.sl env.length (zQ env),.agg (zB t)] [] (.sl F.length (zQ F)) [])(hleft:0<m0.left)(hd:0<depth)(hc:F=[]∨X.tmod 3≠0)(hk:(X.tdiv 3).tmod 12=4){e:Exp}{m':Mk}(hop:Ret prog zR2 [.ptr 0 0,.agg (zB t),.sl env.length (zQ env),int (X.tdiv 36),int depth] (mkS m0) (.agg (zF e)) (mkS m')) :
 Ret prog zAg [.ptr 0 0,.agg (zB t),.sl env.length (zQ env),int depth] (mkS m) (.agg (zF e)) (mkS m'):=by
 have hl':¬m0.left≤0:=by omega
 have hd':¬depth≤0:=by omega
 have d3:X.tdiv 3=X / 3:=tdN hX0;have w3:=qF (X.tdiv 3) (by omega);have d36:X.tdiv 36=X / 36:=tdN hX0;have w36:=qF (X.tdiv 36) (by omega);have d12:(X.tdiv 3).tmod 12=(X.tdiv 3) % 12:=tmN (by omega);rcases hc with hc | hc
 ·subst hc;refine zI Tryz.func34 rfl zBH (rs:=[.cell 8 15 true]) (by kernel_rfl) ?_;unfold zBB;simp[mkS,mkB,zB];refine zN hnum [0,1] (by decide) (by simp[mkS,mkB]) (by simp) ?_;simp[mkS,mkB];refine zT hfit (by simp[zB]) (by simp) ?_;simp[mkS,mkB,hl',hd',w3,w36,hk];refine zN hop [0,1] (by decide) (by simp[mkS,mkB]) (by simp[zB]) ?_;simp[mkS,mkB,zF];exact zG [0,1] 0 (by decide) (by simp) (by simp) (by simp[zF])
 ·by_cases hF0:F=[]
  ·subst hF0;refine zI Tryz.func34 rfl zBH (rs:=[.cell 8 15 true]) (by kernel_rfl) ?_;unfold zBB;simp[mkS,mkB,zB];refine zN hnum [0,1] (by decide) (by simp[mkS,mkB]) (by simp) ?_;simp[mkS,mkB];refine zT hfit (by simp[zB]) (by simp) ?_;simp[mkS,mkB,hl',hd',w3,w36,hk];refine zN hop [0,1] (by decide) (by simp[mkS,mkB]) (by simp[zB]) ?_;simp[mkS,mkB,zF];exact zG [0,1] 0 (by decide) (by simp) (by simp) (by simp[zF])
  ·have hFl:0<F.length:=by cases F with
    | nil=>exact(hF0 rfl).elim
    | cons=>simp
   refine zI Tryz.func34 rfl zBH (rs:=[.cell 8 15 true]) (by kernel_rfl) ?_;unfold zBB;simp[mkS,mkB,zB];refine zN hnum [0,1] (by decide) (by simp[mkS,mkB]) (by simp) ?_;simp[mkS,mkB];refine zT hfit (by simp[zB]) (by simp) ?_;simp[mkS,mkB,hl',hd',hF0,hFl,hc,w3,w36,hk];intro _;refine zN hop [0,1] (by decide) (by simp[mkS,mkB]) (by simp[zB]) ?_;simp[mkS,mkB,zF];exact zG [0,1] 0 (by decide) (by simp) (by simp) (by simp[zF])
theorem zW9 {m m0:Mk}{env:List Bnd}{t:Typ}{depth:Int}(hd1 : -1000≤depth)(hd2:depth≤1000){X:Int}(hX0:0≤X)(hX1:X<65536){F:List Bnd}(hF:F.length≤1000)(hE0:0<env.length)(hE:env.length≤1000)
 (hnum:Ret prog zJg [.ptr 0 0,int 65536] (mkS m) (int X) (mkS m0))(hfit:Ret prog zIR [.sl env.length (zQ env),.agg (zB t)] [] (.sl F.length (zQ F)) [])(hleft:0<m0.left)(hd:0<depth)(hc:F=[]∨X.tmod 3≠0)(hk:(X.tdiv 3).tmod 12=5){e:Exp}{m':Mk}(hop:Ret prog zWB [.ptr 0 0,.agg (zB t),.sl env.length (zQ env),int (X.tdiv 36),int depth] (mkS m0) (.agg (zF e)) (mkS m')) :
 Ret prog zAg [.ptr 0 0,.agg (zB t),.sl env.length (zQ env),int depth] (mkS m) (.agg (zF e)) (mkS m'):=by
 have hl':¬m0.left≤0:=by omega
 have hd':¬depth≤0:=by omega
 have d3:X.tdiv 3=X / 3:=tdN hX0;have w3:=qF (X.tdiv 3) (by omega);have d36:X.tdiv 36=X / 36:=tdN hX0;have w36:=qF (X.tdiv 36) (by omega);have d12:(X.tdiv 3).tmod 12=(X.tdiv 3) % 12:=tmN (by omega);rcases hc with hc | hc
 ·subst hc;refine zI Tryz.func34 rfl zBH (rs:=[.cell 8 15 true]) (by kernel_rfl) ?_;unfold zBB;simp[mkS,mkB,zB];refine zN hnum [0,1] (by decide) (by simp[mkS,mkB]) (by simp) ?_;simp[mkS,mkB];refine zT hfit (by simp[zB]) (by simp) ?_;simp[mkS,mkB,hl',hd',w3,w36,hk];refine zN hop [0,1] (by decide) (by simp[mkS,mkB]) (by simp[zB]) ?_;simp[mkS,mkB,zF];exact zG [0,1] 0 (by decide) (by simp) (by simp) (by simp[zF])
 ·by_cases hF0:F=[]
  ·subst hF0;refine zI Tryz.func34 rfl zBH (rs:=[.cell 8 15 true]) (by kernel_rfl) ?_;unfold zBB;simp[mkS,mkB,zB];refine zN hnum [0,1] (by decide) (by simp[mkS,mkB]) (by simp) ?_;simp[mkS,mkB];refine zT hfit (by simp[zB]) (by simp) ?_;simp[mkS,mkB,hl',hd',w3,w36,hk];refine zN hop [0,1] (by decide) (by simp[mkS,mkB]) (by simp[zB]) ?_;simp[mkS,mkB,zF];exact zG [0,1] 0 (by decide) (by simp) (by simp) (by simp[zF])
  ·have hFl:0<F.length:=by cases F with
    | nil=>exact(hF0 rfl).elim
    | cons=>simp
   refine zI Tryz.func34 rfl zBH (rs:=[.cell 8 15 true]) (by kernel_rfl) ?_;unfold zBB;simp[mkS,mkB,zB];refine zN hnum [0,1] (by decide) (by simp[mkS,mkB]) (by simp) ?_;simp[mkS,mkB];refine zT hfit (by simp[zB]) (by simp) ?_;simp[mkS,mkB,hl',hd',hF0,hFl,hc,w3,w36,hk];intro _;refine zN hop [0,1] (by decide) (by simp[mkS,mkB]) (by simp[zB]) ?_;simp[mkS,mkB,zF];exact zG [0,1] 0 (by decide) (by simp) (by simp) (by simp[zF])
theorem zW7 {m m0:Mk}{env:List Bnd}{t:Typ}{depth:Int}(hd1 : -1000≤depth)(hd2:depth≤1000){X:Int}(hX0:0≤X)(hX1:X<65536){F:List Bnd}(hF:F.length≤1000)(hE0:0<env.length)(hE:env.length≤1000)
 (hnum:Ret prog zJg [.ptr 0 0,int 65536] (mkS m) (int X) (mkS m0))(hfit:Ret prog zIR [.sl env.length (zQ env),.agg (zB t)] [] (.sl F.length (zQ F)) [])(hleft:0<m0.left)(hd:0<depth)(hc:F=[]∨X.tmod 3≠0)(hk:(X.tdiv 3).tmod 12=6){e:Exp}{m':Mk}(hop:Ret prog zVK [.ptr 0 0,.agg (zB t),.sl env.length (zQ env),int (X.tdiv 36),int depth] (mkS m0) (.agg (zF e)) (mkS m')) :
 Ret prog zAg [.ptr 0 0,.agg (zB t),.sl env.length (zQ env),int depth] (mkS m) (.agg (zF e)) (mkS m'):=by
 have hl':¬m0.left≤0:=by omega
 have hd':¬depth≤0:=by omega
 have d3:X.tdiv 3=X / 3:=tdN hX0;have w3:=qF (X.tdiv 3) (by omega);have d36:X.tdiv 36=X / 36:=tdN hX0;have w36:=qF (X.tdiv 36) (by omega);have d12:(X.tdiv 3).tmod 12=(X.tdiv 3) % 12:=tmN (by omega);rcases hc with hc | hc
 ·subst hc;refine zI Tryz.func34 rfl zBH (rs:=[.cell 8 15 true]) (by kernel_rfl) ?_;unfold zBB;simp[mkS,mkB,zB];refine zN hnum [0,1] (by decide) (by simp[mkS,mkB]) (by simp) ?_;simp[mkS,mkB];refine zT hfit (by simp[zB]) (by simp) ?_;simp[mkS,mkB,hl',hd',w3,w36,hk];refine zN hop [0,1] (by decide) (by simp[mkS,mkB]) (by simp[zB]) ?_;simp[mkS,mkB,zF];exact zG [0,1] 0 (by decide) (by simp) (by simp) (by simp[zF])
 ·by_cases hF0:F=[]
  ·subst hF0;refine zI Tryz.func34 rfl zBH (rs:=[.cell 8 15 true]) (by kernel_rfl) ?_;unfold zBB;simp[mkS,mkB,zB];refine zN hnum [0,1] (by decide) (by simp[mkS,mkB]) (by simp) ?_;simp[mkS,mkB];refine zT hfit (by simp[zB]) (by simp) ?_;simp[mkS,mkB,hl',hd',w3,w36,hk];refine zN hop [0,1] (by decide) (by simp[mkS,mkB]) (by simp[zB]) ?_;simp[mkS,mkB,zF];exact zG [0,1] 0 (by decide) (by simp) (by simp) (by simp[zF])
  ·have hFl:0<F.length:=by cases F with
    | nil=>exact(hF0 rfl).elim
    | cons=>simp
   refine zI Tryz.func34 rfl zBH (rs:=[.cell 8 15 true]) (by kernel_rfl) ?_;unfold zBB;simp[mkS,mkB,zB];refine zN hnum [0,1] (by decide) (by simp[mkS,mkB]) (by simp) ?_;simp[mkS,mkB];refine zT hfit (by simp[zB]) (by simp) ?_;simp[mkS,mkB,hl',hd',hF0,hFl,hc,w3,w36,hk];intro _;refine zN hop [0,1] (by decide) (by simp[mkS,mkB]) (by simp[zB]) ?_;simp[mkS,mkB,zF];exact zG [0,1] 0 (by decide) (by simp) (by simp) (by simp[zF])
theorem zW8 {m m0:Mk}{env:List Bnd}{t:Typ}{depth:Int}(hd1 : -1000≤depth)(hd2:depth≤1000){X:Int}(hX0:0≤X)(hX1:X<65536){F:List Bnd}(hF:F.length≤1000)(hE0:0<env.length)(hE:env.length≤1000)
 (hnum:Ret prog zJg [.ptr 0 0,int 65536] (mkS m) (int X) (mkS m0))(hfit:Ret prog zIR [.sl env.length (zQ env),.agg (zB t)] [] (.sl F.length (zQ F)) [])(hleft:0<m0.left)(hd:0<depth)(hc:F=[]∨X.tmod 3≠0)(hk:(X.tdiv 3).tmod 12=7){e:Exp}{m':Mk}(hop:Ret prog zVK [.ptr 0 0,.agg (zB t),.sl env.length (zQ env),int (X.tdiv 36),int depth] (mkS m0) (.agg (zF e)) (mkS m')) :
 Ret prog zAg [.ptr 0 0,.agg (zB t),.sl env.length (zQ env),int depth] (mkS m) (.agg (zF e)) (mkS m'):=by
 have hl':¬m0.left≤0:=by omega
 have hd':¬depth≤0:=by omega
 have d3:X.tdiv 3=X / 3:=tdN hX0;have w3:=qF (X.tdiv 3) (by omega);have d36:X.tdiv 36=X / 36:=tdN hX0;have w36:=qF (X.tdiv 36) (by omega);have d12:(X.tdiv 3).tmod 12=(X.tdiv 3) % 12:=tmN (by omega);rcases hc with hc | hc
 ·subst hc;refine zI Tryz.func34 rfl zBH (rs:=[.cell 8 15 true]) (by kernel_rfl) ?_;unfold zBB;simp[mkS,mkB,zB];refine zN hnum [0,1] (by decide) (by simp[mkS,mkB]) (by simp) ?_;simp[mkS,mkB];refine zT hfit (by simp[zB]) (by simp) ?_;simp[mkS,mkB,hl',hd',w3,w36,hk];refine zN hop [0,1] (by decide) (by simp[mkS,mkB]) (by simp[zB]) ?_;simp[mkS,mkB,zF];exact zG [0,1] 0 (by decide) (by simp) (by simp) (by simp[zF])
 ·by_cases hF0:F=[]
  ·subst hF0;refine zI Tryz.func34 rfl zBH (rs:=[.cell 8 15 true]) (by kernel_rfl) ?_;unfold zBB;simp[mkS,mkB,zB];refine zN hnum [0,1] (by decide) (by simp[mkS,mkB]) (by simp) ?_;simp[mkS,mkB];refine zT hfit (by simp[zB]) (by simp) ?_;simp[mkS,mkB,hl',hd',w3,w36,hk];refine zN hop [0,1] (by decide) (by simp[mkS,mkB]) (by simp[zB]) ?_;simp[mkS,mkB,zF];exact zG [0,1] 0 (by decide) (by simp) (by simp) (by simp[zF])
  ·have hFl:0<F.length:=by cases F with
    | nil=>exact(hF0 rfl).elim
    | cons=>simp
   refine zI Tryz.func34 rfl zBH (rs:=[.cell 8 15 true]) (by kernel_rfl) ?_;unfold zBB;simp[mkS,mkB,zB];refine zN hnum [0,1] (by decide) (by simp[mkS,mkB]) (by simp) ?_;simp[mkS,mkB];refine zT hfit (by simp[zB]) (by simp) ?_;simp[mkS,mkB,hl',hd',hF0,hFl,hc,w3,w36,hk];intro _;refine zN hop [0,1] (by decide) (by simp[mkS,mkB]) (by simp[zB]) ?_;simp[mkS,mkB,zF];exact zG [0,1] 0 (by decide) (by simp) (by simp) (by simp[zF])
theorem qD3 {m m0:Mk}{env:List Bnd}{t:Typ}{depth:Int}(hd1 : -1000≤depth)(hd2:depth≤1000){X:Int}(hX0:0≤X)(hX1:X<65536){F:List Bnd}(hF:F.length≤1000)(hE0:0<env.length)(hE:env.length≤1000)
 (hnum:Ret prog zJg [.ptr 0 0,int 65536] (mkS m) (int X) (mkS m0))(hfit:Ret prog zIR [.sl env.length (zQ env),.agg (zB t)] [] (.sl F.length (zQ F)) [])(hleft:0<m0.left)(hd:0<depth)(hc:F=[]∨X.tmod 3≠0)(hk:(X.tdiv 3).tmod 12=0){a b c:Exp}{m1 m2 m3:Mk}(ga:Ret prog zAg [.ptr 0 0,.agg (zB yC),.sl env.length (zQ env),int (depth-1)] (mkS m0) (.agg (zF a)) (mkS m1))(gb:Ret prog zAg [.ptr 0 0,.agg (zB t),.sl env.length (zQ env),int (depth-1)] (mkS m1) (.agg (zF b)) (mkS m2))(gc:Ret prog zAg [.ptr 0 0,.agg (zB t),.sl env.length (zQ env),int (depth-1)] (mkS m2) (.agg (zF c)) (mkS m3))(hln:Lim m3 1) :
 Ret prog zAg [.ptr 0 0,.agg (zB t),.sl env.length (zQ env),int depth] (mkS m) (.agg (zF (.mk ⟨0,0,m3.temp⟩ 5 0 Id.zero Typ.zero [a,b,c] []))) (mkS {m3 with temp:=m3.temp+1,left:=m3.left-1}):=by
 have hl':¬m0.left≤0:=by omega
 have hd':¬depth≤0:=by omega
 have d3:X.tdiv 3=X / 3:=tdN hX0;have w3:=qF (X.tdiv 3) (by omega);have d36:X.tdiv 36=X / 36:=tdN hX0;have w36:=qF (X.tdiv 36) (by omega);have d12:(X.tdiv 3).tmod 12=(X.tdiv 3) % 12:=tmN (by omega);have wd:=qF (depth-1) (by omega);obtain⟨l1,l2,l3,l4,l5,l6,l7,l8⟩:=hln;rcases hc with hc | hc
 ·subst hc;refine zI Tryz.func34 rfl zBH (rs:=[.cell 8 15 true]) (by kernel_rfl) ?_;unfold zBB;simp[mkS,mkB,zB];refine zN hnum [0,1] (by decide) (by simp[mkS,mkB]) (by simp) ?_;simp[mkS,mkB];refine zT hfit (by simp[zB]) (by simp) ?_;simp[mkS,mkB,hl',hd',w3,w36,hk,wd];refine zN ga [0,1] (by decide) (by simp[mkS,mkB]) (by simp[zB]) ?_;simp[mkS,mkB,zB,wd];refine zN gb [0,1] (by decide) (by simp[mkS,mkB]) (by simp[zB]) ?_;simp[mkS,mkB,zB,wd];refine zAn gc [0,1] (by decide) (by simp[mkS,mkB]) (by simp[zB]) (by decide) (by simp) (by simp[mkS]) ?_;simp[mkS,mkB];refine zA8 (yQ m3 5 0 [a,b,c] l3 (by omega) (by omega) l6) [0,1] (by decide) (by simp[mkS,mkB]) (by simp[zH,zF]) ?_;simp[mkS,mkB,zF,zH];exact zG [0,1] 0 (by decide) (by simp) (by simp) (by simp[zF,zH])
 ·by_cases hF0:F=[]
  ·subst hF0;refine zI Tryz.func34 rfl zBH (rs:=[.cell 8 15 true]) (by kernel_rfl) ?_;unfold zBB;simp[mkS,mkB,zB];refine zN hnum [0,1] (by decide) (by simp[mkS,mkB]) (by simp) ?_;simp[mkS,mkB];refine zT hfit (by simp[zB]) (by simp) ?_;simp[mkS,mkB,hl',hd',w3,w36,hk,wd];refine zN ga [0,1] (by decide) (by simp[mkS,mkB]) (by simp[zB]) ?_;simp[mkS,mkB,zB,wd];refine zN gb [0,1] (by decide) (by simp[mkS,mkB]) (by simp[zB]) ?_;simp[mkS,mkB,zB,wd];refine zAn gc [0,1] (by decide) (by simp[mkS,mkB]) (by simp[zB]) (by decide) (by simp) (by simp[mkS]) ?_;simp[mkS,mkB];refine zA8 (yQ m3 5 0 [a,b,c] l3 (by omega) (by omega) l6) [0,1] (by decide) (by simp[mkS,mkB]) (by simp[zH,zF]) ?_;simp[mkS,mkB,zF,zH];exact zG [0,1] 0 (by decide) (by simp) (by simp) (by simp[zF,zH])
  ·have hFl:0<F.length:=by cases F with
    | nil=>exact(hF0 rfl).elim
    | cons=>simp
   refine zI Tryz.func34 rfl zBH (rs:=[.cell 8 15 true]) (by kernel_rfl) ?_;unfold zBB;simp[mkS,mkB,zB];refine zN hnum [0,1] (by decide) (by simp[mkS,mkB]) (by simp) ?_;simp[mkS,mkB];refine zT hfit (by simp[zB]) (by simp) ?_;simp[mkS,mkB,hl',hd',hF0,hFl,hc,w3,w36,hk,wd];intro _;refine zN ga [0,1] (by decide) (by simp[mkS,mkB]) (by simp[zB]) ?_;simp[mkS,mkB,zB,wd];refine zN gb [0,1] (by decide) (by simp[mkS,mkB]) (by simp[zB]) ?_;simp[mkS,mkB,zB,wd];refine zAn gc [0,1] (by decide) (by simp[mkS,mkB]) (by simp[zB]) (by decide) (by simp) (by simp[mkS]) ?_;simp[mkS,mkB];refine zA8 (yQ m3 5 0 [a,b,c] l3 (by omega) (by omega) l6) [0,1] (by decide) (by simp[mkS,mkB]) (by simp[zH,zF]) ?_;simp[mkS,mkB,zF,zH];exact zG [0,1] 0 (by decide) (by simp) (by simp) (by simp[zF,zH])
theorem qD4 {m m0:Mk}{env:List Bnd}{t:Typ}{depth:Int}(hd1 : -1000≤depth)(hd2:depth≤1000){X:Int}(hX0:0≤X)(hX1:X<65536){F:List Bnd}(hF:F.length≤1000)(hE0:0<env.length)(hE:env.length≤1000)
 (hnum:Ret prog zJg [.ptr 0 0,int 65536] (mkS m) (int X) (mkS m0))(hfit:Ret prog zIR [.sl env.length (zQ env),.agg (zB t)] [] (.sl F.length (zQ F)) [])(hleft:0<m0.left)(hd:0<depth)(hc:F=[]∨X.tmod 3≠0)(hk:(X.tdiv 3).tmod 12=1){a b c:Exp}{m1 m2 m3:Mk}(ga:Ret prog zAg [.ptr 0 0,.agg (zB yC),.sl env.length (zQ env),int (depth-1)] (mkS m0) (.agg (zF a)) (mkS m1))(gb:Ret prog zAg [.ptr 0 0,.agg (zB t),.sl env.length (zQ env),int (depth-1)] (mkS m1) (.agg (zF b)) (mkS m2))(gc:Ret prog zAg [.ptr 0 0,.agg (zB t),.sl env.length (zQ env),int (depth-1)] (mkS m2) (.agg (zF c)) (mkS m3))(hln:Lim m3 1) :
 Ret prog zAg [.ptr 0 0,.agg (zB t),.sl env.length (zQ env),int depth] (mkS m) (.agg (zF (.mk ⟨0,0,m3.temp⟩ 5 0 Id.zero Typ.zero [a,b,c] []))) (mkS {m3 with temp:=m3.temp+1,left:=m3.left-1}):=by
 have hl':¬m0.left≤0:=by omega
 have hd':¬depth≤0:=by omega
 have d3:X.tdiv 3=X / 3:=tdN hX0;have w3:=qF (X.tdiv 3) (by omega);have d36:X.tdiv 36=X / 36:=tdN hX0;have w36:=qF (X.tdiv 36) (by omega);have d12:(X.tdiv 3).tmod 12=(X.tdiv 3) % 12:=tmN (by omega);have wd:=qF (depth-1) (by omega);obtain⟨l1,l2,l3,l4,l5,l6,l7,l8⟩:=hln;rcases hc with hc | hc
 ·subst hc;refine zI Tryz.func34 rfl zBH (rs:=[.cell 8 15 true]) (by kernel_rfl) ?_;unfold zBB;simp[mkS,mkB,zB];refine zN hnum [0,1] (by decide) (by simp[mkS,mkB]) (by simp) ?_;simp[mkS,mkB];refine zT hfit (by simp[zB]) (by simp) ?_;simp[mkS,mkB,hl',hd',w3,w36,hk,wd];refine zN ga [0,1] (by decide) (by simp[mkS,mkB]) (by simp[zB]) ?_;simp[mkS,mkB,zB,wd];refine zN gb [0,1] (by decide) (by simp[mkS,mkB]) (by simp[zB]) ?_;simp[mkS,mkB,zB,wd];refine zAn gc [0,1] (by decide) (by simp[mkS,mkB]) (by simp[zB]) (by decide) (by simp) (by simp[mkS]) ?_;simp[mkS,mkB];refine zA8 (yQ m3 5 0 [a,b,c] l3 (by omega) (by omega) l6) [0,1] (by decide) (by simp[mkS,mkB]) (by simp[zH,zF]) ?_;simp[mkS,mkB,zF,zH];exact zG [0,1] 0 (by decide) (by simp) (by simp) (by simp[zF,zH])
 ·by_cases hF0:F=[]
  ·subst hF0;refine zI Tryz.func34 rfl zBH (rs:=[.cell 8 15 true]) (by kernel_rfl) ?_;unfold zBB;simp[mkS,mkB,zB];refine zN hnum [0,1] (by decide) (by simp[mkS,mkB]) (by simp) ?_;simp[mkS,mkB];refine zT hfit (by simp[zB]) (by simp) ?_;simp[mkS,mkB,hl',hd',w3,w36,hk,wd];refine zN ga [0,1] (by decide) (by simp[mkS,mkB]) (by simp[zB]) ?_;simp[mkS,mkB,zB,wd];refine zN gb [0,1] (by decide) (by simp[mkS,mkB]) (by simp[zB]) ?_;simp[mkS,mkB,zB,wd];refine zAn gc [0,1] (by decide) (by simp[mkS,mkB]) (by simp[zB]) (by decide) (by simp) (by simp[mkS]) ?_;simp[mkS,mkB];refine zA8 (yQ m3 5 0 [a,b,c] l3 (by omega) (by omega) l6) [0,1] (by decide) (by simp[mkS,mkB]) (by simp[zH,zF]) ?_;simp[mkS,mkB,zF,zH];exact zG [0,1] 0 (by decide) (by simp) (by simp) (by simp[zF,zH])
  ·have hFl:0<F.length:=by cases F with
    | nil=>exact(hF0 rfl).elim
    | cons=>simp
   refine zI Tryz.func34 rfl zBH (rs:=[.cell 8 15 true]) (by kernel_rfl) ?_;unfold zBB;simp[mkS,mkB,zB];refine zN hnum [0,1] (by decide) (by simp[mkS,mkB]) (by simp) ?_;simp[mkS,mkB];refine zT hfit (by simp[zB]) (by simp) ?_;simp[mkS,mkB,hl',hd',hF0,hFl,hc,w3,w36,hk,wd];intro _;refine zN ga [0,1] (by decide) (by simp[mkS,mkB]) (by simp[zB]) ?_;simp[mkS,mkB,zB,wd];refine zN gb [0,1] (by decide) (by simp[mkS,mkB]) (by simp[zB]) ?_;simp[mkS,mkB,zB,wd];refine zAn gc [0,1] (by decide) (by simp[mkS,mkB]) (by simp[zB]) (by decide) (by simp) (by simp[mkS]) ?_;simp[mkS,mkB];refine zA8 (yQ m3 5 0 [a,b,c] l3 (by omega) (by omega) l6) [0,1] (by decide) (by simp[mkS,mkB]) (by simp[zH,zF]) ?_;simp[mkS,mkB,zF,zH];exact zG [0,1] 0 (by decide) (by simp) (by simp) (by simp[zF,zH])
@[simp] theorem qGb {σ : St}:zD8 2002 σ = σ:=rfl
theorem zB4 {s:ByteArray}:yK [s]=[.lit (.string s)]:=rfl
theorem zB6 {s s':ByteArray}:yK [s,s']=[.lit (.string s),.lit (.string s')]:=rfl
abbrev zXl:FuncId:=81
theorem qD5 {m m0:Mk}{env:List Bnd}{t:Typ}{depth:Int}(hd1 : -1000≤depth)(hd2:depth≤1000){X:Int}(hX0:0≤X)(hX1:X<65536){F:List Bnd}(hF:F.length≤1000)(hE0:0<env.length)(hE:env.length≤1000)
 (hnum:Ret prog zJg [.ptr 0 0,int 65536] (mkS m) (int X) (mkS m0))(hfit:Ret prog zIR [.sl env.length (zQ env),.agg (zB t)] [] (.sl F.length (zQ F)) [])(hleft:0<m0.left)(hd:0<depth)(hc:F=[]∨X.tmod 3≠0)(hk:(X.tdiv 3).tmod 12=2){j:Nat}(hj:j<env.length)(e1:(X.tdiv 36).tmod (env.length:Int)=j){a b:Exp}{m1 m2 m3 m4:Mk}{s:ByteArray}(ga:Ret prog zAg [.ptr 0 0,.agg (zB env[j].typ),.sl env.length (zQ env),int (depth-1)] (mkS m0) (.agg (zF a)) (mkS m1))(hln:Lim m1 1)(hm2:m2={m1 with temp:=m1.temp+1,left:=m1.left-1})
 (gn:Ret prog zXl [.ptr 0 0] (mkS m2) (.lit (.string s)) (mkS m3))(gb:Ret prog zAg [.ptr 0 0,.agg (zB t),.sl (env.length+1) (zQ (env++[⟨⟨0,0,m1.temp⟩,0,env[j].typ⟩])),int (depth-1)] (mkS m3) (.agg (zF b)) (mkS m4)) :
 Ret prog zAg [.ptr 0 0,.agg (zB t),.sl env.length (zQ env),int depth] (mkS m) (.agg (zF (.mk ⟨0,0,m1.temp⟩ 6 0 Id.zero Typ.zero [a,b] [s]))) (mkS m4):=by
 have hl':¬m0.left≤0:=by omega
 have hd':¬depth≤0:=by omega
 have d3:X.tdiv 3=X / 3:=tdN hX0;have w3:=qF (X.tdiv 3) (by omega);have d36:X.tdiv 36=X / 36:=tdN hX0;have w36:=qF (X.tdiv 36) (by omega);have d12:(X.tdiv 3).tmod 12=(X.tdiv 3) % 12:=tmN (by omega);have wd:=qF (depth-1) (by omega);obtain⟨l1,l2,l3,l4,l5,l6,l7,l8⟩:=hln;have hdr:=zCp hj;have hdr4:List.drop (j*9+4) (zQ env)=(zAS env[j]++zQ (env.drop (j+1))).drop 4:=by rw[←jAs,hdr]
 have hb4:j*9+4+5≤env.length*9:=by omega
 have hne:¬((env.length:Int)=0):=by omega
 have hnil:env≠[]:=fun e=>by rw[e]at hE0; simp at hE0
 have hnode:=yQ m1 6 0 [] l3 (by omega) (by omega) l6;rw[←hm2]at hnode;rcases hc with hc | hc
 ·subst hc;refine zI Tryz.func34 rfl zBH (rs:=[.cell 8 15 true]) (by kernel_rfl) ?_;unfold zBB;simp[mkS,mkB,zB];refine zN hnum [0,1] (by decide) (by simp[mkS,mkB]) (by simp) ?_;simp[mkS,mkB];refine zT hfit (by simp[zB]) (by simp) ?_;simp[mkS,mkB,hl',hd',w3,w36,hk,wd,e1,hne,hnil,hj,hdr4,hb4,zAS];intro _;refine zN ga [0,1] (by decide) (by simp[mkS,mkB]) (by simp[zB]) ?_;simp[mkS,mkB];refine zN hnode [0,1] (by decide) (by simp[mkS,mkB]) (by simp) ?_;simp[mkS,mkB,zF];refine zN gn [0,1] (by decide) (by simp[mkS,mkB]) (by simp) ?_;simp[mkS,mkB];refine qK (zDe env ⟨⟨0,0,m1.temp⟩,0,env[j].typ⟩ (by omega)) (by simp[zAS]) (by simp) ?_;simp[mkS,mkB,wd];refine zAn gb [0,1] (by decide) (by simp[mkS,mkB]) (by simp[zB]) (by decide) (by simp) (by simp[mkS]) ?_;simp[mkS,mkB];exact zG [0,1] 0 (by decide) (by simp) (by simp) (by simp[zF,zH,zB4,zB6])
 ·by_cases hF0:F=[]
  ·subst hF0;refine zI Tryz.func34 rfl zBH (rs:=[.cell 8 15 true]) (by kernel_rfl) ?_;unfold zBB;simp[mkS,mkB,zB];refine zN hnum [0,1] (by decide) (by simp[mkS,mkB]) (by simp) ?_;simp[mkS,mkB];refine zT hfit (by simp[zB]) (by simp) ?_;simp[mkS,mkB,hl',hd',w3,w36,hk,wd,e1,hne,hnil,hj,hdr4,hb4,zAS];intro _;refine zN ga [0,1] (by decide) (by simp[mkS,mkB]) (by simp[zB]) ?_;simp[mkS,mkB];refine zN hnode [0,1] (by decide) (by simp[mkS,mkB]) (by simp) ?_;simp[mkS,mkB,zF];refine zN gn [0,1] (by decide) (by simp[mkS,mkB]) (by simp) ?_;simp[mkS,mkB];refine qK (zDe env ⟨⟨0,0,m1.temp⟩,0,env[j].typ⟩ (by omega)) (by simp[zAS]) (by simp) ?_;simp[mkS,mkB,wd];refine zAn gb [0,1] (by decide) (by simp[mkS,mkB]) (by simp[zB]) (by decide) (by simp) (by simp[mkS]) ?_;simp[mkS,mkB];exact zG [0,1] 0 (by decide) (by simp) (by simp) (by simp[zF,zH,zB4,zB6])
  ·have hFl:0<F.length:=by cases F with
    | nil=>exact(hF0 rfl).elim
    | cons=>simp
   refine zI Tryz.func34 rfl zBH (rs:=[.cell 8 15 true]) (by kernel_rfl) ?_;unfold zBB;simp[mkS,mkB,zB];refine zN hnum [0,1] (by decide) (by simp[mkS,mkB]) (by simp) ?_;simp[mkS,mkB];refine zT hfit (by simp[zB]) (by simp) ?_;simp[mkS,mkB,hl',hd',hF0,hFl,hc,w3,w36,hk,wd,e1,hne,hnil,hj,hdr4,hb4,zAS];intro _;intro _;refine zN ga [0,1] (by decide) (by simp[mkS,mkB]) (by simp[zB]) ?_;simp[mkS,mkB];refine zN hnode [0,1] (by decide) (by simp[mkS,mkB]) (by simp) ?_;simp[mkS,mkB,zF];refine zN gn [0,1] (by decide) (by simp[mkS,mkB]) (by simp) ?_;simp[mkS,mkB];refine qK (zDe env ⟨⟨0,0,m1.temp⟩,0,env[j].typ⟩ (by omega)) (by simp[zAS]) (by simp) ?_;simp[mkS,mkB,wd];refine zAn gb [0,1] (by decide) (by simp[mkS,mkB]) (by simp[zB]) (by decide) (by simp) (by simp[mkS]) ?_;simp[mkS,mkB];exact zG [0,1] 0 (by decide) (by simp) (by simp) (by simp[zF,zH,zB4,zB6])
theorem zZk {m m0:Mk}{env:List Bnd}{t:Typ}{depth:Int}(hd1 : -1000≤depth)(hd2:depth≤1000){X:Int}(hX0:0≤X)(hX1:X<65536){F:List Bnd}(hF:F.length≤1000)(hE0:0<env.length)(hE:env.length≤1000)
 (hnum:Ret prog zJg [.ptr 0 0,int 65536] (mkS m) (int X) (mkS m0))(hfit:Ret prog zIR [.sl env.length (zQ env),.agg (zB t)] [] (.sl F.length (zQ F)) [])(hleft:0<m0.left)(hd:0<depth)(hc:F=[]∨X.tmod 3≠0)(hk:(X.tdiv 3).tmod 12=8){a b c:Exp}{m1 m2 m3 m4 m5 m6:Mk}{s s':ByteArray}(ga:Ret prog zAg [.ptr 0 0,.agg (zB (jV jT)),.sl env.length (zQ env),int (depth-1)] (mkS m0) (.agg (zF a)) (mkS m1))(gb:Ret prog zAg [.ptr 0 0,.agg (zB t),.sl env.length (zQ env),int (depth-1)] (mkS m1) (.agg (zF b)) (mkS m2))(hln:Lim m2 1)(hm3:m3={m2 with temp:=m2.temp+1,left:=m2.left-1})
 (gn:Ret prog zXl [.ptr 0 0] (mkS m3) (.lit (.string s)) (mkS m4))(gn':Ret prog zXl [.ptr 0 0] (mkS m4) (.lit (.string s')) (mkS m5))(gc:Ret prog zAg [.ptr 0 0,.agg (zB t),.sl (env.length+1+1) (zQ (env++[⟨⟨0,0,m2.temp⟩,0,jT⟩]++[⟨⟨0,0,m2.temp⟩,1,t⟩])),int (depth-1)] (mkS m5) (.agg (zF c)) (mkS m6)) :
 Ret prog zAg [.ptr 0 0,.agg (zB t),.sl env.length (zQ env),int depth] (mkS m) (.agg (zF (.mk ⟨0,0,m2.temp⟩ 12 0 Id.zero Typ.zero [a,b,c] [s,s']))) (mkS m6):=by
 have hl':¬m0.left≤0:=by omega
 have hd':¬depth≤0:=by omega
 have d3:X.tdiv 3=X / 3:=tdN hX0;have w3:=qF (X.tdiv 3) (by omega);have d36:X.tdiv 36=X / 36:=tdN hX0;have w36:=qF (X.tdiv 36) (by omega);have d12:(X.tdiv 3).tmod 12=(X.tdiv 3) % 12:=tmN (by omega);have wd:=qF (depth-1) (by omega);obtain⟨l1,l2,l3,l4,l5,l6,l7,l8⟩:=hln;have hnode:=yQ m2 12 0 [] l3 (by omega) (by omega) l6;rw[←hm3]at hnode;rcases hc with hc | hc
 ·subst hc;refine zI Tryz.func34 rfl zBH (rs:=[.cell 8 15 true]) (by kernel_rfl) ?_;unfold zBB;simp[mkS,mkB,zB];refine zN hnum [0,1] (by decide) (by simp[mkS,mkB]) (by simp) ?_;simp[mkS,mkB];refine zT hfit (by simp[zB]) (by simp) ?_;simp[mkS,mkB,hl',hd',w3,w36,hk,wd];refine zT zLm (by simp[zB,jT]) (by simp) ?_;simp[mkS,mkB,wd];refine zN ga [0,1] (by decide) (by simp[mkS,mkB]) (by simp[zB]) ?_;simp[mkS,mkB,zB,wd];refine zN gb [0,1] (by decide) (by simp[mkS,mkB]) (by simp[zB]) ?_;simp[mkS,mkB];refine zN hnode [0,1] (by decide) (by simp[mkS,mkB]) (by simp) ?_;simp[mkS,mkB,zF];refine zN gn [0,1] (by decide) (by simp[mkS,mkB]) (by simp) ?_;simp[mkS,mkB];refine zN gn' [0,1] (by decide) (by simp[mkS,mkB]) (by simp) ?_;simp[mkS,mkB];refine qK (zDe env ⟨⟨0,0,m2.temp⟩,0,jT⟩ (by omega)) (by simp[zAS,jT,Id.zero]) (by simp) ?_;simp[mkS,mkB,zB];refine qK (zDe (env++[⟨⟨0,0,m2.temp⟩,0,jT⟩]) ⟨⟨0,0,m2.temp⟩,1,t⟩ (by simp; omega)) (by simp[zAS]) (by simp) ?_;simp[mkS,mkB,zB,wd];refine zAn gc [0,1] (by decide) (by simp[mkS,mkB]) (by simp[zB]) (by decide) (by simp) (by simp[mkS]) ?_;simp[mkS,mkB];exact zG [0,1] 0 (by decide) (by simp) (by simp) (by simp[zF,zH,zB4,zB6])
 ·by_cases hF0:F=[]
  ·subst hF0;refine zI Tryz.func34 rfl zBH (rs:=[.cell 8 15 true]) (by kernel_rfl) ?_;unfold zBB;simp[mkS,mkB,zB];refine zN hnum [0,1] (by decide) (by simp[mkS,mkB]) (by simp) ?_;simp[mkS,mkB];refine zT hfit (by simp[zB]) (by simp) ?_;simp[mkS,mkB,hl',hd',w3,w36,hk,wd];refine zT zLm (by simp[zB,jT]) (by simp) ?_;simp[mkS,mkB,wd];refine zN ga [0,1] (by decide) (by simp[mkS,mkB]) (by simp[zB]) ?_;simp[mkS,mkB,zB,wd];refine zN gb [0,1] (by decide) (by simp[mkS,mkB]) (by simp[zB]) ?_;simp[mkS,mkB];refine zN hnode [0,1] (by decide) (by simp[mkS,mkB]) (by simp) ?_;simp[mkS,mkB,zF];refine zN gn [0,1] (by decide) (by simp[mkS,mkB]) (by simp) ?_;simp[mkS,mkB];refine zN gn' [0,1] (by decide) (by simp[mkS,mkB]) (by simp) ?_;simp[mkS,mkB];refine qK (zDe env ⟨⟨0,0,m2.temp⟩,0,jT⟩ (by omega)) (by simp[zAS,jT,Id.zero]) (by simp) ?_;simp[mkS,mkB,zB];refine qK (zDe (env++[⟨⟨0,0,m2.temp⟩,0,jT⟩]) ⟨⟨0,0,m2.temp⟩,1,t⟩ (by simp; omega)) (by simp[zAS]) (by simp) ?_;simp[mkS,mkB,zB,wd];refine zAn gc [0,1] (by decide) (by simp[mkS,mkB]) (by simp[zB]) (by decide) (by simp) (by simp[mkS]) ?_;simp[mkS,mkB];exact zG [0,1] 0 (by decide) (by simp) (by simp) (by simp[zF,zH,zB4,zB6])
  ·have hFl:0<F.length:=by cases F with
    | nil=>exact(hF0 rfl).elim
    | cons=>simp
   refine zI Tryz.func34 rfl zBH (rs:=[.cell 8 15 true]) (by kernel_rfl) ?_;unfold zBB;simp[mkS,mkB,zB];refine zN hnum [0,1] (by decide) (by simp[mkS,mkB]) (by simp) ?_;simp[mkS,mkB];refine zT hfit (by simp[zB]) (by simp) ?_;simp[mkS,mkB,hl',hd',hF0,hFl,hc,w3,w36,hk,wd];intro _;refine zT zLm (by simp[zB,jT]) (by simp) ?_;simp[mkS,mkB,wd];refine zN ga [0,1] (by decide) (by simp[mkS,mkB]) (by simp[zB]) ?_;simp[mkS,mkB,zB,wd];refine zN gb [0,1] (by decide) (by simp[mkS,mkB]) (by simp[zB]) ?_;simp[mkS,mkB];refine zN hnode [0,1] (by decide) (by simp[mkS,mkB]) (by simp) ?_;simp[mkS,mkB,zF];refine zN gn [0,1] (by decide) (by simp[mkS,mkB]) (by simp) ?_;simp[mkS,mkB];refine zN gn' [0,1] (by decide) (by simp[mkS,mkB]) (by simp) ?_;simp[mkS,mkB];refine qK (zDe env ⟨⟨0,0,m2.temp⟩,0,jT⟩ (by omega)) (by simp[zAS,jT,Id.zero]) (by simp) ?_;simp[mkS,mkB,zB];refine qK (zDe (env++[⟨⟨0,0,m2.temp⟩,0,jT⟩]) ⟨⟨0,0,m2.temp⟩,1,t⟩ (by simp; omega)) (by simp[zAS]) (by simp) ?_;simp[mkS,mkB,zB,wd];refine zAn gc [0,1] (by decide) (by simp[mkS,mkB]) (by simp[zB]) (by decide) (by simp) (by simp[mkS]) ?_;simp[mkS,mkB];exact zG [0,1] 0 (by decide) (by simp) (by simp) (by simp[zF,zH,zB4,zB6])
theorem zYb {m:Mk}(hl:∀x∈m.l,w64 x=x):0≤atV m.l m.at_ 65536∧atV m.l m.at_ 65536<65536:=yM hl (by omega)
theorem zS3 {env:List Bnd}{t:Typ}{b:Bnd}(h:b∈env.filter fun b=>yT b.typ t):b∈env∧b.typ=t:=by rw[List.mem_filter]at h;exact⟨h.1,(zEH _ _).1 h.2⟩
theorem zNX {hs:List Hd}{R:Nat}{m:Mk}{env:List Bnd}{c depth d:Int}{len r:Nat}(hc:0≤c)(hl:Lim m (6*c+2))(hd:d≤0)(hdd : -1000≤d)
 (hcase:m.left≤0∧0<depth∧d=0∨m.left≤0∧depth≤0∧d=depth∨0<m.left∧depth≤0∧d=depth)(t:Typ)(hr:TyOk hs r t)(hk:zB1 hs R c (d-1) (fun r'=>r'<r) len)
 (hx:Cx hs R m)(he:EnvOk hs R m.temp env)(h1:0<env.length)(h2:env.length≤len)(h3:env.length≤1000)(hd1 : -1000≤depth)(hd2:depth≤1000) :
 zAP hs m.own zAg m [.ptr 0 0,.agg (zB t),.sl env.length (zQ env),int depth] env t (6*c+2):=by
 obtain⟨hX0,hX1⟩:=zYb hx.nums;have ha:=zSk m;obtain⟨l1,l2,l3,l4,l5,l6,l7,l8⟩:=hl;have hl0:Lim {m with at_:=m.at_+1} (6*c+1):=Lim.adv (c:=1) ⟨l1,by omega,l3,by omega,by omega,l6,l7,by omega⟩ ha;have hnum:=zXq m 65536 (by omega) l1 (by omega);have hfit:=zLd env t (by omega);have hFl:(env.filter fun b=>yT b.typ t).length≤1000:=jBp (jBu _ _) h3;by_cases hF0:(env.filter fun b=>yT b.typ t)=[]
 ·obtain⟨e,m',g1,g2,g3,g4,g5⟩:=zXd hc hl0 ((atV m.l m.at_ 65536).tdiv 3) (by rw[tdN hX0]; omega) (by rw[tdN hX0]; omega) t hr (fun r' h=>h) hk (hx.adv ha) (he.mono ha.temp1) h1 h2 hdd (by omega);exact⟨e,m',qD6 hd1 hd2 hX0 hX1 hFl h1 h3 hnum hfit hd hcase hF0 g1,(ha.trans g2).mono (by omega),g3,g4,g5⟩
 ·obtain⟨b,hb,hret⟩:=zTJ hd1 hd2 hX0 hX1 hFl h1 h3 hnum hfit hd hcase hF0 l3 (by simp only; omega) (by simp only; omega) l6;obtain⟨hbe,hbt⟩:=zS3 hb;refine⟨_,_,hret,(ha.trans (zAd _)).mono (by omega),.var _ _ _ _ _ (by rw[zNs he.nd hbe,hbt]),?_,zGI⟩;simp only[tmps,jL,jC6];exact Seg.one _
theorem zZl {hs:List Hd}{R:Nat}{m:Mk}{env:List Bnd}{c depth:Int}{len:Nat}(hc:8≤c)(hl:Lim m (8*c))(hleft:0<m.left)(hd0:0<depth)(hR:1≤R)(t:Typ)(ht:TyOk hs R t)
 (hk:zB1 hs R c (depth-1) (fun r=>r≤R) len)(hk2:zB1 hs R c (depth-2) (fun r=>r≤R) len)
 (hx:Cx hs R m)(he:EnvOk hs R m.temp env)(h1:0<env.length)(h2:env.length+2≤len)(h3:env.length+2≤1000)(hd2:depth≤1000) :
 zAP hs m.own zAg m [.ptr 0 0,.agg (zB t),.sl env.length (zQ env),int depth] env t (8*c):=by
 obtain⟨hX0,hX1⟩:=zYb hx.nums;have ha:=zSk m;obtain⟨m0,hm0⟩:∃m0:Mk,m0={m with at_:=m.at_+1}:=⟨_,rfl⟩;rw[←hm0]at ha;have hl0:Lim m0 (7*c+7):=Lim.adv (c:=1) (hl.mono (by omega)) ha;have hlm:=hl0;obtain⟨l1,l2,l3,l4,l5,l6,l7,l8⟩:=hlm;have hnum:=zXq m 65536 (by omega) hl.at1 (by have:=hl.at2; omega);rw[←hm0]at hnum;have hfit:=zLd env t (by omega);have hFl:(env.filter fun b=>yT b.typ t).length≤1000:=jBp (jBu _ _) (by omega);have hleft0:0<m0.left:=by rw[hm0]; exact hleft
 have hx0:=hx.adv ha;have he0:=he.mono ha.temp1;have eown:m0.own=m.own:=ha.own;generalize hF:(env.filter fun b=>yT b.typ t)=F at hfit hFl;generalize atV m.l m.at_ 65536=X at hX0 hX1 hnum;have fin:∀{e:Exp} {m':Mk} {c':Int},Ret prog zAg [.ptr 0 0,.agg (zB t),.sl env.length (zQ env),int depth] (mkS m) (.agg (zF e)) (mkS m')→Adv m0 m' c'→c'≤7*c+7→WT hs m0.own env e t→Seg m0.temp m'.temp (tmps e)→e.num0 →
  zAP hs m.own zAg m [.ptr 0 0,.agg (zB t),.sl env.length (zQ env),int depth] env t (8*c):=fun {e m' c'} q1 q2 q3 q4 q5 q6 =>
  ⟨e,m',q1,(ha.trans q2).mono (by omega),eown▸q4,q5.mono ha.temp1 (by omega),q6⟩
 by_cases hv:F≠[]∧X.tmod 3=0
 ·obtain⟨b,hb,hret⟩:=zTI (by omega) hd2 hX0 hX1 hFl h1 (by omega) hnum hfit hleft0 hd0 hv.1 hv.2 l3 (by omega) (by omega) l6;rw[←hF]at hb;obtain⟨hbe,hbt⟩:=zS3 hb;refine fin hret (zAd _) (by omega) (.var _ _ _ _ _ (by rw[zNs he.nd hbe,hbt])) ?_ zGI;simp only[tmps,jL,jC6];exact Seg.one _
 have hcnd:F=[]∨X.tmod 3≠0:=by
  by_cases h:F=[]
  ·exact .inl h
  ·exact .inr fun h'=>hv ⟨h,h'⟩
 have d36:X.tdiv 36=X / 36:=tdN hX0;have d3:X.tdiv 3=X / 3:=tdN hX0;have d12:(X.tdiv 3).tmod 12=(X.tdiv 3) % 12:=tmN (by omega);obtain⟨y,hy⟩:∃y:Nat,(y:Int)=X.tdiv 36:=⟨(X / 36).toNat,by omega⟩;have hop:=qK9 (by omega) hl0 (X.tdiv 36) (by omega) (by omega) hk hR hx0 he0 h1 (by omega) (by omega) (by omega) hd2 t ht;have viaOp:∀{f:FuncId},zAP hs m0.own f m0 [.ptr 0 0,.agg (zB t),.sl env.length (zQ env),int (X.tdiv 36),int depth] env t (7*c+7) →
  (∀{e:Exp} {m':Mk},Ret prog f [.ptr 0 0,.agg (zB t),.sl env.length (zQ env),int (X.tdiv 36),int depth] (mkS m0) (.agg (zF e)) (mkS m')→Ret prog zAg [.ptr 0 0,.agg (zB t),.sl env.length (zQ env),int depth] (mkS m) (.agg (zF e)) (mkS m')) →
  zAP hs m.own zAg m [.ptr 0 0,.agg (zB t),.sl env.length (zQ env),int depth] env t (8*c):=fun q w=>by
  obtain⟨e,m',g1,g2,g3,g4,g5⟩:=q;exact fin (w g1) g2 (by omega) g3 g4 g5
 have hif:(X.tdiv 3).tmod 12=0∨(X.tdiv 3).tmod 12=1→zAP hs m.own zAg m [.ptr 0 0,.agg (zB t),.sl env.length (zQ env),int depth] env t (8*c):=fun hk01=>by
  obtain⟨a,m1,a1,a2,a3,a4,a5⟩:=hk m0 0 yC env hx0 (hl0.mono (by omega)) (.bool _) (by omega) he0 h1 (by omega);have hl1:Lim m1 (6*c):=Lim.adv (c:=c) (hl0.mono (by omega)) a2;obtain⟨b,m2,b1,b2,b3,b4,b5⟩:=hk m1 R t env (hx0.adv a2) (hl1.mono (by omega)) ht (jA _) (he0.mono a2.temp1) h1 (by omega);have hl2:Lim m2 (5*c):=Lim.adv (c:=c) (hl1.mono (by omega)) b2;obtain⟨e,m3,c1,c2,c3,c4,c5⟩:=hk m2 R t env ((hx0.adv a2).adv b2) (hl2.mono (by omega)) ht (jA _) ((he0.mono a2.temp1).mono b2.temp1) h1 (by omega);have hl3:Lim m3 1:=Lim.adv (c:=c) (hl2.mono (by omega)) c2;have hret:Ret prog zAg [.ptr 0 0,.agg (zB t),.sl env.length (zQ env),int depth] (mkS m) (.agg (zF (.mk ⟨0,0,m3.temp⟩ 5 0 Id.zero Typ.zero [a,b,e] []))) (mkS {m3 with temp:=m3.temp+1,left:=m3.left-1}):=by
   rcases hk01 with h | h
   ·exact qD3 (by omega) hd2 hX0 hX1 hFl h1 (by omega) hnum hfit hleft0 hd0 hcnd h a1 b1 c1 hl3
   ·exact qD4 (by omega) hd2 hX0 hX1 hFl h1 (by omega) hnum hfit hleft0 hd0 hcnd h a1 b1 c1 hl3
  rw[a2.own]at b3;rw[b2.own,a2.own]at c3;refine fin hret (((a2.trans b2).trans c2).trans (zAd _)) (by omega) (.ite _ _ _ _ _ _ a3 b3 c3) ?_ (zCB (by simp[a5,b5,c5]));have t1:=a2.temp1;have t2:=b2.temp1;have t3:=c2.temp1;simp only[tmps,jL,jAz];exact(a4.append (b4.append c4 t2 t3) t1 (by omega)).append (Seg.one _) (by omega) (by omega)
 have hlet:(X.tdiv 3).tmod 12=2→zAP hs m.own zAg m [.ptr 0 0,.agg (zB t),.sl env.length (zQ env),int depth] env t (8*c):=fun hk2'=>by
  obtain⟨j,hj,e1⟩:∃j:Nat,j<env.length∧(X.tdiv 36).tmod (env.length:Int)=j:=by
   have q0:0≤X.tdiv 36:=by omega
   have q1:=jCz (X.tdiv 36) (b:=(env.length:Int)) (by omega);have q2:=jCo (X.tdiv 36) (b:=(env.length:Int)) (by omega);exact⟨((X.tdiv 36) % env.length).toNat,by omega,by rw[tmN q0]; omega⟩
  have htu:=he.typs env[j] (jA0 hj);obtain⟨a,m1,a1,a2,a3,a4,a5⟩:=hk m0 R env[j].typ env hx0 (hl0.mono (by omega)) htu (jA _) he0 h1 (by omega);have hl1:Lim m1 (6*c):=Lim.adv (c:=c) (hl0.mono (by omega)) a2;have n2:=zAd m1;obtain⟨m2,hm2⟩:∃m2:Mk,m2={m1 with temp:=m1.temp+1,left:=m1.left-1}:=⟨_,rfl⟩;have tm2:m2.temp=m1.temp+1:=by rw[hm2]
  rw[←hm2]at n2;have hl2:Lim m2 (5*c+7):=Lim.adv (c:=1) (hl1.mono (by omega)) n2;obtain⟨s,hs'⟩:=zKv m2 hl2.name1 (by have:=hl2.name2; omega);have n3:=zHI m2;obtain⟨m3,hm3⟩:∃m3:Mk,m3={m2 with name:=m2.name+1}:=⟨_,rfl⟩;rw[←hm3]at n3 hs';have hl3:Lim m3 (5*c+6):=Lim.adv (c:=1) (hl2.mono (by omega)) n3;have t1:=a2.temp1;have t2:=n2.temp1;have t3:=n3.temp1;have t3':m3.temp=m2.temp:=by rw[hm3]
  have he3:EnvOk hs R m3.temp (env++[⟨⟨0,0,m1.temp⟩,0,env[j].typ⟩]):=(((he0.mono t1).mono t2).mono t3).snoc _ _ _ htu (fun b hb e=>by have hb':=he0.new b hb (by rw[e]);rw[e]at hb';simp only at hb';omega) (by omega)
  obtain⟨b,m4,b1,b2,b3,b4,b5⟩:=hk m3 R t _ (((hx0.adv a2).adv n2).adv n3) (hl3.mono (by omega)) ht (jA _) he3 (by simp) (by simp; omega);have hret:=qD5 (by omega) hd2 hX0 hX1 hFl h1 (by omega) hnum hfit hleft0 hd0 hcnd hk2' hj e1 a1 (hl1.mono (by omega)) hm2 hs' (by simpa using b1);rw[n3.own,n2.own,a2.own]at b3;refine fin hret (((a2.trans n2).trans n3).trans b2) (by omega) (.lets _ _ _ _ _ _ _ (by simp) a3 b3) ?_ (zCB (by simp[a5,b5]));have t4:=b2.temp1;simp only[tmps,jL,jAz];have s1:Seg m1.temp (m1.temp+1) [m1.temp]:=Seg.one _;have s2:=s1.append (b:=m1.temp+1) (tm2▸t3'▸b4) (by omega) (by omega);have s3:=a4.append s2 t1 (by omega);refine s3.perm ?_;rw[jAv];exact jDl _ jDm
 have hfold:(X.tdiv 3).tmod 12=8→zAP hs m.own zAg m [.ptr 0 0,.agg (zB t),.sl env.length (zQ env),int depth] env t (8*c):=fun hk8=>by
  obtain⟨a,m1,a1,a2,a3,a4,a5⟩:=hk m0 1 (jV jT) env hx0 (hl0.mono (by omega)) (.list _ _ (.int _)) hR he0 h1 (by omega);have hl1:Lim m1 (6*c):=Lim.adv (c:=c) (hl0.mono (by omega)) a2;obtain⟨b,m2,b1,b2,b3,b4,b5⟩:=hk m1 R t env (hx0.adv a2) (hl1.mono (by omega)) ht (jA _) (he0.mono a2.temp1) h1 (by omega);have hl2:Lim m2 (5*c):=Lim.adv (c:=c) (hl1.mono (by omega)) b2;have n3:=zAd m2;obtain⟨m3,hm3⟩:∃m3:Mk,m3={m2 with temp:=m2.temp+1,left:=m2.left-1}:=⟨_,rfl⟩;have tm3:m3.temp=m2.temp+1:=by rw[hm3]
  rw[←hm3]at n3;have hl3:Lim m3 (4*c+7):=Lim.adv (c:=1) (hl2.mono (by omega)) n3;obtain⟨s,hs'⟩:=zKv m3 hl3.name1 (by have:=hl3.name2; omega);have n4:=zHI m3;obtain⟨m4,hm4⟩:∃m4:Mk,m4={m3 with name:=m3.name+1}:=⟨_,rfl⟩;have tm4:m4.temp=m3.temp:=by rw[hm4]
  rw[←hm4]at n4 hs';have hl4:Lim m4 (4*c+6):=Lim.adv (c:=1) (hl3.mono (by omega)) n4;obtain⟨s',hs''⟩:=zKv m4 hl4.name1 (by have:=hl4.name2; omega);have n5:=zHI m4;obtain⟨m5,hm5⟩:∃m5:Mk,m5={m4 with name:=m4.name+1}:=⟨_,rfl⟩;have tm5:m5.temp=m4.temp:=by rw[hm5]
  rw[←hm5]at n5 hs'';have hl5:Lim m5 (4*c+5):=Lim.adv (c:=1) (hl4.mono (by omega)) n5;have t1:=a2.temp1;have t2:=b2.temp1;have hnew:∀b∈env,b.id=⟨0,0,m2.temp⟩→∀n,b.n≠n:=fun b hb e=>by have hb':=he0.new b hb (by rw[e]);rw[e]at hb';simp only at hb';omega
  have he5:EnvOk hs R m5.temp (env++[⟨⟨0,0,m2.temp⟩,0,jT⟩]++[⟨⟨0,0,m2.temp⟩,1,t⟩]):=((he0.mono (show m0.temp≤m5.temp by omega)).snoc _ _ _ (.int _) (fun b hb e=>hnew b hb e _) (by omega)).snoc _ _ _ ht (fun b hb e=>by
   rcases jA8.1 hb with hb | hb
   ·exact hnew b hb e _
   ·rw[jAg.1 hb]; simp) (by omega)
  obtain⟨k,m6,c1,c2,c3,c4,c5⟩:=hk m5 R t _ (((((hx0.adv a2).adv b2).adv n3).adv n4).adv n5) (hl5.mono (by omega)) ht (jA _) he5 (by simp) (by simp; omega);have hret:=zZk (by omega) hd2 hX0 hX1 hFl h1 (by omega) hnum hfit hleft0 hd0 hcnd hk8 a1 b1 (hl2.mono (by omega)) hm3 hs' hs'' (by simpa using c1);rw[a2.own]at b3;rw[n5.own,n4.own,n3.own,b2.own,a2.own]at c3;refine fin hret (((((a2.trans b2).trans n3).trans n4).trans n5).trans c2) (by omega) (.fold _ _ _ _ _ _ _ _ (by simp) a3 b3 c3) ?_ (zCB (by simp[a5,b5,c5]));have t6:=c2.temp1;simp only[tmps,jL,jAz];have s1:Seg m2.temp (m2.temp+1) [m2.temp]:=Seg.one _;have c4':Seg (m2.temp+1) m6.temp (tmps k):=c4.mono (by omega) (by omega);have s2:=s1.append c4' (by omega) (by omega);have s3:=(a4.append b4 t1 t2).append s2 (by omega) (by omega);refine s3.perm ?_;simp only[jAv];exact jDl _ (jDl _ jDm)
 have hk12:(X.tdiv 3).tmod 12=0∨(X.tdiv 3).tmod 12=1∨(X.tdiv 3).tmod 12=2∨(X.tdiv 3).tmod 12=3∨(X.tdiv 3).tmod 12=4∨(X.tdiv 3).tmod 12=5∨(X.tdiv 3).tmod 12=6∨(X.tdiv 3).tmod 12=7∨(X.tdiv 3).tmod 12=8∨9≤(X.tdiv 3).tmod 12:=by omega
 have hop':=hop;rw[←hy]at hop';rcases hk12 with h | h | h | h | h | h | h | h | h | h
 ·exact hif (.inl h)
 ·exact hif (.inr h)
 ·exact hlet h
 ·have:=zP7 (by omega) hl0 y (by omega) hk hk2 hx0 he0 h1 (by omega) (by omega) (by omega) hd2 t ht hop';rw[hy]at this;exact viaOp this fun g=>zTG (by omega) hd2 hX0 hX1 hFl h1 (by omega) hnum hfit hleft0 hd0 hcnd h g
 ·have:=zP7 (by omega) hl0 y (by omega) hk hk2 hx0 he0 h1 (by omega) (by omega) (by omega) hd2 t ht hop';rw[hy]at this;exact viaOp this fun g=>zTH (by omega) hd2 hX0 hX1 hFl h1 (by omega) hnum hfit hleft0 hd0 hcnd h g
 ·have:=zWC (by omega) hl0 y (by omega) hk hx0 he0 h1 (by omega) (by omega) (by omega) hd2 t ht hop';rw[hy]at this;exact viaOp this fun g=>zW9 (by omega) hd2 hX0 hX1 hFl h1 (by omega) hnum hfit hleft0 hd0 hcnd h g
 ·have:=zSr (by omega) hl0 y hk hx0 he0 h1 (by omega) (by omega) hd2 t hop';rw[hy]at this;exact viaOp this fun g=>zW7 (by omega) hd2 hX0 hX1 hFl h1 (by omega) hnum hfit hleft0 hd0 hcnd h g
 ·have:=zSr (by omega) hl0 y hk hx0 he0 h1 (by omega) (by omega) hd2 t hop';rw[hy]at this;exact viaOp this fun g=>zW8 (by omega) hd2 hX0 hX1 hFl h1 (by omega) hnum hfit hleft0 hd0 hcnd h g
 ·exact hfold h
 ·exact viaOp hop fun g=>qJ5 (by omega) hd2 hX0 hX1 hFl h1 (by omega) hnum hfit hleft0 hd0 hcnd h g
theorem zB1.mono {hs:List Hd}{R:Nat}{c c' depth:Int}{Q Q':Nat→Prop}{len len':Nat}(h:zB1 hs R c depth Q len)(hc:c≤c')(hQ:∀r,Q' r→Q r)(hl:len'≤len):zB1 hs R c' depth Q' len' :=
 fun m r t env hx hm hr hq he h1 h2=>(h m r t env hx (hm.mono hc) hr (hQ r hq) he h1 (by omega)).mono hc
theorem p8 (k:Nat):(8:Int) ^ (k+1)=8*8 ^ k:=by rw[Int.pow_succ]; omega
theorem zJi:∀k:Nat,1≤(8:Int) ^ k
 | 0=>by simp
 | k+1=>by rw[p8]; have:=zJi k; omega
theorem zHV (hs:List Hd)(R:Nat):∀(r:Nat) (depth:Int),depth≤0→-900≤depth-r→zB1 hs R (8 ^ (r+1)) depth (fun r'=>r'≤r) 1000
 | 0,depth,h0,h1=>fun m r t env hx hl hr hq he h2 h3=>by
  rw[p8]at hl ⊢;have:=zJi 0;refine(zNX (R:=R) (r:=r) (c:=0) (d:=depth) (len:=1000) (by omega) (hl.mono (by omega)) h0 (by omega) ?_ t hr (fun m' r' t' env' _ _ _ hq'=>?_) hx he h2 h3 h3 (by omega) (by omega)).mono (by omega)
  ·rcases Int.lt_or_le 0 m.left with h | h
   ·exact .inr (.inr ⟨h,h0,rfl⟩)
   ·exact .inr (.inl ⟨h,h0,rfl⟩)
  ·have:r'<r:=hq';omega
 | s+1,depth,h0,h1=>fun m r t env hx hl hr hq he h2 h3=>by
  have hp:=p8 (s+1);rw[hp]at hl ⊢;have:=zJi (s+1);have hk:=zHV hs R s (depth-1) (by omega) (by omega);refine(zNX (R:=R) (r:=r) (c:=8 ^ (s+1)) (d:=depth) (len:=1000) (by omega) (hl.mono (by omega)) h0 (by omega) ?_ t hr (hk.mono (by omega) (fun r' (hr':r'<r)=>by omega) (jA _)) hx he h2 h3 h3 (by omega) (by omega)).mono (by omega);rcases Int.lt_or_le 0 m.left with h | h
  ·exact .inr (.inr ⟨h,h0,rfl⟩)
  ·exact .inr (.inl ⟨h,h0,rfl⟩)
theorem zOs {a b:Nat}(h:a≤b):(8:Int) ^ a≤8 ^ b:=by
 induction h with
 | refl=>exact jC7 _
 | step h ih=>rw[p8]; have:=zJi a; omega
theorem zKY (hs:List Hd)(R:Nat)(hR:1≤R)(hR2:R≤100):∀n:Nat,n≤100 →
 zB1 hs R (8 ^ (n+R+1)) n (fun r=>r≤R) (1000-2*n)∧zB1 hs R (8 ^ (n+R+1)) ((n:Int)-1) (fun r=>r≤R) (1000-2*n)
 | 0,_=>by
  constructor
  ·exact(zHV hs R R 0 (by omega) (by omega)).mono (zOs (by omega)) (fun _ h=>h) (by omega)
  ·exact(zHV hs R R _ (by omega) (by omega)).mono (zOs (by omega)) (fun _ h=>h) (by omega)
 | n+1,hn=>by
  obtain⟨i1,i2⟩:=zKY hs R hR hR2 n (by omega);have hp:(8:Int) ^ (n+1+R+1)=8*8 ^ (n+R+1):=by rw[p8,show n+1+R=n+R+1 by omega]
  have hge:=zJi (n+R);have hp':=p8 (n+R);have e1:(((n+1:Nat)):Int)-1=n:=by omega
  rw[hp];constructor
  ·intro m r t env hx hl hr hq he h1 h2;have ht:=hr.mono hq;rcases Int.lt_or_le 0 m.left with h | h
   ·refine zZl (R:=R) (len:=1000-2*n) (by omega) hl h (by omega) hR t ht (e1▸i1) ?_ hx he h1 (by omega) (by omega) (by omega);rw[show (((n+1:Nat)):Int)-2=(n:Int)-1 by omega];exact i2
   ·obtain⟨s,hs'⟩:∃s,R=s+1:=⟨R-1,by omega⟩;have hk:=zHV hs R s (0-1) (by omega) (by omega);have q1:(8:Int) ^ (s+1)≤8 ^ (n+R):=zOs (by omega);have q2:=zJi (s+1);exact(zNX (R:=R) (r:=R) (c:=8 ^ (s+1)) (d:=0) (len:=1000) (by omega) (hl.mono (by omega)) (by omega) (by omega) (.inl ⟨h,by omega,rfl⟩) t ht (hk.mono (by omega) (fun r' (hr':r'<R)=>by omega) (jA _)) hx he h1 (by omega) (by omega) (by omega) (by omega)).mono (by omega)
  ·rw[e1];exact i1.mono (by omega) (fun _ h=>h) (by omega)
def qAK:K:=G [kO 1 0,kMi 2 0] (G [kMi 3 1] (Z (G [kMi 4 0] (K.block 0 (K.loop (Z (G [M 5 4,D 6 1 13,L 7 6 1,kN 8 7,kB 9 5 8 .lss] (Y 9 ks (K.exit 0))) (Z (K.block 1 (K.ops [M 12 3,D 13 1 13,L 14 13 1,M 15 4,kX 16 14 15 15,J 17 16 15,kC 18 35 [(kt 17)],kB 19 12 18 .add,M 3 19])) (K.ops [M 10 4,kBi 11 10 1 .add,M 4 11])))))) (G [M 20 3,M 2 20] kr)))
theorem qIB:zL prog Tryz.f35.ntmps (Tryz.f35.body.getD .skip)=some qAK.erase:=by kernel_rfl
@[simp] theorem qLU:zA prog 35=true:=by kernel_rfl
def zVa:K:=G [kO 2 0,kMn 4] (Z (G [kMi 5 0] (K.block 0 (K.loop (Z (G [M 6 5,D 7 2 13,L 8 7 1,kN 9 8,kB 10 6 9 .lss] (Y 10 ks (K.exit 0))) (Z (K.block 1 (K.ops [D 13 2 13,L 14 13 1,M 15 5,kX 16 14 15 15,J 17 16 15,M 18 1,kC 19 36 [(kt 17),(kt 18)],M 1 19])) (K.ops [M 11 5,kBi 12 11 1 .add,M 5 12])))))) (G [M 20 1,D 21 2 0,D 22 21 2,L 23 22 1,kd 24 3 1 1 [ki] [(0,1,(kt 23))],kP 25 3 1 8 20 24,M 4 25] kr))
theorem qBf:zL prog Tryz.f36.ntmps (Tryz.f36.body.getD .skip)=some zVa.erase:=by kernel_rfl
@[simp] theorem qLW:zA prog 36=true:=by kernel_rfl
def qAP:K:=G [kO 2 0,kZ 4 kz1] (G [J 7 2 15,kZ 5 kz1,S 5 7 15] (G [M 8 1,D 9 2 0,D 10 9 2,L 11 10 1,kX 12 8 11 3,J 13 12 3,D 14 5 0,S 14 13 3] (Z (G [D 15 2 3,L 16 15 1,kQi 17 16 2 false,M 18 17,T 18 true (D 19 2 5),T 18 true (D 20 19 1),T 18 true (L 21 20 1),T 18 true (kQi 22 21 0 false),kPf 23 18 22] (Y 23 (K.ops [M 24 1,D 25 2 5,D 26 25 2,L 27 26 1,kX 28 24 27 3,J 29 28 3,D 30 5 5,S 30 29 3]) ks)) (G [D 31 5 13,⟨none,.st none (kt 31) (.const kl) 1⟩] (Z (G [kMi 6 0] (K.block 0 (K.loop (Z (G [M 32 6,D 33 2 13,L 34 33 1,kN 35 34,kB 36 32 35 .lss] (Y 36 ks (K.exit 0))) (Z (K.block 1 (K.dops [(0,2,D 39 5 13),(1,2001,L 40 39 1),(2,0,D 41 2 13),(3,0,L 42 41 1),(4,0,M 43 6),(5,0,kX 44 42 43 15),(6,0,J 45 44 15),(7,0,M 46 1),(8,1001,kC 47 37 [(kt 45),(kt 46)]),(9,0,kd 48 37 15 1 kz1 [(0,15,(kt 47))]),(10,0,kP 49 37 15 168 40 48),(11,2,D 50 5 13),(12,0,S 50 49 1)])) (K.ops [M 37 6,kBi 38 37 1 .add,M 6 38])))))) (G [J 51 5 15,S 4 51 15] kr))))))
def qJA:Nat→Option (List (Nat×Nat)):=fun r=>match r with | 9=>some [(0,2),(1,2001),(2,0),(3,0),(4,0),(5,0),(6,0),(7,0),(8,1001),(9,0),(10,0),(11,2),(12,0)] | _=>none
theorem qIF:qD prog Tryz.f37.ntmps qJA (Tryz.f37.body.getD .skip)=some qAP.erase:=by kernel_rfl
@[simp] theorem qLZ:zA prog 37=true:=by kernel_rfl
@[simp] theorem qLh {d:Option Nat}{x:Operand}{n:Nat}{g:Bool}{env:Env}:zBi 2001 (.ld d x n g) env=zCb 1 (ev env x):=propext (zI1 (by omega) (by omega))
@[simp] theorem qE5 {d:Option Nat}{x:Operand}{l:List Operand}{env:Env}:zBi 1001 (.call d x l) env=True:=rfl
@[simp] theorem qGa {σ : St}:zD8 2001 σ = σ:=rfl
theorem zA7 (e:Exp):tmps e=jL e.kids++[e.id.c]:=by cases e; simp only[tmps,Exp.kids,Exp.id]
theorem yW {l:List Exp}{i:Nat}(h:i<l.length):jL (l.take (i+1))=jL (l.take i)++tmps l[i]:=by rw[jA9 h,zDT]
theorem zGr:∀{l:List Exp} {e:Exp},e∈l→(tmps e).length≤(jL l).length
 | x::l,e,h=>by
  simp only[jL,jA5];rcases jA3.1 h with rfl | h
  ·omega
  ·have:=zGr h; omega
theorem zDd {l:List Exp}(i:Nat):(jL (l.take i)).length≤(jL l).length:=by
 have h:∀a b:List Exp,jL (a++b)=jL a++jL b:=fun a b=>by
  induction a with
  | nil=>simp[jL]
  | cons x a ih=>simp[jL,ih]
 have:=h (l.take i) (l.drop i);rw[jBy]at this;rw[this,jA5];omega
mutual
theorem zPK:∀(e:Exp),(tmps e).length≤1000000000→Ret prog 35 [.agg (zF e)] [] (int (tmps e).length) []
 | .mk a b c d t l ns,hle=>by
  have ih:=zNw l;generalize ha:Exp.mk a b c d t l ns=e at hle;have hal:e.kids=l:=by rw[←ha]; rfl
  rw[←hal]at ih;rw[zA7,jA5,jAl]at hle;refine zK Tryz.func35 rfl qIB (rs:=[.slot 2]) (by kernel_rfl) ?_;unfold qAK;simp[zF];refine qW (S:=Nat) (fun i=>[(1,.ptr 0 0),(3,int ((jL (e.kids.take i)).length+1:Nat)),(4,int i)]) (fun _=>[.box (zF e)]) (fun i=>i≤e.kids.length) (fun i=>e.kids.length-i) 0 (by simp)
   (zR [0] 0 (by decide) (by simp) (by simp[zF]) (by simp[jL])) ?_
  intro i hi;by_cases h:i<e.kids.length
  ·have hle2:(tmps e.kids[i]).length≤1000000000:=by have:=zGr (jA0 h); omega
   have h3:=zDd (l:=e.kids) (i+1);rw[yW h,jA5]at h3;simp[zF,h,yJ h];intro hl;refine zT (ih e.kids[i] (jA0 h) hle2) (by simp[zF]) (by simp) ?_;have hw:IntKind.i64.wrap ((((jL (e.kids.take i)).length:Int)+1)+((tmps e.kids[i]).length:Int))=((jL (e.kids.take i)).length:Int)+1+(tmps e.kids[i]).length:=IntWalk.i64_in _ (by omega);simp[hw];exact zU (i+1) h (by omega) (zR [0] 0 (by decide) (by simp) (by simp[zF]) (by simp[qA h hl,yW h]; omega))
  ·have hie:i=e.kids.length:=by omega
   subst hie;simp[zF]
   first | exact fun _=>zC 0 (by simp[zA7]) | exact zC 0 (by simp[zA7])
theorem zNw:∀(l:List Exp),∀x∈l,(tmps x).length≤1000000000→Ret prog 35 [.agg (zF x)] [] (int (tmps x).length) []
 | [],x,hx=>by simp at hx
 | z::l,x,hx=>by
  rcases jA3.1 hx with e | hx
  ·rw[e]; exact zPK z
  ·exact zNw l x hx
end
def zCU (l:List Int):AObj:=.row false 3 1 l.length (yH l)
mutual
theorem zNx:∀(e:Exp) (l:List Int),l.length+(tmps e).length≤1000000000→Ret prog 36 [.agg (zF e),.row 0 l.length] [zCU l] (.row 0 (l++tmps e).length) [zCU (l++tmps e)]
 | .mk a b c d t ks ns,l,hle=>by
  have ih:=zL3 ks;generalize ha:Exp.mk a b c d t ks ns=e at hle;have hal:e.kids=ks:=by rw[←ha]; rfl
  rw[←hal]at ih;rw[zA7,jA5,jAl]at hle;refine zK Tryz.func36 rfl qBf (rs:=[.slot 4]) (by kernel_rfl) ?_;unfold zVa;simp[zF,zCU];refine qW (S:=Nat) (fun i=>[(1,.row 0 (l++jL (e.kids.take i)).length),(2,.ptr 1 0),(5,int i)]) (fun i=>[zCU (l++jL (e.kids.take i)),.box (zF e)]) (fun i=>i≤e.kids.length) (fun i=>e.kids.length-i) 0 (by simp)
   (zR [0,1] 0 (by decide) (by simp) (by simp[zF,zCU,jL]) (by simp[jL])) ?_
  intro i hi;by_cases h:i<e.kids.length
  ·have h3:=zDd (l:=e.kids) (i+1);rw[yW h,jA5]at h3;have hg:=ih e.kids[i] (jA0 h) (l++jL (e.kids.take i)) (by rw[jA5]; omega);simp[zF,zCU,h,yJ h];intro hl;refine zN hg [0] (by decide) (by simp[zCU,zDj]) (by simp[zF]) ?_;simp[zCU];exact zU (i+1) h (by omega) (zR [0,1] 0 (by decide) (by simp) (by simp[zF,zCU,yW h,zDj]) (by simp[qA h hl,yW h]))
  ·have hie:i=e.kids.length:=by omega
   subst hie;simp[zF,zCU];intro _;refine⟨⟨by simp[maxLen]; omega,by omega⟩,?_⟩;exact zG [0] 0 (by decide) (by simp) (by simp[zA7,zDj]; omega) (by simp[zA7]; omega)
theorem zL3:∀(ks:List Exp),∀x∈ks,∀(l:List Int),l.length+(tmps x).length≤1000000000→Ret prog 36 [.agg (zF x),.row 0 l.length] [zCU l] (.row 0 (l++tmps x).length) [zCU (l++tmps x)]
 | [],x,hx=>by simp at hx
 | z::l,x,hx=>by
  rcases jA3.1 hx with e | hx
  ·rw[e]; exact zNx z
  ·exact zL3 l x hx
end
theorem zR5 (e:Exp)(hle:(tmps e).length≤1000000000):Ret prog 36 [.agg (zF e),.nil] [] (.row 0 (tmps e).length) [zCU (tmps e)]:=by
 rw[zA7,jA5,jAl]at hle;refine zK Tryz.func36 rfl qBf (rs:=[.slot 4]) (by kernel_rfl) ?_;unfold zVa;simp[zF,zCU];refine qW (S:=Nat) (fun i=>[(1,.row 0 (jL (e.kids.take i)).length),(2,.ptr 1 0),(5,int i)]) (fun i=>[zCU (jL (e.kids.take i)),.box (zF e)]) (fun i=>i≤e.kids.length) (fun i=>e.kids.length-i) 0 (by simp)
  ((yG (t:=1) (by simp) 3 1).trans (zR [1,0] 0 (by decide) (by simp) (by simp[zF,zCU,jL]) (by simp[jL]))) ?_
 intro i hi;by_cases h:i<e.kids.length
 ·have h3:=zDd (l:=e.kids) (i+1);rw[yW h,jA5]at h3;have hg:=zNx e.kids[i] (jL (e.kids.take i)) (by omega);simp[zF,zCU,h,yJ h];intro hl;refine zN hg [0] (by decide) (by simp[zCU]) (by simp[zF]) ?_;simp[zCU];exact zU (i+1) h (by omega) (zR [0,1] 0 (by decide) (by simp) (by simp[zF,zCU,yW h,zDj]) (by simp[qA h hl,yW h]))
 ·have hie:i=e.kids.length:=by omega
  subst hie;simp[zF,zCU];intro _;refine⟨⟨by simp[maxLen]; omega,by omega⟩,?_⟩;exact zG [0] 0 (by decide) (by simp) (by simp[zA7,zDj]) (by simp[zA7])
mutual
def zBU (f:Int→Id):Exp→Exp
 | .mk i k n r t ks ns=>.mk (f i.c) k n (if k=2∧r.b=0 then f r.c else r) t (zF7 f ks) ns
def zF7 (f:Int→Id):List Exp→List Exp
 | []=>[]
 | e::l=>zBU f e::zF7 f l
end
theorem zEE (f:Int→Id):∀l:List Exp,zF7 f l=l.map (zBU f)
 | []=>rfl
 | e::l=>by simp only[zF7,jAj,zEE f l]
mutual
def Exp.under (N:Nat):Exp→Prop
 | .mk i k _ r _ ks _=>(0≤i.c∧i.c<N)∧(k=2→r.b=0→0≤r.c∧r.c<N)∧ks.length≤1000000000∧zJy N ks
def zJy (N:Nat):List Exp→Prop
 | []=>True
 | e::l=>e.under N∧zJy N l
end
theorem zHA {N:Nat}:∀l:List Exp,zJy N l↔∀e∈l,e.under N
 | []=>by simp[zJy]
 | e::l=>by simp[zJy,zHA l]
def zE0 (ids:List Id)(c:Int):Id:=ids.getD c.toNat Id.zero
theorem zPs {ids:List Id}{c:Int}{j:Nat}(h:c=j)(hj:j<ids.length):zE0 ids c=ids[j]:=by subst h;unfold zE0;rw[jD,jC5,jA2 hj];rfl
def zAq (ids:List Id):AObj:=.row false 29 3 ids.length (qE ids)
mutual
theorem zLH (ids:List Id):∀(e:Exp),e.under ids.length→Ret prog 37 [.agg (zF e),.row 0 ids.length] [zAq ids] (.agg (zF (zBU (zE0 ids) e))) [zAq ids]
 | .mk a b c d t ks ns,hb=>by
  have ih:=zKa ids ks;simp only[Exp.under,zHA]at hb;obtain⟨⟨hb1,hb2⟩,hb3,hkl,hb4⟩:=hb;obtain⟨j,hj⟩:∃j:Nat,a.c=j:=⟨a.c.toNat,by omega⟩;have hjl:j<ids.length:=by omega
  have hdj:=yS hjl;have hej:=zPs hj hjl;have hbj:j*3+3≤ids.length*3:=by omega
  refine zI Tryz.func37 rfl qIF (rs:=[.cell 4 15 true]) (by kernel_rfl) ?_;unfold qAP;obtain⟨x,hx⟩:∃x,x=ids[j]:=⟨_,rfl⟩;rw[←hx]at hej hdj;by_cases hv1:b=2
  ·by_cases hv2:d.b=0
   ·obtain⟨hb5,hb6⟩:=hb3 hv1 hv2;obtain⟨m,hm⟩:∃m:Nat,d.c=m:=⟨d.c.toNat,by omega⟩;have hml:m<ids.length:=by omega
    have hdm:=yS hml;have hem:=zPs hm hml;have hbm:m*3+3≤ids.length*3:=by omega
    obtain⟨y,hy⟩:∃y,y=ids[m]:=⟨_,rfl⟩;rw[←hy]at hem hdm;simp[zF,zAq,hj,hjl,hdj,hbj,hv1,hv2,hm,hml,hdm,hbm,jF];refine qW (S:=Nat) (fun i=>[(1,.row 0 ids.length),(2,.ptr 1 0),(4,.ptr 2 0),(5,.ptr 3 0),(6,int i)])
     (fun i=>[zAq ids,.box (zF (.mk a b c d t ks ns)),.box (zF Exp.zero),.box [int x.a,int x.b,int x.c,int b,int c,int y.a,int y.b,int y.c,int t.k,int t.id.a,int t.id.b,int t.id.c,.sl t.kids.length (jH t.kids),.row 4 i,.sl ns.length (yK ns)],.row false 37 15 i (qL ((ks.map (zBU (zE0 ids))).take i))]) (fun i=>i≤ks.length) (fun i=>ks.length-i) 0 (by simp)
     ((zAv (l:=3) (o:=13) rfl rfl 37 15).trans (zR [0,1,2,3,4] 0 (by decide) (by simp) (by simp[zAq,zF,Exp.zero,Id.zero,Typ.zero,hj,hv1,hv2,hm,hem]) (by simp))) ?_
    intro i hi;by_cases h:i<ks.length
    ·have hg:=ih ks[i] (jA0 h) (hb4 _ (jA0 h));have hst:=zAz (l:=ks.map (zBU (zE0 ids))) (i:=i) (by rw[jAa]; exact h);rw[jAr]at hst;simp[zAq,zF,h,yJ h];intro hl;refine zAn hg [0] (by decide) (by simp[zAq]) (by simp[zF]) (by decide) (by simp) (by simp) ?_;simp[zAq];refine⟨⟨by omega,by omega⟩,?_⟩;exact zU (i+1) h (by omega) (zR [0,1,2,3,4] 0 (by decide) (by simp) (by rw[hst]; simp[zAq,zF]) (by simp[qA h hl]))
    ·have hie:i=ks.length:=by omega
     subst hie;have hall:List.take ks.length (ks.map (zBU (zE0 ids)))=ks.map (zBU (zE0 ids)):=jAk (by simp);simp[zAq,zF];intro _;exact zG [0] 1 (by decide) (by simp) (by simp) (by simp[zF,zBU,zEE,hej,hall,hv1,hv2,hem])
   ·simp[zF,zAq,hj,hjl,hdj,hbj,hv1,hv2,jF];refine qW (S:=Nat) (fun i=>[(1,.row 0 ids.length),(2,.ptr 1 0),(4,.ptr 2 0),(5,.ptr 3 0),(6,int i)])
     (fun i=>[zAq ids,.box (zF (.mk a b c d t ks ns)),.box (zF Exp.zero),.box [int x.a,int x.b,int x.c,int b,int c,int d.a,int d.b,int d.c,int t.k,int t.id.a,int t.id.b,int t.id.c,.sl t.kids.length (jH t.kids),.row 4 i,.sl ns.length (yK ns)],.row false 37 15 i (qL ((ks.map (zBU (zE0 ids))).take i))]) (fun i=>i≤ks.length) (fun i=>ks.length-i) 0 (by simp)
     ((zAv (l:=3) (o:=13) rfl rfl 37 15).trans (zR [0,1,2,3,4] 0 (by decide) (by simp) (by simp[zAq,zF,Exp.zero,Id.zero,Typ.zero,hj,hv1,hv2]) (by simp))) ?_
    intro i hi;by_cases h:i<ks.length
    ·have hg:=ih ks[i] (jA0 h) (hb4 _ (jA0 h));have hst:=zAz (l:=ks.map (zBU (zE0 ids))) (i:=i) (by rw[jAa]; exact h);rw[jAr]at hst;simp[zAq,zF,h,yJ h];intro hl;refine zAn hg [0] (by decide) (by simp[zAq]) (by simp[zF]) (by decide) (by simp) (by simp) ?_;simp[zAq];refine⟨⟨by omega,by omega⟩,?_⟩;exact zU (i+1) h (by omega) (zR [0,1,2,3,4] 0 (by decide) (by simp) (by rw[hst]; simp[zAq,zF]) (by simp[qA h hl]))
    ·have hie:i=ks.length:=by omega
     subst hie;have hall:List.take ks.length (ks.map (zBU (zE0 ids)))=ks.map (zBU (zE0 ids)):=jAk (by simp);simp[zAq,zF];intro _;exact zG [0] 1 (by decide) (by simp) (by simp) (by simp[zF,zBU,zEE,hej,hall,hv1,hv2])
  ·simp[zF,zAq,hj,hjl,hdj,hbj,hv1,jF];refine qW (S:=Nat) (fun i=>[(1,.row 0 ids.length),(2,.ptr 1 0),(4,.ptr 2 0),(5,.ptr 3 0),(6,int i)])
    (fun i=>[zAq ids,.box (zF (.mk a b c d t ks ns)),.box (zF Exp.zero),.box [int x.a,int x.b,int x.c,int b,int c,int d.a,int d.b,int d.c,int t.k,int t.id.a,int t.id.b,int t.id.c,.sl t.kids.length (jH t.kids),.row 4 i,.sl ns.length (yK ns)],.row false 37 15 i (qL ((ks.map (zBU (zE0 ids))).take i))]) (fun i=>i≤ks.length) (fun i=>ks.length-i) 0 (by simp)
    ((zAv (l:=3) (o:=13) rfl rfl 37 15).trans (zR [0,1,2,3,4] 0 (by decide) (by simp) (by simp[zAq,zF,Exp.zero,Id.zero,Typ.zero,hj,hv1]) (by simp))) ?_
   intro i hi;by_cases h:i<ks.length
   ·have hg:=ih ks[i] (jA0 h) (hb4 _ (jA0 h));have hst:=zAz (l:=ks.map (zBU (zE0 ids))) (i:=i) (by rw[jAa]; exact h);rw[jAr]at hst;simp[zAq,zF,h,yJ h];intro hl;refine zAn hg [0] (by decide) (by simp[zAq]) (by simp[zF]) (by decide) (by simp) (by simp) ?_;simp[zAq];refine⟨⟨by omega,by omega⟩,?_⟩;exact zU (i+1) h (by omega) (zR [0,1,2,3,4] 0 (by decide) (by simp) (by rw[hst]; simp[zAq,zF]) (by simp[qA h hl]))
   ·have hie:i=ks.length:=by omega
    subst hie;have hall:List.take ks.length (ks.map (zBU (zE0 ids)))=ks.map (zBU (zE0 ids)):=jAk (by simp);simp[zAq,zF];intro _;exact zG [0] 1 (by decide) (by simp) (by simp) (by simp[zF,zBU,zEE,hej,hall,hv1])
theorem zKa (ids:List Id):∀(ks:List Exp),∀x∈ks,x.under ids.length→Ret prog 37 [.agg (zF x),.row 0 ids.length] [zAq ids] (.agg (zF (zBU (zE0 ids) x))) [zAq ids]
 | [],x,hx=>by simp at hx
 | z::l,x,hx=>by
  rcases jA3.1 hx with e | hx
  ·rw[e]; exact zLH ids z
  ·exact zKa ids l x hx
end
end Go.Proofs.YthglhccibdlccaaGreatDoor
