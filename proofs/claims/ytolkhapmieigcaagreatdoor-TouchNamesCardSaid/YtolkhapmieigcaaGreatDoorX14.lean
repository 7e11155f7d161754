/- The maker's expressions, walked. -/
import Derived.Test.YtolkhapmieigcaaGreatDoorX13
set_option linter.unusedVariables false
set_option maxHeartbeats 8000000
set_option maxRecDepth 100000
set_option linter.unusedSimpArgs false
open Go.Proofs.Tryz
namespace Go.Proofs.YtolkhapmieigcaaGreatDoor
open Go.Abs
def oQ:K:=G [kO 5 1,kZ 8 kz1] (G [M 21 0,kC 22 85 [(kt 21),(kc 65536)],M 9 22] (G [M 23 2,J 24 5 5,kC 25 86 [(kt 23),(kt 24)],M 10 25] (Z (G [M 26 0,kU 27 26,D 28 27 5,L 29 28 1,kBi 30 29 0 .leq] (Y 30 (K.ops [M 31 3,⟨none,.mm (some 32) false [(kt 31),(kc 0)]⟩,M 3 32]) ks)) (Z (G [M 33 10,kN 34 33,kBi 35 34 0 .gtr,M 36 35,T 36 true (M 37 3),T 36 true (kBi 38 37 0 .leq),T 36 true (M 39 38),T 39 false (M 40 9),T 39 false (kBi 41 40 3 .rem),T 39 false (kQi 42 41 0 false),T 36 true (kPt 43 39 42),kPf 44 36 43] (Y 44 (G [M 45 0,M 46 10,M 47 9,kBi 48 47 3 .quo,M 49 10,kN 50 49,kB 51 48 50 .rem,kX 52 46 51 9,J 53 52 9,kC 54 87 [(kt 45),(kt 53)],S 8 54 15] kr) ks)) (Z (G [M 55 3,kBi 56 55 0 .leq] (Y 56 (G [M 57 0,J 58 5 5,M 59 2,M 60 9,kBi 61 60 3 .quo,M 62 3,kC 63 88 [(kt 57),(kt 58),(kt 59),(kt 61),(kt 62)],S 8 63 15] kr) ks)) (G [M 64 9,kBi 65 64 3 .quo,kBi 66 65 12 .rem,M 11 66] (G [M 67 9,kBi 68 67 36 .quo,M 9 68] (Z (G [M 69 11,kQi 70 69 0 false,M 71 70,T 71 false (M 72 11),T 71 false (kQi 73 72 1 false),kPt 74 71 73] (Y 74 (G [M 75 0,kb 76 kz2 [(0,1,(kc 1))],M 77 2,M 78 3,kBi 79 78 1 .sub,kC 80 37 [(kt 75),(kt 76),(kt 77),(kt 79)],kZ 12 kz1,S 12 80 15] (G [M 81 0,J 82 5 5,M 83 2,M 84 3,kBi 85 84 1 .sub,kC 86 37 [(kt 81),(kt 82),(kt 83),(kt 85)],kZ 13 kz1,S 13 86 15] (Z (K.dops [(0,0,M 87 0),(1,2002,J 88 12 15),(2,2002,J 89 13 15),(3,0,M 90 0),(4,0,J 91 5 5),(5,0,M 92 2),(6,0,
 M 93 3),(7,0,kBi 94 93 1 .sub),(8,1002,kC 95 37 [(kt 90),(kt 91),(kt 92),(kt 94)]),(9,0,kd 96 40 15 3 kz4 [(0,15,(kt 88)),(15,15,(kt 89)),(30,15,(kt 95))]),(10,4,kC 97 89 [(kt 87),(kc 5),(kc 0),(kt 96)]),(11,0,S 8 97 15)]) kr))) ks)) (Z (G [M 98 11,kQi 99 98 2 false] (Y 99 (G [M 100 2,M 101 9,M 102 2,kN 103 102,kB 104 101 103 .rem,kX 105 100 104 9,D 106 105 4,J 107 106 5,kZ 14 kz2,S 14 107 5] (G [M 108 0,J 109 14 5,M 110 2,M 111 3,kBi 112 111 1 .sub,kC 113 37 [(kt 108),(kt 109),(kt 110),(kt 112)],kZ 15 kz1,S 15 113 15] (G [M 114 0,kC 115 89 [(kt 114),(kc 6),(kc 0),(.const kl)],kZ 16 kz1,S 16 115 15] (G [M 116 0,kC 117 90 [(kt 116)],⟨none,.bslice (some 118) 9 1 1 [(.string ⟨#[]⟩)] [(0,1,(kt 117))]⟩,D 119 16 14,S 119 118 1] (Z (K.dops [(0,2002,J 120 15 15),(1,0,M 121 0),(2,0,J 122 5 5),(3,0,M 123 2),(4,0,D 124 16 0),(5,0,J 125 124 3),(6,0,J 126 14 5),(7,0,kb 127 kz7 [(0,3,(kt 125)),(4,5,(kt 126))]),(8,0,kC 128 91 [(kt 123),(kt 127)]),(9,0,M 129 3),(10,0,kBi 130 129 1 .sub),(11,1002,kC 131 37 [(kt 121),(kt 122),(kt 128),(kt 130)]),(12,0,kd 132 40 15 2 kz6 [(0,15,(kt 120)),(15,15,(kt 131))]),(13,2,D 133 16 13),(14,0,S 133 132 1)]) (G [J 134 16 15,S 8 134 15] kr)))))) ks)) (Z (G [M 135 11,kQi 136 135 3 false,M 137 136,T 137 false (M 138 11),T 137 false (kQi 139 138 4 false),kPt 140 137 139] (Y 140 (G [M 141 0,J 142 5 5,M 143 2,M 144 9,M 145 3,kC 146 92 [(kt 141),(kt 142),(kt 143),(kt 144),(kt 145)],S 8 146 15] kr) ks)) (Z (G [M 147 11,kQi 148 147 5 false] (Y 148 (G [M 149 0,
 J 150 5 5,M 151 2,M 152 9,M 153 3,kC 154 93 [(kt 149),(kt 150),(kt 151),(kt 152),(kt 153)],S 8 154 15] kr) ks)) (Z (G [M 155 11,kQi 156 155 6 false,M 157 156,T 157 false (M 158 11),T 157 false (kQi 159 158 7 false),kPt 160 157 159] (Y 160 (G [M 161 0,J 162 5 5,M 163 2,M 164 9,M 165 3,kC 166 94 [(kt 161),(kt 162),(kt 163),(kt 164),(kt 165)],S 8 166 15] kr) ks)) (Z (G [M 167 11,kQi 168 167 8 false] (Y 168 (G [M 169 0,kb 170 kz2 [],kC 171 83 [(kt 170)],M 172 2,M 173 3,kBi 174 173 1 .sub,kC 175 37 [(kt 169),(kt 171),(kt 172),(kt 174)],kZ 17 kz1,S 17 175 15] (G [M 176 0,J 177 5 5,M 178 2,M 179 3,kBi 180 179 1 .sub,kC 181 37 [(kt 176),(kt 177),(kt 178),(kt 180)],kZ 18 kz1,S 18 181 15] (G [M 182 0,kC 183 89 [(kt 182),(kc 12),(kc 0),(.const kl)],kZ 19 kz1,S 19 183 15] (G [M 184 0,kC 185 90 [(kt 184)],M 186 0,kC 187 90 [(kt 186)],⟨none,.bslice (some 188) 9 1 2 [(.string ⟨#[]⟩),(.string ⟨#[]⟩)] [(0,1,(kt 185)),(1,1,(kt 187))]⟩,D 189 19 14,S 189 188 1] (Z (K.dops [(0,0,M 190 2),(1,0,D 191 19 0),(2,0,J 192 191 3),(3,0,kb 193 kz2 []),(4,0,kb 194 kz7 [(0,3,(kt 192)),(4,5,(kt 193))]),(5,0,kC 195 91 [(kt 190),(kt 194)]),(6,0,D 196 19 0),(7,0,J 197 196 3),(8,0,J 198 5 5),(9,0,kb 199 kz7 [(0,3,(kt 197)),(3,1,(kc 1)),(4,5,(kt 198))]),(10,0,kC 200 91 [(kt 195),(kt 199)]),(11,0,M 20 200)]) (Z (K.dops [(0,2002,J 201 17 15),(1,2002,J 202 18 15),(2,0,M 203 0),(3,0,J 204 5 5),(4,0,M 205 20),(5,0,
 M 206 3),(6,0,kBi 207 206 1 .sub),(7,1002,kC 208 37 [(kt 203),(kt 204),(kt 205),(kt 207)]),(8,0,kd 209 40 15 3 kz4 [(0,15,(kt 201)),(15,15,(kt 202)),(30,15,(kt 208))]),(9,2,D 210 19 13),(10,0,S 210 209 1)]) (G [J 211 19 15,S 8 211 15] kr))))))) ks)) (G [M 212 0,J 213 5 5,M 214 2,M 215 9,M 216 3,kC 217 95 [(kt 212),(kt 213),(kt 214),(kt 215),(kt 216)],S 8 217 15] kr))))))))))))))
def qKL:Nat->Option wE:=fun|14=>k_ [0,2002,2002,0,0,0,0,0,1002,0,4,0] | 20=>k_ [2002,0,0,0,0,0,0,0,0,0,0,1002,0,2,0] | 34=>k_ [2002,2002,0,0,0,0,0,1002,0,2,0]|_=>none
theorem pP:kx f37 qKL oQ:=mz (by kernel_rfl)
abbrev zJ8:FuncId:=85
abbrev zIH:FuncId:=86
variable{m m0:Mk}{env F:wJ}{t:Typ}{depth X:Int}
theorem zNW(hd1 : -1000<=depth)(hd2:depth<=1000)(hX0:0<=X)(hX1:X<65536)(hF:F.length<=1000)(hE0:0<env.length)(hE:env.length<=1000)
 (hnum:my zJ8 [.ptr 0 0,int 65536] (mkS m) (int X) (mkS m0))(hfit:my zIH [.sl env.length (zU env),.agg (zB t)] [] (.sl F.length (zU F)) [])(hleft:0<m0.left)(hd:0<depth)(hF0:F≠[])(hX3:X.tmod 3=0)(h0:0<=m0.temp)(h1:m0.temp<=1000000000000000)(h2 : -1000000000000000<=m0.left)(h3:m0.left<=1000000000000000) :
 ∃b∈F,my aX [.ptr 0 0,.agg (zB t),.sl env.length (zU env),int depth] (mkS m) (.agg (zH (.mk ⟨0,0,m0.temp⟩ 2 b.n b.id Typ.zero [] []))) (mkS {m0 with temp:=m0.temp+1,left:=m0.left-1}):=by
 have hl':¬m0.left<=0:=by omega
 have hd':¬depth<=0:=by omega
 have d3:X.tdiv 3=X / 3:=tdN hX0;have w3:=z8 (X.tdiv 3) (by omega);have hFl:0<F.length:=by cases F with
  |nil=>exact(hF0 rfl).elim
  |cons=>simp
 obtain⟨j,hj,e1⟩:∃j:Nat,j<F.length/\(X.tdiv 3).tmod (F.length:Int)=j:=by
  have q0:0<=X.tdiv 3:=by omega
  have q1:=jDa (X.tdiv 3) (b:=(F.length:Int)) (by omega);have q2:=jD1 (X.tdiv 3) (b:=(F.length:Int)) (by omega);exact⟨((X.tdiv 3) % F.length).toNat,by omega,by rw[tmN q0];omega⟩
 have hdr:=gA hj;have hbj:j*9+9<=F.length*9:=by omega
 have hne:¬((F.length:Int)=0):=by omega
 refine⟨F[j],jA0 hj,?_⟩;have hvar:=zRU m0 F[j] h0 h1 h2 h3;refine zJ func37 rfl pP (rs:=[.cell 8 15 true]) (by kernel_rfl) ?_;unfold oQ;simp[mkS,mkB,zB];refine mr hnum [0,1] (by simp[mkS,mkB]) ?_;simp[mkS,mkB];refine mu hfit (by simp[zB]) ?_;simp[mkS,mkB,hl',hd',hX3,hFl,hF0,w3,e1,hne,hj,hdr,hbj];intro _;refine mr hvar [0,1] (by simp[mkS,mkB,bZ]) ?_;simp[mkS,mkB,zH];exact mv [0,1] 0 (by rfl) (by simp[zH])
variable{d:Int}
theorem zNX(hd1 : -1000<=depth)(hd2:depth<=1000)(hX0:0<=X)(hX1:X<65536)(hF:F.length<=1000)(hE0:0<env.length)(hE:env.length<=1000)
 (hnum:my zJ8 [.ptr 0 0,int 65536] (mkS m) (int X) (mkS m0))(hfit:my zIH [.sl env.length (zU env),.agg (zB t)] [] (.sl F.length (zU F)) [])(hd:d<=0)(hcase:m0.left<=0/\0<depth/\d=0\/m0.left<=0/\depth<=0/\d=depth\/0<m0.left/\depth<=0/\d=depth)(hF0:F≠[])(h0:0<=m0.temp)(h1:m0.temp<=1000000000000000)(h2 : -1000000000000000<=m0.left)(h3:m0.left<=1000000000000000) :
 ∃b∈F,my aX [.ptr 0 0,.agg (zB t),.sl env.length (zU env),int depth] (mkS m) (.agg (zH (.mk ⟨0,0,m0.temp⟩ 2 b.n b.id Typ.zero [] []))) (mkS {m0 with temp:=m0.temp+1,left:=m0.left-1}):=by
 have d3:X.tdiv 3=X / 3:=tdN hX0;have w3:=z8 (X.tdiv 3) (by omega);have hFl:0<F.length:=by cases F with
  |nil=>exact(hF0 rfl).elim
  |cons=>simp
 obtain⟨j,hj,e1⟩:∃j:Nat,j<F.length/\(X.tdiv 3).tmod (F.length:Int)=j:=by
  have q0:0<=X.tdiv 3:=by omega
  have q1:=jDa (X.tdiv 3) (b:=(F.length:Int)) (by omega);have q2:=jD1 (X.tdiv 3) (b:=(F.length:Int)) (by omega);exact⟨((X.tdiv 3) % F.length).toNat,by omega,by rw[tmN q0];omega⟩
 have hdr:=gA hj;have hbj:j*9+9<=F.length*9:=by omega
 have hne:¬((F.length:Int)=0):=by omega
 refine⟨F[j],jA0 hj,?_⟩;have hvar:=zRU m0 F[j] h0 h1 h2 h3;rcases hcase with ⟨hl1,hp,hdd⟩|⟨hl1,hp,hdd⟩|⟨hl1,hp,hdd⟩
 .subst hdd;refine zJ func37 rfl pP (rs:=[.cell 8 15 true]) (by kernel_rfl) ?_;unfold oQ;simp[mkS,mkB,zB];refine mr hnum [0,1] (by simp[mkS,mkB]) ?_;simp[mkS,mkB];refine mu hfit (by simp[zB]) ?_;simp[mkS,mkB,hl1,hp,hFl,hF0,w3,e1,hne,hj,hdr,hbj];intro _;refine mr hvar [0,1] (by simp[mkS,mkB,bZ]) ?_;simp[mkS,mkB,zH];exact mv [0,1] 0 (by rfl) (by simp[zH])
 .have hp0:¬0<depth:=by omega
  subst hdd;refine zJ func37 rfl pP (rs:=[.cell 8 15 true]) (by kernel_rfl) ?_;unfold oQ;simp[mkS,mkB,zB];refine mr hnum [0,1] (by simp[mkS,mkB]) ?_;simp[mkS,mkB];refine mu hfit (by simp[zB]) ?_;simp[mkS,mkB,hl1,hp,hp0,hFl,hF0,w3,e1,hne,hj,hdr,hbj];intro _;refine mr hvar [0,1] (by simp[mkS,mkB,bZ]) ?_;simp[mkS,mkB,zH];exact mv [0,1] 0 (by rfl) (by simp[zH])
 .have hp0:¬0<depth:=by omega
  have hl2:¬m0.left<=0:=by omega
  subst hdd;refine zJ func37 rfl pP (rs:=[.cell 8 15 true]) (by kernel_rfl) ?_;unfold oQ;simp[mkS,mkB,zB];refine mr hnum [0,1] (by simp[mkS,mkB]) ?_;simp[mkS,mkB];refine mu hfit (by simp[zB]) ?_;simp[mkS,mkB,hl2,hp,hFl,hF0,w3,e1,hne,hj,hdr,hbj];intro _;refine mr hvar [0,1] (by simp[mkS,mkB,bZ]) ?_;simp[mkS,mkB,zH];exact mv [0,1] 0 (by rfl) (by simp[zH])
variable{e:Exp}{m':Mk}
theorem zWP(hd1 : -1000<=depth)(hd2:depth<=1000)(hX0:0<=X)(hX1:X<65536)(hF:F.length<=1000)(hE0:0<env.length)(hE:env.length<=1000)
 (hnum:my zJ8 [.ptr 0 0,int 65536] (mkS m) (int X) (mkS m0))(hfit:my zIH [.sl env.length (zU env),.agg (zB t)] [] (.sl F.length (zU F)) [])(hd:d<=0)(hcase:m0.left<=0/\0<depth/\d=0\/m0.left<=0/\depth<=0/\d=depth\/0<m0.left/\depth<=0/\d=depth)(hF0:F=[])(hlit:my zHz [.ptr 0 0,.agg (zB t),.sl env.length (zU env),int (X.tdiv 3),int d] (mkS m0) (.agg (zH e)) (mkS m')) :
 my aX [.ptr 0 0,.agg (zB t),.sl env.length (zU env),int depth] (mkS m) (.agg (zH e)) (mkS m'):=by
 have d3:X.tdiv 3=X / 3:=tdN hX0;have w3:=z8 (X.tdiv 3) (by omega);subst hF0;rcases hcase with ⟨hl1,hp,hdd⟩|⟨hl1,hp,hdd⟩|⟨hl1,hp,hdd⟩
 .subst hdd;refine zJ func37 rfl pP (rs:=[.cell 8 15 true]) (by kernel_rfl) ?_;unfold oQ;simp[mkS,mkB,zB];refine mr hnum [0,1] (by simp[mkS,mkB]) ?_;simp[mkS,mkB];refine mu hfit (by simp[zB]) ?_;simp[mkS,mkB,hl1,hp,w3];refine mr hlit [0,1] (by simp[mkS,mkB,zB]) ?_;simp[mkS,mkB,zH];exact mv [0,1] 0 (by rfl) (by simp[zH])
 .have hp0:¬0<depth:=by omega
  subst hdd;refine zJ func37 rfl pP (rs:=[.cell 8 15 true]) (by kernel_rfl) ?_;unfold oQ;simp[mkS,mkB,zB];refine mr hnum [0,1] (by simp[mkS,mkB]) ?_;simp[mkS,mkB];refine mu hfit (by simp[zB]) ?_;simp[mkS,mkB,hl1,hp,hp0,w3];refine mr hlit [0,1] (by simp[mkS,mkB,zB]) ?_;simp[mkS,mkB,zH];exact mv [0,1] 0 (by rfl) (by simp[zH])
 .have hp0:¬0<depth:=by omega
  have hl2:¬m0.left<=0:=by omega
  subst hdd;refine zJ func37 rfl pP (rs:=[.cell 8 15 true]) (by kernel_rfl) ?_;unfold oQ;simp[mkS,mkB,zB];refine mr hnum [0,1] (by simp[mkS,mkB]) ?_;simp[mkS,mkB];refine mu hfit (by simp[zB]) ?_;simp[mkS,mkB,hl2,hp,w3];refine mr hlit [0,1] (by simp[mkS,mkB,zB]) ?_;simp[mkS,mkB,zH];exact mv [0,1] 0 (by rfl) (by simp[zH])
theorem qDb(hd1 : -1000<=depth)(hd2:depth<=1000)(hX0:0<=X)(hX1:X<65536)(hF:F.length<=1000)(hE0:0<env.length)(hE:env.length<=1000)
 (hnum:my zJ8 [.ptr 0 0,int 65536] (mkS m) (int X) (mkS m0))(hfit:my zIH [.sl env.length (zU env),.agg (zB t)] [] (.sl F.length (zU F)) [])(hleft:0<m0.left)(hd:0<depth)(hc:F=[]\/X.tmod 3≠0)(hk:9<=(X.tdiv 3).tmod 12)(hop:my opF [.ptr 0 0,.agg (zB t),.sl env.length (zU env),int (X.tdiv 36),int depth] (mkS m0) (.agg (zH e)) (mkS m')) :
 my aX [.ptr 0 0,.agg (zB t),.sl env.length (zU env),int depth] (mkS m) (.agg (zH e)) (mkS m'):=by
 have hl':¬m0.left<=0:=by omega
 have hd':¬depth<=0:=by omega
 have d3:X.tdiv 3=X / 3:=tdN hX0;have w3:=z8 (X.tdiv 3) (by omega);have d36:X.tdiv 36=X / 36:=tdN hX0;have w36:=z8 (X.tdiv 36) (by omega);have d12:(X.tdiv 3).tmod 12=(X.tdiv 3) % 12:=tmN (by omega);have k0:(X.tdiv 3).tmod 12≠0:=by omega
 have k1:(X.tdiv 3).tmod 12≠1:=by omega
 have k2:(X.tdiv 3).tmod 12≠2:=by omega
 have k3:(X.tdiv 3).tmod 12≠3:=by omega
 have k4:(X.tdiv 3).tmod 12≠4:=by omega
 have k5:(X.tdiv 3).tmod 12≠5:=by omega
 have k6:(X.tdiv 3).tmod 12≠6:=by omega
 have k7:(X.tdiv 3).tmod 12≠7:=by omega
 have k8:(X.tdiv 3).tmod 12≠8:=by omega
 by_cases hF0:F=[]
 .subst hF0;refine zJ func37 rfl pP (rs:=[.cell 8 15 true]) (by kernel_rfl) ?_;unfold oQ;simp[mkS,mkB,zB];refine mr hnum [0,1] (by simp[mkS,mkB]) ?_;simp[mkS,mkB];refine mu hfit (by simp[zB]) ?_;simp[mkS,mkB,hl',hd',w3,w36,k0,k1,k2,k3,k4,k5,k6,k7,k8];refine mr hop [0,1] (by simp[mkS,mkB,zB]) ?_;simp[mkS,mkB,zH];exact mv [0,1] 0 (by rfl) (by simp[zH])
 .have hc:=hc.resolve_left hF0;have hFl:0<F.length:=by cases F with
   |nil=>exact(hF0 rfl).elim
   |cons=>simp
  refine zJ func37 rfl pP (rs:=[.cell 8 15 true]) (by kernel_rfl) ?_;unfold oQ;simp[mkS,mkB,zB];refine mr hnum [0,1] (by simp[mkS,mkB]) ?_;simp[mkS,mkB];refine mu hfit (by simp[zB]) ?_;simp[mkS,mkB,hl',hd',hF0,hFl,hc,w3,w36,k0,k1,k2,k3,k4,k5,k6,k7,k8];intro _;refine mr hop [0,1] (by simp[mkS,mkB,zB]) ?_;simp[mkS,mkB,zH];exact mv [0,1] 0 (by rfl) (by simp[zH])
theorem zAF{N:Int}{G:FuncId}(hN:N=3/\G=zLz\/N=4/\G=zLz\/N=5/\G=zQ3\/N=6/\G=zQb\/N=7/\G=zQb)(hd1 : -1000<=depth)(hd2:depth<=1000)(hX0:0<=X)(hX1:X<65536)(hF:F.length<=1000)(hE0:0<env.length)(hE:env.length<=1000)
 (hnum:my zJ8 [.ptr 0 0,int 65536] (mkS m) (int X) (mkS m0))(hfit:my zIH [.sl env.length (zU env),.agg (zB t)] [] (.sl F.length (zU F)) [])(hleft:0<m0.left)(hd:0<depth)(hc:F=[]\/X.tmod 3≠0)(hk:(X.tdiv 3).tmod 12=N)(hop:my G [.ptr 0 0,.agg (zB t),.sl env.length (zU env),int (X.tdiv 36),int depth] (mkS m0) (.agg (zH e)) (mkS m')) :
 my aX [.ptr 0 0,.agg (zB t),.sl env.length (zU env),int depth] (mkS m) (.agg (zH e)) (mkS m'):=by
 have hl':¬m0.left<=0:=by omega
 have hd':¬depth<=0:=by omega
 have d3:X.tdiv 3=X / 3:=tdN hX0;have w3:=z8 (X.tdiv 3) (by omega);have d36:X.tdiv 36=X / 36:=tdN hX0;have w36:=z8 (X.tdiv 36) (by omega);have d12:(X.tdiv 3).tmod 12=(X.tdiv 3) % 12:=tmN (by omega);by_cases hF0:F=[]
 .subst hF0;rcases hN with ⟨rfl,rfl⟩|⟨rfl,rfl⟩|⟨rfl,rfl⟩|⟨rfl,rfl⟩|⟨rfl,rfl⟩
  all_goals
   refine zJ func37 rfl pP (rs:=[.cell 8 15 true]) (by kernel_rfl) ?_;unfold oQ;simp[mkS,mkB,zB];refine mr hnum [0,1] (by simp[mkS,mkB]) ?_;simp[mkS,mkB];refine mu hfit (by simp[zB]) ?_;simp[mkS,mkB,hl',hd',w3,w36,hk];refine mr hop [0,1] (by simp[mkS,mkB,zB]) ?_;simp[mkS,mkB,zH];exact mv [0,1] 0 (by rfl) (by simp[zH])
 .have hc:=hc.resolve_left hF0;have hFl:0<F.length:=by cases F with
   |nil=>exact(hF0 rfl).elim
   |cons=>simp
  rcases hN with ⟨rfl,rfl⟩|⟨rfl,rfl⟩|⟨rfl,rfl⟩|⟨rfl,rfl⟩|⟨rfl,rfl⟩
  all_goals
   refine zJ func37 rfl pP (rs:=[.cell 8 15 true]) (by kernel_rfl) ?_;unfold oQ;simp[mkS,mkB,zB];refine mr hnum [0,1] (by simp[mkS,mkB]) ?_;simp[mkS,mkB];refine mu hfit (by simp[zB]) ?_;simp[mkS,mkB,hl',hd',hF0,hFl,hc,w3,w36,hk];intro _;refine mr hop [0,1] (by simp[mkS,mkB,zB]) ?_;simp[mkS,mkB,zH];exact mv [0,1] 0 (by rfl) (by simp[zH])
variable{a b:Exp}{m1 m2 m3:Mk}
theorem qDa{N:Int}(hN:N=0\/N=1)(hd1 : -1000<=depth)(hd2:depth<=1000)(hX0:0<=X)(hX1:X<65536)(hF:F.length<=1000)(hE0:0<env.length)(hE:env.length<=1000)
 (hnum:my zJ8 [.ptr 0 0,int 65536] (mkS m) (int X) (mkS m0))(hfit:my zIH [.sl env.length (zU env),.agg (zB t)] [] (.sl F.length (zU F)) [])(hleft:0<m0.left)(hd:0<depth)(hc:F=[]\/X.tmod 3≠0)(hk:(X.tdiv 3).tmod 12=N){c:Exp}(ga:my aX [.ptr 0 0,.agg (zB jV),.sl env.length (zU env),int (depth-1)] (mkS m0) (.agg (zH a)) (mkS m1))(gb:my aX [.ptr 0 0,.agg (zB t),.sl env.length (zU env),int (depth-1)] (mkS m1) (.agg (zH b)) (mkS m2))(gc:my aX [.ptr 0 0,.agg (zB t),.sl env.length (zU env),int (depth-1)] (mkS m2) (.agg (zH c)) (mkS m3))(hln:Lim m3 1) :
 my aX [.ptr 0 0,.agg (zB t),.sl env.length (zU env),int depth] (mkS m) (.agg (zH (.mk ⟨0,0,m3.temp⟩ 5 0 Id.zero Typ.zero [a,b,c] []))) (mkS {m3 with temp:=m3.temp+1,left:=m3.left-1}):=by
 have hl':¬m0.left<=0:=by omega
 have hd':¬depth<=0:=by omega
 have d3:X.tdiv 3=X / 3:=tdN hX0;have w3:=z8 (X.tdiv 3) (by omega);have d36:X.tdiv 36=X / 36:=tdN hX0;have w36:=z8 (X.tdiv 36) (by omega);have d12:(X.tdiv 3).tmod 12=(X.tdiv 3) % 12:=tmN (by omega);have wd:=z8 (depth-1) (by omega);obtain⟨l1,l2,l3,l4,l5,l6,l7,l8⟩:=hln;by_cases hF0:F=[]
 .subst hF0;rcases hN with rfl|rfl
  all_goals
   refine zJ func37 rfl pP (rs:=[.cell 8 15 true]) (by kernel_rfl) ?_;unfold oQ;simp[mkS,mkB,zB];refine mr hnum [0,1] (by simp[mkS,mkB]) ?_;simp[mkS,mkB];refine mu hfit (by simp[zB]) ?_;simp[mkS,mkB,hl',hd',w3,w36,hk,wd];refine mr ga [0,1] (by simp[mkS,mkB,zB]) ?_;simp[mkS,mkB,zB,wd];refine mr gb [0,1] (by simp[mkS,mkB,zB]) ?_;simp[mkS,mkB,zB,wd];refine bG gc [0,1] (by decide) (by simp[mkS,mkB]) (by simp[zB]) (by decide) (by simp) (by simp[mkS]) ?_;simp[mkS,mkB];refine cS (y5 m3 5 0 [a,b,c] l3 (by omega) (by omega) l6) [0,1] (by decide) (by simp[mkS,mkB]) (by simp[zM,zH]) ?_;simp[mkS,mkB,zH,zM];exact mv [0,1] 0 (by rfl) (by simp[zH,zM])
 .have hc:=hc.resolve_left hF0;have hFl:0<F.length:=by cases F with
   |nil=>exact(hF0 rfl).elim
   |cons=>simp
  rcases hN with rfl|rfl
  all_goals
   refine zJ func37 rfl pP (rs:=[.cell 8 15 true]) (by kernel_rfl) ?_;unfold oQ;simp[mkS,mkB,zB];refine mr hnum [0,1] (by simp[mkS,mkB]) ?_;simp[mkS,mkB];refine mu hfit (by simp[zB]) ?_;simp[mkS,mkB,hl',hd',hF0,hFl,hc,w3,w36,hk,wd];intro _;refine mr ga [0,1] (by simp[mkS,mkB,zB]) ?_;simp[mkS,mkB,zB,wd];refine mr gb [0,1] (by simp[mkS,mkB,zB]) ?_;simp[mkS,mkB,zB,wd];refine bG gc [0,1] (by decide) (by simp[mkS,mkB]) (by simp[zB]) (by decide) (by simp) (by simp[mkS]) ?_;simp[mkS,mkB];refine cS (y5 m3 5 0 [a,b,c] l3 (by omega) (by omega) l6) [0,1] (by decide) (by simp[mkS,mkB]) (by simp[zM,zH]) ?_;simp[mkS,mkB,zH,zM];exact mv [0,1] 0 (by rfl) (by simp[zH,zM])
@[simp]theorem zZ6{U:St}:m9 2002 U = U:=rfl
variable{s:ByteArray}
theorem dI:aC [s]=[.lit (.string s)]:=rfl
variable{s':ByteArray}
theorem dK:aC [s,s']=[.lit (.string s),.lit (.string s')]:=rfl
abbrev zRk:FuncId:=90
theorem zWO(hd1 : -1000<=depth)(hd2:depth<=1000)(hX0:0<=X)(hX1:X<65536)(hF:F.length<=1000)(hE0:0<env.length)(hE:env.length<=1000)
 (hnum:my zJ8 [.ptr 0 0,int 65536] (mkS m) (int X) (mkS m0))(hfit:my zIH [.sl env.length (zU env),.agg (zB t)] [] (.sl F.length (zU F)) [])(hleft:0<m0.left)(hd:0<depth)(hc:F=[]\/X.tmod 3≠0)(hk:(X.tdiv 3).tmod 12=2){j:Nat}(hj:j<env.length)(e1:(X.tdiv 36).tmod (env.length:Int)=j){m4:Mk}(ga:my aX [.ptr 0 0,.agg (zB env[j].typ),.sl env.length (zU env),int (depth-1)] (mkS m0) (.agg (zH a)) (mkS m1))(hln:Lim m1 1)(hm2:m2={m1 with temp:=m1.temp+1,left:=m1.left-1})
 (gn:my zRk [.ptr 0 0] (mkS m2) (.lit (.string s)) (mkS m3))(gb:my aX [.ptr 0 0,.agg (zB t),.sl (env.length+1) (zU (env++[⟨⟨0,0,m1.temp⟩,0,env[j].typ⟩])),int (depth-1)] (mkS m3) (.agg (zH b)) (mkS m4)) :
 my aX [.ptr 0 0,.agg (zB t),.sl env.length (zU env),int depth] (mkS m) (.agg (zH (.mk ⟨0,0,m1.temp⟩ 6 0 Id.zero Typ.zero [a,b] [s]))) (mkS m4):=by
 have hl':¬m0.left<=0:=by omega
 have hd':¬depth<=0:=by omega
 have d3:X.tdiv 3=X / 3:=tdN hX0;have w3:=z8 (X.tdiv 3) (by omega);have d36:X.tdiv 36=X / 36:=tdN hX0;have w36:=z8 (X.tdiv 36) (by omega);have d12:(X.tdiv 3).tmod 12=(X.tdiv 3) % 12:=tmN (by omega);have wd:=z8 (depth-1) (by omega);obtain⟨l1,l2,l3,l4,l5,l6,l7,l8⟩:=hln;have hdr:=gA hj;have hdr4:List.drop (j*9+4) (zU env)=(bZ env[j]++zU (env.drop (j+1))).drop 4:=by rw[<-jAy,hdr]
 have hb4:j*9+4+5<=env.length*9:=by omega
 have hne:¬((env.length:Int)=0):=by omega
 have hnil:env≠[]:=fun e=>by rw[e]at hE0;simp at hE0
 have hnode:=y5 m1 6 0 [] l3 (by omega) (by omega) l6;rw[<-hm2]at hnode;rcases hc with hc|hc
 .subst hc;refine zJ func37 rfl pP (rs:=[.cell 8 15 true]) (by kernel_rfl) ?_;unfold oQ;simp[mkS,mkB,zB];refine mr hnum [0,1] (by simp[mkS,mkB]) ?_;simp[mkS,mkB];refine mu hfit (by simp[zB]) ?_;simp[mkS,mkB,hl',hd',w3,w36,hk,wd,e1,hne,hnil,hj,hdr4,hb4,bZ];intro _;refine mr ga [0,1] (by simp[mkS,mkB,zB]) ?_;simp[mkS,mkB];refine mr hnode [0,1] (by simp[mkS,mkB]) ?_;simp[mkS,mkB,zH];refine mr gn [0,1] (by simp[mkS,mkB]) ?_;simp[mkS,mkB];refine qB (i9 env ⟨⟨0,0,m1.temp⟩,0,env[j].typ⟩ (by omega)) (by simp[bZ]) (by simp) ?_;simp[mkS,mkB,wd];refine bG gb [0,1] (by decide) (by simp[mkS,mkB]) (by simp[zB]) (by decide) (by simp) (by simp[mkS]) ?_;simp[mkS,mkB];exact mv [0,1] 0 (by rfl) (by simp[zH,zM,dI,dK])
 .by_cases hF0:F=[]
  .subst hF0;refine zJ func37 rfl pP (rs:=[.cell 8 15 true]) (by kernel_rfl) ?_;unfold oQ;simp[mkS,mkB,zB];refine mr hnum [0,1] (by simp[mkS,mkB]) ?_;simp[mkS,mkB];refine mu hfit (by simp[zB]) ?_;simp[mkS,mkB,hl',hd',w3,w36,hk,wd,e1,hne,hnil,hj,hdr4,hb4,bZ];intro _;refine mr ga [0,1] (by simp[mkS,mkB,zB]) ?_;simp[mkS,mkB];refine mr hnode [0,1] (by simp[mkS,mkB]) ?_;simp[mkS,mkB,zH];refine mr gn [0,1] (by simp[mkS,mkB]) ?_;simp[mkS,mkB];refine qB (i9 env ⟨⟨0,0,m1.temp⟩,0,env[j].typ⟩ (by omega)) (by simp[bZ]) (by simp) ?_;simp[mkS,mkB,wd];refine bG gb [0,1] (by decide) (by simp[mkS,mkB]) (by simp[zB]) (by decide) (by simp) (by simp[mkS]) ?_;simp[mkS,mkB];exact mv [0,1] 0 (by rfl) (by simp[zH,zM,dI,dK])
  .have hFl:0<F.length:=by cases F with
    |nil=>exact(hF0 rfl).elim
    |cons=>simp
   refine zJ func37 rfl pP (rs:=[.cell 8 15 true]) (by kernel_rfl) ?_;unfold oQ;simp[mkS,mkB,zB];refine mr hnum [0,1] (by simp[mkS,mkB]) ?_;simp[mkS,mkB];refine mu hfit (by simp[zB]) ?_;simp[mkS,mkB,hl',hd',hF0,hFl,hc,w3,w36,hk,wd,e1,hne,hnil,hj,hdr4,hb4,bZ];intro _;intro _;refine mr ga [0,1] (by simp[mkS,mkB,zB]) ?_;simp[mkS,mkB];refine mr hnode [0,1] (by simp[mkS,mkB]) ?_;simp[mkS,mkB,zH];refine mr gn [0,1] (by simp[mkS,mkB]) ?_;simp[mkS,mkB];refine qB (i9 env ⟨⟨0,0,m1.temp⟩,0,env[j].typ⟩ (by omega)) (by simp[bZ]) (by simp) ?_;simp[mkS,mkB,wd];refine bG gb [0,1] (by decide) (by simp[mkS,mkB]) (by simp[zB]) (by decide) (by simp) (by simp[mkS]) ?_;simp[mkS,mkB];exact mv [0,1] 0 (by rfl) (by simp[zH,zM,dI,dK])
theorem zSM(hd1 : -1000<=depth)(hd2:depth<=1000)(hX0:0<=X)(hX1:X<65536)(hF:F.length<=1000)(hE0:0<env.length)(hE:env.length<=1000)
 (hnum:my zJ8 [.ptr 0 0,int 65536] (mkS m) (int X) (mkS m0))(hfit:my zIH [.sl env.length (zU env),.agg (zB t)] [] (.sl F.length (zU F)) [])(hleft:0<m0.left)(hd:0<depth)(hc:F=[]\/X.tmod 3≠0)(hk:(X.tdiv 3).tmod 12=8){c:Exp}{m4 m5 m6:Mk}(ga:my aX [.ptr 0 0,.agg (zB (jP jI)),.sl env.length (zU env),int (depth-1)] (mkS m0) (.agg (zH a)) (mkS m1))(gb:my aX [.ptr 0 0,.agg (zB t),.sl env.length (zU env),int (depth-1)] (mkS m1) (.agg (zH b)) (mkS m2))(hln:Lim m2 1)(hm3:m3={m2 with temp:=m2.temp+1,left:=m2.left-1})
 (gn:my zRk [.ptr 0 0] (mkS m3) (.lit (.string s)) (mkS m4))(gn':my zRk [.ptr 0 0] (mkS m4) (.lit (.string s')) (mkS m5))(gc:my aX [.ptr 0 0,.agg (zB t),.sl (env.length+1+1) (zU (env++[⟨⟨0,0,m2.temp⟩,0,jI⟩]++[⟨⟨0,0,m2.temp⟩,1,t⟩])),int (depth-1)] (mkS m5) (.agg (zH c)) (mkS m6)) :
 my aX [.ptr 0 0,.agg (zB t),.sl env.length (zU env),int depth] (mkS m) (.agg (zH (.mk ⟨0,0,m2.temp⟩ 12 0 Id.zero Typ.zero [a,b,c] [s,s']))) (mkS m6):=by
 have hl':¬m0.left<=0:=by omega
 have hd':¬depth<=0:=by omega
 have d3:X.tdiv 3=X / 3:=tdN hX0;have w3:=z8 (X.tdiv 3) (by omega);have d36:X.tdiv 36=X / 36:=tdN hX0;have w36:=z8 (X.tdiv 36) (by omega);have d12:(X.tdiv 3).tmod 12=(X.tdiv 3) % 12:=tmN (by omega);have wd:=z8 (depth-1) (by omega);obtain⟨l1,l2,l3,l4,l5,l6,l7,l8⟩:=hln;have hnode:=y5 m2 12 0 [] l3 (by omega) (by omega) l6;rw[<-hm3]at hnode;rcases hc with hc|hc
 .subst hc;refine zJ func37 rfl pP (rs:=[.cell 8 15 true]) (by kernel_rfl) ?_;unfold oQ;simp[mkS,mkB,zB];refine mr hnum [0,1] (by simp[mkS,mkB]) ?_;simp[mkS,mkB];refine mu hfit (by simp[zB]) ?_;simp[mkS,mkB,hl',hd',w3,w36,hk,wd];refine mu zEk (by simp[zB,jI]) ?_;simp[mkS,mkB,wd];refine mr ga [0,1] (by simp[mkS,mkB,zB]) ?_;simp[mkS,mkB,zB,wd];refine mr gb [0,1] (by simp[mkS,mkB,zB]) ?_;simp[mkS,mkB];refine mr hnode [0,1] (by simp[mkS,mkB]) ?_;simp[mkS,mkB,zH];refine mr gn [0,1] (by simp[mkS,mkB]) ?_;simp[mkS,mkB];refine mr gn' [0,1] (by simp[mkS,mkB]) ?_;simp[mkS,mkB];refine qB (i9 env ⟨⟨0,0,m2.temp⟩,0,jI⟩ (by omega)) (by simp[bZ,jI,Id.zero]) (by simp) ?_;simp[mkS,mkB,zB];refine qB (i9 (env++[⟨⟨0,0,m2.temp⟩,0,jI⟩]) ⟨⟨0,0,m2.temp⟩,1,t⟩ (by simp;omega)) (by simp[bZ]) (by simp) ?_;simp[mkS,mkB,zB,wd];refine bG gc [0,1] (by decide) (by simp[mkS,mkB]) (by simp[zB]) (by decide) (by simp) (by simp[mkS]) ?_;simp[mkS,mkB];exact mv [0,1] 0 (by rfl) (by simp[zH,zM,dI,dK])
 .by_cases hF0:F=[]
  .subst hF0;refine zJ func37 rfl pP (rs:=[.cell 8 15 true]) (by kernel_rfl) ?_;unfold oQ;simp[mkS,mkB,zB];refine mr hnum [0,1] (by simp[mkS,mkB]) ?_;simp[mkS,mkB];refine mu hfit (by simp[zB]) ?_;simp[mkS,mkB,hl',hd',w3,w36,hk,wd];refine mu zEk (by simp[zB,jI]) ?_;simp[mkS,mkB,wd];refine mr ga [0,1] (by simp[mkS,mkB,zB]) ?_;simp[mkS,mkB,zB,wd];refine mr gb [0,1] (by simp[mkS,mkB,zB]) ?_;simp[mkS,mkB];refine mr hnode [0,1] (by simp[mkS,mkB]) ?_;simp[mkS,mkB,zH];refine mr gn [0,1] (by simp[mkS,mkB]) ?_;simp[mkS,mkB];refine mr gn' [0,1] (by simp[mkS,mkB]) ?_;simp[mkS,mkB];refine qB (i9 env ⟨⟨0,0,m2.temp⟩,0,jI⟩ (by omega)) (by simp[bZ,jI,Id.zero]) (by simp) ?_;simp[mkS,mkB,zB];refine qB (i9 (env++[⟨⟨0,0,m2.temp⟩,0,jI⟩]) ⟨⟨0,0,m2.temp⟩,1,t⟩ (by simp;omega)) (by simp[bZ]) (by simp) ?_;simp[mkS,mkB,zB,wd];refine bG gc [0,1] (by decide) (by simp[mkS,mkB]) (by simp[zB]) (by decide) (by simp) (by simp[mkS]) ?_;simp[mkS,mkB];exact mv [0,1] 0 (by rfl) (by simp[zH,zM,dI,dK])
  .have hFl:0<F.length:=by cases F with
    |nil=>exact(hF0 rfl).elim
    |cons=>simp
   refine zJ func37 rfl pP (rs:=[.cell 8 15 true]) (by kernel_rfl) ?_;unfold oQ;simp[mkS,mkB,zB];refine mr hnum [0,1] (by simp[mkS,mkB]) ?_;simp[mkS,mkB];refine mu hfit (by simp[zB]) ?_;simp[mkS,mkB,hl',hd',hF0,hFl,hc,w3,w36,hk,wd];intro _;refine mu zEk (by simp[zB,jI]) ?_;simp[mkS,mkB,wd];refine mr ga [0,1] (by simp[mkS,mkB,zB]) ?_;simp[mkS,mkB,zB,wd];refine mr gb [0,1] (by simp[mkS,mkB,zB]) ?_;simp[mkS,mkB];refine mr hnode [0,1] (by simp[mkS,mkB]) ?_;simp[mkS,mkB,zH];refine mr gn [0,1] (by simp[mkS,mkB]) ?_;simp[mkS,mkB];refine mr gn' [0,1] (by simp[mkS,mkB]) ?_;simp[mkS,mkB];refine qB (i9 env ⟨⟨0,0,m2.temp⟩,0,jI⟩ (by omega)) (by simp[bZ,jI,Id.zero]) (by simp) ?_;simp[mkS,mkB,zB];refine qB (i9 (env++[⟨⟨0,0,m2.temp⟩,0,jI⟩]) ⟨⟨0,0,m2.temp⟩,1,t⟩ (by simp;omega)) (by simp[bZ]) (by simp) ?_;simp[mkS,mkB,zB,wd];refine bG gc [0,1] (by decide) (by simp[mkS,mkB]) (by simp[zB]) (by decide) (by simp) (by simp[mkS]) ?_;simp[mkS,mkB];exact mv [0,1] 0 (by rfl) (by simp[zH,zM,dI,dK])
theorem zSb(hl:∀x∈m.l,w64 x=x):0<=atV m.l m.at_ 65536/\atV m.l m.at_ 65536<65536:=yN hl (by omega)
theorem zMA{b:Bnd}(h:b∈env.filter fun b=>yH b.typ t):b∈env/\b.typ=t:=by rw[List.mem_filter]at h;exact⟨h.1,(gF _ _).1 h.2⟩
variable{c:Int}{hs:wQ}
theorem zHi{R:Nat}{len r:Nat}(hc:0<=c)(hl:Lim m (6*c+2))(hd:d<=0)(hdd : -1000<=d)
 (hcase:m.left<=0/\0<depth/\d=0\/m.left<=0/\depth<=0/\d=depth\/0<m.left/\depth<=0/\d=depth)(t:Typ)(hr:TyOk hs r t)(hk:dG hs R c (d-1) (fun r'=>r'<r) len)
 (hx:Cx hs R m)(he:EnvOk hs R m.temp env)(h1:0<env.length)(h2:env.length<=len)(h3:env.length<=1000)(hd1 : -1000<=depth)(hd2:depth<=1000) :
 bW hs m.own aX m [.ptr 0 0,.agg (zB t),.sl env.length (zU env),int depth] env t (6*c+2):=by
 obtain⟨hX0,hX1⟩:=zSb hx.nums;have ha:=zMq m;obtain⟨l1,l2,l3,l4,l5,l6,l7,l8⟩:=hl;have hl0:Lim {m with at_:=m.at_+1} (6*c+1):=Lim.adv (c:=1) ⟨l1,by omega,l3,by omega,by omega,l6,l7,by omega⟩ ha;have hnum:=zRp m 65536 (by omega) l1 (by omega);have hfit:=zDX env t (by omega);have hFl:(env.filter fun b=>yH b.typ t).length<=1000:=jB1 (jBg _ _) h3;by_cases hF0:(env.filter fun b=>yH b.typ t)=[]
 .obtain⟨e,m',g1,g2,g3,g4,g5⟩:=zRa hc hl0 ((atV m.l m.at_ 65536).tdiv 3) (by rw[tdN hX0];omega) (by rw[tdN hX0];omega) t hr (fun r' h=>h) hk (hx.adv ha) (he.mono ha.temp1) h1 h2 hdd (by omega);exact⟨e,m',zWP hd1 hd2 hX0 hX1 hFl h1 h3 hnum hfit hd hcase hF0 g1,(ha.trans g2).mono (by omega),g3,g4,g5⟩
 .obtain⟨b,hb,hret⟩:=zNX hd1 hd2 hX0 hX1 hFl h1 h3 hnum hfit hd hcase hF0 l3 (by simp only;omega) (by simp only;omega) l6;obtain⟨hbe,hbt⟩:=zMA hb;refine⟨_,_,hret,(ha.trans (yV _)).mono (by omega),.var _ _ _ _ _ (by rw[zGr he.nd hbe,hbt]),?_,u6⟩;simp only[tmps,jG,jBp];exact Seg.one _
theorem zSN{R:Nat}{len:Nat}(hc:8<=c)(hl:Lim m (8*c))(hleft:0<m.left)(hd0:0<depth)(hR:1<=R)(t:Typ)(ht:TyOk hs R t)
 (hk:dG hs R c (depth-1) (fun r=>r<=R) len)(hk2:dG hs R c (depth-2) (fun r=>r<=R) len)
 (hx:Cx hs R m)(he:EnvOk hs R m.temp env)(h1:0<env.length)(h2:env.length+2<=len)(h3:env.length+2<=1000)(hd2:depth<=1000) :
 bW hs m.own aX m [.ptr 0 0,.agg (zB t),.sl env.length (zU env),int depth] env t (8*c):=by
 obtain⟨hX0,hX1⟩:=zSb hx.nums;have ha:=zMq m;obtain⟨m0,hm0⟩:∃m0:Mk,m0={m with at_:=m.at_+1}:=⟨_,rfl⟩;rw[<-hm0]at ha;have hl0:Lim m0 (7*c+7):=Lim.adv (c:=1) (hl.mono (by omega)) ha;have hlm:=hl0;obtain⟨l1,l2,l3,l4,l5,l6,l7,l8⟩:=hlm;have hnum:=zRp m 65536 (by omega) hl.at1 (by have:=hl.at2;omega);rw[<-hm0]at hnum;have hfit:=zDX env t (by omega);have hFl:(env.filter fun b=>yH b.typ t).length<=1000:=jB1 (jBg _ _) (by omega);have hleft0:0<m0.left:=by rw[hm0];exact hleft
 have hx0:=hx.adv ha;have he0:=he.mono ha.temp1;have eown:m0.own=m.own:=ha.own;generalize hF:(env.filter fun b=>yH b.typ t)=F at hfit hFl;generalize atV m.l m.at_ 65536=X at hX0 hX1 hnum;have fin:∀{e:Exp} {m':Mk} {c':Int},my aX [.ptr 0 0,.agg (zB t),.sl env.length (zU env),int depth] (mkS m) (.agg (zH e)) (mkS m')->Adv m0 m' c'->c'<=7*c+7->WT hs m0.own env e t->Seg m0.temp m'.temp (tmps e)->e.num0 ->
  bW hs m.own aX m [.ptr 0 0,.agg (zB t),.sl env.length (zU env),int depth] env t (8*c):=fun {e m' c'} q1 q2 q3 q4 q5 q6 =>
  ⟨e,m',q1,(ha.trans q2).mono (by omega),eown▸q4,q5.mono ha.temp1 (by omega),q6⟩
 by_cases hv:F≠[]/\X.tmod 3=0
 .obtain⟨b,hb,hret⟩:=zNW (by omega) hd2 hX0 hX1 hFl h1 (by omega) hnum hfit hleft0 hd0 hv.1 hv.2 l3 (by omega) (by omega) l6;rw[<-hF]at hb;obtain⟨hbe,hbt⟩:=zMA hb;refine fin hret (yV _) (by omega) (.var _ _ _ _ _ (by rw[zGr he.nd hbe,hbt])) ?_ u6;simp only[tmps,jG,jBp];exact Seg.one _
 have hcnd:F=[]\/X.tmod 3≠0:=by
  by_cases h:F=[]
  .exact .inl h
  .exact .inr fun h'=>hv ⟨h,h'⟩
 have d36:X.tdiv 36=X / 36:=tdN hX0;have d3:X.tdiv 3=X / 3:=tdN hX0;have d12:(X.tdiv 3).tmod 12=(X.tdiv 3) % 12:=tmN (by omega);obtain⟨y,hy⟩:∃y:Nat,(y:Int)=X.tdiv 36:=⟨(X / 36).toNat,by omega⟩;have hop:=qEe (by omega) hl0 (X.tdiv 36) (by omega) (by omega) hk hR hx0 he0 h1 (by omega) (by omega) (by omega) hd2 t ht;have viaOp:∀{f:FuncId},bW hs m0.own f m0 [.ptr 0 0,.agg (zB t),.sl env.length (zU env),int (X.tdiv 36),int depth] env t (7*c+7) ->
  (∀{e:Exp} {m':Mk},my f [.ptr 0 0,.agg (zB t),.sl env.length (zU env),int (X.tdiv 36),int depth] (mkS m0) (.agg (zH e)) (mkS m')->my aX [.ptr 0 0,.agg (zB t),.sl env.length (zU env),int depth] (mkS m) (.agg (zH e)) (mkS m')) ->
  bW hs m.own aX m [.ptr 0 0,.agg (zB t),.sl env.length (zU env),int depth] env t (8*c):=fun q w=>by
  obtain⟨e,m',g1,g2,g3,g4,g5⟩:=q;exact fin (w g1) g2 (by omega) g3 g4 g5
 have hif:(X.tdiv 3).tmod 12=0\/(X.tdiv 3).tmod 12=1->bW hs m.own aX m [.ptr 0 0,.agg (zB t),.sl env.length (zU env),int depth] env t (8*c):=fun hk01=>by
  obtain⟨a,m1,a1,a2,a3,a4,a5⟩:=hk m0 0 jV env hx0 (hl0.mono (by omega)) (.bool _) (by omega) he0 h1 (by omega);have hl1:Lim m1 (6*c):=Lim.adv (c:=c) (hl0.mono (by omega)) a2;obtain⟨b,m2,b1,b2,b3,b4,b5⟩:=hk m1 R t env (hx0.adv a2) (hl1.mono (by omega)) ht (jA _) (he0.mono a2.temp1) h1 (by omega);have hl2:Lim m2 (5*c):=Lim.adv (c:=c) (hl1.mono (by omega)) b2;obtain⟨e,m3,c1,c2,c3,c4,c5⟩:=hk m2 R t env ((hx0.adv a2).adv b2) (hl2.mono (by omega)) ht (jA _) ((he0.mono a2.temp1).mono b2.temp1) h1 (by omega);have hl3:Lim m3 1:=Lim.adv (c:=c) (hl2.mono (by omega)) c2;have hret:my aX [.ptr 0 0,.agg (zB t),.sl env.length (zU env),int depth] (mkS m) (.agg (zH (.mk ⟨0,0,m3.temp⟩ 5 0 Id.zero Typ.zero [a,b,e] []))) (mkS {m3 with temp:=m3.temp+1,left:=m3.left-1}):=by exact qDa hk01 (by omega) hd2 hX0 hX1 hFl h1 (by omega) hnum hfit hleft0 hd0 hcnd rfl a1 b1 c1 hl3
  rw[a2.own]at b3;rw[b2.own,a2.own]at c3;refine fin hret (((a2.trans b2).trans c2).trans (yV _)) (by omega) (.ite _ _ _ _ _ _ a3 b3 c3) ?_ (gS (by simp[a5,b5,c5]));have t1:=a2.temp1;have t2:=b2.temp1;have t3:=c2.temp1;simp only[tmps,jG,jAs];exact(a4.append (b4.append c4 t2 t3) t1 (by omega)).append (Seg.one _) (by omega) (by omega)
 have hlet:(X.tdiv 3).tmod 12=2->bW hs m.own aX m [.ptr 0 0,.agg (zB t),.sl env.length (zU env),int depth] env t (8*c):=fun hk2'=>by
  obtain⟨j,hj,e1⟩:∃j:Nat,j<env.length/\(X.tdiv 36).tmod (env.length:Int)=j:=by
   have q0:0<=X.tdiv 36:=by omega
   have q1:=jDa (X.tdiv 36) (b:=(env.length:Int)) (by omega);have q2:=jD1 (X.tdiv 36) (b:=(env.length:Int)) (by omega);exact⟨((X.tdiv 36) % env.length).toNat,by omega,by rw[tmN q0];omega⟩
  have htu:=he.typs env[j] (jA0 hj);obtain⟨a,m1,a1,a2,a3,a4,a5⟩:=hk m0 R env[j].typ env hx0 (hl0.mono (by omega)) htu (jA _) he0 h1 (by omega);have hl1:Lim m1 (6*c):=Lim.adv (c:=c) (hl0.mono (by omega)) a2;have n2:=yV m1;obtain⟨m2,hm2⟩:∃m2:Mk,m2={m1 with temp:=m1.temp+1,left:=m1.left-1}:=⟨_,rfl⟩;have tm2:m2.temp=m1.temp+1:=by rw[hm2]
  rw[<-hm2]at n2;have hl2:Lim m2 (5*c+7):=Lim.adv (c:=1) (hl1.mono (by omega)) n2;obtain⟨s,hs'⟩:=zDr m2 hl2.name1 (by have:=hl2.name2;omega);have n3:=zAy m2;obtain⟨m3,hm3⟩:∃m3:Mk,m3={m2 with name:=m2.name+1}:=⟨_,rfl⟩;rw[<-hm3]at n3 hs';have hl3:Lim m3 (5*c+6):=Lim.adv (c:=1) (hl2.mono (by omega)) n3;have t1:=a2.temp1;have t2:=n2.temp1;have t3:=n3.temp1;have t3':m3.temp=m2.temp:=by rw[hm3]
  have he3:EnvOk hs R m3.temp (env++[⟨⟨0,0,m1.temp⟩,0,env[j].typ⟩]):=(((he0.mono t1).mono t2).mono t3).snoc _ _ _ htu (fun b hb e=>by have hb':=he0.new b hb (by rw[e]);rw[e]at hb';simp only at hb';omega) (by omega)
  obtain⟨b,m4,b1,b2,b3,b4,b5⟩:=hk m3 R t _ (((hx0.adv a2).adv n2).adv n3) (hl3.mono (by omega)) ht (jA _) he3 (by simp) (by simp;omega);have hret:=zWO (by omega) hd2 hX0 hX1 hFl h1 (by omega) hnum hfit hleft0 hd0 hcnd hk2' hj e1 a1 (hl1.mono (by omega)) hm2 hs' (by simpa using b1);rw[n3.own,n2.own,a2.own]at b3;refine fin hret (((a2.trans n2).trans n3).trans b2) (by omega) (.lets _ _ _ _ _ _ _ (by simp) a3 b3) ?_ (gS (by simp[a5,b5]));have t4:=b2.temp1;simp only[tmps,jG,jAs];have s1:Seg m1.temp (m1.temp+1) [m1.temp]:=Seg.one _;have s2:=s1.append (b:=m1.temp+1) (tm2▸t3'▸b4) (by omega) (by omega);have s3:=a4.append s2 t1 (by omega);refine s3.perm ?_;rw[jAq];exact jDk _ jDl
 have hfold:(X.tdiv 3).tmod 12=8->bW hs m.own aX m [.ptr 0 0,.agg (zB t),.sl env.length (zU env),int depth] env t (8*c):=fun hk8=>by
  obtain⟨a,m1,a1,a2,a3,a4,a5⟩:=hk m0 1 (jP jI) env hx0 (hl0.mono (by omega)) (.list _ _ (.int _)) hR he0 h1 (by omega);have hl1:Lim m1 (6*c):=Lim.adv (c:=c) (hl0.mono (by omega)) a2;obtain⟨b,m2,b1,b2,b3,b4,b5⟩:=hk m1 R t env (hx0.adv a2) (hl1.mono (by omega)) ht (jA _) (he0.mono a2.temp1) h1 (by omega);have hl2:Lim m2 (5*c):=Lim.adv (c:=c) (hl1.mono (by omega)) b2;have n3:=yV m2;obtain⟨m3,hm3⟩:∃m3:Mk,m3={m2 with temp:=m2.temp+1,left:=m2.left-1}:=⟨_,rfl⟩;have tm3:m3.temp=m2.temp+1:=by rw[hm3]
  rw[<-hm3]at n3;have hl3:Lim m3 (4*c+7):=Lim.adv (c:=1) (hl2.mono (by omega)) n3;obtain⟨s,hs'⟩:=zDr m3 hl3.name1 (by have:=hl3.name2;omega);have n4:=zAy m3;obtain⟨m4,hm4⟩:∃m4:Mk,m4={m3 with name:=m3.name+1}:=⟨_,rfl⟩;have tm4:m4.temp=m3.temp:=by rw[hm4]
  rw[<-hm4]at n4 hs';have hl4:Lim m4 (4*c+6):=Lim.adv (c:=1) (hl3.mono (by omega)) n4;obtain⟨s',hs''⟩:=zDr m4 hl4.name1 (by have:=hl4.name2;omega);have n5:=zAy m4;obtain⟨m5,hm5⟩:∃m5:Mk,m5={m4 with name:=m4.name+1}:=⟨_,rfl⟩;have tm5:m5.temp=m4.temp:=by rw[hm5]
  rw[<-hm5]at n5 hs'';have hl5:Lim m5 (4*c+5):=Lim.adv (c:=1) (hl4.mono (by omega)) n5;have t1:=a2.temp1;have t2:=b2.temp1;have hnew:∀b∈env,b.id=⟨0,0,m2.temp⟩->∀n,b.n≠n:=fun b hb e=>by have hb':=he0.new b hb (by rw[e]);rw[e]at hb';simp only at hb';omega
  have he5:EnvOk hs R m5.temp (env++[⟨⟨0,0,m2.temp⟩,0,jI⟩]++[⟨⟨0,0,m2.temp⟩,1,t⟩]):=((he0.mono (show m0.temp<=m5.temp by omega)).snoc _ _ _ (.int _) (fun b hb e=>hnew b hb e _) (by omega)).snoc _ _ _ ht (fun b hb e=>by
   rcases jA6.1 hb with hb|hb
   .exact hnew b hb e _
   .rw[jAk.1 hb];simp) (by omega)
  obtain⟨k,m6,c1,c2,c3,c4,c5⟩:=hk m5 R t _ (((((hx0.adv a2).adv b2).adv n3).adv n4).adv n5) (hl5.mono (by omega)) ht (jA _) he5 (by simp) (by simp;omega);have hret:=zSM (by omega) hd2 hX0 hX1 hFl h1 (by omega) hnum hfit hleft0 hd0 hcnd hk8 a1 b1 (hl2.mono (by omega)) hm3 hs' hs'' (by simpa using c1);rw[a2.own]at b3;rw[n5.own,n4.own,n3.own,b2.own,a2.own]at c3;refine fin hret (((((a2.trans b2).trans n3).trans n4).trans n5).trans c2) (by omega) (.fold _ _ _ _ _ _ _ _ (by simp) a3 b3 c3) ?_ (gS (by simp[a5,b5,c5]));have t6:=c2.temp1;simp only[tmps,jG,jAs];have s1:Seg m2.temp (m2.temp+1) [m2.temp]:=Seg.one _;have c4':Seg (m2.temp+1) m6.temp (tmps k):=c4.mono (by omega) (by omega);have s2:=s1.append c4' (by omega) (by omega);have s3:=(a4.append b4 t1 t2).append s2 (by omega) (by omega);refine s3.perm ?_;simp only[jAq];exact jDk _ (jDk _ jDl)
 have hk12:(X.tdiv 3).tmod 12=0\/(X.tdiv 3).tmod 12=1\/(X.tdiv 3).tmod 12=2\/(X.tdiv 3).tmod 12=3\/(X.tdiv 3).tmod 12=4\/(X.tdiv 3).tmod 12=5\/(X.tdiv 3).tmod 12=6\/(X.tdiv 3).tmod 12=7\/(X.tdiv 3).tmod 12=8\/9<=(X.tdiv 3).tmod 12:=by omega
 have hop':=hop;rw[<-hy]at hop';rcases hk12 with h|h|h|h|h|h|h|h|h|h
 .exact hif (.inl h)
 .exact hif (.inr h)
 .exact hlet h
 .have:=zJr (by omega) hl0 y (by omega) hk hk2 hx0 he0 h1 (by omega) (by omega) (by omega) hd2 t ht hop';rw[hy]at this;exact viaOp this fun g=>zAF (.inl ⟨rfl,rfl⟩) (by omega) hd2 hX0 hX1 hFl h1 (by omega) hnum hfit hleft0 hd0 hcnd h g
 .have:=zJr (by omega) hl0 y (by omega) hk hk2 hx0 he0 h1 (by omega) (by omega) (by omega) hd2 t ht hop';rw[hy]at this;exact viaOp this fun g=>zAF (.inr (.inl ⟨rfl,rfl⟩)) (by omega) hd2 hX0 hX1 hFl h1 (by omega) hnum hfit hleft0 hd0 hcnd h g
 .have:=zQ4 (by omega) hl0 y (by omega) hk hx0 he0 h1 (by omega) (by omega) (by omega) hd2 t ht hop';rw[hy]at this;exact viaOp this fun g=>zAF (.inr (.inr (.inl ⟨rfl,rfl⟩))) (by omega) hd2 hX0 hX1 hFl h1 (by omega) hnum hfit hleft0 hd0 hcnd h g
 .have:=zMz (by omega) hl0 y hk hx0 he0 h1 (by omega) (by omega) hd2 t hop';rw[hy]at this;exact viaOp this fun g=>zAF (.inr (.inr (.inr (.inl ⟨rfl,rfl⟩)))) (by omega) hd2 hX0 hX1 hFl h1 (by omega) hnum hfit hleft0 hd0 hcnd h g
 .have:=zMz (by omega) hl0 y hk hx0 he0 h1 (by omega) (by omega) hd2 t hop';rw[hy]at this;exact viaOp this fun g=>zAF (.inr (.inr (.inr (.inr ⟨rfl,rfl⟩)))) (by omega) hd2 hX0 hX1 hFl h1 (by omega) hnum hfit hleft0 hd0 hcnd h g
 .exact hfold h
 .exact viaOp hop fun g=>qDb (by omega) hd2 hX0 hX1 hFl h1 (by omega) hnum hfit hleft0 hd0 hcnd h g
theorem dG.mono{R:Nat}{c':Int}{Q Q':Nat->Prop}{len len':Nat}(h:dG hs R c depth Q len)(hc:c<=c')(hQ:∀r,Q' r->Q r)(hl:len'<=len):dG hs R c' depth Q' len' :=
 fun m r t env hx hm hr hq he h1 h2=>(h m r t env hx (hm.mono hc) hr (hQ r hq) he h1 (by omega)).mono hc
theorem p8(k:Nat):(8:Int) ^ (k+1)=8*8 ^ k:=by rw[Int.pow_succ];omega
theorem zCa:∀k:Nat,1<=(8:Int) ^ k
 | 0=>by simp
 |k+1=>by rw[p8];have:=zCa k;omega
theorem zAG(hs:wQ)(R:Nat):∀(r:Nat) (depth:Int),depth<=0->-900<=depth-r->dG hs R (8 ^ (r+1)) depth (fun r'=>r'<=r) 1000
 | 0,depth,h0,h1=>fun m r t env hx hl hr hq he h2 h3=>by
  rw[p8]at hl ⊢;have:=zCa 0;refine(zHi (R:=R) (r:=r) (c:=0) (d:=depth) (len:=1000) (by omega) (hl.mono (by omega)) h0 (by omega) ?_ t hr (fun m' r' t' env' _ _ _ hq'=>?_) hx he h2 h3 h3 (by omega) (by omega)).mono (by omega)
  .rcases Int.lt_or_le 0 m.left with h|h
   .exact .inr (.inr ⟨h,h0,rfl⟩)
   .exact .inr (.inl ⟨h,h0,rfl⟩)
  .have:r'<r:=hq';omega
 |s+1,depth,h0,h1=>fun m r t env hx hl hr hq he h2 h3=>by
  have hp:=p8 (s+1);rw[hp]at hl ⊢;have:=zCa (s+1);have hk:=zAG hs R s (depth-1) (by omega) (by omega);refine(zHi (R:=R) (r:=r) (c:=8 ^ (s+1)) (d:=depth) (len:=1000) (by omega) (hl.mono (by omega)) h0 (by omega) ?_ t hr (hk.mono (by omega) (fun r' (hr':r'<r)=>by omega) (jA _)) hx he h2 h3 h3 (by omega) (by omega)).mono (by omega);rcases Int.lt_or_le 0 m.left with h|h
  .exact .inr (.inr ⟨h,h0,rfl⟩)
  .exact .inr (.inl ⟨h,h0,rfl⟩)
theorem zHB{a b:Nat}(h:a<=b):(8:Int) ^ a<=8 ^ b:=by
 induction h with
 |refl=>exact jCl _
 |step h ih=>rw[p8];have:=zCa a;omega
theorem zDS(hs:wQ)(R:Nat)(hR:1<=R)(hR2:R<=100):∀n:Nat,n<=100 ->
 dG hs R (8 ^ (n+R+1)) n (fun r=>r<=R) (1000-2*n)/\dG hs R (8 ^ (n+R+1)) ((n:Int)-1) (fun r=>r<=R) (1000-2*n)
 | 0,_=>by
  constructor
  .exact(zAG hs R R 0 (by omega) (by omega)).mono (zHB (by omega)) (fun _ h=>h) (by omega)
  .exact(zAG hs R R _ (by omega) (by omega)).mono (zHB (by omega)) (fun _ h=>h) (by omega)
 |n+1,hn=>by
  obtain⟨i1,i2⟩:=zDS hs R hR hR2 n (by omega);have hp:(8:Int) ^ (n+1+R+1)=8*8 ^ (n+R+1):=by rw[p8,show n+1+R=n+R+1 by omega]
  have hge:=zCa (n+R);have hp':=p8 (n+R);have e1:(((n+1:Nat)):Int)-1=n:=by omega
  rw[hp];constructor
  .intro m r t env hx hl hr hq he h1 h2;have ht:=hr.mono hq;rcases Int.lt_or_le 0 m.left with h|h
   .refine zSN (R:=R) (len:=1000-2*n) (by omega) hl h (by omega) hR t ht (e1▸i1) ?_ hx he h1 (by omega) (by omega) (by omega);rw[show (((n+1:Nat)):Int)-2=(n:Int)-1 by omega];exact i2
   .obtain⟨s,hs'⟩:∃s,R=s+1:=⟨R-1,by omega⟩;have hk:=zAG hs R s (0-1) (by omega) (by omega);have q1:(8:Int) ^ (s+1)<=8 ^ (n+R):=zHB (by omega);have q2:=zCa (s+1);exact(zHi (R:=R) (r:=R) (c:=8 ^ (s+1)) (d:=0) (len:=1000) (by omega) (hl.mono (by omega)) (by omega) (by omega) (.inl ⟨h,by omega,rfl⟩) t ht (hk.mono (by omega) (fun r' (hr':r'<R)=>by omega) (jA _)) hx he h1 (by omega) (by omega) (by omega) (by omega)).mono (by omega)
  .rw[e1];exact i1.mono (by omega) (fun _ h=>h) (by omega)
def zUg:K:=G [kO 1 0,kMi 2 0] (G [kMi 3 1] (Z (G [kMi 4 0] (K.block 0 (K.loop (Z (G [M 5 4,D 6 1 13,L 7 6 1,kN 8 7,kB 9 5 8 .lss] (Y 9 ks (K.exit 0))) (Z (K.block 1 (K.ops [M 12 3,D 13 1 13,L 14 13 1,M 15 4,kX 16 14 15 15,J 17 16 15,kC 18 38 [(kt 17)],kB 19 12 18 .add,M 3 19])) (K.ops [M 10 4,kBi 11 10 1 .add,M 4 11])))))) (G [M 20 3,M 2 20] kr)))
theorem qBR:ky f38 zUg:=m_ (by kernel_rfl)
def zPz:K:=G [kO 2 0,kMn 4] (Z (G [kMi 5 0] (K.block 0 (K.loop (Z (G [M 6 5,D 7 2 13,L 8 7 1,kN 9 8,kB 10 6 9 .lss] (Y 10 ks (K.exit 0))) (Z (K.block 1 (K.ops [D 13 2 13,L 14 13 1,M 15 5,kX 16 14 15 15,J 17 16 15,M 18 1,kC 19 39 [(kt 17),(kt 18)],M 1 19])) (K.ops [M 11 5,kBi 12 11 1 .add,M 5 12])))))) (G [M 20 1,D 21 2 0,D 22 21 2,L 23 22 1,kd 24 3 1 1 [ki] [(0,1,(kt 23))],kP 25 3 1 8 20 24,M 4 25] kr))
theorem zU5:ky f39 zPz:=m_ (by kernel_rfl)
def zUm:K:=G [kO 2 0,kZ 4 kz1] (G [J 7 2 15,kZ 5 kz1,S 5 7 15] (G [M 8 1,D 9 2 0,D 10 9 2,L 11 10 1,kX 12 8 11 3,J 13 12 3,D 14 5 0,S 14 13 3] (Z (G [D 15 2 3,L 16 15 1,kQi 17 16 2 false,M 18 17,T 18 true (D 19 2 5),T 18 true (D 20 19 1),T 18 true (L 21 20 1),T 18 true (kQi 22 21 0 false),kPf 23 18 22] (Y 23 (K.ops [M 24 1,D 25 2 5,D 26 25 2,L 27 26 1,kX 28 24 27 3,J 29 28 3,D 30 5 5,S 30 29 3]) ks)) (G [D 31 5 13,⟨none,.st none (kt 31) (.const kl) 1⟩] (Z (G [kMi 6 0] (K.block 0 (K.loop (Z (G [M 32 6,D 33 2 13,L 34 33 1,kN 35 34,kB 36 32 35 .lss] (Y 36 ks (K.exit 0))) (Z (K.block 1 (K.dops [(0,2,D 39 5 13),(1,2001,L 40 39 1),(2,0,D 41 2 13),(3,0,L 42 41 1),(4,0,M 43 6),(5,0,kX 44 42 43 15),(6,0,J 45 44 15),(7,0,M 46 1),(8,1001,kC 47 40 [(kt 45),(kt 46)]),(9,0,kd 48 40 15 1 kz1 [(0,15,(kt 47))]),(10,0,kP 49 40 15 168 40 48),(11,2,D 50 5 13),(12,0,S 50 49 1)])) (K.ops [M 37 6,kBi 38 37 1 .add,M 6 38])))))) (G [J 51 5 15,S 4 51 15] kr))))))
def qDe:Nat->Option wE:=fun|9=>k_ [2,2001,0,0,0,0,0,0,1001,0,0,2,0]|_=>none
theorem qBV:kx f40 qDe zUm:=mz (by kernel_rfl)
variable{x:Operand}
@[simp]theorem qEE{d:wD}{n:Nat}{g:Bool}{env:Env}:cJ 2001 (.ld d x n g) env=eG 1 (ev env x):=propext (zBr (by omega) (by omega))
@[simp]theorem zXO{d:wD}{l:List Operand}{env:Env}:cJ 1001 (.call d x l) env=True:=rfl
@[simp]theorem zZ5{U:St}:m9 2001 U = U:=rfl
theorem a7(e:Exp):tmps e=jG e.kids++[e.id.c]:=by cases e;simp only[tmps,Exp.kids,Exp.id]
theorem yQ{l:wH}{i:Nat}(h:i<l.length):jG (l.take (i+1))=jG (l.take i)++tmps l[i]:=by rw[jA8 h,nC]
theorem uF:∀{l:wH} {e:Exp},e∈l->(tmps e).length<=(jG l).length
 |x::l,e,h=>by
  simp only[jG,jA4];rcases jA3.1 h with rfl|h
  .omega
  .have:=uF h;omega
theorem i8{l:wH}(i:Nat):(jG (l.take i)).length<=(jG l).length:=by
 have h:∀a b:wH,jG (a++b)=jG a++jG b:=fun a b=>by
  induction a with
  |nil=>simp[jG]
  |cons x a ih=>simp[jG,ih]
 have:=h (l.take i) (l.drop i);rw[jBs]at this;rw[this,jA4];omega
mutual
theorem zJ6:∀(e:Exp),(tmps e).length<=1000000000->my 38 [.agg (zH e)] [] (int (tmps e).length) []
 | .mk a b c d t l ns,hle=>by
  have ih:=zGx l;generalize ha:Exp.mk a b c d t l ns=e at hle;have hal:e.kids=l:=by rw[<-ha];rfl
  rw[<-hal]at ih;rw[a7,jA4,jAn]at hle;refine zG func38 rfl qBR (rs:=[.slot 2]) (by kernel_rfl) ?_;unfold zUg;simp[zH];refine qH (S:=Nat) (fun i=>[(1,.ptr 0 0),(3,int ((jG (e.kids.take i)).length+1:Nat)),(4,int i)]) (fun _=>[.box (zH e)]) (fun i=>i<=e.kids.length) (fun i=>e.kids.length-i) 0 (by simp)
   (mw [0] 0 (by rfl) (by simp[zH,jG])) ?_
  intro i hi;by_cases h:i<e.kids.length
  .have hle2:(tmps e.kids[i]).length<=1000000000:=by have:=uF (jA0 h);omega
   have h3:=i8 (l:=e.kids) (i+1);rw[yQ h,jA4]at h3;simp[zH,h,yX h];intro hl;refine mu (ih e.kids[i] (jA0 h) hle2) (by simp[zH]) ?_;have hw:IntKind.i64.wrap ((((jG (e.kids.take i)).length:Int)+1)+((tmps e.kids[i]).length:Int))=((jG (e.kids.take i)).length:Int)+1+(tmps e.kids[i]).length:=IntWalk.i64_in _ (by omega);simp[hw];exact zN (i+1) h (by omega) (kf [0] 0 (by rfl) (by simp[zH]) (by simp[zY h hl,yQ h];omega))
  .have hie:i=e.kids.length:=by omega
   subst hie;simp[zH]
   first|exact fun _=>zC 0 (by simp[a7])|exact zC 0 (by simp[a7])
theorem zGx:∀(l:wH),∀x∈l,(tmps x).length<=1000000000->my 38 [.agg (zH x)] [] (int (tmps x).length) []
 |[],x,hx=>by simp at hx
 |z::l,x,hx=>by
  rcases jA3.1 hx with e|hx
  .rw[e];exact zJ6 z
  .exact zGx l x hx
end
def iQ(l:wC):AObj:=.row false 3 1 l.length (y3 l)
mutual
theorem zGz:∀(e:Exp) (l:wC),l.length+(tmps e).length<=1000000000->my 39 [.agg (zH e),.row 0 l.length] [iQ l] (.row 0 (l++tmps e).length) [iQ (l++tmps e)]
 | .mk a b c d t ks ns,l,hle=>by
  have ih:=zE4 ks;generalize ha:Exp.mk a b c d t ks ns=e at hle;have hal:e.kids=ks:=by rw[<-ha];rfl
  rw[<-hal]at ih;rw[a7,jA4,jAn]at hle;refine zG func39 rfl zU5 (rs:=[.slot 4]) (by kernel_rfl) ?_;unfold zPz;simp[zH,iQ];refine qH (S:=Nat) (fun i=>[(1,.row 0 (l++jG (e.kids.take i)).length),(2,.ptr 1 0),(5,int i)]) (fun i=>[iQ (l++jG (e.kids.take i)),.box (zH e)]) (fun i=>i<=e.kids.length) (fun i=>e.kids.length-i) 0 (by simp)
   (mw [0,1] 0 (by rfl) (by simp[zH,iQ,jG])) ?_
  intro i hi;by_cases h:i<e.kids.length
  .have h3:=i8 (l:=e.kids) (i+1);rw[yQ h,jA4]at h3;have hg:=ih e.kids[i] (jA0 h) (l++jG (e.kids.take i)) (by rw[jA4];omega);simp[zH,iQ,h,yX h];intro hl;refine mr hg [0] (by simp[iQ,lI,zH]) ?_;simp[iQ];exact zN (i+1) h (by omega) (mw [0,1] 0 (by rfl) (by simp[zH,iQ,yQ h,lI,zY h hl]))
  .have hie:i=e.kids.length:=by omega
   subst hie;simp[zH,iQ];intro _;refine⟨⟨by simp[maxLen];omega,by omega⟩,?_⟩;exact ke [0] 0 (by rfl) (by simp[a7,lI];omega) (by simp[a7];omega)
theorem zE4:∀(ks:wH),∀x∈ks,∀(l:wC),l.length+(tmps x).length<=1000000000->my 39 [.agg (zH x),.row 0 l.length] [iQ l] (.row 0 (l++tmps x).length) [iQ (l++tmps x)]
 |[],x,hx=>by simp at hx
 |z::l,x,hx=>by
  rcases jA3.1 hx with e|hx
  .rw[e];exact zGz z
  .exact zE4 l x hx
end
theorem zLB(e:Exp)(hle:(tmps e).length<=1000000000):my 39 [.agg (zH e),.nil] [] (.row 0 (tmps e).length) [iQ (tmps e)]:=by
 rw[a7,jA4,jAn]at hle;refine zG func39 rfl zU5 (rs:=[.slot 4]) (by kernel_rfl) ?_;unfold zPz;simp[zH,iQ];refine qH (S:=Nat) (fun i=>[(1,.row 0 (jG (e.kids.take i)).length),(2,.ptr 1 0),(5,int i)]) (fun i=>[iQ (jG (e.kids.take i)),.box (zH e)]) (fun i=>i<=e.kids.length) (fun i=>e.kids.length-i) 0 (by simp)
  ((jS (t:=1) (by simp) 3 1).trans (mw [1,0] 0 (by rfl) (by simp[zH,iQ,jG]))) ?_
 intro i hi;by_cases h:i<e.kids.length
 .have h3:=i8 (l:=e.kids) (i+1);rw[yQ h,jA4]at h3;have hg:=zGz e.kids[i] (jG (e.kids.take i)) (by omega);simp[zH,iQ,h,yX h];intro hl;refine mr hg [0] (by simp[iQ,zH]) ?_;simp[iQ];exact zN (i+1) h (by omega) (mw [0,1] 0 (by rfl) (by simp[zH,iQ,yQ h,lI,zY h hl]))
 .have hie:i=e.kids.length:=by omega
  subst hie;simp[zH,iQ];intro _;refine⟨⟨by simp[maxLen];omega,by omega⟩,?_⟩;exact mv [0] 0 (by rfl) (by simp[a7,lI])
mutual
def fK(f:Int->Id):Exp->Exp
 | .mk i k n r t ks ns=>.mk (f i.c) k n (if k=2/\r.b=0 then f r.c else r) t (zBk f ks) ns
def zBk(f:Int->Id):List Exp->wH
 |[]=>[]
 |e::l=>fK f e::zBk f l
end
theorem pA(f:Int->Id):∀l:wH,zBk f l=l.map (fK f)
 |[]=>rfl
 |e::l=>by simp only[zBk,jAc,pA f l]
mutual
def Exp.under(N:Nat):Exp->Prop
 | .mk i k _ r _ ks _=>(0<=i.c/\i.c<N)/\(k=2->r.b=0->0<=r.c/\r.c<N)/\ks.length<=1000000000/\zCp N ks
def zCp(N:Nat):List Exp->Prop
 |[]=>True
 |e::l=>e.under N/\zCp N l
end
theorem zAq{N:Nat}:∀l:wH,zCp N l↔∀e∈l,e.under N
 |[]=>by simp[zCp]
 |e::l=>by simp[zCp,zAq l]
def oK(ids:wG)(c:Int):Id:=ids.getD c.toNat Id.zero
theorem zJa{ids:wG}{j:Nat}(h:c=j)(hj:j<ids.length):oK ids c=ids[j]:=by subst h;unfold oK;rw[jCm,jBz,jA2 hj];rfl
def aJ(ids:wG):AObj:=.row false 32 3 ids.length (zS ids)
mutual
theorem zEG(ids:wG):∀(e:Exp),e.under ids.length->my 40 [.agg (zH e),.row 0 ids.length] [aJ ids] (.agg (zH (fK (oK ids) e))) [aJ ids]
 | .mk a b c d t ks ns,hb=>by
  have ih:=zCV ids ks;simp only[Exp.under,zAq]at hb;obtain⟨⟨hb1,hb2⟩,hb3,hkl,hb4⟩:=hb;obtain⟨j,hj⟩:∃j:Nat,a.c=j:=⟨a.c.toNat,by omega⟩;have hjl:j<ids.length:=by omega
  have hdj:=qV hjl;have hej:=zJa hj hjl;have hbj:j*3+3<=ids.length*3:=by omega
  refine zJ func40 rfl qBV (rs:=[.cell 4 15 true]) (by kernel_rfl) ?_;unfold zUm;obtain⟨x,hx⟩:∃x,x=ids[j]:=⟨_,rfl⟩;rw[<-hx]at hej hdj;by_cases hv1:b=2
  .by_cases hv2:d.b=0
   .obtain⟨hb5,hb6⟩:=hb3 hv1 hv2;obtain⟨m,hm⟩:∃m:Nat,d.c=m:=⟨d.c.toNat,by omega⟩;have hml:m<ids.length:=by omega
    have hdm:=qV hml;have hem:=zJa hm hml;have hbm:m*3+3<=ids.length*3:=by omega
    obtain⟨y,hy⟩:∃y,y=ids[m]:=⟨_,rfl⟩;rw[<-hy]at hem hdm;simp[zH,aJ,hj,hjl,hdj,hbj,hv1,hv2,hm,hml,hdm,hbm,zX];refine qH (S:=Nat) (fun i=>[(1,.row 0 ids.length),(2,.ptr 1 0),(4,.ptr 2 0),(5,.ptr 3 0),(6,int i)])
     (fun i=>[aJ ids,.box (zH (.mk a b c d t ks ns)),.box (zH Exp.zero),.box [int x.a,int x.b,int x.c,int b,int c,int y.a,int y.b,int y.c,int t.k,int t.id.a,int t.id.b,int t.id.c,.sl t.kids.length (jL t.kids),.row 4 i,.sl ns.length (aC ns)],.row false 40 15 i (qS ((ks.map (fK (oK ids))).take i))]) (fun i=>i<=ks.length) (fun i=>ks.length-i) 0 (by simp)
     ((yI (l:=3) (o:=13) rfl rfl 40 15).trans (mw [0,1,2,3,4] 0 (by rfl) (by simp[aJ,zH,Exp.zero,Id.zero,Typ.zero,hj,hv1,hv2,hm,hem]))) ?_
    intro i hi;by_cases h:i<ks.length
    .have hg:=ih ks[i] (jA0 h) (hb4 _ (jA0 h));have hst:=aR (l:=ks.map (fK (oK ids))) (i:=i) (by rw[jAa];exact h);rw[jB5]at hst;simp[aJ,zH,h,yX h];intro hl;refine bG hg [0] (by decide) (by simp[aJ]) (by simp[zH]) (by decide) (by simp) (by simp) ?_;simp[aJ];refine⟨⟨by omega,by omega⟩,?_⟩;exact zN (i+1) h (by omega) (kf [0,1,2,3,4] 0 (by rfl) (by rw[hst];simp[aJ,zH]) (by simp[zY h hl]))
    .have hie:i=ks.length:=by omega
     subst hie;have hall:List.take ks.length (ks.map (fK (oK ids)))=ks.map (fK (oK ids)):=jAh (by simp);simp[aJ,zH];intro _;exact mv [0] 1 (by rfl) (by simp[zH,fK,pA,hej,hall,hv1,hv2,hem])
   .simp[zH,aJ,hj,hjl,hdj,hbj,hv1,hv2,zX];refine qH (S:=Nat) (fun i=>[(1,.row 0 ids.length),(2,.ptr 1 0),(4,.ptr 2 0),(5,.ptr 3 0),(6,int i)])
     (fun i=>[aJ ids,.box (zH (.mk a b c d t ks ns)),.box (zH Exp.zero),.box [int x.a,int x.b,int x.c,int b,int c,int d.a,int d.b,int d.c,int t.k,int t.id.a,int t.id.b,int t.id.c,.sl t.kids.length (jL t.kids),.row 4 i,.sl ns.length (aC ns)],.row false 40 15 i (qS ((ks.map (fK (oK ids))).take i))]) (fun i=>i<=ks.length) (fun i=>ks.length-i) 0 (by simp)
     ((yI (l:=3) (o:=13) rfl rfl 40 15).trans (mw [0,1,2,3,4] 0 (by rfl) (by simp[aJ,zH,Exp.zero,Id.zero,Typ.zero,hj,hv1,hv2]))) ?_
    intro i hi;by_cases h:i<ks.length
    .have hg:=ih ks[i] (jA0 h) (hb4 _ (jA0 h));have hst:=aR (l:=ks.map (fK (oK ids))) (i:=i) (by rw[jAa];exact h);rw[jB5]at hst;simp[aJ,zH,h,yX h];intro hl;refine bG hg [0] (by decide) (by simp[aJ]) (by simp[zH]) (by decide) (by simp) (by simp) ?_;simp[aJ];refine⟨⟨by omega,by omega⟩,?_⟩;exact zN (i+1) h (by omega) (kf [0,1,2,3,4] 0 (by rfl) (by rw[hst];simp[aJ,zH]) (by simp[zY h hl]))
    .have hie:i=ks.length:=by omega
     subst hie;have hall:List.take ks.length (ks.map (fK (oK ids)))=ks.map (fK (oK ids)):=jAh (by simp);simp[aJ,zH];intro _;exact mv [0] 1 (by rfl) (by simp[zH,fK,pA,hej,hall,hv1,hv2])
  .simp[zH,aJ,hj,hjl,hdj,hbj,hv1,zX];refine qH (S:=Nat) (fun i=>[(1,.row 0 ids.length),(2,.ptr 1 0),(4,.ptr 2 0),(5,.ptr 3 0),(6,int i)])
    (fun i=>[aJ ids,.box (zH (.mk a b c d t ks ns)),.box (zH Exp.zero),.box [int x.a,int x.b,int x.c,int b,int c,int d.a,int d.b,int d.c,int t.k,int t.id.a,int t.id.b,int t.id.c,.sl t.kids.length (jL t.kids),.row 4 i,.sl ns.length (aC ns)],.row false 40 15 i (qS ((ks.map (fK (oK ids))).take i))]) (fun i=>i<=ks.length) (fun i=>ks.length-i) 0 (by simp)
    ((yI (l:=3) (o:=13) rfl rfl 40 15).trans (mw [0,1,2,3,4] 0 (by rfl) (by simp[aJ,zH,Exp.zero,Id.zero,Typ.zero,hj,hv1]))) ?_
   intro i hi;by_cases h:i<ks.length
   .have hg:=ih ks[i] (jA0 h) (hb4 _ (jA0 h));have hst:=aR (l:=ks.map (fK (oK ids))) (i:=i) (by rw[jAa];exact h);rw[jB5]at hst;simp[aJ,zH,h,yX h];intro hl;refine bG hg [0] (by decide) (by simp[aJ]) (by simp[zH]) (by decide) (by simp) (by simp) ?_;simp[aJ];refine⟨⟨by omega,by omega⟩,?_⟩;exact zN (i+1) h (by omega) (kf [0,1,2,3,4] 0 (by rfl) (by rw[hst];simp[aJ,zH]) (by simp[zY h hl]))
   .have hie:i=ks.length:=by omega
    subst hie;have hall:List.take ks.length (ks.map (fK (oK ids)))=ks.map (fK (oK ids)):=jAh (by simp);simp[aJ,zH];intro _;exact mv [0] 1 (by rfl) (by simp[zH,fK,pA,hej,hall,hv1])
theorem zCV(ids:wG):∀(ks:wH),∀x∈ks,x.under ids.length->my 40 [.agg (zH x),.row 0 ids.length] [aJ ids] (.agg (zH (fK (oK ids) x))) [aJ ids]
 |[],x,hx=>by simp at hx
 |z::l,x,hx=>by
  rcases jA3.1 hx with e|hx
  .rw[e];exact zEG ids z
  .exact zCV ids l x hx
end
def qAT:K:=G [kO 4 1,kO 5 2,kZ 6 kz2] (Z (K.dops [(0,0,kb 7 kz2 []),(1,0,kb 8 kz2 [(0,1,(kc 1))]),(2,0,kb 9 kz2 []),(3,0,kC 10 83 [(kt 9)]),(4,0,J 11 4 5),(5,0,J 12 5 5),(6,0,kb 13 kz2 []),(7,0,kd 14 36 5 6 qKX [(0,5,(kt 7)),(5,5,(kt 8)),(10,5,(kt 10)),(15,5,(kt 11)),(20,5,(kt 12)),(25,5,(kt 13))]),(8,0,M 15 0),(9,0,kC 16 14 [(kt 15),(kc 6)]),(10,0,kX 17 14 16 5),(11,0,J 18 17 5),(12,0,S 6 18 5)]) kr)
theorem qI4:ky f82 qAT:=m_ (by kernel_rfl)
def zPt:K:=(G [M 72 9,M 73 10,M 6 72,M 7 73] kr)
def zPs:K:=(G [M 50 0,M 51 1,kBi 52 51 2 .add,kC 53 34 [(kt 50),(kt 52),(kc 3)],M 11 53] (Z (G [M 54 11,kQi 55 54 1 false] (Y 55 (G [M 56 9,kb 57 kz2 [],kd 58 36 5 1 kz2 [(0,5,(kt 57))],kP 59 36 5 56 56 58,M 9 59] (K.ops [M 60 10,kd 61 3 1 1 [ki] [(0,1,(kc 1))],kP 62 3 1 8 60 61,M 10 62])) ks)) (Z (G [M 63 11,kQi 64 63 2 false] (Y 64 (G [M 65 9,kb 66 kz2 [(0,1,(kc 1))],kd 67 36 5 1 kz2 [(0,5,(kt 66))],kP 68 36 5 56 65 67,M 9 68] (K.ops [M 69 10,kd 70 3 1 1 [ki] [(0,1,(kc 0))],kP 71 3 1 8 69 70,M 10 71])) ks)) (K.wk zPt))))
def qAH:K:=G [kO 5 2,kMn 6,kMn 7] (G [M 12 0,M 13 1,kC 14 34 [(kt 12),(kt 13),(kc 5)],M 8 14] (G [kb 15 kz2 [],⟨none,.brow (some 16) 36 5 1 kz2 [(0,5,(kt 15))]⟩,M 9 16] (G [M 17 0,M 18 1,kBi 19 18 1 .add,kC 20 34 [(kt 17),(kt 19),(kc 3)],⟨none,.bin (some 21) .add (kc 1) (kt 20)⟩,⟨none,.brow (some 22) 3 1 1 [ki] [(0,1,(kt 21))]⟩,M 10 22] (Z (G [M 23 8,kQi 24 23 1 false] (Y 24 (G [M 25 9,kb 26 kz2 [(0,1,(kc 1))],kXi 27 25 5 0,S 27 26 5] (K.ops [M 28 10,kXi 29 28 1 0,⟨none,.st none (kt 29) (kc 0) 1⟩])) ks)) (Z (G [M 30 8,kQi 31 30 2 false] (Y 31 (G [M 32 9,kb 33 kz2 [],kC 34 83 [(kt 33)],kXi 35 32 5 0,S 35 34 5] (K.ops [M 36 10,M 37 0,M 38 1,kBi 39 38 1 .add,kC 40 34 [(kt 37),(kt 39),(kc 2)],⟨none,.bin (some 41) .add (kc 1) (kt 40)⟩,kXi 42 36 1 0,S 42 41 1])) ks)) (Z (G [M 43 8,kQi 44 43 3 false] (Y 44 (G [M 45 9,J 46 5 5,kXi 47 45 5 0,S 47 46 5] (K.ops [M 48 10,kXi 49 48 1 0,⟨none,.st none (kt 49) (kc 1) 1⟩])) ks)) (K.wk zPs)))))))
theorem qIs:ky f84 qAH:=m_ (by kernel_rfl)
def gV(x:Int)(one two:Typ):Typ:=[jI,jV,jP jI,one,two,jI].getD (jX x 6).toNat jI
theorem zGC(x:Int)(one two:Typ)(hx:w64 x=x):my 82 [int x,.agg (zB one),.agg (zB two)] [] (.agg (zB (gV x one two))) []:=by
 obtain⟨k0,k6⟩:=eQ (k:=6) hx (by omega);have ha:=uN x 6 (by omega);have hk:jX x 6=0\/jX x 6=1\/jX x 6=2\/jX x 6=3\/jX x 6=4\/jX x 6=5:=by omega
 unfold gV;generalize jX x 6=k at ha k0 k6 hk;refine zJ func82 rfl qI4 (rs:=[.cell 6 5 true]) (by kernel_rfl) ?_;unfold qAT;simp[zB];refine qB zEk (by simp[zB,jI]) (by simp) ?_;simp[zB];refine qB ha (by simp) (by simp) ?_;rcases hk with rfl|rfl|rfl|rfl|rfl|rfl
 all_goals
  simp[zB,jI,jV,jP];exact zC 0 (by simp[zB,jI,jV,jP,Id.zero,qK])
def zXa(l:wC)(at_:Int)(point:Typ):Typ×Int:=if atV l at_ 5=1 then (jV,0)else if atV l at_ 5=2 then (jP jI,1+atV l (at_+1) 2)else if atV l at_ 5=3 then (point,1)else (jI,1+atV l (at_+1) 3)
def zQK(l:wC)(at_:Int):List (Typ×Int):=if atV l (at_+2) 3=1 then [(jI,1)]else if atV l (at_+2) 3=2 then [(jV,0)]else []
def inV(l:wC)(at_:Int)(point:Typ):List (Typ×Int):=zXa l at_ point::zQK l at_
def zMc(L:List (Typ×Int)):wF:=jL (L.map (·.1))
def zEq(L:List (Typ×Int)):wF:=y3 (L.map (·.2))
def inR(L:List (Typ×Int)):A:=.tup [.sl L.length (zMc L),.sl L.length (zEq L)]
theorem zQL(l:wC)(at_:Int)(ha:0<=at_)(ha':at_<=1000)(hl:∀x∈l,w64 x=x)(p:Typ×Int) :
 wpK prog 0 zPs (fin [RS.slot 6,RS.slot 7] (sM 0 (inR (p::zQK l at_)) [])) (jR [(0,.sl l.length (y3 l)),(1,int at_),(9,.row 0 1),(10,.row 1 1)])
  [.row false 36 5 1 (zB p.1),.row false 3 1 1 [int p.2]]:=by
 have w2:=z8 (at_+2) (by omega);have h3:=dQ l (at_+2) 3 (by omega);unfold zQK;generalize atV l (at_+2) 3=z at *
 have tailU:∀L:List (Typ×Int),wpK prog 0 zPt (fin [RS.slot 6,RS.slot 7] (sM 0 (inR L) [])) (jR [(9,.sl L.length (zMc L)),(10,.sl L.length (zEq L))]) []:=fun L=>by unfold zPt;simp;exact zC 0 (by simp[inR,zMc,zEq])
 unfold zPs;simp[w2];refine mu h3 (by simp) ?_;by_cases hz1:z=1
 .simp[hz1,maxLen];exact⟨_,_,mw [] 1 (by rfl) (by simp[zMc,zEq,qK,zB,jI,Id.zero]),tailU _⟩
 .by_cases hz2:z=2
  all_goals
   simp[hz1,hz2,maxLen];exact⟨_,_,mw [] 1 (by rfl) (by simp[zMc,zEq,qK,zB,jV,Id.zero]),tailU _⟩
theorem zXb(l:wC)(at_:Int)(point:Typ)(ha:0<=at_)(ha':at_<=1000)(hl:∀x∈l,w64 x=x) :
 my 84 [.sl l.length (y3 l),int at_,.agg (zB point)] [] (inR (inV l at_ point)) []:=by
 have w1:=z8 (at_+1) (by omega);have h0:=dQ l at_ 5 (by omega)
 have h1:=dQ l (at_+1) 3 (by omega);have h2:=dQ l (at_+1) 2 (by omega);have ht:=zQL l at_ ha ha' hl
 obtain⟨r1,r1'⟩:=yN (i:=at_+1) hl (most:=3) (by omega);obtain⟨r2,r2'⟩:=yN (i:=at_+1) hl (most:=2) (by omega);unfold inV zXa;generalize atV l at_ 5=x at *
 generalize atV l (at_+1) 3=y1 at *
 generalize atV l (at_+1) 2=y2 at *
 have v1:=z8 (1+y1) (by omega);have v2:=z8 (1+y2) (by omega);refine zG func84 rfl qIs (rs:=[.slot 6,.slot 7]) (by kernel_rfl) ?_;unfold qAH;simp[zB];refine mu h0 (by simp) ?_;simp[w1];refine mu h1 (by simp) ?_;by_cases hx1:x=1
 .simp[v1,hx1];exact⟨_,_,mw [1,2] 0 (by rfl) (by simp[zB,jV,Id.zero]),ht (jV,0)⟩
 .by_cases hx2:x=2
  .simp[v1,hx1,hx2];refine mu zEk (by simp[zB,jI,Id.zero]) ?_;simp[zB,w1];refine mu h2 (by simp) ?_;simp[v2];exact⟨_,_,mw [1,2] 0 (by rfl) (by simp[zB,jP,Id.zero]),ht (jP jI,1+y2)⟩
  .by_cases hx3:x=3
   .simp[v1,hx1,hx2,hx3];exact⟨_,_,mw [1,2] 0 (by rfl) (by simp[zB]),ht (point,1)⟩
   .simp[v1,hx1,hx2,hx3];exact⟨_,_,mw [1,2] 0 (by rfl) (by simp[zB,jI,Id.zero]),ht (jI,1+y1)⟩
def zUc:K:=G [kO 1 0,kMb 2 false] (G [D 3 1 3,L 4 3 1,kQi 5 4 2 false,M 6 5,T 6 false (D 7 1 3),T 6 false (L 8 7 1),T 6 false (kQi 9 8 3 false),kPt 10 6 9,M 11 10,T 11 false (D 12 1 3),T 11 false (L 13 12 1),T 11 false (kQi 14 13 4 false),kPt 15 11 14,M 16 15,T 16 false (D 17 1 3),T 16 false (L 18 17 1),T 16 false (kQi 19 18 5 false),kPt 20 16 19,M 2 20] kr)
theorem qBL:ky f113 zUc:=m_ (by kernel_rfl)
mutual
def aB:Exp->wH
 | .mk a b c d t ks ns=>.mk a b c d t ks ns::yR ks
def yR:List Exp->wH
 |[]=>[]
 |e::l=>aB e++yR l
end
theorem fW(e:Exp):aB e=e::yR e.kids:=by cases e;simp only[aB,Exp.kids]
theorem zIk(e:Exp):∀l:wH,yR (l++[e])=yR l++aB e
 |[]=>by simp[yR]
 |x::l=>by simp[yR,zIk e l]
mutual
theorem zD5:∀e:Exp,(aB e).length=(tmps e).length
 | .mk a b c d t ks ns=>by have:=zD6 ks;simp only[aB,tmps,jAb,jA4,jB4,this]
theorem zD6:∀l:wH,(yR l).length=(jG l).length
 |[]=>rfl
 |e::l=>by have:=zD5 e;have:=zD6 l;simp only[yR,jG,jA4, *]
end
theorem zSS(d:Dfn):my 113 [.agg (zQ d)] [] (bl (eV d.kind)) []:=by
 refine zG func113 rfl qBL (rs:=[.slot 2]) (by kernel_rfl) ?_;unfold zUc;by_cases h2:d.kind=2
 .simp[zQ,h2];exact zC 0 (by simp[eV,h2])
 .by_cases h3:d.kind=3
  .simp[zQ,h3];exact zC 0 (by simp[eV,h3])
  .by_cases h4:d.kind=4
   .simp[zQ,h4];exact zC 0 (by simp[eV,h4])
   .simp[zQ,h2,h3,h4];exact zC 0 (by simp[eV,h2,h3,h4])
def jZ(ds:wS):wH:=ds.flatMap fun d=>if eV d.kind then aB d.body else []
theorem zOD(ds:wS)(B:Nat)(h:∀d∈ds,(tmps d.body).length<=B):(jZ ds).length<=ds.length*B:=by
 induction ds with
 |nil=>simp[jZ]
 |cons d ds ih =>
  have h1:=h d (by simp);have h2:=ih fun d hd=>h d (by simp[hd])
  have e:jZ (d::ds)=(if eV d.kind then aB d.body else [])++jZ ds:=by simp[jZ]
  rw[e,jA4,jAb,jBo];have h3:(if eV d.kind=true then aB d.body else []).length<=B:=by
   split
   .rw[zD5];exact h1
   .simp
  omega
end Go.Proofs.YtolkhapmieigcaaGreatDoor
