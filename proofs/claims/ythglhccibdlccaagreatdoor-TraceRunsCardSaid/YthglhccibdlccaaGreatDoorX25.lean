/-
  The law's example: its two calls.
-/
import Derived.Test.YthglhccibdlccaaGreatDoorX23
import Derived.Test.YthglhccibdlccaaGreatDoorX20
set_option linter.unusedVariables false
set_option linter.unusedSimpArgs false
namespace Go.Proofs.YthglhccibdlccaaGreatDoor
open Go.Abs
def zYJ:K:=G [kO 4 0,kO 5 1,kZ 8 [ki,ki,kl],kZ 9 [kl,kl],kMi 10 0] (G [J 22 4 2,J 23 5 3,kC 24 42 [(kt 22),(kt 23)],M 21 24,kE 25 21 0,kE 26 21 1,kZ 11 kz0,S 11 25 31,M 12 26] (Z (G [M 27 12,kR 28 27,M 29 28,T 29 false (J 30 11 31),T 29 false (kC 31 43 [(kt 30)]),T 29 false (kR 32 31),kPt 33 29 32] (Y 33 (G [kb 34 [ki,ki,kl] [],kb 35 [kl,kl] [],S 8 34 3,S 9 35 2,kMi 10 6] kr) ks)) (Z (G [M 36 2,kN 37 36,D 38 11 8,L 39 38 1,kN 40 39,kQ 41 37 40 true] (Y 41 (G [kb 42 [ki,ki,kl] [],kb 43 [kl,kl] [],S 8 42 3,S 9 43 2,kMi 10 1] kr) ks)) (G [kZ 13 [kl,kl]] (G [⟨none,.mop (some 44) (.mk 3) []⟩,kZ 14 [(.map none)],S 14 44 1] (G [⟨none,.clo (some 45) 44 [] [(kt 13),(kt 14)]⟩,M 15 45] (G [J 46 4 2,M 47 3,M 48 15,kb 49 [kl,kl,ki,ki,.nilFunc] [(0,2,(kt 46)),(2,1,(kt 47)),(4,1,(kt 48))],kO 50 49,M 16 50] (G [⟨none,.mop (some 51) (.mk 3) []⟩,M 17 51] (Z (G [D 52 11 8,L 53 52 1,kN 54 53,kMi 55 0] (K.block 0 (K.loop (G [kB 56 55 54 .lss] (Z (Y 56 ks (K.exit 0)) (Z (K.block 1 (G [M 57 55,kX 58 53 55 11,J 59 58 11,kZ 19 kz5,M 18 57,S 19 59 11] (Z (Z (K.dops [(0,0,J 60 4 2),(1,0,D 61 19 4),(2,0,J 62 61 5),(3,0,M 63 2),(4,0,M 64 18),(5,0,kX 65 63 64 3),(6,0,J 66 65 3),(7,0,kC 67 45 [(kt 60),(kt 62),(kt 66)]),(8,0,kR 68 67)]) (Y 68 (G [kb 69 [ki,ki,kl] [],kb 70 [kl,kl] [],S 8 69 3,S 9 70 2,kMi 10 1] kr) ks)) (K.ops [M 71 16,D 72 19 4,J 73 72 5,M 74 17,kC 75 46 [(kt 71),(kt 73),(kt 74)]])))) (K.ops [kBi 76 55 1 .add,M 55 76]))))))) (G [M 77 16,J 78 11 31,
 M 79 2,kC 80 47 [(kt 77),(kt 78),(kt 79)],kZ 20 [ki,ki,kl],S 20 80 3] (Z (G [M 81 16,kU 82 81,D 83 82 3,L 84 83 1,kQi 85 84 0 true] (Y 85 (K.ops [kb 86 [ki,ki,kl] [],S 20 86 3]) ks)) (Z (K.wk (K.wk (K.dops [(0,0,J 87 20 3),(1,0,D 88 13 0),(2,0,L 89 88 1),(3,1,kC 90 48 [(kt 89)]),(4,0,D 91 13 1),(5,0,L 92 91 1),(6,1,kC 93 48 [(kt 92)]),(7,0,kb 94 [kl,kl] [(0,1,(kt 90)),(1,1,(kt 93))]),(8,0,M 95 16),(9,0,kU 96 95),(10,2,D 97 96 3),(11,2004,L 98 97 1),(12,1004,S 8 87 3),(13,1004,S 9 94 2),(14,0,M 10 98)]))) kr))))))))))))
def zZI:Nat→Option (List (Nat×Nat)):=fun r=>match r with | 21=>some [(0,0),(1,0),(2,0),(3,1),(4,0),(5,0),(6,1),(7,0),(8,0),(9,0),(10,2),(11,2004),(12,1004),(13,1004),(14,0)] | _=>none
theorem qGs:qC Tryz.prog Tryz.f13.ntmps zZI (Tryz.f13.body.getD .skip)=some zYJ.erase:=by kernel_rfl
@[simp] theorem zWG:zA Tryz.prog 13=true:=by kernel_rfl
def zY5:Entry:=⟨zYJ,[.cell 8 3 true,.cell 9 2 true,.slot 10],false⟩
theorem zXh:jN Tryz.prog 13 zY5:=⟨zWG,_,_,zZI,Tryz.func13,rfl,qGs,by kernel_rfl⟩
def zYZ:K:=G [kO 5 1] (G [M 6 0] (Y 6 (K.ops [D 7 2 0,L 8 7 1,J 9 5 3,kd 10 29 3 1 [ki,ki,ki] [(0,3,(kt 9))],kP 11 29 3 24 8 10,D 12 2 0,S 12 11 1]) (G [L 13 3 1,J 14 5 3,⟨none,.mop (some 15) (.get 3 (.bool false) false) [(kt 13),(kt 14)]⟩,kR 16 15] (Y 16 (G [L 17 3 1,J 18 5 3,⟨none,.mop none (.set 3) [(kt 17),(kt 18),(.const (.bool true))]⟩] (K.ops [D 19 2 1,L 20 19 1,J 21 5 3,kd 22 29 3 1 [ki,ki,ki] [(0,3,(kt 21))],kP 23 29 3 24 20 22,D 24 2 1,S 24 23 1])) ks))))
theorem qGD:zL Tryz.prog Tryz.f44.ntmps (Tryz.f44.body.getD .skip)=some zYZ.erase:=by kernel_rfl
@[simp] theorem zWP:zA Tryz.prog 44=true:=by kernel_rfl
def zYD:Entry:=⟨zYZ,[],false⟩
theorem zXp:jN Tryz.prog 44 zYD:=⟨zWP,_,_,zAk,Tryz.func44,rfl,qGD,by kernel_rfl⟩
def qFc:K:=G [kO 2 0,kO 3 1,kZ 4 kz0,kMb 5 false] (G [D 7 2 1,L 8 7 1,⟨none,.clo (some 9) 90 [] [(kt 3)]⟩,kC 10 89 [(kt 8),(kt 9)],M 6 10] (Z (G [M 11 6,kBi 12 11 0 .lss] (Y 12 (G [kb 13 kz0 [],S 4 13 31,kMb 5 false] kr) ks)) (G [D 14 2 1,L 15 14 1,M 16 6,kX 17 15 16 31,J 18 17 31,S 4 18 31,kMb 5 true] kr)))
theorem qLN:zL Tryz.prog Tryz.f42.ntmps (Tryz.f42.body.getD .skip)=some qFc.erase:=by kernel_rfl
@[simp] theorem qAT:zA Tryz.prog 42=true:=by kernel_rfl
def qET:Entry:=⟨qFc,[.cell 4 31 true,.slot 5],false⟩
theorem qB2:jN Tryz.prog 42 qET:=⟨qAT,_,_,zAk,Tryz.func42,rfl,qLN,by kernel_rfl⟩
def zYT:K:=G [kMi 4 0] (Z (G [M 6 0,kN 7 6,kMi 8 0] (K.block 0 (K.loop (G [kB 9 8 7 .lss] (Z (Y 9 ks (K.exit 0)) (Z (K.block 1 (G [M 10 8,M 5 10] (G [M 11 1,M 12 0,M 13 5,kX 14 12 13 31,J 15 14 31,⟨none,.call (some 16) (kt 11) [(kt 15)]⟩] (Y 16 (G [M 17 5,M 4 17] kr) ks)))) (K.ops [kBi 18 8 1 .add,M 8 18]))))))) (G [⟨none,.mov (some 4) (kc (-1))⟩] kr))
theorem qG5:zL Tryz.prog Tryz.f89.ntmps (Tryz.f89.body.getD .skip)=some zYT.erase:=by kernel_rfl
@[simp] theorem zWN:zA Tryz.prog 89=true:=by kernel_rfl
def zYB:Entry:=⟨zYT,[.slot 4],false⟩
theorem zXn:jN Tryz.prog 89 zYB:=⟨zWN,_,_,zAk,Tryz.func89,rfl,qG5,by kernel_rfl⟩
def zYM:K:=G [kO 2 0,kMb 3 false] (G [D 4 2 0,J 5 4 3,J 6 1 3,⟨none,.eqs (some 7) false [.i,.i,.i] (kt 5) (kt 6)⟩,M 3 7] kr)
theorem qGv:zL Tryz.prog Tryz.f90.ntmps (Tryz.f90.body.getD .skip)=some zYM.erase:=by kernel_rfl
@[simp] theorem zWK:zA Tryz.prog 90=true:=by kernel_rfl
def zY8:Entry:=⟨zYM,[.slot 3],false⟩
theorem zXk:jN Tryz.prog 90 zY8:=⟨zWK,_,_,zAk,Tryz.func90,rfl,qGv,by kernel_rfl⟩
def zQB:K:=G [kO 1 0,kMb 2 false] (G [D 3 1 3,L 4 3 1,kQi 5 4 2 false,M 6 5,T 6 false (D 7 1 3),T 6 false (L 8 7 1),T 6 false (kQi 9 8 3 false),kPt 10 6 9,M 11 10,T 11 false (D 12 1 3),T 11 false (L 13 12 1),T 11 false (kQi 14 13 4 false),kPt 15 11 14,M 16 15,T 16 false (D 17 1 3),T 16 false (L 18 17 1),T 16 false (kQi 19 18 5 false),kPt 20 16 19,M 2 20] kr)
theorem zW8:zL Tryz.prog Tryz.f43.ntmps (Tryz.f43.body.getD .skip)=some zQB.erase:=by kernel_rfl
@[simp] theorem zRN:zA Tryz.prog 43=true:=by kernel_rfl
def zQ8:Entry:=⟨zQB,[.slot 2],false⟩
theorem zRZ:jN Tryz.prog 43 zQ8:=⟨zRN,_,_,zAk,Tryz.func43,rfl,zW8,by kernel_rfl⟩
def zT9:K:=G [kO 3 0,kO 4 1,kO 5 2,kMb 6 false] (G [J 7 5 3,kC 8 91 [(kt 7)],M 9 8,T 9 true (J 10 3 2),T 9 true (J 11 4 5),T 9 true (J 12 5 3),T 9 true (kC 13 92 [(kt 10),(kt 11),(kt 12)]),kPf 14 9 13,M 6 14] kr)
theorem qAN:zL Tryz.prog Tryz.f45.ntmps (Tryz.f45.body.getD .skip)=some zT9.erase:=by kernel_rfl
@[simp] theorem zUa:zA Tryz.prog 45=true:=by kernel_rfl
def zTh:Entry:=⟨zT9,[.slot 6],false⟩
theorem zUI:jN Tryz.prog 45 zTh:=⟨zUa,_,_,zAk,Tryz.func45,rfl,qAN,by kernel_rfl⟩
def zT5:K:=G [kO 1 0,kMb 2 false] (G [kZ 3 [ki],⟨none,.st none (kt 3) (kc 256) 1⟩] (G [kZ 4 [.nilFunc]] (G [⟨none,.clo (some 5) 124 [] [(kt 3),(kt 4)]⟩,S 4 5 1] (G [L 6 4 1,J 7 1 3,⟨none,.call (some 8) (kt 6) [(kt 7),(kc 1)]⟩,M 2 8] kr))))
theorem qAJ:zL Tryz.prog Tryz.f91.ntmps (Tryz.f91.body.getD .skip)=some zT5.erase:=by kernel_rfl
@[simp] theorem zTY:zA Tryz.prog 91=true:=by kernel_rfl
def zTf:Entry:=⟨zT5,[.slot 2],false⟩
theorem zUG:jN Tryz.prog 91 zTf:=⟨zTY,_,_,zAk,Tryz.func91,rfl,qAJ,by kernel_rfl⟩
def zQI:K:=G [kO 4 0,kO 5 1,kMb 6 false] (G [L 7 2 1,kBi 8 7 1 .sub,S 2 8 1] (G [L 9 2 1,kBi 10 9 0 .geq,M 11 10,T 11 true (L 12 5 1),T 11 true (kBi 13 12 24 .leq),kPf 14 11 13,M 15 14,T 15 true (D 16 4 2),T 15 true (L 17 16 1),⟨some (15,true),.clo (some 18) 126 [] [(kt 3),(kt 5)]⟩,T 15 true (kC 19 125 [(kt 17),(kt 18)]),T 15 true (kR 20 19),kPf 21 15 20,M 6 21] kr))
theorem zWE:zL Tryz.prog Tryz.f124.ntmps (Tryz.f124.body.getD .skip)=some zQI.erase:=by kernel_rfl
@[simp] theorem zRP:zA Tryz.prog 124=true:=by kernel_rfl
def zQA:Entry:=⟨zQI,[.slot 6],false⟩
theorem zSb:jN Tryz.prog 124 zQA:=⟨zRP,_,_,zAk,Tryz.func124,rfl,zWE,by kernel_rfl⟩
def zYK:K:=G [kMb 4 false] (G [M 5 0,M 6 1,kC 7 143 [(kt 5),(kt 6)],kBi 8 7 0 .geq,M 4 8] kr)
theorem qGt:zL Tryz.prog Tryz.f125.ntmps (Tryz.f125.body.getD .skip)=some zYK.erase:=by kernel_rfl
@[simp] theorem zWI:zA Tryz.prog 125=true:=by kernel_rfl
def zY6:Entry:=⟨zYK,[.slot 4],false⟩
theorem zXi:jN Tryz.prog 125 zY6:=⟨zWI,_,_,zAk,Tryz.func125,rfl,qGt,by kernel_rfl⟩
def zYU:K:=G [kMi 4 0] (Z (G [M 6 0,kN 7 6,kMi 8 0] (K.block 0 (K.loop (G [kB 9 8 7 .lss] (Z (Y 9 ks (K.exit 0)) (Z (K.block 1 (G [M 10 8,M 5 10] (G [M 11 1,M 12 0,M 13 5,kX 14 12 13 3,J 15 14 3,⟨none,.call (some 16) (kt 11) [(kt 15)]⟩] (Y 16 (G [M 17 5,M 4 17] kr) ks)))) (K.ops [kBi 18 8 1 .add,M 8 18]))))))) (G [⟨none,.mov (some 4) (kc (-1))⟩] kr))
theorem qG6:zL Tryz.prog Tryz.f143.ntmps (Tryz.f143.body.getD .skip)=some zYU.erase:=by kernel_rfl
@[simp] theorem zWO:zA Tryz.prog 143=true:=by kernel_rfl
def zYC:Entry:=⟨zYU,[.slot 4],false⟩
theorem zXo:jN Tryz.prog 143 zYC:=⟨zWO,_,_,zAk,Tryz.func143,rfl,qG6,by kernel_rfl⟩
def zNs:K:=G [kO 3 0,kMb 4 false] (G [L 5 1 1,J 6 3 3,L 7 2 1,kBi 8 7 1 .add,⟨none,.call (some 9) (kt 5) [(kt 6),(kt 8)]⟩,kR 10 9,M 4 10] kr)
theorem zTP:zL Tryz.prog Tryz.f126.ntmps (Tryz.f126.body.getD .skip)=some zNs.erase:=by kernel_rfl
@[simp] theorem zPr:zA Tryz.prog 126=true:=by kernel_rfl
def zNp:Entry:=⟨zNs,[.slot 4],false⟩
theorem zP7:jN Tryz.prog 126 zNp:=⟨zPr,_,_,zAk,Tryz.func126,rfl,zTP,by kernel_rfl⟩
def zYR:K:=G [kO 3 0,kO 4 1,kO 5 2,kMb 6 false] (Z (G [J 11 3 2,J 12 4 5,kC 13 127 [(kt 11),(kt 12)],kR 14 13] (Y 14 (G [kMb 6 false] kr) ks)) (Z (G [D 15 4 0,L 16 15 1] (K.block 0 (G [kQi 18 16 0 false,M 17 18] (Y 17 (G [D 19 5 0,L 20 19 1,kQi 21 20 0 false,M 22 21,T 22 true (D 23 5 2),T 22 true (L 24 23 1),T 22 true (kN 25 24),T 22 true (kQi 26 25 0 false),kPf 27 22 26,M 28 27,T 28 true (D 29 5 1),T 28 true (L 30 29 1),⟨some (28,true),.bin (some 31) .geq (kt 30) (kc (-1099511627776))⟩,kPf 32 28 31,M 33 32,T 33 true (D 34 5 1),T 33 true (L 35 34 1),T 33 true (kBi 36 35 1099511627776 .leq),kPf 37 33 36,M 6 37] kr) (G [kQi 39 16 1 false,M 38 39] (Y 38 (G [D 40 5 0,L 41 40 1,kQi 42 41 1 false,M 43 42,T 43 true (D 44 5 2),T 43 true (L 45 44 1),T 43 true (kN 46 45),T 43 true (kQi 47 46 0 false),kPf 48 43 47,M 49 48,T 49 true (D 50 5 1),T 49 true (L 51 50 1),T 49 true (kQi 52 51 0 false),T 49 true (M 53 52),T 53 false (D 54 5 1),T 53 false (L 55 54 1),T 53 false (kQi 56 55 1 false),T 49 true (kPt 57 53 56),kPf 58 49 57,M 6 58] kr) (G [kQi 60 16 2 false,M 59 60] (Y 59 (G [D 61 5 0,L 62 61 1,kQi 63 62 4 false,M 64 63,T 64 true (D 65 5 1),T 64 true (L 66 65 1),T 64 true (kQi 67 66 0 false),kPf 68 64 67,M 69 68,T 69 true (D 70 5 2),T 69 true (L 71 70 1),⟨some (69,true),.clo (some 72) 128 [] [(kt 3),(kt 4)]⟩,T 69 true (kC 73 125 [(kt 71),(kt 72)]),T 69 true (kR 74 73),kPf 75 69 74,M 6 75] kr) ks)))))))) (G [J 77 3 2,D 78 4 1,J 79 78 3,kC 80 42 [(kt 77),(kt 79)],
 M 76 80,kE 81 76 0,kE 82 76 1,kZ 7 kz0,S 7 81 31,M 8 82] (Z (G [D 83 7 3,L 84 83 1,kQi 85 84 1 false] (Y 85 (Z (K.dops [(0,0,D 86 5 0),(1,0,L 87 86 1),(2,0,kQi 88 87 3 false),(3,0,M 89 88),(4,0,T 89 true (D 90 5 1)),(5,0,T 89 true (L 91 90 1)),(6,0,T 89 true (kBi 92 91 0 .geq)),(7,0,kPf 93 89 92),(8,0,M 94 93),(9,0,T 94 true (D 95 5 1)),(10,0,T 94 true (L 96 95 1)),(11,0,T 94 true (D 97 7 8)),(12,0,T 94 true (L 98 97 1)),(13,0,T 94 true (kN 99 98)),(14,0,T 94 true (kB 100 96 99 .lss)),(15,0,kPf 101 94 100),(16,0,M 102 101),(17,0,T 102 true (D 103 5 2)),(18,0,T 102 true (L 104 103 1)),(19,0,T 102 true (kN 105 104)),(20,0,T 102 true (kQi 106 105 1 false)),(21,0,kPf 107 102 106),(22,0,M 108 107),(23,0,T 108 true (J 109 3 2)),(24,0,T 108 true (D 110 7 8)),(25,0,T 108 true (L 111 110 1)),(26,0,T 108 true (D 112 5 1)),(27,0,T 108 true (L 113 112 1)),(28,0,T 108 true (kX 114 111 113 11)),(29,0,T 108 true (D 115 114 4)),(30,0,T 108 true (J 116 115 5)),(31,0,T 108 true (D 117 5 2)),(32,0,T 108 true (L 118 117 1)),(33,0,T 108 true (kXi 119 118 3 0)),(34,0,T 108 true (J 120 119 3)),(35,0,T 108 true (kC 121 92 [(kt 109),(kt 116),(kt 120)])),(36,0,kPf 122 108 121),(37,0,M 6 122)]) kr) ks)) (Z (G [D 123 5 0,L 124 123 1,kQi 125 124 2 true,M 126 125,T 126 false (D 127 5 1),T 126 false (L 128 127 1),T 126 false (kQi 129 128 0 true),kPt 130 126 129,M 131 130,T 131 false (D 132 5 2),T 131 false (L 133 132 1),T 131 false (kN 134 133),T 131 false (D 135 7 8),T 131 false (L 136 135 1),
 T 131 false (kN 137 136),T 131 false (kQ 138 134 137 true),kPt 139 131 138] (Y 139 (G [kMb 6 false] kr) ks)) (Z (G [D 140 5 2,L 141 140 1,kN 142 141,kMi 143 0] (K.block 1 (K.loop (G [kB 144 143 142 .lss] (Z (Y 144 ks (K.exit 1)) (Z (K.block 2 (G [M 145 143,kX 146 141 143 3,J 147 146 3,kZ 10 [ki,ki,kl],M 9 145,S 10 147 3] (Z (K.dops [(0,0,J 148 3 2),(1,0,D 149 7 8),(2,0,L 150 149 1),(3,0,M 151 9),(4,0,kX 152 150 151 11),(5,0,D 153 152 4),(6,0,J 154 153 5),(7,0,J 155 10 3),(8,0,kC 156 92 [(kt 148),(kt 154),(kt 155)]),(9,0,kR 157 156)]) (Y 157 (G [kMb 6 false] kr) ks)))) (K.ops [kBi 158 143 1 .add,M 143 158]))))))) (G [kMb 6 true] kr)))))))
theorem qG3:zL Tryz.prog Tryz.f92.ntmps (Tryz.f92.body.getD .skip)=some zYR.erase:=by kernel_rfl
@[simp] theorem zWM:zA Tryz.prog 92=true:=by kernel_rfl
def zYA:Entry:=⟨zYR,[.slot 6],false⟩
theorem zXm:jN Tryz.prog 92 zYA:=⟨zWM,_,_,zAk,Tryz.func92,rfl,qG3,by kernel_rfl⟩
def zTn:K:=G [kO 3 0,kMb 4 false] (Z (K.dops [(0,0,J 5 1 2),(1,0,D 6 2 4),(2,0,L 7 6 1),(3,0,kXi 8 7 5 0),(4,0,J 9 8 5),(5,0,J 10 3 3),(6,0,kC 11 92 [(kt 5),(kt 9),(kt 10)]),(7,0,kR 12 11),(8,0,M 4 12)]) kr)
theorem qAE:zL Tryz.prog Tryz.f128.ntmps (Tryz.f128.body.getD .skip)=some zTn.erase:=by kernel_rfl
@[simp] theorem zTT:zA Tryz.prog 128=true:=by kernel_rfl
def zTb:Entry:=⟨zTn,[.slot 4],false⟩
theorem zUC:jN Tryz.prog 128 zTb:=⟨zTT,_,_,zAk,Tryz.func128,rfl,qAE,by kernel_rfl⟩
def zZl:K:=G [kO 2 0,kO 3 1,kMb 4 false] (Z (G [kMi 5 1] (K.block 0 (K.loop (Z (G [M 8 5,kBi 9 8 24 .leq] (Y 9 ks (K.exit 0))) (Z (K.block 1 (G [D 12 3 0,L 13 12 1] (K.block 2 (Z (G [kQi 15 13 0 false,M 14 15] (Y 14 ks (K.ops [kQi 16 13 1 false,M 14 16]))) (Y 14 (G [D 17 3 1,J 18 17 3,kb 19 [ki,ki,ki] [],⟨none,.eqs (some 20) false [.i,.i,.i] (kt 18) (kt 19)⟩,M 21 20,T 21 true (D 22 3 4),T 21 true (L 23 22 1),T 21 true (kN 24 23),T 21 true (kQi 25 24 0 false),kPf 26 21 25,M 4 26] kr) (G [kQi 28 13 3 false,M 27 28] (Y 27 (G [J 30 2 2,D 31 3 1,J 32 31 3,kC 33 42 [(kt 30),(kt 32)],M 29 33,kE 34 29 0,kE 35 29 1,kZ 6 kz0,S 6 34 31,M 7 35] (G [M 36 7,M 37 36,T 37 true (D 38 6 3),T 37 true (L 39 38 1),T 37 true (kQi 40 39 0 false),T 37 true (M 41 40),T 41 false (D 42 6 3),T 41 false (L 43 42 1),T 41 false (kQi 44 43 1 false),T 37 true (kPt 45 41 44),kPf 46 37 45,M 47 46,T 47 true (D 48 3 4),T 47 true (L 49 48 1),T 47 true (kN 50 49),T 47 true (kQi 51 50 0 false),kPf 52 47 51,M 4 52] kr)) (G [kQi 54 13 2 false,M 53 54] (Y 53 (Z (G [D 55 3 1,J 56 55 3,kb 57 [ki,ki,ki] [],⟨none,.eqs (some 58) true [.i,.i,.i] (kt 56) (kt 57)⟩,M 59 58,T 59 false (D 60 3 4),T 59 false (L 61 60 1),T 59 false (kN 62 61),T 59 false (kQi 63 62 1 true),kPt 64 59 63] (Y 64 (G [kMb 4 false] kr) ks)) (K.ops [D 65 3 4,L 66 65 1,kXi 67 66 5 0,J 68 67 5,S 3 68 5])) (G [kMb 4 false] kr)))))))))) (K.ops [M 10 5,kBi 11 10 1 .add,M 5 11])))))) (G [kMb 4 false] kr))
theorem qGQ:zL Tryz.prog Tryz.f127.ntmps (Tryz.f127.body.getD .skip)=some zZl.erase:=by kernel_rfl
@[simp] theorem zWS:zA Tryz.prog 127=true:=by kernel_rfl
def zYF:Entry:=⟨zZl,[.slot 4],false⟩
theorem zXr:jN Tryz.prog 127 zYF:=⟨zWS,_,_,zAk,Tryz.func127,rfl,qGQ,by kernel_rfl⟩
def zT2:K:=G [kO 4 1] (Z (G [D 12 4 4,L 13 12 1,kN 14 13,kMi 15 0] (K.block 0 (K.loop (G [kB 16 15 14 .lss] (Z (Y 16 ks (K.exit 0)) (Z (K.block 1 (G [kX 17 13 15 5,J 18 17 5,kZ 7 kz2,S 7 18 5] (K.ops [M 19 0,J 20 7 5,M 21 2,kC 22 46 [(kt 19),(kt 20),(kt 21)]]))) (K.ops [kBi 23 15 1 .add,M 15 23]))))))) (Z (G [D 24 4 0,L 25 24 1,kQi 26 25 3 true,M 27 26,T 27 false (M 28 2),T 27 false (D 29 4 1),T 27 false (J 30 29 3),⟨some (27,false),.mop (some 31) (.get 3 (.bool false) false) [(kt 28),(kt 30)]⟩,kPt 32 27 31] (Y 32 kr ks)) (G [M 33 2,D 34 4 1,J 35 34 3,⟨none,.mop none (.set 3) [(kt 33),(kt 35),(.const (.bool true))]⟩] (Z (K.dops [(0,0,M 37 0),(1,0,kU 38 37),(2,1,D 39 38 0),(3,1,J 40 39 2),(4,1,D 41 4 1),(5,1,J 42 41 3),(6,1,kC 43 42 [(kt 40),(kt 42)]),(7,0,M 36 43),(8,0,kE 44 36 0),(9,0,kE 45 36 1),(10,0,kZ 8 kz0),(11,0,S 8 44 31),(12,0,M 9 45)]) (G [M 46 9] (Y 46 (Z (K.dops [(0,0,M 47 0),(1,0,kU 48 47),(2,0,D 49 48 4),(3,0,L 50 49 1),(4,0,D 51 8 0),(5,0,J 52 51 3),(6,4,⟨none,.call (some 53) (kt 50) [(.const (.bool true)),(kt 52)]⟩)]) (G [D 54 8 8,L 55 54 1,kN 56 55,kMi 57 0] (K.block 2 (K.loop (G [kB 58 57 56 .lss] (Z (Y 58 ks (K.exit 2)) (Z (K.block 3 (G [kX 59 55 57 11,J 60 59 11,kZ 11 kz5,S 11 60 11] (K.ops [M 61 0,D 62 11 4,J 63 62 5,M 64 2,kC 65 46 [(kt 61),(kt 63),(kt 64)]]))) (K.ops [kBi 66 57 1 .add,M 57 66])))))))) ks))))))
def zVh:Nat→Option (List (Nat×Nat)):=fun r=>match r with | 10=>some [(0,0),(1,0),(2,0),(3,0),(4,0),(5,0),(6,4)] | _=>none
theorem qAG:qC Tryz.prog Tryz.f46.ntmps zVh (Tryz.f46.body.getD .skip)=some zT2.erase:=by kernel_rfl
@[simp] theorem zTV:zA Tryz.prog 46=true:=by kernel_rfl
def zTd:Entry:=⟨zT2,[],false⟩
theorem zUE:jN Tryz.prog 46 zTd:=⟨zTV,_,_,zVh,Tryz.func46,rfl,qAG,by kernel_rfl⟩
def zYI:K:=G [kO 4 1,kZ 6 [ki,ki,kl]] (Z (G [M 10 0,kU 11 10,D 12 11 3,L 13 12 1,kQi 14 13 0 true] (Y 14 (G [kb 15 [ki,ki,kl] [],S 6 15 3] kr) ks)) (Z (K.dops [(0,0,M 16 0),(1,0,kU 17 16),(2,0,D 18 17 4),(3,0,L 19 18 1),(4,0,D 20 4 0),(5,0,J 21 20 3),(6,4,⟨none,.call (some 22) (kt 19) [(.const (.bool true)),(kt 21)]⟩)]) (G [⟨none,.mop (some 23) (.mk 4) []⟩,M 7 23] (Z (G [D 24 4 8,L 25 24 1,kN 26 25,kMi 27 0] (K.block 0 (K.loop (G [kB 28 27 26 .lss] (Z (Y 28 ks (K.exit 0)) (Z (K.block 1 (G [M 29 27,kX 30 25 27 11,J 31 30 11,kZ 9 kz5,M 8 29,S 9 31 11] (K.dops [(0,0,M 32 7),(1,0,D 33 9 0),(2,0,J 34 33 3),(3,0,kb 35 zGv [(0,3,(kt 34)),(3,1,(kc 0))]),(4,0,M 36 2),(5,0,M 37 8),(6,0,kX 38 36 37 3),(7,0,J 39 38 3),(8,0,⟨none,.mop none (.set 4) [(kt 32),(kt 35),(kt 39)]⟩)]))) (K.ops [kBi 40 27 1 .add,M 27 40]))))))) (G [M 41 0,D 42 4 14,J 43 42 15,M 44 7,kC 45 93 [(kt 41),(kt 43),(kt 44)],S 6 45 3] kr)))))
def zZH:Nat→Option (List (Nat×Nat)):=fun r=>match r with | 3=>some [(0,0),(1,0),(2,0),(3,0),(4,0),(5,0),(6,4)] | _=>none
theorem qGr:qC Tryz.prog Tryz.f47.ntmps zZH (Tryz.f47.body.getD .skip)=some zYI.erase:=by kernel_rfl
@[simp] theorem zWF:zA Tryz.prog 47=true:=by kernel_rfl
def zY4:Entry:=⟨zYI,[.cell 6 3 true],true⟩
theorem zXg:jN Tryz.prog 47 zY4:=⟨zWF,_,_,zZH,Tryz.func47,rfl,qGr,by kernel_rfl⟩
def zYQ:K:=G [kO 4 1,kZ 6 [ki,ki,kl]] (Z (G [M 8 0,kU 9 8,D 10 9 3,L 11 10 1,kQi 12 11 0 true] (Y 12 (G [kb 13 [ki,ki,kl] [],S 6 13 3] kr) ks)) (Z (G [M 14 0,kU 15 14,D 16 15 2,L 17 16 1,kBi 18 17 0 .leq] (Y 18 (G [M 19 0,kU 20 19,D 21 20 3,⟨none,.st none (kt 21) (kc 18) 1⟩] (G [kb 22 [ki,ki,kl] [],S 6 22 3] kr)) ks)) (G [M 23 0,kU 24 23,D 25 24 2,L 26 25 1,kBi 27 26 1 .sub,kU 28 23,D 29 28 2,S 29 27 1] (Z (K.dops [(0,0,M 30 0),(1,0,kU 31 30),(2,0,D 32 31 4),(3,0,L 33 32 1),(4,0,D 34 4 0),(5,0,J 35 34 3),(6,4,⟨none,.call (some 36) (kt 33) [(.const (.bool false)),(kt 35)]⟩)]) (G [M 37 0,J 38 4 15,M 39 2,kC 40 129 [(kt 37),(kt 38),(kt 39)],kZ 7 [ki,ki,kl],S 7 40 3] (Z (G [M 41 0,kU 42 41,D 43 42 3,L 44 43 1,kQi 45 44 0 false,M 46 45,T 46 true (J 47 7 3),T 46 true (kC 48 130 [(kt 47)]),T 46 true (kBi 49 48 256 .gtr),T 46 true (M 50 49),T 50 false (J 51 7 3),T 50 false (kC 52 131 [(kt 51)]),T 50 false (kBi 53 52 24 .gtr),T 46 true (kPt 54 50 53),kPf 55 46 54] (Y 55 (K.ops [M 56 0,kU 57 56,D 58 57 3,⟨none,.st none (kt 58) (kc 4) 1⟩]) ks)) (G [J 59 7 3,S 6 59 3] kr)))))))
def zZJ:Nat→Option (List (Nat×Nat)):=fun r=>match r with | 7=>some [(0,0),(1,0),(2,0),(3,0),(4,0),(5,0),(6,4)] | _=>none
theorem qG2:qC Tryz.prog Tryz.f93.ntmps zZJ (Tryz.f93.body.getD .skip)=some zYQ.erase:=by kernel_rfl
@[simp] theorem zWL:zA Tryz.prog 93=true:=by kernel_rfl
def zY9:Entry:=⟨zYQ,[.cell 6 3 true],true⟩
theorem zXl:jN Tryz.prog 93 zY9:=⟨zWL,_,_,zZJ,Tryz.func93,rfl,qG2,by kernel_rfl⟩
def zTA:K:=G [kO 4 1,kZ 6 [ki,ki,kl]] (Z (G [D 12 4 3,L 13 12 1] (K.block 0 (G [kQi 15 13 0 false,M 14 15] (Y 14 (G [D 16 4 4,L 17 16 1,kb 18 [ki,ki,kl] [(0,1,(kc 0)),(1,1,(kt 17))],S 6 18 3] kr) (G [kQi 20 13 1 false,M 19 20] (Y 19 (G [D 21 4 4,L 22 21 1,kb 23 [ki,ki,kl] [(0,1,(kc 1)),(1,1,(kt 22))],S 6 23 3] kr) (G [kQi 25 13 2 false,M 24 25] (Y 24 (G [M 26 2,D 27 4 5,J 28 27 3,D 29 4 4,L 30 29 1,kb 31 zGv [(0,3,(kt 28)),(3,1,(kt 30))],⟨none,.mop (some 32) (.get 4 (.agg #[ki,ki,kl]) false) [(kt 26),(kt 31)]⟩,S 6 32 3] kr) (Z (G [kQi 34 13 5 false,M 33 34] (Y 33 ks (G [kQi 35 13 6 false,M 33 35] (Y 33 ks (G [kQi 36 13 8 false,M 33 36] (Y 33 ks (G [kQi 37 13 10 false,M 33 37] (Y 33 ks (K.ops [kQi 38 13 12 false,M 33 38]))))))))) (Y 33 (G [M 39 0,J 40 4 15,M 41 2,kC 42 144 [(kt 39),(kt 40),(kt 41)],S 6 42 3] kr) ks)))))))))) (G [kMn 7] (Z (G [D 43 4 13,L 44 43 1,kN 45 44,kMi 46 0] (K.block 1 (K.loop (G [kB 47 46 45 .lss] (Z (Y 47 ks (K.exit 1)) (Z (K.block 2 (G [kX 48 44 46 15,J 49 48 15,kZ 9 kz1,S 9 49 15] (K.ops [M 50 7,M 51 0,J 52 9 15,M 53 2,kC 54 93 [(kt 51),(kt 52),(kt 53)],kd 55 47 3 1 [ki,ki,kl] [(0,3,(kt 54))],kP 56 47 3 40 50 55,M 7 56]))) (K.ops [kBi 57 46 1 .add,M 46 57]))))))) (Z (Z (K.wk (K.wk (K.ops [M 58 0,kU 59 58,D 60 59 3,L 61 60 1,kQi 62 61 0 true]))) (Y 62 (G [kb 63 [ki,ki,kl] [],S 6 63 3] kr) ks)) (Z (G [D 64 4 3,L 65 64 1] (K.block 3 (G [kQi 67 65 3 false,M 66 67] (Y 66 (Z (K.dops [(0,0,M 69 0),(1,0,kU 70 69),(2,1,D 71 70 0),(3,1,J 72 71 2),(4,1,D 73 4 5),(5,1,
 J 74 73 3),(6,1,kC 75 42 [(kt 72),(kt 74)]),(7,0,M 68 75),(8,0,kE 76 68 0),(9,0,kE 77 68 1),(10,0,kZ 10 kz0),(11,0,S 10 76 31),(12,0,M 11 77)]) (G [M 78 0,J 79 10 31,M 80 7,kC 81 47 [(kt 78),(kt 79),(kt 80)],S 6 81 3] kr)) (G [kQi 83 65 4 false,M 82 83] (Y 82 (G [D 84 4 4,L 85 84 1,M 86 7,kC 87 145 [(kt 85),(kt 86)],S 6 87 3] kr) (G [kQi 89 65 7 false,M 88 89] (Y 88 (G [M 90 7,kb 91 [ki,ki,kl] [(0,1,(kc 2)),(2,1,(kt 90))],S 6 91 3] kr) (G [kQi 93 65 9 false,M 92 93] (Y 92 (G [D 94 4 4,L 95 94 1,M 96 7,kb 97 [ki,ki,kl] [(0,1,(kc 3)),(1,1,(kt 95)),(2,1,(kt 96))],S 6 97 3] kr) ks)))))))))) (G [M 98 7,kb 99 [ki,ki,kl] [(0,1,(kc 4)),(2,1,(kt 98))],S 6 99 3] kr))))))
theorem qAO:zL Tryz.prog Tryz.f129.ntmps (Tryz.f129.body.getD .skip)=some zTA.erase:=by kernel_rfl
@[simp] theorem zUb:zA Tryz.prog 129=true:=by kernel_rfl
def zTi:Entry:=⟨zTA,[.cell 6 3 true],true⟩
theorem zUJ:jN Tryz.prog 129 zTi:=⟨zUb,_,_,zAk,Tryz.func129,rfl,qAO,by kernel_rfl⟩
def zQC:K:=G [kO 4 1,kZ 6 [ki,ki,kl]] (G [M 13 0,D 14 4 13,L 15 14 1,kXi 16 15 15 0,J 17 16 15,M 18 2,kC 19 93 [(kt 13),(kt 17),(kt 18)],kZ 7 [ki,ki,kl],S 7 19 3] (Z (G [M 20 0,kU 21 20,D 22 21 3,L 23 22 1,kQi 24 23 0 true] (Y 24 (G [kb 25 [ki,ki,kl] [],S 6 25 3] kr) ks)) (Z (G [D 26 4 3,L 27 26 1] (K.block 0 (G [kQi 29 27 5 false,M 28 29] (Y 28 (Z (G [D 30 7 1,L 31 30 1,kQi 32 31 1 false] (Y 32 (G [M 33 0,D 34 4 13,L 35 34 1,kXi 36 35 15 1,J 37 36 15,M 38 2,kC 39 93 [(kt 33),(kt 37),(kt 38)],S 6 39 3] kr) ks)) (G [M 40 0,D 41 4 13,L 42 41 1,kXi 43 42 15 2,J 44 43 15,M 45 2,kC 46 93 [(kt 40),(kt 44),(kt 45)],S 6 46 3] kr)) (G [kQi 48 27 6 false,M 47 48] (Y 47 (Z (K.dops [(0,0,M 49 0),(1,0,D 50 4 13),(2,0,L 51 50 1),(3,0,kXi 52 51 15 1),(4,0,J 53 52 15),(5,0,M 54 2),(6,0,D 55 4 0),(7,0,J 56 55 3),(8,0,kb 57 zGv [(0,3,(kt 56)),(3,1,(kc 0))]),(9,0,J 58 7 3),(10,4,kC 59 166 [(kt 49),(kt 53),(kt 54),(kt 57),(kt 58)]),(11,0,S 6 59 3)]) kr) (G [kQi 61 27 8 false,M 60 61] (Y 60 (G [D 62 7 2,L 63 62 1,D 64 4 4,L 65 64 1,kX 66 63 65 3,J 67 66 3,S 6 67 3] kr) (G [kQi 69 27 10 false,M 68 69] (Y 68 (Z (K.dops [(0,0,M 70 0),(1,0,D 71 4 13),(2,0,L 72 71 1),(3,0,D 73 7 1),(4,0,L 74 73 1),(5,0,⟨none,.bin (some 75) .add (kc 1) (kt 74)⟩),(6,0,kX 76 72 75 15),(7,0,J 77 76 15),(8,0,M 78 2),(9,0,D 79 4 0),(10,0,J 80 79 3),(11,0,D 81 7 1),(12,0,L 82 81 1),(13,0,kb 83 zGv [(0,3,(kt 80)),(3,1,(kt 82))]),(14,0,D 84 7 2),(15,0,L 85 84 1),(16,0,kXi 86 85 3 0),(17,0,
 J 87 86 3),(18,4,kC 88 166 [(kt 70),(kt 77),(kt 78),(kt 83),(kt 87)]),(19,0,S 6 88 3)]) kr) ks)))))))))) (G [M 89 0,D 90 4 13,L 91 90 1,kXi 92 91 15 1,J 93 92 15,M 94 2,kC 95 93 [(kt 89),(kt 93),(kt 94)],kZ 8 [ki,ki,kl],S 8 95 3] (Z (G [D 96 7 2,L 97 96 1,kN 98 97,kMi 99 0] (K.block 1 (K.loop (G [kB 100 99 98 .lss] (Z (Y 100 ks (K.exit 1)) (Z (K.block 2 (G [kX 101 97 99 3,J 102 101 3,kZ 10 [ki,ki,kl],S 10 102 3] (G [J 103 8 3,kZ 11 [ki,ki,kl],S 11 103 3] (G [D 104 4 0,J 105 104 3,kb 106 zGv [(0,3,(kt 105)),(3,1,(kc 0))],kZ 12 zGv,S 12 106 4] (G [M 107 2,J 108 12 4,J 109 10 3,⟨none,.mop none (.set 4) [(kt 107),(kt 108),(kt 109)]⟩] (Z (K.dops [(0,0,M 110 0),(1,0,D 111 4 13),(2,0,L 112 111 1),(3,0,kXi 113 112 15 2),(4,0,J 114 113 15),(5,0,M 115 2),(6,0,D 116 4 0),(7,0,J 117 116 3),(8,0,kb 118 zGv [(0,3,(kt 117)),(3,1,(kc 1))]),(9,0,J 119 11 3),(10,4,kC 120 166 [(kt 110),(kt 114),(kt 115),(kt 118),(kt 119)]),(11,0,S 8 120 3)]) (K.ops [M 121 2,J 122 12 4,⟨none,.mop none (.del 4) [(kt 121),(kt 122)]⟩]))))))) (K.ops [kBi 123 99 1 .add,M 99 123]))))))) (G [J 124 8 3,S 6 124 3] kr))))))
def zRd:Nat→Option (List (Nat×Nat)):=fun r=>match r with | 10=>some [(0,0),(1,0),(2,0),(3,0),(4,0),(5,0),(6,0),(7,0),(8,0),(9,0),(10,4),(11,0)] | 14=>some [(0,0),(1,0),(2,0),(3,0),(4,0),(5,0),(6,0),(7,0),(8,0),(9,0),(10,0),(11,0),(12,0),(13,0),(14,0),(15,0),(16,0),(17,0),(18,4),(19,0)] | 22=>some [(0,0),(1,0),(2,0),(3,0),(4,0),(5,0),(6,0),(7,0),(8,0),(9,0),(10,4),(11,0)] | _=>none
theorem zW9:qC Tryz.prog Tryz.f144.ntmps zRd (Tryz.f144.body.getD .skip)=some zQC.erase:=by kernel_rfl
@[simp] theorem zRO:zA Tryz.prog 144=true:=by kernel_rfl
def zQ9:Entry:=⟨zQC,[.cell 6 3 true],true⟩
theorem zSa:jN Tryz.prog 144 zQ9:=⟨zRO,_,_,zRd,Tryz.func144,rfl,zW9,by kernel_rfl⟩
def zZn:K:=G [kO 6 1,kO 8 3,kO 9 4,kZ 10 [ki,ki,kl]] (G [M 15 2,J 16 8 4,⟨none,.mop (some 17) (.get 4 (.agg #[ki,ki,kl]) true) [(kt 15),(kt 16)]⟩,M 14 17,kE 18 14 0,kE 19 14 1,kZ 11 [ki,ki,kl],S 11 18 3,M 12 19] (G [M 20 2,J 21 8 4,J 22 9 3,⟨none,.mop none (.set 4) [(kt 20),(kt 21),(kt 22)]⟩] (G [M 23 0,J 24 6 15,M 25 2,kC 26 93 [(kt 23),(kt 24),(kt 25)],kZ 13 [ki,ki,kl],S 13 26 3] (G [M 27 2,J 28 8 4,⟨none,.mop none (.del 4) [(kt 27),(kt 28)]⟩] (Z (G [M 29 12] (Y 29 (K.ops [M 30 2,J 31 8 4,J 32 11 3,⟨none,.mop none (.set 4) [(kt 30),(kt 31),(kt 32)]⟩]) ks)) (G [J 33 13 3,S 10 33 3] kr))))))
theorem qGS:zL Tryz.prog Tryz.f166.ntmps (Tryz.f166.body.getD .skip)=some zZn.erase:=by kernel_rfl
@[simp] theorem zWT:zA Tryz.prog 166=true:=by kernel_rfl
def zYG:Entry:=⟨zZn,[.cell 10 3 true],true⟩
theorem zXs:jN Tryz.prog 166 zYG:=⟨zWT,_,_,zAk,Tryz.func166,rfl,qGS,by kernel_rfl⟩
def zZe:K:=G [kO 1 0,kMi 2 0] (G [kMi 3 1] (Z (G [D 6 1 2,L 7 6 1,kN 8 7,kMi 9 0] (K.block 0 (K.loop (G [kB 10 9 8 .lss] (Z (Y 10 ks (K.exit 0)) (Z (K.block 1 (G [kX 11 7 9 3,J 12 11 3,kZ 5 [ki,ki,kl],S 5 12 3] (K.ops [M 13 3,J 14 5 3,kC 15 130 [(kt 14)],kB 16 13 15 .add,M 3 16]))) (K.ops [kBi 17 9 1 .add,M 9 17]))))))) (G [M 18 3,M 2 18] kr)))
theorem qGH:zL Tryz.prog Tryz.f130.ntmps (Tryz.f130.body.getD .skip)=some zZe.erase:=by kernel_rfl
@[simp] theorem zWR:zA Tryz.prog 130=true:=by kernel_rfl
def zYE:Entry:=⟨zZe,[.slot 2],false⟩
theorem zXq:jN Tryz.prog 130 zYE:=⟨zWR,_,_,zAk,Tryz.func130,rfl,qGH,by kernel_rfl⟩
def zYL:K:=G [kO 1 0,kMi 2 0] (G [kMi 3 0] (Z (G [D 6 1 2,L 7 6 1,kN 8 7,kMi 9 0] (K.block 0 (K.loop (G [kB 10 9 8 .lss] (Z (Y 10 ks (K.exit 0)) (Z (K.block 1 (G [kX 11 7 9 3,J 12 11 3,kZ 5 [ki,ki,kl],S 5 12 3] (K.ops [M 13 3,J 14 5 3,kC 15 131 [(kt 14)],⟨none,.mm (some 16) true [(kt 13),(kt 15)]⟩,M 3 16]))) (K.ops [kBi 17 9 1 .add,M 9 17]))))))) (G [M 18 3,kBi 19 18 1 .add,M 2 19] kr)))
theorem qGu:zL Tryz.prog Tryz.f131.ntmps (Tryz.f131.body.getD .skip)=some zYL.erase:=by kernel_rfl
@[simp] theorem zWJ:zA Tryz.prog 131=true:=by kernel_rfl
def zY7:Entry:=⟨zYL,[.slot 2],false⟩
theorem zXj:jN Tryz.prog 131 zY7:=⟨zWJ,_,_,zAk,Tryz.func131,rfl,qGu,by kernel_rfl⟩
def qFz:K:=G [kZ 4 [ki,ki,kl]] (Z (G [M 7 0,kBi 8 7 0 .geq,M 9 8,T 9 true (M 10 0),T 9 true (kBi 11 10 5 .lss),kPf 12 9 11,M 13 12,T 13 true (M 14 1),T 13 true (kN 15 14),T 13 true (kQi 16 15 2 false),kPf 17 13 16] (Y 17 (Z (K.dops [(0,0,M 18 0),(1,0,⟨none,.idxarr (some 19) (.global 0) (kt 18) 5 1⟩),(2,0,L 20 19 1),(3,0,M 21 1),(4,0,kXi 22 21 3 0),(5,0,D 23 22 1),(6,0,L 24 23 1),(7,0,M 25 1),(8,0,kXi 26 25 3 1),(9,0,D 27 26 1),(10,0,L 28 27 1),(11,0,⟨none,.call (some 29) (kt 20) [(kt 24),(kt 28)]⟩),(12,0,kb 30 [ki,ki,kl] [(1,1,(kt 29))]),(13,0,S 4 30 3)]) kr) ks)) (Z (K.block 0 (G [M 32 0,kQi 33 32 9 false,M 34 33,T 34 true (M 35 1),T 34 true (kN 36 35),T 34 true (kQi 37 36 1 false),kPf 38 34 37,M 31 38] (Y 31 (G [M 39 1,kXi 40 39 3 0,D 41 40 1,L 42 41 1,kQi 43 42 0 false,kC 44 162 [(kt 43)],S 4 44 3] kr) (G [M 46 0,kQi 47 46 11 false,M 48 47,T 48 true (M 49 1),T 48 true (kN 50 49),T 48 true (kQi 51 50 1 false),kPf 52 48 51,M 45 52] (Y 45 (G [M 53 1,kXi 54 53 3 0,D 55 54 2,L 56 55 1,kN 57 56,kb 58 [ki,ki,kl] [(1,1,(kt 57))],S 4 58 3] kr) (G [M 60 1,kN 61 60,kQi 62 61 2 true,M 59 62] (Y 59 (G [kb 63 [ki,ki,kl] [],S 4 63 3] kr) ks))))))) (Z (K.wk (K.dops [(0,0,M 64 1),(1,2,kXi 65 64 3 0),(2,2,J 66 65 3),(3,0,M 67 1),(4,2,kXi 68 67 3 1),(5,2,J 69 68 3),(6,301,⟨none,.alr (some 5) 1 [ki,ki,kl]⟩),(7,302,⟨none,.alr (some 6) 2 [ki,ki,kl]⟩),(8,0,S 5 66 3),(9,0,S 6 69 3)])) (Z (G [M 70 0] (K.block 1 (G [kQi 72 70 5 false,M 71 72] (Y 71 (G [D 73 5 1,L 74 73 1,D 75 6 1,
 L 76 75 1,kB 77 74 76 .lss,kC 78 162 [(kt 77)],S 4 78 3] kr) (G [kQi 80 70 6 false,M 79 80] (Y 79 (G [J 81 5 3,J 82 6 3,kC 83 167 [(kt 81),(kt 82)],kQi 84 83 0 false,kC 85 162 [(kt 84)],S 4 85 3] kr) (G [kQi 87 70 7 false,M 86 87] (Y 86 (G [D 88 5 1,L 89 88 1,kQi 90 89 0 true,M 91 90,T 91 true (D 92 6 1),T 91 true (L 93 92 1),T 91 true (kQi 94 93 0 true),kPf 95 91 94,kC 96 162 [(kt 95)],S 4 96 3] kr) (G [kQi 98 70 8 false,M 97 98] (Y 97 (G [D 99 5 1,L 100 99 1,kQi 101 100 0 true,M 102 101,T 102 false (D 103 6 1),T 102 false (L 104 103 1),T 102 false (kQi 105 104 0 true),kPt 106 102 105,kC 107 162 [(kt 106)],S 4 107 3] kr) (G [kQi 109 70 10 false,M 108 109] (Y 108 (G [D 110 5 2,L 111 110 1,D 112 6 2,L 113 112 1,kd 114 40 1 2 [kl,kl] [(0,1,(kt 111)),(1,1,(kt 113))],kC 115 168 [(kt 114)],kC 116 113 [(kt 115)],kb 117 [ki,ki,kl] [(0,1,(kc 4)),(2,1,(kt 116))],S 4 117 3] kr) ks)))))))))))) (G [kb 118 [ki,ki,kl] [],S 4 118 3] kr)))))
def qH8:Nat→Option (List (Nat×Nat)):=fun r=>match r with | 9=>some [(0,0),(1,2),(2,2),(3,0),(4,2),(5,2),(6,301),(7,302),(8,0),(9,0)] | _=>none
theorem qMj:qC Tryz.prog Tryz.f145.ntmps qH8 (Tryz.f145.body.getD .skip)=some qFz.erase:=by kernel_rfl
@[simp] theorem qAW:zA Tryz.prog 145=true:=by kernel_rfl
def qEV:Entry:=⟨qFz,[.cell 4 3 true],false⟩
theorem qB4:jN Tryz.prog 145 qEV:=⟨qAW,_,_,qH8,Tryz.func145,rfl,qMj,by kernel_rfl⟩
def zT8:K:=G [kZ 2 [ki,ki,kl]] (Z (G [M 3 0] (Y 3 (G [kb 4 [ki,ki,kl] [(0,1,(kc 1)),(1,1,(kc 1))],S 2 4 3] kr) ks)) (G [kb 5 [ki,ki,kl] [(0,1,(kc 1))],S 2 5 3] kr))
theorem qAM:zL Tryz.prog Tryz.f162.ntmps (Tryz.f162.body.getD .skip)=some zT8.erase:=by kernel_rfl
@[simp] theorem zTZ:zA Tryz.prog 162=true:=by kernel_rfl
def zTg:Entry:=⟨zT8,[.cell 2 3 true],false⟩
theorem zUH:jN Tryz.prog 162 zTg:=⟨zTZ,_,_,zAk,Tryz.func162,rfl,qAM,by kernel_rfl⟩
def qJe:List (Nat×Entry):=[(13,zY5),(44,zYD),(42,qET),(89,zYB),(90,zY8),
 (43,zQ8),(45,zTh),(91,zTf),(124,zQA),(125,zY6),(143,zYC),
 (126,zNp),(92,zYA),(128,zTb),(127,zYF),(46,zTd),(47,zY4),(93,zY9),
 (129,zTi),(144,zQ9),(166,zYG),(130,zYE),(131,zY7),(145,qEV),(162,zTg)]
theorem zYu:∀f e,zDW f qJe=some e→jN Tryz.prog f e :=
 jS zXh (jS zXp (jS qB2 (jS zXn (jS zXk (jS zRZ (jS zUI (jS zUG (jS zSb (jS zXi (jS zXo
 (jS zP7 (jS zXm (jS zUC (jS zXr (jS zUE (jS zXg (jS zXl (jS zUJ (jS zSa (jS zXs (jS zXq (jS zXj (jS qB4 (jS zUH zYw))))))))))))))))))))))))
def zP1:List A→Option (List Id)
 | []=>some []
 | .lit (.int .i64 a)::.lit (.int .i64 b)::.lit (.int .i64 c)::l=>match zP1 l with
  | some r=>some (⟨a,b,c⟩::r)
  | none=>none
 | _=>none
theorem zE2:∀{cs:List A} {l:List Id},zP1 cs=some l→cs=qF l:=by
 intro cs
 fun_induction zP1 cs with
 | case1=>intro l h; cases h; rfl
 | case2 a b c cs r hr ih=>intro l h; cases h; rw[ih hr]; rfl
 | case3 a b c cs hr ih=>intro l h; cases h
 | case4=>intro l h; cases h
def qCn:Run:=fun f xs σ=>match Nat.beq f 48,xs,σ with
 | true,[.sl n cs],[]=>(match zP1 cs with
  | some l=>if n=l.length∧l.length≤1000000 then some (.sl (l.foldl zFi []).length (qF (l.foldl zFi [])),[]) else none
  | none=>none)
 | _,_,_=>none
@[simp] theorem zWQ:zA Tryz.prog 48=true:=by kernel_rfl
theorem zYj:zAn Tryz.prog qCn:=by
 intro f xs σ r σ' h;unfold qCn at h;split at h<;>try (cases h; done)
 rename_i n cs hf;split at h<;>try (cases h; done)
 rename_i l hl;split at h<;>try (cases h; done)
 rename_i hc;cases h;have hf':=Nat.eq_of_beq_eq_true hf;subst hf';refine⟨zWQ,?_⟩;rw[zE2 hl,hc.1,←zNi];exact zFI l hc.2
end Go.Proofs.YthglhccibdlccaaGreatDoor
