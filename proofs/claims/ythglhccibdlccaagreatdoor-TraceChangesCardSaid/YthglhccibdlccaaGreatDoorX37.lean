/-
  The maker's expressions, walked.
-/
import Derived.Test.YthglhccibdlccaaGreatDoorX36
set_option linter.unusedVariables false
set_option linter.unusedSimpArgs false
namespace Go.Proofs.YthglhccibdlccaaGreatDoor
open Go.Abs
def KExM : K :=
 K.seq (K.ops [kO 5 1,
 kZ 8 kz1])
 (K.seq (K.ops [kM 21 0,
 kC 22 76 [(.tmp 21), (.const (.int .i64 65536))],
 kM 9 22])
 (K.seq (K.ops [kM 23 2,
 kG 24 5 5,
 kC 25 77 [(.tmp 23), (.tmp 24)],
 kM 10 25])
 (K.seq (K.seq (K.ops [kM 26 0,
 kU 27 26,
 kA 28 27 5,
 kL 29 28 1,
 kBi 30 29 0 .leq])
 (K.cond (.tmp 30)
 (K.ops [kM 31 3,
 ⟨none, .mm (some 32) false [(.tmp 31), (.const (.int .i64 0))]⟩,
 kM 3 32])
 (K.skip)))
 (K.seq (K.seq (K.ops [kM 33 10,
 kN 34 33,
 kBi 35 34 0 .gtr,
 kM 36 35,
 kT 36 true (kM 37 3),
 kT 36 true (kBi 38 37 0 .leq),
 kT 36 true (kM 39 38),
 kT 39 false (kM 40 9),
 kT 39 false (kBi 41 40 3 .rem),
 kT 39 false (kQi 42 41 0 false),
 kT 36 true (kPt 43 39 42),
 kPf 44 36 43])
 (K.cond (.tmp 44)
 (K.seq (K.ops [kM 45 0,
 kM 46 10,
 kM 47 9,
 kBi 48 47 3 .quo,
 kM 49 10,
 kN 50 49,
 kB 51 48 50 .rem,
 kX 52 46 51 9,
 kG 53 52 9,
 kC 54 78 [(.tmp 45), (.tmp 53)],
 kS 8 54 15])
 (K.ret))
 (K.skip)))
 (K.seq (K.seq (K.ops [kM 55 3,
 kBi 56 55 0 .leq])
 (K.cond (.tmp 56)
 (K.seq (K.ops [kM 57 0,
 kG 58 5 5,
 kM 59 2,
 kM 60 9,
 kBi 61 60 3 .quo,
 kM 62 3,
 kC 63 79 [(.tmp 57), (.tmp 58), (.tmp 59), (.tmp 61), (.tmp 62)],
 kS 8 63 15])
 (K.ret))
 (K.skip)))
 (K.seq (K.ops [kM 64 9,
 kBi 65 64 3 .quo,
 kBi 66 65 12 .rem,
 kM 11 66])
 (K.seq (K.ops [kM 67 9,
 kBi 68 67 36 .quo,
 kM 9 68])
 (K.seq (K.seq (K.ops [kM 69 11,
 kQi 70 69 0 false,
 kM 71 70,
 kT 71 false (kM 72 11),
 kT 71 false (kQi 73 72 1 false),
 kPt 74 71 73])
 (K.cond (.tmp 74)
 (K.seq (K.ops [kM 75 0,
 ⟨none, .build (some 76) kz2 [(0, 1, (.const (.int .i64 1)))]⟩,
 kM 77 2,
 kM 78 3,
 kBi 79 78 1 .sub,
 kC 80 34 [(.tmp 75), (.tmp 76), (.tmp 77), (.tmp 79)],
 kZ 12 kz1,
 kS 12 80 15])
 (K.seq (K.ops [kM 81 0,
 kG 82 5 5,
 kM 83 2,
 kM 84 3,
 kBi 85 84 1 .sub,
 kC 86 34 [(.tmp 81), (.tmp 82), (.tmp 83), (.tmp 85)],
 kZ 13 kz1,
 kS 13 86 15])
 (K.seq (K.dops [(0, 0, kM 87 0),
 (1, 2002, kG 88 12 15),
 (2, 2002, kG 89 13 15),
 (3, 0, kM 90 0),
 (4, 0, kG 91 5 5),
 (5, 0, kM 92 2),
 (6, 0, kM 93 3),
 (7, 0, kBi 94 93 1 .sub),
 (8, 1002, kC 95 34 [(.tmp 90), (.tmp 91), (.tmp 92), (.tmp 94)]),
 (9, 0, ⟨none, .bslice (some 96) 37 15 3 kz4 [(0, 15, (.tmp 88)), (15, 15, (.tmp 89)), (30, 15, (.tmp 95))]⟩),
 (10, 4, kC 97 80 [(.tmp 87), (.const (.int .i64 5)), (.const (.int .i64 0)), (.tmp 96)]),
 (11, 0, kS 8 97 15)])
 (K.ret))))
 (K.skip)))
 (K.seq (K.seq (K.ops [kM 98 11,
 kQi 99 98 2 false])
 (K.cond (.tmp 99)
 (K.seq (K.ops [kM 100 2,
 kM 101 9,
 kM 102 2,
 kN 103 102,
 kB 104 101 103 .rem,
 kX 105 100 104 9,
 kA 106 105 4,
 kG 107 106 5,
 kZ 14 kz2,
 kS 14 107 5])
 (K.seq (K.ops [kM 108 0,
 kG 109 14 5,
 kM 110 2,
 kM 111 3,
 kBi 112 111 1 .sub,
 kC 113 34 [(.tmp 108), (.tmp 109), (.tmp 110), (.tmp 112)],
 kZ 15 kz1,
 kS 15 113 15])
 (K.seq (K.ops [kM 114 0,
 kC 115 80 [(.tmp 114), (.const (.int .i64 6)), (.const (.int .i64 0)), (.const (.slice none 0 0))],
 kZ 16 kz1,
 kS 16 115 15])
 (K.seq (K.ops [kM 116 0,
 kC 117 81 [(.tmp 116)],
 ⟨none, .bslice (some 118) 9 1 1 [(.string ⟨#[]⟩)] [(0, 1, (.tmp 117))]⟩,
 kA 119 16 14,
 kS 119 118 1])
 (K.seq (K.dops [(0, 2002, kG 120 15 15),
 (1, 0, kM 121 0),
 (2, 0, kG 122 5 5),
 (3, 0, kM 123 2),
 (4, 0, kA 124 16 0),
 (5, 0, kG 125 124 3),
 (6, 0, kG 126 14 5),
 (7, 0, ⟨none, .build (some 127) kz7 [(0, 3, (.tmp 125)), (4, 5, (.tmp 126))]⟩),
 (8, 0, kC 128 82 [(.tmp 123), (.tmp 127)]),
 (9, 0, kM 129 3),
 (10, 0, kBi 130 129 1 .sub),
 (11, 1002, kC 131 34 [(.tmp 121), (.tmp 122), (.tmp 128), (.tmp 130)]),
 (12, 0, ⟨none, .bslice (some 132) 37 15 2 kz6 [(0, 15, (.tmp 120)), (15, 15, (.tmp 131))]⟩),
 (13, 2, kA 133 16 13),
 (14, 0, kS 133 132 1)])
 (K.seq (K.ops [kG 134 16 15,
 kS 8 134 15])
 (K.ret)))))))
 (K.skip)))
 (K.seq (K.seq (K.ops [kM 135 11,
 kQi 136 135 3 false,
 kM 137 136,
 kT 137 false (kM 138 11),
 kT 137 false (kQi 139 138 4 false),
 kPt 140 137 139])
 (K.cond (.tmp 140)
 (K.seq (K.ops [kM 141 0,
 kG 142 5 5,
 kM 143 2,
 kM 144 9,
 kM 145 3,
 kC 146 83 [(.tmp 141), (.tmp 142), (.tmp 143), (.tmp 144), (.tmp 145)],
 kS 8 146 15])
 (K.ret))
 (K.skip)))
 (K.seq (K.seq (K.ops [kM 147 11,
 kQi 148 147 5 false])
 (K.cond (.tmp 148)
 (K.seq (K.ops [kM 149 0,
 kG 150 5 5,
 kM 151 2,
 kM 152 9,
 kM 153 3,
 kC 154 84 [(.tmp 149), (.tmp 150), (.tmp 151), (.tmp 152), (.tmp 153)],
 kS 8 154 15])
 (K.ret))
 (K.skip)))
 (K.seq (K.seq (K.ops [kM 155 11,
 kQi 156 155 6 false,
 kM 157 156,
 kT 157 false (kM 158 11),
 kT 157 false (kQi 159 158 7 false),
 kPt 160 157 159])
 (K.cond (.tmp 160)
 (K.seq (K.ops [kM 161 0,
 kG 162 5 5,
 kM 163 2,
 kM 164 9,
 kM 165 3,
 kC 166 85 [(.tmp 161), (.tmp 162), (.tmp 163), (.tmp 164), (.tmp 165)],
 kS 8 166 15])
 (K.ret))
 (K.skip)))
 (K.seq (K.seq (K.ops [kM 167 11,
 kQi 168 167 8 false])
 (K.cond (.tmp 168)
 (K.seq (K.ops [kM 169 0,
 ⟨none, .build (some 170) kz2 []⟩,
 kC 171 74 [(.tmp 170)],
 kM 172 2,
 kM 173 3,
 kBi 174 173 1 .sub,
 kC 175 34 [(.tmp 169), (.tmp 171), (.tmp 172), (.tmp 174)],
 kZ 17 kz1,
 kS 17 175 15])
 (K.seq (K.ops [kM 176 0,
 kG 177 5 5,
 kM 178 2,
 kM 179 3,
 kBi 180 179 1 .sub,
 kC 181 34 [(.tmp 176), (.tmp 177), (.tmp 178), (.tmp 180)],
 kZ 18 kz1,
 kS 18 181 15])
 (K.seq (K.ops [kM 182 0,
 kC 183 80 [(.tmp 182), (.const (.int .i64 12)), (.const (.int .i64 0)), (.const (.slice none 0 0))],
 kZ 19 kz1,
 kS 19 183 15])
 (K.seq (K.ops [kM 184 0,
 kC 185 81 [(.tmp 184)],
 kM 186 0,
 kC 187 81 [(.tmp 186)],
 ⟨none, .bslice (some 188) 9 1 2 [(.string ⟨#[]⟩), (.string ⟨#[]⟩)] [(0, 1, (.tmp 185)), (1, 1, (.tmp 187))]⟩,
 kA 189 19 14,
 kS 189 188 1])
 (K.seq (K.dops [(0, 0, kM 190 2),
 (1, 0, kA 191 19 0),
 (2, 0, kG 192 191 3),
 (3, 0, ⟨none, .build (some 193) kz2 []⟩),
 (4, 0, ⟨none, .build (some 194) kz7 [(0, 3, (.tmp 192)), (4, 5, (.tmp 193))]⟩),
 (5, 0, kC 195 82 [(.tmp 190), (.tmp 194)]),
 (6, 0, kA 196 19 0),
 (7, 0, kG 197 196 3),
 (8, 0, kG 198 5 5),
 (9, 0, ⟨none, .build (some 199) kz7 [(0, 3, (.tmp 197)), (3, 1, (.const (.int .i64 1))), (4, 5, (.tmp 198))]⟩),
 (10, 0, kC 200 82 [(.tmp 195), (.tmp 199)]),
 (11, 0, kM 20 200)])
 (K.seq (K.dops [(0, 2002, kG 201 17 15),
 (1, 2002, kG 202 18 15),
 (2, 0, kM 203 0),
 (3, 0, kG 204 5 5),
 (4, 0, kM 205 20),
 (5, 0, kM 206 3),
 (6, 0, kBi 207 206 1 .sub),
 (7, 1002, kC 208 34 [(.tmp 203), (.tmp 204), (.tmp 205), (.tmp 207)]),
 (8, 0, ⟨none, .bslice (some 209) 37 15 3 kz4 [(0, 15, (.tmp 201)), (15, 15, (.tmp 202)), (30, 15, (.tmp 208))]⟩),
 (9, 2, kA 210 19 13),
 (10, 0, kS 210 209 1)])
 (K.seq (K.ops [kG 211 19 15,
 kS 8 211 15])
 (K.ret))))))))
 (K.skip)))
 (K.seq (K.ops [kM 212 0,
 kG 213 5 5,
 kM 214 2,
 kM 215 9,
 kM 216 3,
 kC 217 86 [(.tmp 212), (.tmp 213), (.tmp 214), (.tmp 215), (.tmp 216)],
 kS 8 217 15])
 (K.ret)))))))))))))))
def hExM : Nat → Option (List (Nat × Nat)) := fun r => match r with | 14 => some [(0,0),(1,2002),(2,2002),(3,0),(4,0),(5,0),(6,0),(7,0),(8,1002),(9,0),(10,4),(11,0)] | 20 => some [(0,2002),(1,0),(2,0),(3,0),(4,0),(5,0),(6,0),(7,0),(8,0),(9,0),(10,0),(11,1002),(12,0),(13,2),(14,0)] | 34 => some [(0,2002),(1,2002),(2,0),(3,0),(4,0),(5,0),(6,0),(7,1002),(8,0),(9,2),(10,0)] | _ => none
theorem cExM : compileH Tryz.prog Tryz.f34.ntmps hExM (Tryz.f34.body.getD .skip) = some KExM.erase := by kernel_rfl
@[simp] theorem calExM : callable Tryz.prog 34 = true := by kernel_rfl
abbrev numF : FuncId := 76
abbrev fitF : FuncId := 77
theorem ex_var_hi {m m0 : Mk} {env : List Bnd} {t : Typ} {depth : Int} (hd1 : -1000 ≤ depth) (hd2 : depth ≤ 1000) {X : Int} (hX0 : 0 ≤ X) (hX1 : X < 65536) {F : List Bnd} (hF : F.length ≤ 1000) (hE0 : 0 < env.length) (hE : env.length ≤ 1000)
    (hnum : Ret Tryz.prog numF [.ptr 0 0, int 65536] (mkS m) (int X) (mkS m0)) (hfit : Ret Tryz.prog fitF [.sl env.length (cellsB env), .agg (encT t)] [] (.sl F.length (cellsB F)) []) (hleft : 0 < m0.left) (hd : 0 < depth) (hF0 : F ≠ []) (hX3 : X.tmod 3 = 0) (h0 : 0 ≤ m0.temp) (h1 : m0.temp ≤ 1000000000000000) (h2 : -1000000000000000 ≤ m0.left) (h3 : m0.left ≤ 1000000000000000) :
    ∃ b ∈ F, Ret Tryz.prog exprF [.ptr 0 0, .agg (encT t), .sl env.length (cellsB env), int depth] (mkS m) (.agg (encE (.mk ⟨0, 0, m0.temp⟩ 2 b.n b.id Typ.zero [] []))) (mkS { m0 with temp := m0.temp + 1, left := m0.left - 1 }) := by
  have hl' : ¬ m0.left ≤ 0 := by omega
  have hd' : ¬ depth ≤ 0 := by omega
  have d3 : X.tdiv 3 = X / 3 := tdN hX0
  have w3 : IntKind.i64.wrap (X.tdiv 3) = X.tdiv 3 := IntWalk.i64_in _ (by omega)
  have hFl : 0 < F.length := by cases F with
    | nil => exact (hF0 rfl).elim
    | cons => simp
  obtain ⟨j, hj, e1⟩ : ∃ j : Nat, j < F.length ∧ (X.tdiv 3).tmod (F.length : Int) = j := by
    have q0 : 0 ≤ X.tdiv 3 := by omega
    have q1 := Int.emod_lt_of_pos (X.tdiv 3) (b := (F.length : Int)) (by omega)
    have q2 := Int.emod_nonneg (X.tdiv 3) (b := (F.length : Int)) (by omega)
    exact ⟨((X.tdiv 3) % F.length).toNat, by omega, by rw [tmN q0]; omega⟩
  have hdr := cellsB_drop hj
  have hbj : j * 9 + 9 ≤ F.length * 9 := by omega
  have hne : ¬ ((F.length : Int) = 0) := by omega
  refine ⟨F[j], List.getElem_mem hj, ?_⟩
  have hvar := var_ok m0 F[j] h0 h1 h2 h3
  refine ret_of_wpH Tryz.func34 rfl cExM (rs := [.cell 8 15 true]) (by kernel_rfl) ?_
  unfold KExM
  simp -implicitDefEqProofs [mkS, mkB, encT]
  refine callJ hnum [0, 1] (by decide) (by simp [mkS, mkB]) (by simp) ?_
  simp -implicitDefEqProofs [mkS, mkB]
  refine call0 hfit (by simp [encT]) (by simp) ?_
  simp -implicitDefEqProofs [mkS, mkB, hl', hd', hX3, hFl, hF0, w3, e1, hne, hj, hdr, hbj]
  intro _
  refine callJ hvar [0, 1] (by decide) (by simp [mkS, mkB]) (by simp [encB]) ?_
  simp -implicitDefEqProofs [mkS, mkB, encE]
  exact ret_keep [0, 1] 0 (by decide) (by simp) (by simp) (by simp [encE])
theorem ex_var_lo {m m0 : Mk} {env : List Bnd} {t : Typ} {depth : Int} (hd1 : -1000 ≤ depth) (hd2 : depth ≤ 1000) {X : Int} (hX0 : 0 ≤ X) (hX1 : X < 65536) {F : List Bnd} (hF : F.length ≤ 1000) (hE0 : 0 < env.length) (hE : env.length ≤ 1000)
    (hnum : Ret Tryz.prog numF [.ptr 0 0, int 65536] (mkS m) (int X) (mkS m0)) (hfit : Ret Tryz.prog fitF [.sl env.length (cellsB env), .agg (encT t)] [] (.sl F.length (cellsB F)) []) {d : Int} (hd : d ≤ 0) (hcase : m0.left ≤ 0 ∧ 0 < depth ∧ d = 0 ∨ m0.left ≤ 0 ∧ depth ≤ 0 ∧ d = depth ∨ 0 < m0.left ∧ depth ≤ 0 ∧ d = depth) (hF0 : F ≠ []) (h0 : 0 ≤ m0.temp) (h1 : m0.temp ≤ 1000000000000000) (h2 : -1000000000000000 ≤ m0.left) (h3 : m0.left ≤ 1000000000000000) :
    ∃ b ∈ F, Ret Tryz.prog exprF [.ptr 0 0, .agg (encT t), .sl env.length (cellsB env), int depth] (mkS m) (.agg (encE (.mk ⟨0, 0, m0.temp⟩ 2 b.n b.id Typ.zero [] []))) (mkS { m0 with temp := m0.temp + 1, left := m0.left - 1 }) := by
  have d3 : X.tdiv 3 = X / 3 := tdN hX0
  have w3 : IntKind.i64.wrap (X.tdiv 3) = X.tdiv 3 := IntWalk.i64_in _ (by omega)
  have hFl : 0 < F.length := by cases F with
    | nil => exact (hF0 rfl).elim
    | cons => simp
  obtain ⟨j, hj, e1⟩ : ∃ j : Nat, j < F.length ∧ (X.tdiv 3).tmod (F.length : Int) = j := by
    have q0 : 0 ≤ X.tdiv 3 := by omega
    have q1 := Int.emod_lt_of_pos (X.tdiv 3) (b := (F.length : Int)) (by omega)
    have q2 := Int.emod_nonneg (X.tdiv 3) (b := (F.length : Int)) (by omega)
    exact ⟨((X.tdiv 3) % F.length).toNat, by omega, by rw [tmN q0]; omega⟩
  have hdr := cellsB_drop hj
  have hbj : j * 9 + 9 ≤ F.length * 9 := by omega
  have hne : ¬ ((F.length : Int) = 0) := by omega
  refine ⟨F[j], List.getElem_mem hj, ?_⟩
  have hvar := var_ok m0 F[j] h0 h1 h2 h3
  rcases hcase with ⟨hl1, hp, hdd⟩ | ⟨hl1, hp, hdd⟩ | ⟨hl1, hp, hdd⟩
  · subst hdd
    refine ret_of_wpH Tryz.func34 rfl cExM (rs := [.cell 8 15 true]) (by kernel_rfl) ?_
    unfold KExM
    simp -implicitDefEqProofs [mkS, mkB, encT]
    refine callJ hnum [0, 1] (by decide) (by simp [mkS, mkB]) (by simp) ?_
    simp -implicitDefEqProofs [mkS, mkB]
    refine call0 hfit (by simp [encT]) (by simp) ?_
    simp -implicitDefEqProofs [mkS, mkB, hl1, hp, hFl, hF0, w3, e1, hne, hj, hdr, hbj]
    intro _
    refine callJ hvar [0, 1] (by decide) (by simp [mkS, mkB]) (by simp [encB]) ?_
    simp -implicitDefEqProofs [mkS, mkB, encE]
    exact ret_keep [0, 1] 0 (by decide) (by simp) (by simp) (by simp [encE])
  · have hp0 : ¬ 0 < depth := by omega
    subst hdd
    refine ret_of_wpH Tryz.func34 rfl cExM (rs := [.cell 8 15 true]) (by kernel_rfl) ?_
    unfold KExM
    simp -implicitDefEqProofs [mkS, mkB, encT]
    refine callJ hnum [0, 1] (by decide) (by simp [mkS, mkB]) (by simp) ?_
    simp -implicitDefEqProofs [mkS, mkB]
    refine call0 hfit (by simp [encT]) (by simp) ?_
    simp -implicitDefEqProofs [mkS, mkB, hl1, hp, hp0, hFl, hF0, w3, e1, hne, hj, hdr, hbj]
    intro _
    refine callJ hvar [0, 1] (by decide) (by simp [mkS, mkB]) (by simp [encB]) ?_
    simp -implicitDefEqProofs [mkS, mkB, encE]
    exact ret_keep [0, 1] 0 (by decide) (by simp) (by simp) (by simp [encE])
  · have hp0 : ¬ 0 < depth := by omega
    have hl2 : ¬ m0.left ≤ 0 := by omega
    subst hdd
    refine ret_of_wpH Tryz.func34 rfl cExM (rs := [.cell 8 15 true]) (by kernel_rfl) ?_
    unfold KExM
    simp -implicitDefEqProofs [mkS, mkB, encT]
    refine callJ hnum [0, 1] (by decide) (by simp [mkS, mkB]) (by simp) ?_
    simp -implicitDefEqProofs [mkS, mkB]
    refine call0 hfit (by simp [encT]) (by simp) ?_
    simp -implicitDefEqProofs [mkS, mkB, hl2, hp, hFl, hF0, w3, e1, hne, hj, hdr, hbj]
    intro _
    refine callJ hvar [0, 1] (by decide) (by simp [mkS, mkB]) (by simp [encB]) ?_
    simp -implicitDefEqProofs [mkS, mkB, encE]
    exact ret_keep [0, 1] 0 (by decide) (by simp) (by simp) (by simp [encE])
theorem ex_lit {m m0 : Mk} {env : List Bnd} {t : Typ} {depth : Int} (hd1 : -1000 ≤ depth) (hd2 : depth ≤ 1000) {X : Int} (hX0 : 0 ≤ X) (hX1 : X < 65536) {F : List Bnd} (hF : F.length ≤ 1000) (hE0 : 0 < env.length) (hE : env.length ≤ 1000)
    (hnum : Ret Tryz.prog numF [.ptr 0 0, int 65536] (mkS m) (int X) (mkS m0)) (hfit : Ret Tryz.prog fitF [.sl env.length (cellsB env), .agg (encT t)] [] (.sl F.length (cellsB F)) []) {d : Int} (hd : d ≤ 0) (hcase : m0.left ≤ 0 ∧ 0 < depth ∧ d = 0 ∨ m0.left ≤ 0 ∧ depth ≤ 0 ∧ d = depth ∨ 0 < m0.left ∧ depth ≤ 0 ∧ d = depth) (hF0 : F = []) {e : Exp} {m' : Mk} (hlit : Ret Tryz.prog litF [.ptr 0 0, .agg (encT t), .sl env.length (cellsB env), int (X.tdiv 3), int d] (mkS m0) (.agg (encE e)) (mkS m')) :
    Ret Tryz.prog exprF [.ptr 0 0, .agg (encT t), .sl env.length (cellsB env), int depth] (mkS m) (.agg (encE e)) (mkS m') := by
  have d3 : X.tdiv 3 = X / 3 := tdN hX0
  have w3 : IntKind.i64.wrap (X.tdiv 3) = X.tdiv 3 := IntWalk.i64_in _ (by omega)
  subst hF0
  rcases hcase with ⟨hl1, hp, hdd⟩ | ⟨hl1, hp, hdd⟩ | ⟨hl1, hp, hdd⟩
  · subst hdd
    refine ret_of_wpH Tryz.func34 rfl cExM (rs := [.cell 8 15 true]) (by kernel_rfl) ?_
    unfold KExM
    simp -implicitDefEqProofs [mkS, mkB, encT]
    refine callJ hnum [0, 1] (by decide) (by simp [mkS, mkB]) (by simp) ?_
    simp -implicitDefEqProofs [mkS, mkB]
    refine call0 hfit (by simp [encT]) (by simp) ?_
    simp -implicitDefEqProofs [mkS, mkB, hl1, hp, w3]
    refine callJ hlit [0, 1] (by decide) (by simp [mkS, mkB]) (by simp [encT]) ?_
    simp -implicitDefEqProofs [mkS, mkB, encE]
    exact ret_keep [0, 1] 0 (by decide) (by simp) (by simp) (by simp [encE])
  · have hp0 : ¬ 0 < depth := by omega
    subst hdd
    refine ret_of_wpH Tryz.func34 rfl cExM (rs := [.cell 8 15 true]) (by kernel_rfl) ?_
    unfold KExM
    simp -implicitDefEqProofs [mkS, mkB, encT]
    refine callJ hnum [0, 1] (by decide) (by simp [mkS, mkB]) (by simp) ?_
    simp -implicitDefEqProofs [mkS, mkB]
    refine call0 hfit (by simp [encT]) (by simp) ?_
    simp -implicitDefEqProofs [mkS, mkB, hl1, hp, hp0, w3]
    refine callJ hlit [0, 1] (by decide) (by simp [mkS, mkB]) (by simp [encT]) ?_
    simp -implicitDefEqProofs [mkS, mkB, encE]
    exact ret_keep [0, 1] 0 (by decide) (by simp) (by simp) (by simp [encE])
  · have hp0 : ¬ 0 < depth := by omega
    have hl2 : ¬ m0.left ≤ 0 := by omega
    subst hdd
    refine ret_of_wpH Tryz.func34 rfl cExM (rs := [.cell 8 15 true]) (by kernel_rfl) ?_
    unfold KExM
    simp -implicitDefEqProofs [mkS, mkB, encT]
    refine callJ hnum [0, 1] (by decide) (by simp [mkS, mkB]) (by simp) ?_
    simp -implicitDefEqProofs [mkS, mkB]
    refine call0 hfit (by simp [encT]) (by simp) ?_
    simp -implicitDefEqProofs [mkS, mkB, hl2, hp, w3]
    refine callJ hlit [0, 1] (by decide) (by simp [mkS, mkB]) (by simp [encT]) ?_
    simp -implicitDefEqProofs [mkS, mkB, encE]
    exact ret_keep [0, 1] 0 (by decide) (by simp) (by simp) (by simp [encE])
theorem ex_op {m m0 : Mk} {env : List Bnd} {t : Typ} {depth : Int} (hd1 : -1000 ≤ depth) (hd2 : depth ≤ 1000) {X : Int} (hX0 : 0 ≤ X) (hX1 : X < 65536) {F : List Bnd} (hF : F.length ≤ 1000) (hE0 : 0 < env.length) (hE : env.length ≤ 1000)
    (hnum : Ret Tryz.prog numF [.ptr 0 0, int 65536] (mkS m) (int X) (mkS m0)) (hfit : Ret Tryz.prog fitF [.sl env.length (cellsB env), .agg (encT t)] [] (.sl F.length (cellsB F)) []) (hleft : 0 < m0.left) (hd : 0 < depth) (hc : F = [] ∨ X.tmod 3 ≠ 0) (hk : 9 ≤ (X.tdiv 3).tmod 12) {e : Exp} {m' : Mk} (hop : Ret Tryz.prog opF [.ptr 0 0, .agg (encT t), .sl env.length (cellsB env), int (X.tdiv 36), int depth] (mkS m0) (.agg (encE e)) (mkS m')) :
    Ret Tryz.prog exprF [.ptr 0 0, .agg (encT t), .sl env.length (cellsB env), int depth] (mkS m) (.agg (encE e)) (mkS m') := by
  have hl' : ¬ m0.left ≤ 0 := by omega
  have hd' : ¬ depth ≤ 0 := by omega
  have d3 : X.tdiv 3 = X / 3 := tdN hX0
  have w3 : IntKind.i64.wrap (X.tdiv 3) = X.tdiv 3 := IntWalk.i64_in _ (by omega)
  have d36 : X.tdiv 36 = X / 36 := tdN hX0
  have w36 : IntKind.i64.wrap (X.tdiv 36) = X.tdiv 36 := IntWalk.i64_in _ (by omega)
  have d12 : (X.tdiv 3).tmod 12 = (X.tdiv 3) % 12 := tmN (by omega)
  have k0 : (X.tdiv 3).tmod 12 ≠ 0 := by omega
  have k1 : (X.tdiv 3).tmod 12 ≠ 1 := by omega
  have k2 : (X.tdiv 3).tmod 12 ≠ 2 := by omega
  have k3 : (X.tdiv 3).tmod 12 ≠ 3 := by omega
  have k4 : (X.tdiv 3).tmod 12 ≠ 4 := by omega
  have k5 : (X.tdiv 3).tmod 12 ≠ 5 := by omega
  have k6 : (X.tdiv 3).tmod 12 ≠ 6 := by omega
  have k7 : (X.tdiv 3).tmod 12 ≠ 7 := by omega
  have k8 : (X.tdiv 3).tmod 12 ≠ 8 := by omega
  rcases hc with hc | hc
  · subst hc
    refine ret_of_wpH Tryz.func34 rfl cExM (rs := [.cell 8 15 true]) (by kernel_rfl) ?_
    unfold KExM
    simp -implicitDefEqProofs [mkS, mkB, encT]
    refine callJ hnum [0, 1] (by decide) (by simp [mkS, mkB]) (by simp) ?_
    simp -implicitDefEqProofs [mkS, mkB]
    refine call0 hfit (by simp [encT]) (by simp) ?_
    simp -implicitDefEqProofs [mkS, mkB, hl', hd', w3, w36, k0, k1, k2, k3, k4, k5, k6, k7, k8]
    refine callJ hop [0, 1] (by decide) (by simp [mkS, mkB]) (by simp [encT]) ?_
    simp -implicitDefEqProofs [mkS, mkB, encE]
    exact ret_keep [0, 1] 0 (by decide) (by simp) (by simp) (by simp [encE])
  · by_cases hF0 : F = []
    · subst hF0
      refine ret_of_wpH Tryz.func34 rfl cExM (rs := [.cell 8 15 true]) (by kernel_rfl) ?_
      unfold KExM
      simp -implicitDefEqProofs [mkS, mkB, encT]
      refine callJ hnum [0, 1] (by decide) (by simp [mkS, mkB]) (by simp) ?_
      simp -implicitDefEqProofs [mkS, mkB]
      refine call0 hfit (by simp [encT]) (by simp) ?_
      simp -implicitDefEqProofs [mkS, mkB, hl', hd', w3, w36, k0, k1, k2, k3, k4, k5, k6, k7, k8]
      refine callJ hop [0, 1] (by decide) (by simp [mkS, mkB]) (by simp [encT]) ?_
      simp -implicitDefEqProofs [mkS, mkB, encE]
      exact ret_keep [0, 1] 0 (by decide) (by simp) (by simp) (by simp [encE])
    · have hFl : 0 < F.length := by cases F with
        | nil => exact (hF0 rfl).elim
        | cons => simp
      refine ret_of_wpH Tryz.func34 rfl cExM (rs := [.cell 8 15 true]) (by kernel_rfl) ?_
      unfold KExM
      simp -implicitDefEqProofs [mkS, mkB, encT]
      refine callJ hnum [0, 1] (by decide) (by simp [mkS, mkB]) (by simp) ?_
      simp -implicitDefEqProofs [mkS, mkB]
      refine call0 hfit (by simp [encT]) (by simp) ?_
      simp -implicitDefEqProofs [mkS, mkB, hl', hd', hF0, hFl, hc, w3, w36, k0, k1, k2, k3, k4, k5, k6, k7, k8]
      intro _
      refine callJ hop [0, 1] (by decide) (by simp [mkS, mkB]) (by simp [encT]) ?_
      simp -implicitDefEqProofs [mkS, mkB, encE]
      exact ret_keep [0, 1] 0 (by decide) (by simp) (by simp) (by simp [encE])
theorem ex_match3 {m m0 : Mk} {env : List Bnd} {t : Typ} {depth : Int} (hd1 : -1000 ≤ depth) (hd2 : depth ≤ 1000) {X : Int} (hX0 : 0 ≤ X) (hX1 : X < 65536) {F : List Bnd} (hF : F.length ≤ 1000) (hE0 : 0 < env.length) (hE : env.length ≤ 1000)
    (hnum : Ret Tryz.prog numF [.ptr 0 0, int 65536] (mkS m) (int X) (mkS m0)) (hfit : Ret Tryz.prog fitF [.sl env.length (cellsB env), .agg (encT t)] [] (.sl F.length (cellsB F)) []) (hleft : 0 < m0.left) (hd : 0 < depth) (hc : F = [] ∨ X.tmod 3 ≠ 0) (hk : (X.tdiv 3).tmod 12 = 3) {e : Exp} {m' : Mk} (hop : Ret Tryz.prog matchF [.ptr 0 0, .agg (encT t), .sl env.length (cellsB env), int (X.tdiv 36), int depth] (mkS m0) (.agg (encE e)) (mkS m')) :
    Ret Tryz.prog exprF [.ptr 0 0, .agg (encT t), .sl env.length (cellsB env), int depth] (mkS m) (.agg (encE e)) (mkS m') := by
  have hl' : ¬ m0.left ≤ 0 := by omega
  have hd' : ¬ depth ≤ 0 := by omega
  have d3 : X.tdiv 3 = X / 3 := tdN hX0
  have w3 : IntKind.i64.wrap (X.tdiv 3) = X.tdiv 3 := IntWalk.i64_in _ (by omega)
  have d36 : X.tdiv 36 = X / 36 := tdN hX0
  have w36 : IntKind.i64.wrap (X.tdiv 36) = X.tdiv 36 := IntWalk.i64_in _ (by omega)
  have d12 : (X.tdiv 3).tmod 12 = (X.tdiv 3) % 12 := tmN (by omega)
  rcases hc with hc | hc
  · subst hc
    refine ret_of_wpH Tryz.func34 rfl cExM (rs := [.cell 8 15 true]) (by kernel_rfl) ?_
    unfold KExM
    simp -implicitDefEqProofs [mkS, mkB, encT]
    refine callJ hnum [0, 1] (by decide) (by simp [mkS, mkB]) (by simp) ?_
    simp -implicitDefEqProofs [mkS, mkB]
    refine call0 hfit (by simp [encT]) (by simp) ?_
    simp -implicitDefEqProofs [mkS, mkB, hl', hd', w3, w36, hk]
    refine callJ hop [0, 1] (by decide) (by simp [mkS, mkB]) (by simp [encT]) ?_
    simp -implicitDefEqProofs [mkS, mkB, encE]
    exact ret_keep [0, 1] 0 (by decide) (by simp) (by simp) (by simp [encE])
  · by_cases hF0 : F = []
    · subst hF0
      refine ret_of_wpH Tryz.func34 rfl cExM (rs := [.cell 8 15 true]) (by kernel_rfl) ?_
      unfold KExM
      simp -implicitDefEqProofs [mkS, mkB, encT]
      refine callJ hnum [0, 1] (by decide) (by simp [mkS, mkB]) (by simp) ?_
      simp -implicitDefEqProofs [mkS, mkB]
      refine call0 hfit (by simp [encT]) (by simp) ?_
      simp -implicitDefEqProofs [mkS, mkB, hl', hd', w3, w36, hk]
      refine callJ hop [0, 1] (by decide) (by simp [mkS, mkB]) (by simp [encT]) ?_
      simp -implicitDefEqProofs [mkS, mkB, encE]
      exact ret_keep [0, 1] 0 (by decide) (by simp) (by simp) (by simp [encE])
    · have hFl : 0 < F.length := by cases F with
        | nil => exact (hF0 rfl).elim
        | cons => simp
      refine ret_of_wpH Tryz.func34 rfl cExM (rs := [.cell 8 15 true]) (by kernel_rfl) ?_
      unfold KExM
      simp -implicitDefEqProofs [mkS, mkB, encT]
      refine callJ hnum [0, 1] (by decide) (by simp [mkS, mkB]) (by simp) ?_
      simp -implicitDefEqProofs [mkS, mkB]
      refine call0 hfit (by simp [encT]) (by simp) ?_
      simp -implicitDefEqProofs [mkS, mkB, hl', hd', hF0, hFl, hc, w3, w36, hk]
      intro _
      refine callJ hop [0, 1] (by decide) (by simp [mkS, mkB]) (by simp [encT]) ?_
      simp -implicitDefEqProofs [mkS, mkB, encE]
      exact ret_keep [0, 1] 0 (by decide) (by simp) (by simp) (by simp [encE])
theorem ex_match4 {m m0 : Mk} {env : List Bnd} {t : Typ} {depth : Int} (hd1 : -1000 ≤ depth) (hd2 : depth ≤ 1000) {X : Int} (hX0 : 0 ≤ X) (hX1 : X < 65536) {F : List Bnd} (hF : F.length ≤ 1000) (hE0 : 0 < env.length) (hE : env.length ≤ 1000)
    (hnum : Ret Tryz.prog numF [.ptr 0 0, int 65536] (mkS m) (int X) (mkS m0)) (hfit : Ret Tryz.prog fitF [.sl env.length (cellsB env), .agg (encT t)] [] (.sl F.length (cellsB F)) []) (hleft : 0 < m0.left) (hd : 0 < depth) (hc : F = [] ∨ X.tmod 3 ≠ 0) (hk : (X.tdiv 3).tmod 12 = 4) {e : Exp} {m' : Mk} (hop : Ret Tryz.prog matchF [.ptr 0 0, .agg (encT t), .sl env.length (cellsB env), int (X.tdiv 36), int depth] (mkS m0) (.agg (encE e)) (mkS m')) :
    Ret Tryz.prog exprF [.ptr 0 0, .agg (encT t), .sl env.length (cellsB env), int depth] (mkS m) (.agg (encE e)) (mkS m') := by
  have hl' : ¬ m0.left ≤ 0 := by omega
  have hd' : ¬ depth ≤ 0 := by omega
  have d3 : X.tdiv 3 = X / 3 := tdN hX0
  have w3 : IntKind.i64.wrap (X.tdiv 3) = X.tdiv 3 := IntWalk.i64_in _ (by omega)
  have d36 : X.tdiv 36 = X / 36 := tdN hX0
  have w36 : IntKind.i64.wrap (X.tdiv 36) = X.tdiv 36 := IntWalk.i64_in _ (by omega)
  have d12 : (X.tdiv 3).tmod 12 = (X.tdiv 3) % 12 := tmN (by omega)
  rcases hc with hc | hc
  · subst hc
    refine ret_of_wpH Tryz.func34 rfl cExM (rs := [.cell 8 15 true]) (by kernel_rfl) ?_
    unfold KExM
    simp -implicitDefEqProofs [mkS, mkB, encT]
    refine callJ hnum [0, 1] (by decide) (by simp [mkS, mkB]) (by simp) ?_
    simp -implicitDefEqProofs [mkS, mkB]
    refine call0 hfit (by simp [encT]) (by simp) ?_
    simp -implicitDefEqProofs [mkS, mkB, hl', hd', w3, w36, hk]
    refine callJ hop [0, 1] (by decide) (by simp [mkS, mkB]) (by simp [encT]) ?_
    simp -implicitDefEqProofs [mkS, mkB, encE]
    exact ret_keep [0, 1] 0 (by decide) (by simp) (by simp) (by simp [encE])
  · by_cases hF0 : F = []
    · subst hF0
      refine ret_of_wpH Tryz.func34 rfl cExM (rs := [.cell 8 15 true]) (by kernel_rfl) ?_
      unfold KExM
      simp -implicitDefEqProofs [mkS, mkB, encT]
      refine callJ hnum [0, 1] (by decide) (by simp [mkS, mkB]) (by simp) ?_
      simp -implicitDefEqProofs [mkS, mkB]
      refine call0 hfit (by simp [encT]) (by simp) ?_
      simp -implicitDefEqProofs [mkS, mkB, hl', hd', w3, w36, hk]
      refine callJ hop [0, 1] (by decide) (by simp [mkS, mkB]) (by simp [encT]) ?_
      simp -implicitDefEqProofs [mkS, mkB, encE]
      exact ret_keep [0, 1] 0 (by decide) (by simp) (by simp) (by simp [encE])
    · have hFl : 0 < F.length := by cases F with
        | nil => exact (hF0 rfl).elim
        | cons => simp
      refine ret_of_wpH Tryz.func34 rfl cExM (rs := [.cell 8 15 true]) (by kernel_rfl) ?_
      unfold KExM
      simp -implicitDefEqProofs [mkS, mkB, encT]
      refine callJ hnum [0, 1] (by decide) (by simp [mkS, mkB]) (by simp) ?_
      simp -implicitDefEqProofs [mkS, mkB]
      refine call0 hfit (by simp [encT]) (by simp) ?_
      simp -implicitDefEqProofs [mkS, mkB, hl', hd', hF0, hFl, hc, w3, w36, hk]
      intro _
      refine callJ hop [0, 1] (by decide) (by simp [mkS, mkB]) (by simp [encT]) ?_
      simp -implicitDefEqProofs [mkS, mkB, encE]
      exact ret_keep [0, 1] 0 (by decide) (by simp) (by simp) (by simp [encE])
theorem ex_field {m m0 : Mk} {env : List Bnd} {t : Typ} {depth : Int} (hd1 : -1000 ≤ depth) (hd2 : depth ≤ 1000) {X : Int} (hX0 : 0 ≤ X) (hX1 : X < 65536) {F : List Bnd} (hF : F.length ≤ 1000) (hE0 : 0 < env.length) (hE : env.length ≤ 1000)
    (hnum : Ret Tryz.prog numF [.ptr 0 0, int 65536] (mkS m) (int X) (mkS m0)) (hfit : Ret Tryz.prog fitF [.sl env.length (cellsB env), .agg (encT t)] [] (.sl F.length (cellsB F)) []) (hleft : 0 < m0.left) (hd : 0 < depth) (hc : F = [] ∨ X.tmod 3 ≠ 0) (hk : (X.tdiv 3).tmod 12 = 5) {e : Exp} {m' : Mk} (hop : Ret Tryz.prog fieldF [.ptr 0 0, .agg (encT t), .sl env.length (cellsB env), int (X.tdiv 36), int depth] (mkS m0) (.agg (encE e)) (mkS m')) :
    Ret Tryz.prog exprF [.ptr 0 0, .agg (encT t), .sl env.length (cellsB env), int depth] (mkS m) (.agg (encE e)) (mkS m') := by
  have hl' : ¬ m0.left ≤ 0 := by omega
  have hd' : ¬ depth ≤ 0 := by omega
  have d3 : X.tdiv 3 = X / 3 := tdN hX0
  have w3 : IntKind.i64.wrap (X.tdiv 3) = X.tdiv 3 := IntWalk.i64_in _ (by omega)
  have d36 : X.tdiv 36 = X / 36 := tdN hX0
  have w36 : IntKind.i64.wrap (X.tdiv 36) = X.tdiv 36 := IntWalk.i64_in _ (by omega)
  have d12 : (X.tdiv 3).tmod 12 = (X.tdiv 3) % 12 := tmN (by omega)
  rcases hc with hc | hc
  · subst hc
    refine ret_of_wpH Tryz.func34 rfl cExM (rs := [.cell 8 15 true]) (by kernel_rfl) ?_
    unfold KExM
    simp -implicitDefEqProofs [mkS, mkB, encT]
    refine callJ hnum [0, 1] (by decide) (by simp [mkS, mkB]) (by simp) ?_
    simp -implicitDefEqProofs [mkS, mkB]
    refine call0 hfit (by simp [encT]) (by simp) ?_
    simp -implicitDefEqProofs [mkS, mkB, hl', hd', w3, w36, hk]
    refine callJ hop [0, 1] (by decide) (by simp [mkS, mkB]) (by simp [encT]) ?_
    simp -implicitDefEqProofs [mkS, mkB, encE]
    exact ret_keep [0, 1] 0 (by decide) (by simp) (by simp) (by simp [encE])
  · by_cases hF0 : F = []
    · subst hF0
      refine ret_of_wpH Tryz.func34 rfl cExM (rs := [.cell 8 15 true]) (by kernel_rfl) ?_
      unfold KExM
      simp -implicitDefEqProofs [mkS, mkB, encT]
      refine callJ hnum [0, 1] (by decide) (by simp [mkS, mkB]) (by simp) ?_
      simp -implicitDefEqProofs [mkS, mkB]
      refine call0 hfit (by simp [encT]) (by simp) ?_
      simp -implicitDefEqProofs [mkS, mkB, hl', hd', w3, w36, hk]
      refine callJ hop [0, 1] (by decide) (by simp [mkS, mkB]) (by simp [encT]) ?_
      simp -implicitDefEqProofs [mkS, mkB, encE]
      exact ret_keep [0, 1] 0 (by decide) (by simp) (by simp) (by simp [encE])
    · have hFl : 0 < F.length := by cases F with
        | nil => exact (hF0 rfl).elim
        | cons => simp
      refine ret_of_wpH Tryz.func34 rfl cExM (rs := [.cell 8 15 true]) (by kernel_rfl) ?_
      unfold KExM
      simp -implicitDefEqProofs [mkS, mkB, encT]
      refine callJ hnum [0, 1] (by decide) (by simp [mkS, mkB]) (by simp) ?_
      simp -implicitDefEqProofs [mkS, mkB]
      refine call0 hfit (by simp [encT]) (by simp) ?_
      simp -implicitDefEqProofs [mkS, mkB, hl', hd', hF0, hFl, hc, w3, w36, hk]
      intro _
      refine callJ hop [0, 1] (by decide) (by simp [mkS, mkB]) (by simp [encT]) ?_
      simp -implicitDefEqProofs [mkS, mkB, encE]
      exact ret_keep [0, 1] 0 (by decide) (by simp) (by simp) (by simp [encE])
theorem ex_call6 {m m0 : Mk} {env : List Bnd} {t : Typ} {depth : Int} (hd1 : -1000 ≤ depth) (hd2 : depth ≤ 1000) {X : Int} (hX0 : 0 ≤ X) (hX1 : X < 65536) {F : List Bnd} (hF : F.length ≤ 1000) (hE0 : 0 < env.length) (hE : env.length ≤ 1000)
    (hnum : Ret Tryz.prog numF [.ptr 0 0, int 65536] (mkS m) (int X) (mkS m0)) (hfit : Ret Tryz.prog fitF [.sl env.length (cellsB env), .agg (encT t)] [] (.sl F.length (cellsB F)) []) (hleft : 0 < m0.left) (hd : 0 < depth) (hc : F = [] ∨ X.tmod 3 ≠ 0) (hk : (X.tdiv 3).tmod 12 = 6) {e : Exp} {m' : Mk} (hop : Ret Tryz.prog callF [.ptr 0 0, .agg (encT t), .sl env.length (cellsB env), int (X.tdiv 36), int depth] (mkS m0) (.agg (encE e)) (mkS m')) :
    Ret Tryz.prog exprF [.ptr 0 0, .agg (encT t), .sl env.length (cellsB env), int depth] (mkS m) (.agg (encE e)) (mkS m') := by
  have hl' : ¬ m0.left ≤ 0 := by omega
  have hd' : ¬ depth ≤ 0 := by omega
  have d3 : X.tdiv 3 = X / 3 := tdN hX0
  have w3 : IntKind.i64.wrap (X.tdiv 3) = X.tdiv 3 := IntWalk.i64_in _ (by omega)
  have d36 : X.tdiv 36 = X / 36 := tdN hX0
  have w36 : IntKind.i64.wrap (X.tdiv 36) = X.tdiv 36 := IntWalk.i64_in _ (by omega)
  have d12 : (X.tdiv 3).tmod 12 = (X.tdiv 3) % 12 := tmN (by omega)
  rcases hc with hc | hc
  · subst hc
    refine ret_of_wpH Tryz.func34 rfl cExM (rs := [.cell 8 15 true]) (by kernel_rfl) ?_
    unfold KExM
    simp -implicitDefEqProofs [mkS, mkB, encT]
    refine callJ hnum [0, 1] (by decide) (by simp [mkS, mkB]) (by simp) ?_
    simp -implicitDefEqProofs [mkS, mkB]
    refine call0 hfit (by simp [encT]) (by simp) ?_
    simp -implicitDefEqProofs [mkS, mkB, hl', hd', w3, w36, hk]
    refine callJ hop [0, 1] (by decide) (by simp [mkS, mkB]) (by simp [encT]) ?_
    simp -implicitDefEqProofs [mkS, mkB, encE]
    exact ret_keep [0, 1] 0 (by decide) (by simp) (by simp) (by simp [encE])
  · by_cases hF0 : F = []
    · subst hF0
      refine ret_of_wpH Tryz.func34 rfl cExM (rs := [.cell 8 15 true]) (by kernel_rfl) ?_
      unfold KExM
      simp -implicitDefEqProofs [mkS, mkB, encT]
      refine callJ hnum [0, 1] (by decide) (by simp [mkS, mkB]) (by simp) ?_
      simp -implicitDefEqProofs [mkS, mkB]
      refine call0 hfit (by simp [encT]) (by simp) ?_
      simp -implicitDefEqProofs [mkS, mkB, hl', hd', w3, w36, hk]
      refine callJ hop [0, 1] (by decide) (by simp [mkS, mkB]) (by simp [encT]) ?_
      simp -implicitDefEqProofs [mkS, mkB, encE]
      exact ret_keep [0, 1] 0 (by decide) (by simp) (by simp) (by simp [encE])
    · have hFl : 0 < F.length := by cases F with
        | nil => exact (hF0 rfl).elim
        | cons => simp
      refine ret_of_wpH Tryz.func34 rfl cExM (rs := [.cell 8 15 true]) (by kernel_rfl) ?_
      unfold KExM
      simp -implicitDefEqProofs [mkS, mkB, encT]
      refine callJ hnum [0, 1] (by decide) (by simp [mkS, mkB]) (by simp) ?_
      simp -implicitDefEqProofs [mkS, mkB]
      refine call0 hfit (by simp [encT]) (by simp) ?_
      simp -implicitDefEqProofs [mkS, mkB, hl', hd', hF0, hFl, hc, w3, w36, hk]
      intro _
      refine callJ hop [0, 1] (by decide) (by simp [mkS, mkB]) (by simp [encT]) ?_
      simp -implicitDefEqProofs [mkS, mkB, encE]
      exact ret_keep [0, 1] 0 (by decide) (by simp) (by simp) (by simp [encE])
theorem ex_call7 {m m0 : Mk} {env : List Bnd} {t : Typ} {depth : Int} (hd1 : -1000 ≤ depth) (hd2 : depth ≤ 1000) {X : Int} (hX0 : 0 ≤ X) (hX1 : X < 65536) {F : List Bnd} (hF : F.length ≤ 1000) (hE0 : 0 < env.length) (hE : env.length ≤ 1000)
    (hnum : Ret Tryz.prog numF [.ptr 0 0, int 65536] (mkS m) (int X) (mkS m0)) (hfit : Ret Tryz.prog fitF [.sl env.length (cellsB env), .agg (encT t)] [] (.sl F.length (cellsB F)) []) (hleft : 0 < m0.left) (hd : 0 < depth) (hc : F = [] ∨ X.tmod 3 ≠ 0) (hk : (X.tdiv 3).tmod 12 = 7) {e : Exp} {m' : Mk} (hop : Ret Tryz.prog callF [.ptr 0 0, .agg (encT t), .sl env.length (cellsB env), int (X.tdiv 36), int depth] (mkS m0) (.agg (encE e)) (mkS m')) :
    Ret Tryz.prog exprF [.ptr 0 0, .agg (encT t), .sl env.length (cellsB env), int depth] (mkS m) (.agg (encE e)) (mkS m') := by
  have hl' : ¬ m0.left ≤ 0 := by omega
  have hd' : ¬ depth ≤ 0 := by omega
  have d3 : X.tdiv 3 = X / 3 := tdN hX0
  have w3 : IntKind.i64.wrap (X.tdiv 3) = X.tdiv 3 := IntWalk.i64_in _ (by omega)
  have d36 : X.tdiv 36 = X / 36 := tdN hX0
  have w36 : IntKind.i64.wrap (X.tdiv 36) = X.tdiv 36 := IntWalk.i64_in _ (by omega)
  have d12 : (X.tdiv 3).tmod 12 = (X.tdiv 3) % 12 := tmN (by omega)
  rcases hc with hc | hc
  · subst hc
    refine ret_of_wpH Tryz.func34 rfl cExM (rs := [.cell 8 15 true]) (by kernel_rfl) ?_
    unfold KExM
    simp -implicitDefEqProofs [mkS, mkB, encT]
    refine callJ hnum [0, 1] (by decide) (by simp [mkS, mkB]) (by simp) ?_
    simp -implicitDefEqProofs [mkS, mkB]
    refine call0 hfit (by simp [encT]) (by simp) ?_
    simp -implicitDefEqProofs [mkS, mkB, hl', hd', w3, w36, hk]
    refine callJ hop [0, 1] (by decide) (by simp [mkS, mkB]) (by simp [encT]) ?_
    simp -implicitDefEqProofs [mkS, mkB, encE]
    exact ret_keep [0, 1] 0 (by decide) (by simp) (by simp) (by simp [encE])
  · by_cases hF0 : F = []
    · subst hF0
      refine ret_of_wpH Tryz.func34 rfl cExM (rs := [.cell 8 15 true]) (by kernel_rfl) ?_
      unfold KExM
      simp -implicitDefEqProofs [mkS, mkB, encT]
      refine callJ hnum [0, 1] (by decide) (by simp [mkS, mkB]) (by simp) ?_
      simp -implicitDefEqProofs [mkS, mkB]
      refine call0 hfit (by simp [encT]) (by simp) ?_
      simp -implicitDefEqProofs [mkS, mkB, hl', hd', w3, w36, hk]
      refine callJ hop [0, 1] (by decide) (by simp [mkS, mkB]) (by simp [encT]) ?_
      simp -implicitDefEqProofs [mkS, mkB, encE]
      exact ret_keep [0, 1] 0 (by decide) (by simp) (by simp) (by simp [encE])
    · have hFl : 0 < F.length := by cases F with
        | nil => exact (hF0 rfl).elim
        | cons => simp
      refine ret_of_wpH Tryz.func34 rfl cExM (rs := [.cell 8 15 true]) (by kernel_rfl) ?_
      unfold KExM
      simp -implicitDefEqProofs [mkS, mkB, encT]
      refine callJ hnum [0, 1] (by decide) (by simp [mkS, mkB]) (by simp) ?_
      simp -implicitDefEqProofs [mkS, mkB]
      refine call0 hfit (by simp [encT]) (by simp) ?_
      simp -implicitDefEqProofs [mkS, mkB, hl', hd', hF0, hFl, hc, w3, w36, hk]
      intro _
      refine callJ hop [0, 1] (by decide) (by simp [mkS, mkB]) (by simp [encT]) ?_
      simp -implicitDefEqProofs [mkS, mkB, encE]
      exact ret_keep [0, 1] 0 (by decide) (by simp) (by simp) (by simp [encE])
set_option maxHeartbeats 2000000 in
theorem ex_if0 {m m0 : Mk} {env : List Bnd} {t : Typ} {depth : Int} (hd1 : -1000 ≤ depth) (hd2 : depth ≤ 1000) {X : Int} (hX0 : 0 ≤ X) (hX1 : X < 65536) {F : List Bnd} (hF : F.length ≤ 1000) (hE0 : 0 < env.length) (hE : env.length ≤ 1000)
    (hnum : Ret Tryz.prog numF [.ptr 0 0, int 65536] (mkS m) (int X) (mkS m0)) (hfit : Ret Tryz.prog fitF [.sl env.length (cellsB env), .agg (encT t)] [] (.sl F.length (cellsB F)) []) (hleft : 0 < m0.left) (hd : 0 < depth) (hc : F = [] ∨ X.tmod 3 ≠ 0) (hk : (X.tdiv 3).tmod 12 = 0) {a b c : Exp} {m1 m2 m3 : Mk} (ga : Ret Tryz.prog exprF [.ptr 0 0, .agg (encT tBool), .sl env.length (cellsB env), int (depth - 1)] (mkS m0) (.agg (encE a)) (mkS m1)) (gb : Ret Tryz.prog exprF [.ptr 0 0, .agg (encT t), .sl env.length (cellsB env), int (depth - 1)] (mkS m1) (.agg (encE b)) (mkS m2)) (gc : Ret Tryz.prog exprF [.ptr 0 0, .agg (encT t), .sl env.length (cellsB env), int (depth - 1)] (mkS m2) (.agg (encE c)) (mkS m3)) (hln : Lim m3 1) :
    Ret Tryz.prog exprF [.ptr 0 0, .agg (encT t), .sl env.length (cellsB env), int depth] (mkS m) (.agg (encE (.mk ⟨0, 0, m3.temp⟩ 5 0 Id.zero Typ.zero [a, b, c] []))) (mkS { m3 with temp := m3.temp + 1, left := m3.left - 1 }) := by
  have hl' : ¬ m0.left ≤ 0 := by omega
  have hd' : ¬ depth ≤ 0 := by omega
  have d3 : X.tdiv 3 = X / 3 := tdN hX0
  have w3 : IntKind.i64.wrap (X.tdiv 3) = X.tdiv 3 := IntWalk.i64_in _ (by omega)
  have d36 : X.tdiv 36 = X / 36 := tdN hX0
  have w36 : IntKind.i64.wrap (X.tdiv 36) = X.tdiv 36 := IntWalk.i64_in _ (by omega)
  have d12 : (X.tdiv 3).tmod 12 = (X.tdiv 3) % 12 := tmN (by omega)
  have wd : IntKind.i64.wrap (depth - 1) = depth - 1 := IntWalk.i64_in _ (by omega)
  obtain ⟨l1, l2, l3, l4, l5, l6, l7, l8⟩ := hln
  rcases hc with hc | hc
  · subst hc
    refine ret_of_wpH Tryz.func34 rfl cExM (rs := [.cell 8 15 true]) (by kernel_rfl) ?_
    unfold KExM
    simp -implicitDefEqProofs [mkS, mkB, encT]
    refine callJ hnum [0, 1] (by decide) (by simp [mkS, mkB]) (by simp) ?_
    simp -implicitDefEqProofs [mkS, mkB]
    refine call0 hfit (by simp [encT]) (by simp) ?_
    simp -implicitDefEqProofs [mkS, mkB, hl', hd', w3, w36, hk, wd]
    refine callJ ga [0, 1] (by decide) (by simp [mkS, mkB]) (by simp [encT]) ?_
    simp -implicitDefEqProofs [mkS, mkB, encT, wd]
    refine callJ gb [0, 1] (by decide) (by simp [mkS, mkB]) (by simp [encT]) ?_
    simp -implicitDefEqProofs [mkS, mkB, encT, wd]
    refine dcallJK gc [0, 1] (by decide) (by simp [mkS, mkB]) (by simp [encT]) (by decide) (by simp) (by simp [mkS]) ?_
    simp -implicitDefEqProofs [mkS, mkB]
    refine dcallJX (node_ok m3 5 0 [a, b, c] l3 (by omega) (by omega) l6) [0, 1] (by decide) (by simp [mkS, mkB]) (by simp [cellsE_cons, encE]) ?_
    simp -implicitDefEqProofs [mkS, mkB, encE, cellsE_cons]
    exact ret_keep [0, 1] 0 (by decide) (by simp) (by simp) (by simp [encE, cellsE_cons])
  · by_cases hF0 : F = []
    · subst hF0
      refine ret_of_wpH Tryz.func34 rfl cExM (rs := [.cell 8 15 true]) (by kernel_rfl) ?_
      unfold KExM
      simp -implicitDefEqProofs [mkS, mkB, encT]
      refine callJ hnum [0, 1] (by decide) (by simp [mkS, mkB]) (by simp) ?_
      simp -implicitDefEqProofs [mkS, mkB]
      refine call0 hfit (by simp [encT]) (by simp) ?_
      simp -implicitDefEqProofs [mkS, mkB, hl', hd', w3, w36, hk, wd]
      refine callJ ga [0, 1] (by decide) (by simp [mkS, mkB]) (by simp [encT]) ?_
      simp -implicitDefEqProofs [mkS, mkB, encT, wd]
      refine callJ gb [0, 1] (by decide) (by simp [mkS, mkB]) (by simp [encT]) ?_
      simp -implicitDefEqProofs [mkS, mkB, encT, wd]
      refine dcallJK gc [0, 1] (by decide) (by simp [mkS, mkB]) (by simp [encT]) (by decide) (by simp) (by simp [mkS]) ?_
      simp -implicitDefEqProofs [mkS, mkB]
      refine dcallJX (node_ok m3 5 0 [a, b, c] l3 (by omega) (by omega) l6) [0, 1] (by decide) (by simp [mkS, mkB]) (by simp [cellsE_cons, encE]) ?_
      simp -implicitDefEqProofs [mkS, mkB, encE, cellsE_cons]
      exact ret_keep [0, 1] 0 (by decide) (by simp) (by simp) (by simp [encE, cellsE_cons])
    · have hFl : 0 < F.length := by cases F with
        | nil => exact (hF0 rfl).elim
        | cons => simp
      refine ret_of_wpH Tryz.func34 rfl cExM (rs := [.cell 8 15 true]) (by kernel_rfl) ?_
      unfold KExM
      simp -implicitDefEqProofs [mkS, mkB, encT]
      refine callJ hnum [0, 1] (by decide) (by simp [mkS, mkB]) (by simp) ?_
      simp -implicitDefEqProofs [mkS, mkB]
      refine call0 hfit (by simp [encT]) (by simp) ?_
      simp -implicitDefEqProofs [mkS, mkB, hl', hd', hF0, hFl, hc, w3, w36, hk, wd]
      intro _
      refine callJ ga [0, 1] (by decide) (by simp [mkS, mkB]) (by simp [encT]) ?_
      simp -implicitDefEqProofs [mkS, mkB, encT, wd]
      refine callJ gb [0, 1] (by decide) (by simp [mkS, mkB]) (by simp [encT]) ?_
      simp -implicitDefEqProofs [mkS, mkB, encT, wd]
      refine dcallJK gc [0, 1] (by decide) (by simp [mkS, mkB]) (by simp [encT]) (by decide) (by simp) (by simp [mkS]) ?_
      simp -implicitDefEqProofs [mkS, mkB]
      refine dcallJX (node_ok m3 5 0 [a, b, c] l3 (by omega) (by omega) l6) [0, 1] (by decide) (by simp [mkS, mkB]) (by simp [cellsE_cons, encE]) ?_
      simp -implicitDefEqProofs [mkS, mkB, encE, cellsE_cons]
      exact ret_keep [0, 1] 0 (by decide) (by simp) (by simp) (by simp [encE, cellsE_cons])
set_option maxHeartbeats 2000000 in
theorem ex_if1 {m m0 : Mk} {env : List Bnd} {t : Typ} {depth : Int} (hd1 : -1000 ≤ depth) (hd2 : depth ≤ 1000) {X : Int} (hX0 : 0 ≤ X) (hX1 : X < 65536) {F : List Bnd} (hF : F.length ≤ 1000) (hE0 : 0 < env.length) (hE : env.length ≤ 1000)
    (hnum : Ret Tryz.prog numF [.ptr 0 0, int 65536] (mkS m) (int X) (mkS m0)) (hfit : Ret Tryz.prog fitF [.sl env.length (cellsB env), .agg (encT t)] [] (.sl F.length (cellsB F)) []) (hleft : 0 < m0.left) (hd : 0 < depth) (hc : F = [] ∨ X.tmod 3 ≠ 0) (hk : (X.tdiv 3).tmod 12 = 1) {a b c : Exp} {m1 m2 m3 : Mk} (ga : Ret Tryz.prog exprF [.ptr 0 0, .agg (encT tBool), .sl env.length (cellsB env), int (depth - 1)] (mkS m0) (.agg (encE a)) (mkS m1)) (gb : Ret Tryz.prog exprF [.ptr 0 0, .agg (encT t), .sl env.length (cellsB env), int (depth - 1)] (mkS m1) (.agg (encE b)) (mkS m2)) (gc : Ret Tryz.prog exprF [.ptr 0 0, .agg (encT t), .sl env.length (cellsB env), int (depth - 1)] (mkS m2) (.agg (encE c)) (mkS m3)) (hln : Lim m3 1) :
    Ret Tryz.prog exprF [.ptr 0 0, .agg (encT t), .sl env.length (cellsB env), int depth] (mkS m) (.agg (encE (.mk ⟨0, 0, m3.temp⟩ 5 0 Id.zero Typ.zero [a, b, c] []))) (mkS { m3 with temp := m3.temp + 1, left := m3.left - 1 }) := by
  have hl' : ¬ m0.left ≤ 0 := by omega
  have hd' : ¬ depth ≤ 0 := by omega
  have d3 : X.tdiv 3 = X / 3 := tdN hX0
  have w3 : IntKind.i64.wrap (X.tdiv 3) = X.tdiv 3 := IntWalk.i64_in _ (by omega)
  have d36 : X.tdiv 36 = X / 36 := tdN hX0
  have w36 : IntKind.i64.wrap (X.tdiv 36) = X.tdiv 36 := IntWalk.i64_in _ (by omega)
  have d12 : (X.tdiv 3).tmod 12 = (X.tdiv 3) % 12 := tmN (by omega)
  have wd : IntKind.i64.wrap (depth - 1) = depth - 1 := IntWalk.i64_in _ (by omega)
  obtain ⟨l1, l2, l3, l4, l5, l6, l7, l8⟩ := hln
  rcases hc with hc | hc
  · subst hc
    refine ret_of_wpH Tryz.func34 rfl cExM (rs := [.cell 8 15 true]) (by kernel_rfl) ?_
    unfold KExM
    simp -implicitDefEqProofs [mkS, mkB, encT]
    refine callJ hnum [0, 1] (by decide) (by simp [mkS, mkB]) (by simp) ?_
    simp -implicitDefEqProofs [mkS, mkB]
    refine call0 hfit (by simp [encT]) (by simp) ?_
    simp -implicitDefEqProofs [mkS, mkB, hl', hd', w3, w36, hk, wd]
    refine callJ ga [0, 1] (by decide) (by simp [mkS, mkB]) (by simp [encT]) ?_
    simp -implicitDefEqProofs [mkS, mkB, encT, wd]
    refine callJ gb [0, 1] (by decide) (by simp [mkS, mkB]) (by simp [encT]) ?_
    simp -implicitDefEqProofs [mkS, mkB, encT, wd]
    refine dcallJK gc [0, 1] (by decide) (by simp [mkS, mkB]) (by simp [encT]) (by decide) (by simp) (by simp [mkS]) ?_
    simp -implicitDefEqProofs [mkS, mkB]
    refine dcallJX (node_ok m3 5 0 [a, b, c] l3 (by omega) (by omega) l6) [0, 1] (by decide) (by simp [mkS, mkB]) (by simp [cellsE_cons, encE]) ?_
    simp -implicitDefEqProofs [mkS, mkB, encE, cellsE_cons]
    exact ret_keep [0, 1] 0 (by decide) (by simp) (by simp) (by simp [encE, cellsE_cons])
  · by_cases hF0 : F = []
    · subst hF0
      refine ret_of_wpH Tryz.func34 rfl cExM (rs := [.cell 8 15 true]) (by kernel_rfl) ?_
      unfold KExM
      simp -implicitDefEqProofs [mkS, mkB, encT]
      refine callJ hnum [0, 1] (by decide) (by simp [mkS, mkB]) (by simp) ?_
      simp -implicitDefEqProofs [mkS, mkB]
      refine call0 hfit (by simp [encT]) (by simp) ?_
      simp -implicitDefEqProofs [mkS, mkB, hl', hd', w3, w36, hk, wd]
      refine callJ ga [0, 1] (by decide) (by simp [mkS, mkB]) (by simp [encT]) ?_
      simp -implicitDefEqProofs [mkS, mkB, encT, wd]
      refine callJ gb [0, 1] (by decide) (by simp [mkS, mkB]) (by simp [encT]) ?_
      simp -implicitDefEqProofs [mkS, mkB, encT, wd]
      refine dcallJK gc [0, 1] (by decide) (by simp [mkS, mkB]) (by simp [encT]) (by decide) (by simp) (by simp [mkS]) ?_
      simp -implicitDefEqProofs [mkS, mkB]
      refine dcallJX (node_ok m3 5 0 [a, b, c] l3 (by omega) (by omega) l6) [0, 1] (by decide) (by simp [mkS, mkB]) (by simp [cellsE_cons, encE]) ?_
      simp -implicitDefEqProofs [mkS, mkB, encE, cellsE_cons]
      exact ret_keep [0, 1] 0 (by decide) (by simp) (by simp) (by simp [encE, cellsE_cons])
    · have hFl : 0 < F.length := by cases F with
        | nil => exact (hF0 rfl).elim
        | cons => simp
      refine ret_of_wpH Tryz.func34 rfl cExM (rs := [.cell 8 15 true]) (by kernel_rfl) ?_
      unfold KExM
      simp -implicitDefEqProofs [mkS, mkB, encT]
      refine callJ hnum [0, 1] (by decide) (by simp [mkS, mkB]) (by simp) ?_
      simp -implicitDefEqProofs [mkS, mkB]
      refine call0 hfit (by simp [encT]) (by simp) ?_
      simp -implicitDefEqProofs [mkS, mkB, hl', hd', hF0, hFl, hc, w3, w36, hk, wd]
      intro _
      refine callJ ga [0, 1] (by decide) (by simp [mkS, mkB]) (by simp [encT]) ?_
      simp -implicitDefEqProofs [mkS, mkB, encT, wd]
      refine callJ gb [0, 1] (by decide) (by simp [mkS, mkB]) (by simp [encT]) ?_
      simp -implicitDefEqProofs [mkS, mkB, encT, wd]
      refine dcallJK gc [0, 1] (by decide) (by simp [mkS, mkB]) (by simp [encT]) (by decide) (by simp) (by simp [mkS]) ?_
      simp -implicitDefEqProofs [mkS, mkB]
      refine dcallJX (node_ok m3 5 0 [a, b, c] l3 (by omega) (by omega) l6) [0, 1] (by decide) (by simp [mkS, mkB]) (by simp [cellsE_cons, encE]) ?_
      simp -implicitDefEqProofs [mkS, mkB, encE, cellsE_cons]
      exact ret_keep [0, 1] 0 (by decide) (by simp) (by simp) (by simp [encE, cellsE_cons])
end Go.Proofs.YthglhccibdlccaaGreatDoor
