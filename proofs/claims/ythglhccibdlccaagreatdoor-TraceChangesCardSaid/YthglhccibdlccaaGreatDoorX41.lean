/-
  The maker's plans.
-/
import Derived.Test.YthglhccibdlccaaGreatDoorX39
set_option linter.unusedVariables false
set_option linter.unusedSimpArgs false
namespace Go.Proofs.YthglhccibdlccaaGreatDoor
open Go.Abs
def KPlsE : K :=
  (K.seq (K.ops [kM 212 10,
 kM 4 212])
 (K.ret))
def KPlsD : K :=
  (K.seq (K.seq (K.ops [kM 196 0,
 kC 197 31 [(.tmp 196), (.const (.int .i64 22)), (.const (.int .i64 4))],
 kBi 198 197 0 .gtr])
 (K.cond (.tmp 198)
 (K.dops [(0, 0, kM 199 10),
 (1, 0, kG 200 13 5),
 (2, 0, ⟨none, .bslice (some 201) 33 5 1 kz2 [(0, 5, (.tmp 200))]⟩),
 (3, 0, ⟨none, .bslice (some 202) 9 1 1 [(.string ⟨#[]⟩)] [(0, 1, (.const (.string ⟨#[111, 108, 100]⟩)))]⟩),
 (4, 0, kM 203 0),
 (5, 0, kC 204 31 [(.tmp 203), (.const (.int .i64 23)), (.const (.int .i64 6))]),
 (6, 0, kG 205 6 5),
 (7, 0, kG 206 13 5),
 (8, 0, kC 207 73 [(.tmp 204), (.tmp 205), (.tmp 206)]),
 (9, 0, kM 208 12),
 (10, 0, ⟨none, .build (some 209) kz3 [(0, 1, (.const (.int .i64 5))), (1, 1, (.const (.string ⟨#[99]⟩))), (2, 1, (.tmp 201)), (3, 1, (.tmp 202)), (5, 5, (.tmp 207)), (10, 1, (.tmp 208))]⟩),
 (11, 0, ⟨none, .bslice (some 210) 88 11 1 kz3 [(0, 11, (.tmp 209))]⟩),
 (12, 0, kP 211 88 11 160 199 210),
 (13, 0, kM 10 211)])
 (K.skip)))
 (K.wk KPlsE))
def KPlsC : K :=
  (K.seq (K.ops [kM 178 0,
 kG 179 6 5,
 kC 180 75 [(.tmp 178), (.const (.int .i64 18)), (.tmp 179)],
 kM 177 180,
 kE 181 177 0,
 kE 182 177 1,
 kM 17 181,
 kM 18 182])
 (K.seq (K.dops [(0, 0, kM 183 10),
 (1, 0, kM 184 17),
 (2, 0, ⟨none, .bslice (some 185) 9 1 2 [(.string ⟨#[]⟩), (.string ⟨#[]⟩)] [(0, 1, (.const (.string ⟨#[97]⟩))), (1, 1, (.const (.string ⟨#[98]⟩)))]⟩),
 (3, 0, kM 186 18),
 (4, 0, kM 187 0),
 (5, 0, kC 188 31 [(.tmp 187), (.const (.int .i64 21)), (.const (.int .i64 6))]),
 (6, 0, kG 189 6 5),
 (7, 0, kG 190 16 5),
 (8, 0, kC 191 73 [(.tmp 188), (.tmp 189), (.tmp 190)]),
 (9, 0, kM 192 12),
 (10, 0, ⟨none, .build (some 193) kz3 [(0, 1, (.const (.int .i64 4))), (1, 1, (.const (.string ⟨#[116]⟩))), (2, 1, (.tmp 184)), (3, 1, (.tmp 185)), (4, 1, (.tmp 186)), (5, 5, (.tmp 191)), (10, 1, (.tmp 192))]⟩),
 (11, 0, ⟨none, .bslice (some 194) 88 11 1 kz3 [(0, 11, (.tmp 193))]⟩),
 (12, 0, kP 195 88 11 160 183 194),
 (13, 0, kM 10 195)])
 (K.wk KPlsD)))
def KPlsB : K :=
  (K.seq (K.ops [kM 134 0,
 kM 135 1,
 kC 136 31 [(.tmp 134), (.const (.int .i64 15)), (.tmp 135)],
 kM 15 136])
 (K.seq (K.dops [(0, 0, kM 137 0),
 (1, 1, kC 138 31 [(.tmp 137), (.const (.int .i64 16)), (.const (.int .i64 6))]),
 (2, 1, kG 139 6 5),
 (3, 1, kG 140 6 5),
 (4, 1, kC 141 73 [(.tmp 138), (.tmp 139), (.tmp 140)]),
 (5, 0, kZ 16 kz2),
 (6, 0, kS 16 141 5)])
 (K.seq (K.ops [kM 142 10,
 kM 143 8,
 ⟨none, .bslice (some 144) 9 1 2 [(.string ⟨#[]⟩), (.string ⟨#[]⟩)] [(0, 1, (.const (.string ⟨#[97]⟩))), (1, 1, (.const (.string ⟨#[98]⟩)))]⟩,
 kG 145 16 5,
 kM 146 15,
 ⟨none, .build (some 147) kz3 [(0, 1, (.const (.int .i64 2))), (1, 1, (.const (.string ⟨#[102]⟩))), (2, 1, (.tmp 143)), (3, 1, (.tmp 144)), (5, 5, (.tmp 145)), (10, 1, (.tmp 146))]⟩,
 ⟨none, .bslice (some 148) 88 11 1 kz3 [(0, 11, (.tmp 147))]⟩,
 kP 149 88 11 160 142 148,
 kM 10 149])
 (K.seq (K.seq (K.ops [kM 150 5])
 (K.cond (.tmp 150)
 (K.dops [(0, 0, kM 151 10),
 (1, 0, kG 152 13 5),
 (2, 0, kG 153 7 5),
 (3, 0, ⟨none, .bslice (some 154) 33 5 2 [(.int .i64 0), (.int .i64 0), (.int .i64 0), (.int .i64 0), (.slice none 0 0), (.int .i64 0), (.int .i64 0), (.int .i64 0), (.int .i64 0), (.slice none 0 0)] [(0, 5, (.tmp 152)), (5, 5, (.tmp 153))]⟩),
 (4, 0, ⟨none, .bslice (some 155) 9 1 2 [(.string ⟨#[]⟩), (.string ⟨#[]⟩)] [(0, 1, (.const (.string ⟨#[115]⟩))), (1, 1, (.const (.string ⟨#[101]⟩)))]⟩),
 (5, 0, kM 156 1),
 (6, 0, kBi 157 156 3 .add),
 (7, 0, kC 158 32 [(.tmp 157)]),
 (8, 0, kC 159 72 [(.tmp 158)]),
 (9, 0, kM 160 12),
 (10, 0, ⟨none, .build (some 161) kz3 [(0, 1, (.const (.int .i64 3))), (1, 1, (.const (.string ⟨#[115, 116, 101, 112]⟩))), (2, 1, (.tmp 154)), (3, 1, (.tmp 155)), (5, 5, (.tmp 159)), (10, 1, (.tmp 160))]⟩),
 (11, 0, ⟨none, .bslice (some 162) 88 11 1 kz3 [(0, 11, (.tmp 161))]⟩),
 (12, 0, kP 163 88 11 160 151 162),
 (13, 0, kM 10 163)])
 (K.dops [(0, 0, kM 164 10),
 (1, 0, kG 165 7 5),
 (2, 0, ⟨none, .bslice (some 166) 33 5 1 kz2 [(0, 5, (.tmp 165))]⟩),
 (3, 0, ⟨none, .bslice (some 167) 9 1 1 [(.string ⟨#[]⟩)] [(0, 1, (.const (.string ⟨#[101]⟩)))]⟩),
 (4, 0, kM 168 0),
 (5, 0, kC 169 31 [(.tmp 168), (.const (.int .i64 17)), (.const (.int .i64 6))]),
 (6, 0, kG 170 6 5),
 (7, 0, kG 171 7 5),
 (8, 0, kC 172 73 [(.tmp 169), (.tmp 170), (.tmp 171)]),
 (9, 0, kM 173 12),
 (10, 0, ⟨none, .build (some 174) kz3 [(0, 1, (.const (.int .i64 2))), (1, 1, (.const (.string ⟨#[103]⟩))), (2, 1, (.tmp 166)), (3, 1, (.tmp 167)), (5, 5, (.tmp 172)), (10, 1, (.tmp 173))]⟩),
 (11, 0, ⟨none, .bslice (some 175) 88 11 1 kz3 [(0, 11, (.tmp 174))]⟩),
 (12, 0, kP 176 88 11 160 164 175),
 (13, 0, kM 10 176)])))
 (K.wk KPlsC)))))
def KPlsA : K :=
  (K.seq (K.dops [(0, 0, kM 117 0),
 (1, 0, kC 118 31 [(.tmp 117), (.const (.int .i64 12)), (.const (.int .i64 6))]),
 (2, 0, kG 119 6 5),
 (3, 0, kG 120 7 5),
 (4, 0, kC 121 73 [(.tmp 118), (.tmp 119), (.tmp 120)]),
 (5, 9, ⟨none, .brow (some 122) 33 5 1 kz2 [(0, 5, (.tmp 121))]⟩),
 (6, 0, kM 8 122)])
 (K.seq (K.seq (K.ops [kM 123 0,
 kC 124 31 [(.tmp 123), (.const (.int .i64 13)), (.const (.int .i64 2))],
 kQi 125 124 1 false])
 (K.cond (.tmp 125)
 (K.dops [(0, 0, kM 126 8),
 (1, 0, kM 127 0),
 (2, 0, kC 128 31 [(.tmp 127), (.const (.int .i64 14)), (.const (.int .i64 6))]),
 (3, 0, kG 129 6 5),
 (4, 0, kG 130 7 5),
 (5, 0, kC 131 73 [(.tmp 128), (.tmp 129), (.tmp 130)]),
 (6, 0, ⟨none, .bslice (some 132) 33 5 1 kz2 [(0, 5, (.tmp 131))]⟩),
 (7, 0, kP 133 33 5 56 126 132),
 (8, 0, kM 8 133)])
 (K.skip)))
 (K.wk KPlsB)))
def KPlsQ : K :=
  (K.seq (K.ops [kM 69 10,
 kM 70 8,
 ⟨none, .bslice (some 71) 9 1 3 kz12 [(0, 1, (.const (.string ⟨#[84, 105, 99, 107]⟩))), (1, 1, (.const (.string ⟨#[80, 117, 115, 104]⟩))), (2, 1, (.const (.string ⟨#[83, 101, 116]⟩)))]⟩,
 ⟨none, .build (some 72) kz3 [(0, 1, (.const (.int .i64 1))), (1, 1, (.const (.string ⟨#[69, 118, 101, 110, 116]⟩))), (2, 1, (.tmp 70)), (3, 1, (.tmp 71))]⟩,
 ⟨none, .bslice (some 73) 88 11 1 kz3 [(0, 11, (.tmp 72))]⟩,
 kP 74 88 11 160 69 73,
 kM 10 74])
 (K.seq (K.ops [kM 75 1,
 kBi 76 75 1 .sub,
 kM 12 76])
 (K.seq (K.ops [kG 77 6 5,
 kZ 13 kz2,
 kS 13 77 5])
 (K.seq (K.seq (K.ops [kM 78 5])
 (K.cond (.tmp 78)
 (K.seq (K.ops [⟨none, .build (some 79) kz2 []⟩,
 ⟨none, .brow (some 80) 33 5 1 kz2 [(0, 5, (.tmp 79))]⟩,
 kM 8 80])
 (K.seq (K.seq (K.ops [kMi 14 0])
 (K.block 4 (K.loop (K.seq (K.seq (K.ops [kM 81 14,
 kM 82 0,
 kC 83 31 [(.tmp 82), (.const (.int .i64 9)), (.const (.int .i64 3))],
 kB 84 81 83 .lss])
 (K.cond (.tmp 84)
 (K.skip)
 (K.exit 4)))
 (K.seq (K.block 5 (K.dops [(0, 0, kM 87 8),
 (1, 0, kM 88 0),
 (2, 0, kM 89 14),
 (3, 0, ⟨none, .bin (some 90) .add (.const (.int .i64 10)) (.tmp 89)⟩),
 (4, 0, kC 91 31 [(.tmp 88), (.tmp 90), (.const (.int .i64 4))]),
 (5, 0, kG 92 6 5),
 (6, 0, kG 93 6 5),
 (7, 0, kC 94 73 [(.tmp 91), (.tmp 92), (.tmp 93)]),
 (8, 0, ⟨none, .bslice (some 95) 33 5 1 kz2 [(0, 5, (.tmp 94))]⟩),
 (9, 0, kP 96 33 5 56 87 95),
 (10, 0, kM 8 96)]))
 (K.ops [kM 85 14,
 kBi 86 85 1 .add,
 kM 14 86]))))))
 (K.seq (K.wk (K.ops [kM 97 1,
 kBi 98 97 2 .add,
 kC 99 32 [(.tmp 98)],
 kC 100 72 [(.tmp 99)],
 kS 13 100 5]))
 (K.seq (K.ops [kM 101 10,
 kM 102 8,
 ⟨none, .bslice (some 103) 9 1 3 kz12 [(0, 1, (.const (.string ⟨#[99, 111, 117, 110, 116]⟩))), (1, 1, (.const (.string ⟨#[108, 111, 103]⟩))), (2, 1, (.const (.string ⟨#[109, 111, 114, 101]⟩)))]⟩,
 ⟨none, .build (some 104) kz3 [(0, 1, (.const (.int .i64 0))), (1, 1, (.const (.string ⟨#[83, 116, 97, 116, 101]⟩))), (2, 1, (.tmp 102)), (3, 1, (.tmp 103))]⟩,
 ⟨none, .bslice (some 105) 88 11 1 kz3 [(0, 11, (.tmp 104))]⟩,
 kP 106 88 11 160 101 105,
 kM 10 106])
 (K.dops [(0, 0, kM 107 10),
 (1, 0, kG 108 13 5),
 (2, 0, ⟨none, .build (some 109) kz2 []⟩),
 (3, 0, kC 110 74 [(.tmp 109)]),
 (4, 0, ⟨none, .build (some 111) kz2 []⟩),
 (5, 0, ⟨none, .bslice (some 112) 33 5 3 kz13 [(0, 5, (.tmp 108)), (5, 5, (.tmp 110)), (10, 5, (.tmp 111))]⟩),
 (6, 0, ⟨none, .bslice (some 113) 9 1 3 kz12 [(0, 1, (.const (.string ⟨#[115, 116, 97, 116, 101]⟩))), (1, 1, (.const (.string ⟨#[115, 105, 103, 110, 97, 108, 115]⟩))), (2, 1, (.const (.string ⟨#[110, 101, 120, 116]⟩)))]⟩),
 (7, 0, ⟨none, .build (some 114) kz3 [(0, 1, (.const (.int .i64 0))), (1, 1, (.const (.string ⟨#[79, 117, 116]⟩))), (2, 1, (.tmp 112)), (3, 1, (.tmp 113))]⟩),
 (8, 0, ⟨none, .bslice (some 115) 88 11 1 kz3 [(0, 11, (.tmp 114))]⟩),
 (9, 0, kP 116 88 11 160 107 115),
 (10, 0, kM 10 116)])))))
 (K.skip)))
 (K.wk KPlsA)))))
def KPlsP : K :=
  (K.seq (K.ops [kM 46 8,
 ⟨none, .bslice (some 47) 9 1 3 kz12 [(0, 1, (.const (.string ⟨#[120]⟩))), (1, 1, (.const (.string ⟨#[121]⟩))), (2, 1, (.const (.string ⟨#[122]⟩)))]⟩,
 ⟨none, .build (some 48) kz3 [(0, 1, (.const (.int .i64 0))), (1, 1, (.const (.string ⟨#[80, 111, 105, 110, 116]⟩))), (2, 1, (.tmp 46)), (3, 1, (.tmp 47))]⟩,
 ⟨none, .brow (some 49) 88 11 1 kz3 [(0, 11, (.tmp 48))]⟩,
 kM 10 49])
 (K.seq (K.ops [⟨none, .build (some 50) kz2 []⟩,
 ⟨none, .brow (some 51) 33 5 1 kz2 [(0, 5, (.tmp 50))]⟩,
 kM 8 51])
 (K.seq (K.seq (K.ops [kMi 11 0])
 (K.block 2 (K.loop (K.seq (K.seq (K.ops [kM 52 11,
 kM 53 0,
 kC 54 31 [(.tmp 53), (.const (.int .i64 6)), (.const (.int .i64 2))],
 ⟨none, .bin (some 55) .add (.const (.int .i64 1)) (.tmp 54)⟩,
 kB 56 52 55 .lss])
 (K.cond (.tmp 56)
 (K.skip)
 (K.exit 2)))
 (K.seq (K.block 3 (K.dops [(0, 0, kM 59 8),
 (1, 0, kM 60 0),
 (2, 0, kM 61 11),
 (3, 0, ⟨none, .bin (some 62) .add (.const (.int .i64 7)) (.tmp 61)⟩),
 (4, 0, kC 63 31 [(.tmp 60), (.tmp 62), (.const (.int .i64 4))]),
 (5, 0, kG 64 6 5),
 (6, 0, kG 65 6 5),
 (7, 0, kC 66 73 [(.tmp 63), (.tmp 64), (.tmp 65)]),
 (8, 0, ⟨none, .bslice (some 67) 33 5 1 kz2 [(0, 5, (.tmp 66))]⟩),
 (9, 0, kP 68 33 5 56 59 67),
 (10, 0, kM 8 68)]))
 (K.ops [kM 57 11,
 kBi 58 57 1 .add,
 kM 11 58]))))))
 (K.wk KPlsQ))))
def KPls : K :=
 K.seq (K.ops [kMn 4])
 (K.seq (K.ops [kM 19 0,
 kC 20 31 [(.tmp 19), (.const (.int .i64 1)), (.const (.int .i64 4))],
 kBi 21 20 0 .gtr,
 kM 5 21])
 (K.seq (K.ops [kM 22 1,
 kC 23 32 [(.tmp 22)],
 kC 24 72 [(.tmp 23)],
 kZ 6 kz2,
 kS 6 24 5])
 (K.seq (K.ops [kM 25 1,
 kBi 26 25 1 .add,
 kC 27 32 [(.tmp 26)],
 kC 28 72 [(.tmp 27)],
 kZ 7 kz2,
 kS 7 28 5])
 (K.seq (K.ops [kMn 8])
 (K.seq (K.seq (K.ops [kMi 9 0])
 (K.block 0 (K.loop (K.seq (K.seq (K.ops [kM 29 9,
 kM 30 0,
 kC 31 31 [(.tmp 30), (.const (.int .i64 2)), (.const (.int .i64 3))],
 ⟨none, .bin (some 32) .add (.const (.int .i64 1)) (.tmp 31)⟩,
 kB 33 29 32 .lss])
 (K.cond (.tmp 33)
 (K.skip)
 (K.exit 0)))
 (K.seq (K.block 1 (K.dops [(0, 0, kM 36 8),
 (1, 0, kM 37 0),
 (2, 0, kM 38 9),
 (3, 0, ⟨none, .bin (some 39) .add (.const (.int .i64 3)) (.tmp 38)⟩),
 (4, 0, kC 40 31 [(.tmp 37), (.tmp 39), (.const (.int .i64 3))]),
 (5, 0, kG 41 6 5),
 (6, 0, kG 42 6 5),
 (7, 0, kC 43 73 [(.tmp 40), (.tmp 41), (.tmp 42)]),
 (8, 0, ⟨none, .bslice (some 44) 33 5 1 kz2 [(0, 5, (.tmp 43))]⟩),
 (9, 0, kP 45 33 5 56 36 44),
 (10, 0, kM 8 45)]))
 (K.ops [kM 34 9,
 kBi 35 34 1 .add,
 kM 9 35]))))))
 (K.wk KPlsP))))))
def hPls : Nat → Option (List (Nat × Nat)) := fun r => match r with | 27 => some [(0,0),(1,0),(2,0),(3,0),(4,0),(5,9),(6,0)] | _ => none
theorem cPls : compileH Tryz.prog Tryz.f33.ntmps hPls (Tryz.f33.body.getD .skip) = some KPls.erase := by kernel_rfl
@[simp] theorem calPls : callable Tryz.prog 33 = true := by kernel_rfl
structure Pln where
  kind : Int
  name : ByteArray
  types : List Typ
  names : List ByteArray
  most : List Int
  out : Typ
  mod : Int
def encG (p : Pln) : List A := [int p.kind, .lit (.string p.name), .sl p.types.length (cellsT p.types), .sl p.names.length (cellsN p.names), .sl p.most.length (ints p.most), int p.out.k, int p.out.id.a, int p.out.id.b, int p.out.id.c, .sl p.out.kids.length (cellsT p.out.kids), int p.mod]
theorem encG_plain (p : Pln) : Plain (encG p) := by
  have h1 := cellsT_plain p.types
  have h2 := cellsN_plain p.names
  have h3 := cellsT_plain p.out.kids
  exact ⟨by simp [encG, h1.1, h2.1, h3.1], fun rf g => by simp [encG, h1.2, h2.2, h3.2]⟩
def cellsG (l : List Pln) : List A := l.flatMap encG
theorem cellsG_plain (l : List Pln) : Plain (cellsG l) := flat_plain encG_plain l
@[simp] theorem nrm0_cellsG (l : List Pln) : nrm0L (cellsG l) = cellsG l := (cellsG_plain l).1
@[simp] theorem vw_cellsG {rf g} (l : List Pln) : vwL rf g (cellsG l) = cellsG l := (cellsG_plain l).2 _ _
@[simp] theorem cellsG_nil : cellsG [] = [] := rfl
theorem cellsG_cons (x : Pln) (l : List Pln) : cellsG (x :: l) = encG x ++ cellsG l := rfl
theorem cellsG_append (l l' : List Pln) : cellsG (l ++ l') = cellsG l ++ cellsG l' := by simp only [cellsG, List.flatMap_append]
@[simp] theorem cellsG_len (l : List Pln) : (cellsG l).length = l.length * 11 := by rw [cellsG, flat_len (k := 11) (fun _ => rfl)]
theorem cellsG_drop {l : List Pln} {i : Nat} (h : i < l.length) : (cellsG l).drop (i * 11) = encG l[i] ++ cellsG (l.drop (i + 1)) := by rw [cellsG, cellsG, flat_drop (k := 11) (fun _ => rfl) h]
@[simp] theorem encG_len (d : Pln) : (encG d).length = 11 := rfl
@[simp] theorem encG_all (d : Pln) : (encG d).take 11 = encG d := List.take_of_length_le (Nat.le_refl _)
@[simp] theorem encG_take (d : Pln) (l : List A) : (encG d ++ l).take 11 = encG d := by rw [List.take_append_of_le_length (by simp)]; exact List.take_of_length_le (by simp)
@[simp] theorem nrm0_encG (d : Pln) : nrm0L (encG d) = encG d := (encG_plain d).1
@[simp] theorem vw_encG (d : Pln) {rf g} : vwL rf g (encG d) = encG d := (encG_plain d).2 _ _
def tyL (l : List Int) (at_ most n : Int) (one : Typ) : List Typ := (List.range n.toNat).map fun (i : Nat) => simV (atV l (at_ + i) most) one one
section
variable (l : List Int) (mods : Int)
def hasH : Bool := decide (0 < atV l 1 4)
def tPoint : Typ := tDef (idR mods)
def tEvent : Typ := tDef (idR (mods + 1))
def tState : Typ := if hasH l then tDef (idR (mods + 2)) else tPoint mods
def tRes : Typ := simV (atV l 16 6) (tPoint mods) (tPoint mods)
def pPoint : Pln := ⟨0, ⟨#[80, 111, 105, 110, 116]⟩, tyL l 3 3 (1 + atV l 2 3) (tPoint mods), [⟨#[120]⟩, ⟨#[121]⟩, ⟨#[122]⟩], [], tInt, 0⟩
def pEvent : Pln := ⟨1, ⟨#[69, 118, 101, 110, 116]⟩, tInt :: tyL l 7 4 (1 + atV l 6 2) (tPoint mods), [⟨#[84, 105, 99, 107]⟩, ⟨#[80, 117, 115, 104]⟩, ⟨#[83, 101, 116]⟩], [], tInt, 0⟩
def pState : Pln := ⟨0, ⟨#[83, 116, 97, 116, 101]⟩, tInt :: tyL l 10 4 (atV l 9 3) (tPoint mods), [⟨#[99, 111, 117, 110, 116]⟩, ⟨#[108, 111, 103]⟩, ⟨#[109, 111, 114, 101]⟩], [], tInt, 0⟩
def pOut : Pln := ⟨0, ⟨#[79, 117, 116]⟩, [tDef (idR (mods + 2)), tList tInt, tInt], [⟨#[115, 116, 97, 116, 101]⟩, ⟨#[115, 105, 103, 110, 97, 108, 115]⟩, ⟨#[110, 101, 120, 116]⟩], [], tInt, 0⟩
def fTypes : List Typ := simV (atV l 12 6) (tPoint mods) (tEvent mods) :: (if atV l 13 2 = 1 then [simV (atV l 14 6) (tPoint mods) (tEvent mods)] else [])
def pF : Pln := ⟨2, ⟨#[102]⟩, fTypes l mods, [⟨#[97]⟩, ⟨#[98]⟩], [], tRes l mods, atV l 15 mods⟩
def pStep : Pln := ⟨3, ⟨#[115, 116, 101, 112]⟩, [tDef (idR (mods + 2)), tEvent mods], [⟨#[115]⟩, ⟨#[101]⟩], [], tDef (idR (mods + 3)), mods - 1⟩
def pG : Pln := ⟨2, ⟨#[103]⟩, [tEvent mods], [⟨#[101]⟩], [], simV (atV l 17 6) (tPoint mods) (tEvent mods), mods - 1⟩
def pT : Pln := ⟨4, ⟨#[116]⟩, (inV l 18 (tPoint mods)).map (·.1), [⟨#[97]⟩, ⟨#[98]⟩], (inV l 18 (tPoint mods)).map (·.2), simV (atV l 21 6) (tPoint mods) (tRes l mods), mods - 1⟩
def pC : Pln := ⟨5, ⟨#[99]⟩, [tState l mods], [⟨#[111, 108, 100]⟩], [], simV (atV l 23 6) (tPoint mods) (tState l mods), mods - 1⟩
def plE : List Pln := if 0 < atV l 22 4 then [pC l mods] else []
def plD : List Pln := pT l mods :: plE l mods
def plC : List Pln := (if hasH l then pStep mods else pG l mods) :: plD l mods
def plB : List Pln := pF l mods :: plC l mods
def plansV : List Pln := [pPoint l mods, pEvent l mods] ++ (if hasH l then [pState l mods, pOut mods] else []) ++ plB l mods
end
abbrev finG (L : List Pln) := fin [RS.slot 4] (RetQ 0 (.sl L.length (cellsG L)) [])
theorem pls_E (L : List Pln) : wpK Tryz.prog 0 KPlsE (finG L) (mkEnv [(10, .sl L.length (cellsG L))]) [] := by
  unfold KPlsE
  simp -implicitDefEqProofs
  exact ret_end 0 (by simp)
theorem pls_D (l : List Int) (mods : Int) (hm : 1 ≤ mods) (hm2 : mods ≤ 2) (hl : ∀ x ∈ l, w64 x = x) (L : List Pln) (hL : L.length ≤ 20) :
    wpK Tryz.prog 0 KPlsD (finG (L ++ plE l mods)) (mkEnv [(0, .sl l.length (ints l)), (6, .ptr 0 0), (10, .row 2 L.length), (12, int (mods - 1)), (13, .ptr 1 0)])
      [.box (encT (tPoint mods)), .box (encT (tState l mods)), .row false 88 11 L.length (cellsG L)] := by
  have h0 := at_ok l 22 4 (by omega)
  have h1 := at_ok l 23 6 (by omega)
  obtain ⟨r0, r0'⟩ := at_range (i := 23) hl (most := 6) (by omega)
  have h2 := simple_ok (atV l 23 6) (tPoint mods) (tState l mods) (IntWalk.i64_in _ (by omega))
  unfold KPlsD
  simp -implicitDefEqProofs
  refine call0 h0 (by simp) (by simp) ?_
  by_cases h : 0 < atV l 22 4
  · simp -implicitDefEqProofs [h, encT]
    refine dcall0 h1 (by simp) (by simp) ?_
    simp -implicitDefEqProofs [encT]
    refine dcall0 h2 (by simp [encT]) (by simp) ?_
    simp -implicitDefEqProofs [encT]
    refine ⟨⟨by simp [maxLen]; omega, by omega⟩, ?_⟩
    exact ⟨_, _, selW [] 1 (by decide) (by simp) (by simp) (by simp [plE, h, pC, cellsG_append, cellsG_cons, encG, cellsT_cons, encT, cellsN_one]), pls_E _⟩
  · simp -implicitDefEqProofs [h]
    exact ⟨_, _, selW [] 1 (by decide) (by simp) (by simp) (by simp [plE, h]), pls_E _⟩
theorem simple_at (l : List Int) (i m : Int) (hm : 0 < m) (hl : ∀ x ∈ l, w64 x = x) (hm2 : m ≤ 1000) (a b : Typ) : Ret Tryz.prog 73 [int (atV l i m), .agg (encT a), .agg (encT b)] [] (.agg (encT (simV (atV l i m) a b))) [] := by
  obtain ⟨r0, r0'⟩ := at_range (i := i) hl (most := m) hm
  exact simple_ok _ _ _ (IntWalk.i64_in _ (by omega))
theorem pls_C (l : List Int) (mods : Int) (hm : 1 ≤ mods) (hm2 : mods ≤ 2) (hl : ∀ x ∈ l, w64 x = x) (L : List Pln) (hL : L.length ≤ 19) :
    wpK Tryz.prog 0 KPlsC (finG (L ++ plD l mods)) (mkEnv [(0, .sl l.length (ints l)), (6, .ptr 0 0), (10, .row 3 L.length), (12, int (mods - 1)), (13, .ptr 1 0), (16, .ptr 2 0)])
      [.box (encT (tPoint mods)), .box (encT (tState l mods)), .box (encT (tRes l mods)), .row false 88 11 L.length (cellsG L)] := by
  have h0 := inp_ok l 18 (tPoint mods) (by omega) (by omega) hl
  have h1 := at_ok l 21 6 (by omega)
  have h2 := simple_at l 21 6 (by omega) hl (by omega) (tPoint mods) (tRes l mods)
  have hD := pls_D l mods hm hm2 hl (L ++ [pT l mods]) (by simp; omega)
  rw [List.append_assoc] at hD
  unfold KPlsC
  simp -implicitDefEqProofs [encT]
  refine call0 h0 (by simp [encT]) (by simp [inR, tysA, mostA]) ?_
  simp -implicitDefEqProofs [inR, tysA, mostA]
  refine dcall0 h1 (by simp) (by simp) ?_
  simp -implicitDefEqProofs [encT]
  refine dcall0 h2 (by simp [encT]) (by simp) ?_
  simp -implicitDefEqProofs [encT]
  refine ⟨⟨by simp [maxLen]; omega, by omega⟩, ?_⟩
  refine ⟨_, _, selW [0, 1, 3] 0 (by decide) (by simp) ?_ (by simp), hD⟩
  simp [encT, cellsG_append, cellsG_cons, encG, pT, cellsN_two]
theorem pls_B (l : List Int) (mods : Int) (hm : 1 ≤ mods) (hm2 : mods ≤ 2) (hl : ∀ x ∈ l, w64 x = x) (L : List Pln) (hL : L.length ≤ 17) :
    wpK Tryz.prog 0 KPlsB (finG (L ++ plB l mods)) (mkEnv [(0, .sl l.length (ints l)), (1, int mods), (5, bl (hasH l)), (6, .ptr 0 0), (7, .ptr 1 0), (8, .sl (fTypes l mods).length (cellsT (fTypes l mods))), (10, .row 3 L.length), (12, int (mods - 1)), (13, .ptr 2 0)])
      [.box (encT (tPoint mods)), .box (encT (tEvent mods)), .box (encT (tState l mods)), .row false 88 11 L.length (cellsG L)] := by
  have w3 : IntKind.i64.wrap (mods + 3) = mods + 3 := IntWalk.i64_in _ (by omega)
  have h0 := at_ok l 15 mods (by omega)
  have h1 := at_ok l 16 6 (by omega)
  have h2 := simple_at l 16 6 (by omega) hl (by omega) (tPoint mods) (tPoint mods)
  have h3 := id_ok (mods + 3)
  have h4 := of_ok (idR (mods + 3))
  have h5 := at_ok l 17 6 (by omega)
  have h6 := simple_at l 17 6 (by omega) hl (by omega) (tPoint mods) (tEvent mods)
  have hC := pls_C l mods hm hm2 hl (L ++ [pF l mods] ++ [if hasH l then pStep mods else pG l mods]) (by simp; omega)
  rw [List.append_assoc, List.append_assoc] at hC
  unfold KPlsB
  simp -implicitDefEqProofs
  refine call0 h0 (by simp) (by simp) ?_
  simp -implicitDefEqProofs
  refine dcallJF h1 [] (by decide) (by simp) (by simp) (by simp) ?_
  simp -implicitDefEqProofs [encT]
  refine dcallJF h2 [] (by decide) (by simp) (by simp [encT]) (by simp) ?_
  simp -implicitDefEqProofs [encT]
  refine ⟨⟨by simp [maxLen]; omega, by omega⟩, ?_⟩
  cases hh : hasH l
  · simp -implicitDefEqProofs [encT]
    refine dcall0 h5 (by simp) (by simp) ?_
    simp -implicitDefEqProofs [encT]
    refine dcall0 h6 (by simp [encT]) (by simp) ?_
    simp -implicitDefEqProofs [encT]
    refine ⟨⟨by simp [maxLen]; omega, by omega⟩, ?_⟩
    refine ⟨_, _, selW [0, 2, 4, 3] 0 (by decide) (by simp) ?_ (by simp), hC⟩
    simp [encT, cellsG_append, cellsG_cons, encG, pF, pG, hh, tRes, cellsN_one, cellsN_two, cellsT_cons]
  · simp -implicitDefEqProofs [encT, w3]
    refine dcall0 h3 (by simp) (by simp) ?_
    simp -implicitDefEqProofs [encT]
    refine dcall0 h4 (by simp [encI]) (by simp) ?_
    simp -implicitDefEqProofs [encT]
    refine ⟨⟨by simp [maxLen]; omega, by omega⟩, ?_⟩
    refine ⟨_, _, selW [0, 2, 4, 3] 0 (by decide) (by simp) ?_ (by simp), hC⟩
    simp [encT, cellsG_append, cellsG_cons, encG, pF, pStep, hh, tRes, tState, cellsN_one, cellsN_two, cellsT_cons]
theorem pls_A (l : List Int) (mods : Int) (hm : 1 ≤ mods) (hm2 : mods ≤ 2) (hl : ∀ x ∈ l, w64 x = x) (L : List Pln) (hL : L.length ≤ 17) :
    wpK Tryz.prog 0 KPlsA (finG (L ++ plB l mods)) (mkEnv [(0, .sl l.length (ints l)), (1, int mods), (5, bl (hasH l)), (6, .ptr 0 0), (7, .ptr 1 0), (10, .row 3 L.length), (12, int (mods - 1)), (13, .ptr 2 0)])
      [.box (encT (tPoint mods)), .box (encT (tEvent mods)), .box (encT (tState l mods)), .row false 88 11 L.length (cellsG L)] := by
  have h0 := at_ok l 12 6 (by omega)
  have h1 := simple_at l 12 6 (by omega) hl (by omega) (tPoint mods) (tEvent mods)
  have h2 := at_ok l 13 2 (by omega)
  have h3 := at_ok l 14 6 (by omega)
  have h4 := simple_at l 14 6 (by omega) hl (by omega) (tPoint mods) (tEvent mods)
  have hB := pls_B l mods hm hm2 hl L hL
  unfold KPlsA
  simp -implicitDefEqProofs
  refine dcall0 h0 (by simp) (by simp) ?_
  simp -implicitDefEqProofs [encT]
  refine dcall0 h1 (by simp [encT]) (by simp) ?_
  simp -implicitDefEqProofs [encT]
  refine call0 h2 (by simp) (by simp) ?_
  by_cases h : atV l 13 2 = 1
  · simp -implicitDefEqProofs [h, encT]
    refine dcall0 h3 (by simp) (by simp) ?_
    simp -implicitDefEqProofs [encT]
    refine dcall0 h4 (by simp [encT]) (by simp) ?_
    simp -implicitDefEqProofs [encT, maxLen]
    refine ⟨_, _, selW [0, 1, 2, 3] 1 (by decide) (by simp) (by simp [encT]) ?_, hB⟩
    simp [fTypes, h, cellsT_cons, encT]
  · simp -implicitDefEqProofs [h, encT]
    refine ⟨_, _, selW [0, 1, 2, 3] 1 (by decide) (by simp) (by simp [encT]) ?_, hB⟩
    simp [fTypes, h, cellsT_cons, encT]
end Go.Proofs.YthglhccibdlccaaGreatDoor
