/-
  The reference's measure.
-/
import Derived.Test.YtbkiphnlbadhcaaC9
namespace Go.Proofs.Ytbkiphnlbadhcaa
open Go.Abs

def T37 : K :=
 (K.seq (K.seq (K.ops [⟨none, .mov (some 156) (.tmp 11)⟩,
 ⟨none, .bin (some 157) .gtr (.tmp 156) (.const (.int .i64 4096))⟩,
 ⟨none, .mov (some 158) (.tmp 157)⟩,
 ⟨some (158, false), .mov (some 159) (.tmp 12)⟩,
 ⟨some (158, false), .bin (some 160) .gtr (.tmp 159) (.const (.int .i64 256))⟩,
 ⟨none, .pick (some 161) (.tmp 158) (.const (.bool true)) (.tmp 160)⟩])
 (K.cond (.tmp 161)
 (K.seq (K.ops [⟨none, .mov (some 8) (.const (.int .i64 0))⟩,
 ⟨none, .mov (some 9) (.const (.int .i64 0))⟩,
 ⟨none, .mov (some 10) (.const (.int .i64 4))⟩])
 (K.ret))
 (K.skip)))
 (K.seq (K.seq (K.ops [⟨none, .mov (some 162) (.tmp 11)⟩,
 ⟨none, .eqv (some 163) false .i (.tmp 162) (.const (.int .i64 0))⟩])
 (K.cond (.tmp 163)
 (K.ops [⟨none, .mov (some 12) (.const (.int .i64 0))⟩])
 (K.skip)))
 (K.seq (K.ops [⟨none, .mov (some 164) (.tmp 11)⟩,
 ⟨none, .mov (some 165) (.tmp 12)⟩,
 ⟨none, .mov (some 8) (.tmp 164)⟩,
 ⟨none, .mov (some 9) (.tmp 165)⟩,
 ⟨none, .mov (some 10) (.const (.int .i64 0))⟩])
 (K.ret))))
-- splicery/spliceryref13.measure · results ["8", "9", "10"]
def K37 : K :=
 K.seq (K.ops [⟨none, .box (some 4) (.tmp 0)⟩,
 ⟨none, .box (some 5) (.tmp 1)⟩,
 ⟨none, .mov (some 8) (.const (.int .i64 0))⟩,
 ⟨none, .mov (some 9) (.const (.int .i64 0))⟩,
 ⟨none, .mov (some 10) (.const (.int .i64 0))⟩])
 (K.seq (K.seq (K.ops [⟨none, .ld (some 25) (.tmp 4) 2 true⟩,
 ⟨none, .ld (some 26) (.tmp 5) 5 true⟩,
 ⟨none, .call (some 27) (.func 68) [(.tmp 25), (.tmp 26)]⟩,
 ⟨none, .not (some 28) (.tmp 27)⟩])
 (K.cond (.tmp 28)
 (K.seq (K.ops [⟨none, .mov (some 8) (.const (.int .i64 0))⟩,
 ⟨none, .mov (some 9) (.const (.int .i64 0))⟩,
 ⟨none, .mov (some 10) (.const (.int .i64 1))⟩])
 (K.ret))
 (K.skip)))
 (K.seq (K.seq (K.ops [⟨none, .mov (some 29) (.tmp 3)⟩,
 ⟨none, .bin (some 30) .gtr (.tmp 29) (.const (.int .i64 24))⟩])
 (K.cond (.tmp 30)
 (K.seq (K.ops [⟨none, .mov (some 8) (.const (.int .i64 0))⟩,
 ⟨none, .mov (some 9) (.const (.int .i64 0))⟩,
 ⟨none, .mov (some 10) (.const (.int .i64 4))⟩])
 (K.ret))
 (K.skip)))
 (K.seq (K.seq (K.ops [⟨none, .addr (some 31) (.tmp 5) 0⟩,
 ⟨none, .ld (some 32) (.tmp 31) 1 false⟩,
 ⟨none, .eqv (some 33) false .i (.tmp 32) (.const (.int .i64 0))⟩])
 (K.cond (.tmp 33)
 (K.seq (K.ops [⟨none, .mov (some 34) (.tmp 2)⟩,
 ⟨none, .bin (some 35) .mul (.const (.int .i64 2)) (.tmp 34)⟩,
 ⟨none, .bin (some 36) .add (.tmp 35) (.const (.int .i64 1))⟩,
 ⟨none, .mov (some 8) (.tmp 36)⟩,
 ⟨none, .mov (some 9) (.const (.int .i64 1))⟩,
 ⟨none, .mov (some 10) (.const (.int .i64 0))⟩])
 (K.ret))
 (K.skip)))
 (K.seq (K.seq (K.ops [⟨none, .addr (some 37) (.tmp 5) 0⟩,
 ⟨none, .ld (some 38) (.tmp 37) 1 false⟩,
 ⟨none, .eqv (some 39) false .i (.tmp 38) (.const (.int .i64 1))⟩])
 (K.cond (.tmp 39)
 (K.seq (K.ops [⟨none, .mov (some 8) (.const (.int .i64 2))⟩,
 ⟨none, .mov (some 9) (.const (.int .i64 1))⟩,
 ⟨none, .mov (some 10) (.const (.int .i64 0))⟩])
 (K.ret))
 (K.skip)))
 (K.seq (K.ops [⟨none, .mov (some 11) (.const (.int .i64 1))⟩])
 (K.seq (K.ops [⟨none, .mov (some 12) (.const (.int .i64 1))⟩])
 (K.seq (K.seq (K.ops [⟨none, .addr (some 40) (.tmp 5) 0⟩,
 ⟨none, .ld (some 41) (.tmp 40) 1 false⟩,
 ⟨none, .eqv (some 42) false .i (.tmp 41) (.const (.int .i64 2))⟩])
 (K.cond (.tmp 42)
 (K.seq (K.dops [(0, 0, ⟨none, .ld (some 44) (.tmp 4) 2 true⟩),
 (1, 0, ⟨none, .addr (some 45) (.tmp 5) 4⟩),
 (2, 0, ⟨none, .ld (some 46) (.tmp 45) 1 false⟩),
 (3, 0, ⟨none, .idx (some 47) (.tmp 46) (.const (.int .i64 0)) 5⟩),
 (4, 0, ⟨none, .ld (some 48) (.tmp 47) 5 true⟩),
 (5, 0, ⟨none, .mov (some 49) (.tmp 2)⟩),
 (6, 0, ⟨none, .mov (some 50) (.tmp 3)⟩),
 (7, 0, ⟨none, .bin (some 51) .add (.tmp 50) (.const (.int .i64 1))⟩),
 (8, 0, ⟨none, .call (some 52) (.func 37) [(.tmp 44), (.tmp 48), (.tmp 49), (.tmp 51)]⟩),
 (9, 0, ⟨none, .mov (some 43) (.tmp 52)⟩),
 (10, 0, ⟨none, .ext (some 53) (.tmp 43) 0⟩),
 (11, 0, ⟨none, .ext (some 54) (.tmp 43) 1⟩),
 (12, 0, ⟨none, .ext (some 55) (.tmp 43) 2⟩),
 (13, 0, ⟨none, .mov (some 13) (.tmp 53)⟩),
 (14, 0, ⟨none, .mov (some 14) (.tmp 54)⟩),
 (15, 0, ⟨none, .mov (some 15) (.tmp 55)⟩)])
 (K.seq (K.seq (K.ops [⟨none, .mov (some 56) (.tmp 15)⟩,
 ⟨none, .eqv (some 57) true .i (.tmp 56) (.const (.int .i64 0))⟩])
 (K.cond (.tmp 57)
 (K.seq (K.ops [⟨none, .mov (some 58) (.tmp 15)⟩,
 ⟨none, .mov (some 8) (.const (.int .i64 0))⟩,
 ⟨none, .mov (some 9) (.const (.int .i64 0))⟩,
 ⟨none, .mov (some 10) (.tmp 58)⟩])
 (K.ret))
 (K.skip)))
 (K.seq (K.seq (K.ops [⟨none, .mov (some 59) (.tmp 2)⟩,
 ⟨none, .bin (some 60) .geq (.tmp 59) (.const (.int .i64 1))⟩])
 (K.cond (.tmp 60)
 (K.seq (K.ops [⟨none, .mov (some 61) (.tmp 11)⟩,
 ⟨none, .mov (some 62) (.tmp 13)⟩,
 ⟨none, .bin (some 63) .add (.tmp 61) (.tmp 62)⟩,
 ⟨none, .mov (some 11) (.tmp 63)⟩])
 (K.ops [⟨none, .mov (some 64) (.tmp 12)⟩,
 ⟨none, .mov (some 65) (.tmp 14)⟩,
 ⟨none, .bin (some 66) .add (.tmp 64) (.tmp 65)⟩,
 ⟨none, .mov (some 12) (.tmp 66)⟩]))
 (K.skip)))
 (K.seq (K.ops [⟨none, .mov (some 67) (.tmp 2)⟩,
 ⟨none, .bin (some 68) .geq (.tmp 67) (.const (.int .i64 2))⟩])
 (K.cond (.tmp 68)
 (K.seq (K.ops [⟨none, .mov (some 69) (.tmp 11)⟩,
 ⟨none, .mov (some 70) (.tmp 13)⟩,
 ⟨none, .mov (some 71) (.tmp 13)⟩,
 ⟨none, .bin (some 72) .mul (.tmp 70) (.tmp 71)⟩,
 ⟨none, .bin (some 73) .add (.tmp 69) (.tmp 72)⟩,
 ⟨none, .mov (some 11) (.tmp 73)⟩])
 (K.ops [⟨none, .mov (some 74) (.tmp 12)⟩,
 ⟨none, .mov (some 75) (.tmp 14)⟩,
 ⟨none, .bin (some 76) .add (.tmp 74) (.tmp 75)⟩,
 ⟨none, .mov (some 12) (.tmp 76)⟩]))
 (K.skip))))))
 (K.seq (K.ops [⟨none, .ld (some 78) (.tmp 4) 2 true⟩,
 ⟨none, .addr (some 79) (.tmp 5) 1⟩,
 ⟨none, .ld (some 80) (.tmp 79) 3 true⟩,
 ⟨none, .call (some 81) (.func 69) [(.tmp 78), (.tmp 80)]⟩,
 ⟨none, .mov (some 77) (.tmp 81)⟩,
 ⟨none, .ext (some 82) (.tmp 77) 0⟩,
 ⟨none, .ext (some 83) (.tmp 77) 1⟩,
 ⟨none, .alloc (some 16) [(.int .i64 0), (.int .i64 0), (.int .i64 0), (.int .i64 0), (.int .i64 0), (.int .i64 0), (.int .i64 0), (.string ⟨#[]⟩), (.slice none 0 0), (.int .i64 0), (.int .i64 0), (.int .i64 0), (.int .i64 0), (.slice none 0 0), (.int .i64 0), (.int .i64 0), (.int .i64 0), (.int .i64 0), (.int .i64 0), (.int .i64 0), (.int .i64 0), (.int .i64 0), (.int .i64 0), (.int .i64 0), (.int .i64 0), (.int .i64 0), (.slice none 0 0), (.slice none 0 0), (.slice none 0 0), (.int .i64 0), (.slice none 0 0)]⟩,
 ⟨none, .st none (.tmp 16) (.tmp 82) 31⟩,
 ⟨none, .mov (some 17) (.tmp 83)⟩])
 (K.seq (K.ops [⟨none, .mov (some 18) (.const (.slice none 0 0))⟩])
 (K.seq (K.ops [⟨none, .mov (some 19) (.const (.slice none 0 0))⟩])
 (K.seq (K.seq (K.ops [⟨none, .mov (some 20) (.const (.int .i64 0))⟩])
 (K.block 0 (K.loop (K.seq (K.seq (K.ops [⟨none, .mov (some 84) (.tmp 20)⟩,
 ⟨none, .addr (some 85) (.tmp 16) 8⟩,
 ⟨none, .ld (some 86) (.tmp 85) 1 false⟩,
 ⟨none, .len (some 87) false (.tmp 86)⟩,
 ⟨none, .bin (some 88) .lss (.tmp 84) (.tmp 87)⟩])
 (K.cond (.tmp 88)
 (K.skip)
 (K.exit 0)))
 (K.seq (K.block 1 (K.seq (K.dops [(0, 0, ⟨none, .ld (some 92) (.tmp 4) 2 true⟩),
 (1, 0, ⟨none, .addr (some 93) (.tmp 16) 8⟩),
 (2, 0, ⟨none, .ld (some 94) (.tmp 93) 1 false⟩),
 (3, 0, ⟨none, .mov (some 95) (.tmp 20)⟩),
 (4, 0, ⟨none, .idx (some 96) (.tmp 94) (.tmp 95) 11⟩),
 (5, 0, ⟨none, .addr (some 97) (.tmp 96) 4⟩),
 (6, 0, ⟨none, .ld (some 98) (.tmp 97) 5 true⟩),
 (7, 0, ⟨none, .mov (some 99) (.tmp 2)⟩),
 (8, 0, ⟨none, .mov (some 100) (.tmp 3)⟩),
 (9, 0, ⟨none, .bin (some 101) .add (.tmp 100) (.const (.int .i64 1))⟩),
 (10, 0, ⟨none, .call (some 102) (.func 37) [(.tmp 92), (.tmp 98), (.tmp 99), (.tmp 101)]⟩),
 (11, 0, ⟨none, .mov (some 91) (.tmp 102)⟩),
 (12, 0, ⟨none, .ext (some 103) (.tmp 91) 0⟩),
 (13, 0, ⟨none, .ext (some 104) (.tmp 91) 1⟩),
 (14, 0, ⟨none, .ext (some 105) (.tmp 91) 2⟩),
 (15, 0, ⟨none, .mov (some 21) (.tmp 103)⟩),
 (16, 0, ⟨none, .mov (some 22) (.tmp 104)⟩),
 (17, 0, ⟨none, .mov (some 23) (.tmp 105)⟩)])
 (K.seq (K.seq (K.ops [⟨none, .mov (some 106) (.tmp 23)⟩,
 ⟨none, .eqv (some 107) true .i (.tmp 106) (.const (.int .i64 0))⟩])
 (K.cond (.tmp 107)
 (K.seq (K.ops [⟨none, .mov (some 108) (.tmp 23)⟩,
 ⟨none, .mov (some 8) (.const (.int .i64 0))⟩,
 ⟨none, .mov (some 9) (.const (.int .i64 0))⟩,
 ⟨none, .mov (some 10) (.tmp 108)⟩])
 (K.ret))
 (K.skip)))
 (K.seq (K.ops [⟨none, .mov (some 109) (.tmp 18)⟩,
 ⟨none, .mov (some 110) (.tmp 21)⟩,
 ⟨none, .bslice (some 111) 3 1 1 [(.int .i64 0)] [(0, 1, (.tmp 110))]⟩,
 ⟨none, .app (some 112) 3 1 8 (.tmp 109) (.tmp 111)⟩,
 ⟨none, .mov (some 18) (.tmp 112)⟩])
 (K.ops [⟨none, .mov (some 113) (.tmp 19)⟩,
 ⟨none, .mov (some 114) (.tmp 22)⟩,
 ⟨none, .bslice (some 115) 3 1 1 [(.int .i64 0)] [(0, 1, (.tmp 114))]⟩,
 ⟨none, .app (some 116) 3 1 8 (.tmp 113) (.tmp 115)⟩,
 ⟨none, .mov (some 19) (.tmp 116)⟩])))))
 (K.ops [⟨none, .mov (some 89) (.tmp 20)⟩,
 ⟨none, .bin (some 90) .add (.tmp 89) (.const (.int .i64 1))⟩,
 ⟨none, .mov (some 20) (.tmp 90)⟩]))))))
 (K.seq (K.seq (K.ops [⟨none, .addr (some 117) (.tmp 16) 3⟩,
 ⟨none, .ld (some 118) (.tmp 117) 1 false⟩,
 ⟨none, .eqv (some 119) false .i (.tmp 118) (.const (.int .i64 1))⟩])
 (K.cond (.tmp 119)
 (K.ops [⟨none, .mov (some 11) (.const (.int .i64 0))⟩])
 (K.skip)))
 (K.seq (K.ops [⟨none, .mov (some 24) (.const (.int .i64 0))⟩])
 (K.block 2 (K.loop (K.seq (K.seq (K.ops [⟨none, .mov (some 120) (.tmp 24)⟩,
 ⟨none, .mov (some 121) (.tmp 18)⟩,
 ⟨none, .len (some 122) false (.tmp 121)⟩,
 ⟨none, .bin (some 123) .lss (.tmp 120) (.tmp 122)⟩])
 (K.cond (.tmp 123)
 (K.skip)
 (K.exit 2)))
 (K.seq (K.block 3 (K.seq (K.seq (K.ops [⟨none, .addr (some 126) (.tmp 16) 3⟩,
 ⟨none, .ld (some 127) (.tmp 126) 1 false⟩,
 ⟨none, .eqv (some 128) false .i (.tmp 127) (.const (.int .i64 1))⟩])
 (K.cond (.tmp 128)
 (K.seq (K.ops [⟨none, .mov (some 129) (.tmp 11)⟩,
 ⟨none, .mov (some 130) (.tmp 18)⟩,
 ⟨none, .mov (some 131) (.tmp 24)⟩,
 ⟨none, .idx (some 132) (.tmp 130) (.tmp 131) 1⟩,
 ⟨none, .ld (some 133) (.tmp 132) 1 false⟩,
 ⟨none, .bin (some 134) .add (.tmp 129) (.tmp 133)⟩,
 ⟨none, .mov (some 11) (.tmp 134)⟩])
 (K.seq (K.ops [⟨none, .mov (some 135) (.tmp 12)⟩,
 ⟨none, .mov (some 136) (.tmp 19)⟩,
 ⟨none, .mov (some 137) (.tmp 24)⟩,
 ⟨none, .idx (some 138) (.tmp 136) (.tmp 137) 1⟩,
 ⟨none, .ld (some 139) (.tmp 138) 1 false⟩,
 ⟨none, .bin (some 140) .add (.const (.int .i64 1)) (.tmp 139)⟩,
 ⟨none, .mm (some 141) true [(.tmp 135), (.tmp 140)]⟩,
 ⟨none, .mov (some 12) (.tmp 141)⟩])
 (K.exit 3)))
 (K.skip)))
 (K.seq (K.ops [⟨none, .mov (some 142) (.tmp 11)⟩,
 ⟨none, .mov (some 143) (.tmp 18)⟩,
 ⟨none, .mov (some 144) (.tmp 24)⟩,
 ⟨none, .idx (some 145) (.tmp 143) (.tmp 144) 1⟩,
 ⟨none, .ld (some 146) (.tmp 145) 1 false⟩,
 ⟨none, .bin (some 147) .mul (.tmp 142) (.tmp 146)⟩,
 ⟨none, .mov (some 11) (.tmp 147)⟩])
 (K.seq (K.ops [⟨none, .mov (some 148) (.tmp 12)⟩,
 ⟨none, .mov (some 149) (.tmp 19)⟩,
 ⟨none, .mov (some 150) (.tmp 24)⟩,
 ⟨none, .idx (some 151) (.tmp 149) (.tmp 150) 1⟩,
 ⟨none, .ld (some 152) (.tmp 151) 1 false⟩,
 ⟨none, .bin (some 153) .add (.tmp 148) (.tmp 152)⟩,
 ⟨none, .mov (some 12) (.tmp 153)⟩])
 (K.seq (K.ops [⟨none, .mov (some 154) (.tmp 11)⟩,
 ⟨none, .bin (some 155) .gtr (.tmp 154) (.const (.int .i64 4096))⟩])
 (K.cond (.tmp 155)
 (K.seq (K.ops [⟨none, .mov (some 8) (.const (.int .i64 0))⟩,
 ⟨none, .mov (some 9) (.const (.int .i64 0))⟩,
 ⟨none, .mov (some 10) (.const (.int .i64 4))⟩])
 (K.ret))
 (K.skip)))))))
 (K.ops [⟨none, .mov (some 124) (.tmp 24)⟩,
 ⟨none, .bin (some 125) .add (.tmp 124) (.const (.int .i64 1))⟩,
 ⟨none, .mov (some 24) (.tmp 125)⟩])))))))))))))
 T37)))))))
theorem c37 : compile Try.prog Try.f37.ntmps (Try.f37.body.getD .skip) = some K37.erase := by kernel_rfl
@[simp] theorem cal37 : callable Try.prog 37 = true := by kernel_rfl


def szT (k : Sz) : A := .tup [int k.a, int k.b, int k.e]
def cellsN (l : List Int) : List A := l.map int
@[simp] theorem cellsN_nil : cellsN [] = [] := rfl
@[simp] theorem cellsN_cons (k : Int) (l : List Int) : cellsN (k :: l) = int k :: cellsN l := rfl
@[simp] theorem cellsN_append (k l : List Int) : cellsN (k ++ l) = cellsN k ++ cellsN l := by simp [cellsN]
@[simp] theorem cellsN_len (l : List Int) : (cellsN l).length = l.length := by simp [cellsN]
theorem cellsN_plain : ∀ l : List Int, Plain (cellsN l)
  | [] => Plain.nil
  | k :: l => by
    have h := cellsN_plain l
    exact ⟨by simp [h.1], fun rf g => by simp [h.2]⟩
@[simp] theorem nrm0_cellsN (l : List Int) : nrm0L (cellsN l) = cellsN l := (cellsN_plain l).1
@[simp] theorem vw_cellsN {rf g} (l : List Int) : vwL rf g (cellsN l) = cellsN l := (cellsN_plain l).2 _ _
theorem cellsN_drop {l : List Int} {i : Nat} (h : i < l.length) : (cellsN l).drop i = int l[i] :: cellsN (l.drop (i + 1)) := by
  rw [cellsN, ← List.map_drop, List.drop_eq_getElem_cons h]; rfl

theorem tail37 {env : Env} {σ : St} {a b : Int} {r : A} (h11 : env 11 = int a) (h12 : env 12 = int b) (hr : r = szT (finSz ⟨a, b, 0⟩)) : wpK Try.prog 0 T37 (fin [.slot 8, .slot 9, .slot 10] (RetQ 0 r [])) env σ := by
  unfold T37
  by_cases g4 : 4096 < a
  · simp -implicitDefEqProofs [h11, h12, g4]
    exact ret_end 0 (by simp [hr, szT, finSz_big (N := b) (.inl g4)])
  by_cases g5 : 256 < b
  · simp -implicitDefEqProofs [h11, h12, g4, g5]
    exact ret_end 0 (by simp [hr, szT, finSz_big (M := a) (.inr g5)])
  by_cases g6 : a = 0
  · simp -implicitDefEqProofs [h11, h12, g4, g5, g6]
    exact ret_end 0 (by simp [hr, szT, g6, finSz_zero g5])
  · simp -implicitDefEqProofs [h11, h12, g4, g5, g6]
    exact ret_end 0 (by simp [hr, szT, finSz_some (show ¬ (a > 4096 ∨ b > 256) by omega) g6])
theorem refMeasN_ok (p : Prg) (hs : Sml p) (m : Int) (hm : 0 ≤ m ∧ m ≤ 64) : ∀ (n : Nat) (t : Typ) (d : Int), d = 25 - n → n ≤ 24 →
    Ret Try.prog 37 [.agg (encP p), .agg (encT t), int m, int d] [] (szT (sizeN p m n t)) [] := by
  intro n
  induction n with
  | zero =>
    intro t d hd _
    have hd : d = 25 := by omega
    subst hd
    refine ret_of_wp Try.func37 rfl c37 (rs := [.slot 8, .slot 9, .slot 10]) (by kernel_rfl) ?_
    unfold K37
    simp -implicitDefEqProofs [encP, encT]
    refine call0 (refValid_ok p t) (by simp [encP, encT]) (by simp) ?_
    cases hv : validT p t with
    | false =>
      simp -implicitDefEqProofs
      exact ret_end 0 (by simp [sizeN, hv, szT])
    | true =>
      simp -implicitDefEqProofs
      exact ret_end 0 (by simp [sizeN, hv, szT])
  | succ n ih =>
    intro t d hd hn
    refine ret_of_wp Try.func37 rfl c37 (rs := [.slot 8, .slot 9, .slot 10]) (by kernel_rfl) ?_
    unfold K37
    simp -implicitDefEqProofs [encP, encT]
    refine call0 (refValid_ok p t) (by simp [encP, encT]) (by simp) ?_
    have hd24 : ¬ (24 < d) := by omega
    have hwd : IntKind.i64.wrap (d + 1) = d + 1 := IntWalk.i64_in _ (by omega)
    cases hv : validT p t with
    | false =>
      simp -implicitDefEqProofs
      exact ret_end 0 (by simp [sizeN, hv, szT])
    | true =>
      by_cases h0 : t.k = 0
      · have hw1 : IntKind.i64.wrap (2 * m) = 2 * m := IntWalk.i64_in _ (by omega)
        have hw2 : IntKind.i64.wrap (2 * m + 1) = 2 * m + 1 := IntWalk.i64_in _ (by omega)
        simp -implicitDefEqProofs [hd24, h0, hw1, hw2]
        exact ret_end 0 (by simp [sizeN, hv, szT, h0])
      by_cases h1 : t.k = 1
      · simp -implicitDefEqProofs [hd24, h1]
        exact ret_end 0 (by simp [sizeN, hv, szT, h1])
      by_cases h2 : t.k = 2
      · obtain ⟨x, hx⟩ := valid_list hv h2
        have hok := sizeN_ok p m hm n x
        have hsz : sizeN p m (n + 1) t = finSz (listSz m (sizeN p m n x)) := by simp [sizeN, hv, h0, h1, h2, hx]
        rw [hsz]
        simp -implicitDefEqProofs [hd24, h2, hx, hwd]
        refine dcall0 (ih x (d + 1) (by omega) (by omega)) (by simp [encT, encP]) (by simp [szT]) ?_
        generalize sizeN p m n x = Z at hok ⊢
        simp -implicitDefEqProofs [szT]
        obtain ⟨a, b, e⟩ := Z
        by_cases he : e = 0
        · subst he
          have hok := hok rfl
          simp only at hok
          have haa0 : 0 ≤ a * a := Int.mul_nonneg hok.1 hok.1
          have haa1 : a * a ≤ 4096 * 4096 := Int.mul_le_mul hok.2.1 hok.2.1 hok.1 (by decide)
          have hw2 : IntKind.i64.wrap (1 + a) = 1 + a := IntWalk.i64_in _ (by omega)
          have hw3 : IntKind.i64.wrap (1 + b) = 1 + b := IntWalk.i64_in _ (by omega)
          have hw4 : IntKind.i64.wrap (a * a) = a * a := IntWalk.i64_in _ (by omega)
          have hw5 : IntKind.i64.wrap (1 + a + a * a) = 1 + a + a * a := IntWalk.i64_in _ (by omega)
          have hw6 : IntKind.i64.wrap (1 + b + b) = 1 + b + b := IntWalk.i64_in _ (by omega)
          by_cases hm1 : 1 ≤ m
          · by_cases hm2 : 2 ≤ m
            · have hfin : listSz m ⟨a, b, 0⟩ = ⟨1 + a + a * a, 1 + b + b, 0⟩ := by simp [listSz, show ¬ m ≤ 0 by omega, show ¬ m ≤ 1 by omega]
              simp -implicitDefEqProofs [hm1, hm2, hw2, hw3, hw4, hw5, hw6]
              exact tail37 (a := 1 + a + a * a) (b := 1 + b + b) (by simp) (by simp) (by rw [hfin]; rfl)
            · have hfin : listSz m ⟨a, b, 0⟩ = ⟨1 + a, 1 + b, 0⟩ := by simp [listSz, show ¬ m ≤ 0 by omega, show m ≤ 1 by omega]
              simp -implicitDefEqProofs [hm1, hm2, hw2, hw3]
              exact tail37 (a := 1 + a) (b := 1 + b) (by simp) (by simp) (by rw [hfin]; rfl)
          · have hm2 : ¬ 2 ≤ m := by omega
            have hfin : listSz m ⟨a, b, 0⟩ = ⟨1, 1, 0⟩ := by simp [listSz, show m ≤ 0 by omega]
            simp -implicitDefEqProofs [hm1, hm2]
            exact tail37 (a := 1) (b := 1) (by simp) (by simp) (by rw [hfin]; rfl)
        · simp -implicitDefEqProofs [he]
          exact ret_end 0 (by simp [listSz, finSz, szT, he])
      · have e5 := valid_kind hv h0 h1 h2
        obtain ⟨k, id, kids⟩ := t
        simp only [Typ.k_mk, Typ.id_mk] at h0 h1 h2 e5
        have hsz : sizeN p m (n + 1) (.mk k id kids) = finSz (slotsSz (decide ((dfn p id).kind = 0)) ((dfn p id).slots.map fun s => sizeN p m n s.typ)) := by
          simp [sizeN, hv, h0, h1, h2]
          rfl
        have hsl := hs.dfn id
        rw [hsz]
        clear hsz hv
        generalize hD : dfn p id = D at hsl e5 ⊢
        rw [dfn] at hD
        have hih : ∀ s ∈ D.slots, Ret Try.prog 37 [.agg (encP p), .agg (encT s.typ), int m, int (d + 1)] [] (szT (sizeN p m n s.typ)) [] := fun s _ => ih s.typ (d + 1) (by omega) (by omega)
        have hZl : (D.slots.map fun s => sizeN p m n s.typ).length = D.slots.length := by simp
        have hZg : ∀ i (h : i < D.slots.length), (D.slots.map fun s => sizeN p m n s.typ)[i]? = some (sizeN p m n D.slots[i].typ) := fun i h => by simp [h]
        have hZo : ∀ z ∈ D.slots.map fun s => sizeN p m n s.typ, z.Ok := fun z hz => by
          obtain ⟨s, _, rfl⟩ := List.mem_map.1 hz
          exact sizeN_ok p m hm n _
        generalize (D.slots.map fun s => sizeN p m n s.typ) = Z at hZl hZg hZo ⊢
        simp -implicitDefEqProofs [hd24, h0, h1, h2]
        refine call0 (refDef_ok p id) (by simp [encP, encI]) (by simp [defR]) ?_
        simp -implicitDefEqProofs [defR, hD, encD]
        refine loopS (S := Nat) (fun i => [(2, int m), (3, int d), (4, .ptr 0 0), (5, .ptr 1 0), (11, int 1), (12, int 1), (16, .ptr 2 0), (18, .row 3 i), (19, .row 4 i), (20, int i)])
          (fun i => [.box (encP p), .box (encT (.mk k id kids)), .box (encD D), .row false 3 1 i (cellsN ((Z.map (·.a)).take i)), .row false 3 1 i (cellsN ((Z.map (·.b)).take i))])
          (fun i => i ≤ D.slots.length ∧ errF Z = errF (Z.drop i)) (fun i => D.slots.length - i) 0 (by simp)
          (((weak_nilslot (t := 18) (by simp) 3 1).trans (weak_nilslot (t := 19) (by simp) 3 1)).trans (selW [0, 1, 2, 3, 4] 0 (by simp) (by simp) (by simp [encP, encT, encD]) (by simp))) ?_
        rintro i ⟨hi, ho⟩
        by_cases h : i < D.slots.length
        · have hiZ : i < Z.length := by omega
          have hc := hih D.slots[i] (List.getElem_mem h)
          have hZi := hZg i h
          rw [List.getElem?_eq_getElem hiZ] at hZi
          rw [← Option.some.inj hZi] at hc
          have hdr : Z.drop i = Z[i] :: Z.drop (i + 1) := List.drop_eq_getElem_cons hiZ
          have hta : cellsN ((Z.map (·.a)).take (i + 1)) = cellsN ((Z.map (·.a)).take i) ++ [int Z[i].a] := by rw [List.take_succ_eq_append_getElem (by simpa using hiZ), cellsN_append]; simp
          have htb : cellsN ((Z.map (·.b)).take (i + 1)) = cellsN ((Z.map (·.b)).take i) ++ [int Z[i].b] := by rw [List.take_succ_eq_append_getElem (by simpa using hiZ), cellsN_append]; simp
          simp -implicitDefEqProofs [h, cellsS_drop h, encS, encD, encP, hwd]
          intro hl
          refine dcall0 hc (by simp [encP, encT]) (by simp [szT]) ?_
          by_cases he : Z[i].e = 0
          · simp -implicitDefEqProofs [szT, he]
            refine ⟨⟨by simp [maxLen]; omega, by omega⟩, ?_⟩
            exact roundS (i + 1) ⟨h, by rw [ho, hdr, errF, if_neg (by simp [he])]⟩ (by omega) (selW [0, 1, 2, 3, 4] 0 (by decide) (by simp) (by simp [encP, encT, encD, hta, htb]) (by simp [wrap_succ h hl]))
          · have hee : errF Z = Z[i].e := by rw [ho, hdr, errF, if_pos he]
            simp -implicitDefEqProofs [szT, he]
            exact ret_end 0 (by simp [slotsSz, finSz, szT, hee, he])
        · have hi : i = D.slots.length := by omega
          subst hi
          have hta : (Z.map (·.a)).take D.slots.length = Z.map (·.a) := List.take_of_length_le (by simp; omega)
          have htb : (Z.map (·.b)).take D.slots.length = Z.map (·.b) := List.take_of_length_le (by simp; omega)
          have hzl : D.slots.length = Z.length := hZl.symm
          have ho' : errF Z = 0 := by rw [ho, hzl]; simp [errF]
          have hn6 : Z.length ≤ 1000000 := by omega
          have hzk : ∀ k ∈ Z, k.e = 0 ∧ 0 ≤ k.a ∧ k.a ≤ 4096 ∧ 0 ≤ k.b ∧ k.b ≤ 256 := fun k hk => ⟨errF_zero ho' k hk, hZo k hk (errF_zero ho' k hk)⟩
          clear hih hZg hZo ho hi h
          rw [hzl] at hta htb
          rcases e5 with e5 | e5
          · have e1 : ¬ D.kind = 1 := by omega
            have hsl0 : slotsSz (decide (D.kind = 0)) Z = recF 1 1 Z := by simp [slotsSz, ho', e5]
            rw [hsl0]
            simp -implicitDefEqProofs [hzl, hta, htb, encD, e1, e5]
            intro hl
            refine loopS (S := Nat × Int × Int) (fun s => [(11, int s.2.1), (12, int s.2.2), (16, .ptr 2 0), (18, .row 3 Z.length), (19, .row 4 Z.length), (24, int s.1)])
              (fun s => [.box (encP p), .box (encT (.mk k id kids)), .box (encD D), .row false 3 1 Z.length (cellsN (Z.map (·.a))), .row false 3 1 Z.length (cellsN (Z.map (·.b)))])
              (fun s => s.1 ≤ Z.length ∧ recF 1 1 Z = recF s.2.1 s.2.2 (Z.drop s.1) ∧ 0 ≤ s.2.1 ∧ s.2.1 ≤ 4096 ∧ 0 ≤ s.2.2 ∧ s.2.2 ≤ 1 + 256 * s.1) (fun s => Z.length - s.1) (0, 1, 1) (by simp)
              (selW [0, 1, 2, 3, 4] 0 (by decide) (by simp) (by simp [encP, encT, encD, e5, hzl]) (by simp [hzl])) ?_
            rintro ⟨j, a, b⟩ ⟨hj, hr, ha0, ha, hb0, hb⟩
            simp only at hj hr ha0 ha hb0 hb
            by_cases hjl : j < Z.length
            · obtain ⟨_, g1, g2, g3, g4⟩ := hzk Z[j] (List.getElem_mem hjl)
              have hd : Z.drop j = Z[j] :: Z.drop (j + 1) := List.drop_eq_getElem_cons hjl
              have hab0 : 0 ≤ a * Z[j].a := Int.mul_nonneg ha0 g1
              have hab1 : a * Z[j].a ≤ 4096 * 4096 := Int.mul_le_mul ha g2 g1 (by decide)
              have hw1 : IntKind.i64.wrap (a * Z[j].a) = a * Z[j].a := IntWalk.i64_in _ (by omega)
              have hw2 : IntKind.i64.wrap (b + Z[j].b) = b + Z[j].b := IntWalk.i64_in _ (by omega)
              have hw3 : IntKind.i64.wrap ((j : Int) + 1) = (j : Int) + 1 := IntWalk.i64_in _ (by omega)
              have hda : (cellsN (Z.map (·.a))).drop j = int Z[j].a :: cellsN ((Z.map (·.a)).drop (j + 1)) := by rw [cellsN_drop (by simpa using hjl)]; simp
              have hdb : (cellsN (Z.map (·.b))).drop j = int Z[j].b :: cellsN ((Z.map (·.b)).drop (j + 1)) := by rw [cellsN_drop (by simpa using hjl)]; simp
              have hj1 : j + 1 ≤ Z.length := hjl
              simp -implicitDefEqProofs [hjl, hj1, lenP, idxP, encD, e1, e5, hda, hdb, hw1, hw2, hw3]
              refine condP_intro (fun h4 => ?_) (fun h4 => ?_) <;> simp at h4
              · have e : recF 1 1 Z = ⟨0, 0, 4⟩ := by rw [hr, hd, recF, if_pos h4]
                simp -implicitDefEqProofs
                exact ret_end 0 (by simp [e, finSz, szT])
              · simp -implicitDefEqProofs
                exact roundS (j + 1, a * Z[j].a, b + Z[j].b) ⟨hjl, by rw [hr, hd, recF, if_neg (by omega)], hab0, h4, by simp only; omega, by simp only; omega⟩ (by simp only; omega) (selW [0, 1, 2, 3, 4] 0 (by decide) (by simp) (by simp [encP, encT, encD, e5]) (by simp [hw3]))
            · have hjl' : j = Z.length := by omega
              subst hjl'
              simp -implicitDefEqProofs [lenP]
              exact tail37 (a := a) (b := b) (by simp) (by simp) (by simp [hr, recF])
          · have e0 : ¬ D.kind = 0 := by omega
            have hsl0 : slotsSz (decide (D.kind = 0)) Z = caseF 0 1 Z := by simp [slotsSz, ho', e5]
            rw [hsl0]
            simp -implicitDefEqProofs [hzl, hta, htb, encD, e5]
            intro hl
            refine loopS (S := Nat × Int × Int) (fun s => [(11, int s.2.1), (12, int s.2.2), (16, .ptr 2 0), (18, .row 3 Z.length), (19, .row 4 Z.length), (24, int s.1)])
              (fun s => [.box (encP p), .box (encT (.mk k id kids)), .box (encD D), .row false 3 1 Z.length (cellsN (Z.map (·.a))), .row false 3 1 Z.length (cellsN (Z.map (·.b)))])
              (fun s => s.1 ≤ Z.length ∧ caseF 0 1 Z = caseF s.2.1 s.2.2 (Z.drop s.1) ∧ 0 ≤ s.2.1 ∧ s.2.1 ≤ 4096 * s.1 ∧ 0 ≤ s.2.2 ∧ s.2.2 ≤ 257) (fun s => Z.length - s.1) (0, 0, 1) (by simp)
              (selW [0, 1, 2, 3, 4] 0 (by decide) (by simp) (by simp [encP, encT, encD, e5, hzl]) (by simp [hzl])) ?_
            rintro ⟨j, a, b⟩ ⟨hj, hr, ha0, ha, hb0, hb⟩
            simp only at hj hr ha0 ha hb0 hb
            by_cases hjl : j < Z.length
            · obtain ⟨_, g1, g2, g3, g4⟩ := hzk Z[j] (List.getElem_mem hjl)
              have hd : Z.drop j = Z[j] :: Z.drop (j + 1) := List.drop_eq_getElem_cons hjl
              have hw1 : IntKind.i64.wrap (a + Z[j].a) = a + Z[j].a := IntWalk.i64_in _ (by omega)
              have hw2 : IntKind.i64.wrap (1 + Z[j].b) = 1 + Z[j].b := IntWalk.i64_in _ (by omega)
              have hw3 : IntKind.i64.wrap ((j : Int) + 1) = (j : Int) + 1 := IntWalk.i64_in _ (by omega)
              have hda : (cellsN (Z.map (·.a))).drop j = int Z[j].a :: cellsN ((Z.map (·.a)).drop (j + 1)) := by rw [cellsN_drop (by simpa using hjl)]; simp
              have hdb : (cellsN (Z.map (·.b))).drop j = int Z[j].b :: cellsN ((Z.map (·.b)).drop (j + 1)) := by rw [cellsN_drop (by simpa using hjl)]; simp
              have hmx : max b (1 + Z[j].b) = if b < 1 + Z[j].b then 1 + Z[j].b else b := by rw [Int.max_def]; split <;> split <;> omega
              have hj1 : j + 1 ≤ Z.length := hjl
              simp -implicitDefEqProofs [hjl, hj1, lenP, idxP, encD, e5, hda, hdb, hw1, hw2, hw3]
              exact roundS (j + 1, a + Z[j].a, max b (1 + Z[j].b)) ⟨hjl, by rw [hr, hd]; simp [caseF], by simp only; omega, by simp only; omega, by simp only; omega, by simp only; omega⟩ (by simp only; omega) (selW [0, 1, 2, 3, 4] 0 (by decide) (by simp) (by simp [encP, encT, encD, e5]) (by simp [hw3, hmx]))
            · have hjl' : j = Z.length := by omega
              subst hjl'
              simp -implicitDefEqProofs [lenP]
              exact tail37 (a := a) (b := b) (by simp) (by simp) (by simp [hr, caseF])
end Go.Proofs.Ytbkiphnlbadhcaa
