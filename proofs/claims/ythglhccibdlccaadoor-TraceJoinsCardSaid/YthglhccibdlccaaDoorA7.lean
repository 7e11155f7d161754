/-
  The law's lists of IDs; the law TraceJoins.
-/
import Derived.Test.YthglhccibdlccaaDoorA6
import Derived.Test.YthglhccibdlccaaDoorE26
namespace Go.Proofs.YthglhccibdlccaaDoor
open Go.Abs

-- splicery/splicerylaw12.some · results ["2"]
def KSome : K :=
 K.seq (K.ops [⟨none, .mov (some 2) (.const (.slice none 0 0))⟩])
 (K.seq (K.ops [⟨none, .mov (some 3) (.const (.slice none 0 0))⟩])
 (K.seq (K.seq (K.ops [⟨none, .mov (some 4) (.const (.int .i64 0))⟩])
 (K.block 0 (K.loop (K.seq (K.seq (K.ops [⟨none, .mov (some 5) (.tmp 4)⟩,
 ⟨none, .mov (some 6) (.tmp 0)⟩,
 ⟨none, .len (some 7) false (.tmp 6)⟩,
 ⟨none, .bin (some 8) .lss (.tmp 5) (.tmp 7)⟩,
 ⟨none, .mov (some 9) (.tmp 8)⟩,
 ⟨some (9, true), .mov (some 10) (.tmp 4)⟩,
 ⟨some (9, true), .bin (some 11) .lss (.tmp 10) (.const (.int .i64 20))⟩,
 ⟨none, .pick (some 12) (.tmp 9) (.tmp 11) (.const (.bool false))⟩])
 (K.cond (.tmp 12)
 (K.skip)
 (K.exit 0)))
 (K.seq (K.block 1 (K.dops [(0, 0, ⟨none, .mov (some 15) (.tmp 3)⟩),
 (1, 0, ⟨none, .mov (some 16) (.tmp 0)⟩),
 (2, 0, ⟨none, .mov (some 17) (.tmp 4)⟩),
 (3, 0, ⟨none, .idx (some 18) (.tmp 16) (.tmp 17) 1⟩),
 (4, 0, ⟨none, .ld (some 19) (.tmp 18) 1 false⟩),
 (5, 0, ⟨none, .call (some 20) (.func 12) [(.tmp 19), (.const (.int .i64 2))]⟩),
 (6, 0, ⟨none, .mov (some 21) (.tmp 0)⟩),
 (7, 0, ⟨none, .mov (some 22) (.tmp 4)⟩),
 (8, 0, ⟨none, .idx (some 23) (.tmp 21) (.tmp 22) 1⟩),
 (9, 0, ⟨none, .ld (some 24) (.tmp 23) 1 false⟩),
 (10, 0, ⟨none, .bin (some 25) .quo (.tmp 24) (.const (.int .i64 2))⟩),
 (11, 0, ⟨none, .call (some 26) (.func 12) [(.tmp 25), (.const (.int .i64 3))]⟩),
 (12, 0, ⟨none, .mov (some 27) (.tmp 0)⟩),
 (13, 0, ⟨none, .mov (some 28) (.tmp 4)⟩),
 (14, 0, ⟨none, .idx (some 29) (.tmp 27) (.tmp 28) 1⟩),
 (15, 0, ⟨none, .ld (some 30) (.tmp 29) 1 false⟩),
 (16, 0, ⟨none, .bin (some 31) .quo (.tmp 30) (.const (.int .i64 6))⟩),
 (17, 0, ⟨none, .call (some 32) (.func 12) [(.tmp 31), (.const (.int .i64 4))]⟩),
 (18, 0, ⟨none, .bin (some 33) .sub (.tmp 32) (.const (.int .i64 1))⟩),
 (19, 0, ⟨none, .build (some 34) [(.int .i64 0), (.int .i64 0), (.int .i64 0)] [(0, 1, (.tmp 20)), (1, 1, (.tmp 26)), (2, 1, (.tmp 33))]⟩),
 (20, 0, ⟨none, .bslice (some 35) 39 3 1 [(.int .i64 0), (.int .i64 0), (.int .i64 0)] [(0, 3, (.tmp 34))]⟩),
 (21, 0, ⟨none, .app (some 36) 39 3 24 (.tmp 15) (.tmp 35)⟩),
 (22, 0, ⟨none, .mov (some 3) (.tmp 36)⟩)]))
 (K.ops [⟨none, .mov (some 13) (.tmp 4)⟩,
 ⟨none, .bin (some 14) .add (.tmp 13) (.const (.int .i64 1))⟩,
 ⟨none, .mov (some 4) (.tmp 14)⟩]))))))
 (K.seq (K.ops [⟨none, .mov (some 37) (.tmp 3)⟩,
 ⟨none, .mov (some 2) (.tmp 37)⟩])
 (K.ret))))
theorem cSome : compile Tryd.prog Tryd.f4.ntmps (Tryd.f4.body.getD .skip) = some KSome.erase := by kernel_rfl
@[simp] theorem calSome : callable Tryd.prog 4 = true := by kernel_rfl

def someE (n : Int) : Id := ⟨aroundV n 2, aroundV (IntKind.i64.wrap (n.tdiv 2)) 3, IntKind.i64.wrap (aroundV (IntKind.i64.wrap (n.tdiv 6)) 4 - 1)⟩
def someV (l : List Int) : List Id := (l.map someE).take 20
theorem someV_len (l : List Int) : (someV l).length ≤ 20 := by simp [someV]; omega
theorem some_ok (l : List Int) : Ret Tryd.prog 4 [.sl l.length (ints l)] [] (.sl (someV l).length (cellsI (someV l))) [] := by
  refine ret_of_wp Tryd.func4 rfl cSome (rs := [.slot 2]) (by kernel_rfl) ?_
  unfold KSome
  simp -implicitDefEqProofs
  refine loopS (S := Nat) (fun i => [(0, .sl l.length (ints l)), (3, .row 0 i), (4, int i)]) (fun i => [.row false 39 3 i (cellsI ((l.map someE).take i))]) (fun i => i ≤ l.length ∧ i ≤ 20) (fun i => l.length - i) 0 (by simp)
    ((weak_nilslot (t := 3) (by simp) 39 3).trans (selW [0] 0 (by simp) (by simp) (by simp) (by simp))) ?_
  rintro i ⟨hi, hi2⟩
  have hil : (i : Int) < l.length ↔ i < l.length := by omega
  simp -implicitDefEqProofs
  intro hl
  by_cases h : i < l.length
  · by_cases h2 : i < 20
    · have h2' : (i : Int) < 20 := by omega
      simp -implicitDefEqProofs [h, h2', ints_drop h]
      refine dcall0 (around_ok l[i] 2 (by omega)) (by simp) (by simp) ?_
      simp -implicitDefEqProofs [h, ints_drop h]
      refine dcall0 (around_ok (IntKind.i64.wrap (l[i].tdiv 2)) 3 (by omega)) (by simp) (by simp) ?_
      simp -implicitDefEqProofs [h, ints_drop h]
      refine dcall0 (around_ok (IntKind.i64.wrap (l[i].tdiv 6)) 4 (by omega)) (by simp) (by simp) ?_
      simp -implicitDefEqProofs
      refine ⟨⟨by simp [maxLen]; omega, by omega⟩, ?_⟩
      have hst : cellsI ((l.map someE).take (i + 1)) = cellsI ((l.map someE).take i) ++ encI (someE l[i]) := by
        rw [cellsI_take_succ (by simpa using h)]
        simp
      exact roundS (i + 1) ⟨h, h2⟩ (by omega) (selW [0] 0 (by simp) (by simp) (by simp [hst, encI, someE]) (by simp [wrap_succ h hl]))
    · have h20 : i = 20 := by omega
      subst h20
      simp -implicitDefEqProofs [h]
      exact ret_end 1 (by simp [someV, Nat.min_eq_left hi])
  · have hil : i = l.length := by omega
    subst hil
    simp -implicitDefEqProofs
    exact ret_end 1 (by simp [someV, Nat.min_eq_right hi2, List.take_of_length_le (show (l.map someE).length ≤ 20 by simpa using hi2), List.take_of_length_le (show (l.map someE).length ≤ l.length by simp)])
end Go.Proofs.YthglhccibdlccaaDoor
