/-
  The law DomainBefore: what its code computes.
-/
import Derived.Test.YtbkiphnlbadhcaaC10
import Derived.Test.YtbkiphnlbadhcaaP3
namespace Go.Proofs.Ytbkiphnlbadhcaa
open Go.Abs

-- splicery/splicerylaw13.DomainBefore · results ["6"]
def K5 : K :=
 K.seq (K.ops [⟨none, .mov (some 6) (.const (.bool false))⟩])
 (K.seq (K.ops [⟨none, .mov (some 13) (.tmp 0)⟩,
 ⟨none, .mov (some 14) (.tmp 1)⟩,
 ⟨none, .mov (some 15) (.tmp 2)⟩,
 ⟨none, .bslice (some 16) 36 1 3 [(.slice none 0 0), (.slice none 0 0), (.slice none 0 0)] [(0, 1, (.tmp 13)), (1, 1, (.tmp 14)), (2, 1, (.tmp 15))]⟩,
 ⟨none, .mov (some 7) (.tmp 16)⟩])
 (K.seq (K.seq (K.ops [⟨none, .mov (some 8) (.const (.int .i64 0))⟩])
 (K.block 0 (K.loop (K.seq (K.seq (K.ops [⟨none, .mov (some 17) (.tmp 8)⟩,
 ⟨none, .bin (some 18) .lss (.tmp 17) (.const (.int .i64 3))⟩])
 (K.cond (.tmp 18)
 (K.skip)
 (K.exit 0)))
 (K.seq (K.block 1 (K.seq (K.ops [⟨none, .mov (some 9) (.const (.int .i64 0))⟩])
 (K.block 2 (K.loop (K.seq (K.seq (K.ops [⟨none, .mov (some 21) (.tmp 9)⟩,
 ⟨none, .bin (some 22) .lss (.tmp 21) (.const (.int .i64 3))⟩])
 (K.cond (.tmp 22)
 (K.skip)
 (K.exit 2)))
 (K.seq (K.block 3 (K.seq (K.dops [(0, 0, ⟨none, .mov (some 25) (.tmp 7)⟩),
 (1, 0, ⟨none, .mov (some 26) (.tmp 8)⟩),
 (2, 0, ⟨none, .idx (some 27) (.tmp 25) (.tmp 26) 1⟩),
 (3, 0, ⟨none, .ld (some 28) (.tmp 27) 1 false⟩),
 (4, 0, ⟨none, .mov (some 29) (.tmp 7)⟩),
 (5, 0, ⟨none, .mov (some 30) (.tmp 9)⟩),
 (6, 0, ⟨none, .idx (some 31) (.tmp 29) (.tmp 30) 1⟩),
 (7, 0, ⟨none, .ld (some 32) (.tmp 31) 1 false⟩),
 (8, 0, ⟨none, .call (some 33) (.func 21) [(.tmp 28), (.tmp 32)]⟩),
 (9, 0, ⟨none, .mov (some 10) (.tmp 33)⟩)])
 (K.seq (K.dops [(0, 0, ⟨none, .mov (some 34) (.tmp 7)⟩),
 (1, 0, ⟨none, .mov (some 35) (.tmp 8)⟩),
 (2, 0, ⟨none, .idx (some 36) (.tmp 34) (.tmp 35) 1⟩),
 (3, 0, ⟨none, .ld (some 37) (.tmp 36) 1 false⟩),
 (4, 0, ⟨none, .mov (some 38) (.tmp 7)⟩),
 (5, 0, ⟨none, .mov (some 39) (.tmp 9)⟩),
 (6, 0, ⟨none, .idx (some 40) (.tmp 38) (.tmp 39) 1⟩),
 (7, 0, ⟨none, .ld (some 41) (.tmp 40) 1 false⟩),
 (8, 0, ⟨none, .call (some 42) (.func 22) [(.tmp 37), (.tmp 41)]⟩),
 (9, 0, ⟨none, .mov (some 11) (.tmp 42)⟩)])
 (K.seq (K.seq (K.dops [(0, 0, ⟨none, .mov (some 43) (.tmp 10)⟩),
 (1, 0, ⟨none, .mov (some 44) (.tmp 11)⟩),
 (2, 0, ⟨none, .bin (some 45) .lss (.tmp 44) (.const (.int .i64 0))⟩),
 (3, 0, ⟨none, .eqv (some 46) true .b (.tmp 43) (.tmp 45)⟩),
 (4, 0, ⟨none, .mov (some 47) (.tmp 46)⟩),
 (5, 0, ⟨some (47, false), .mov (some 48) (.tmp 11)⟩),
 (6, 0, ⟨some (47, false), .eqv (some 49) true .i (.tmp 48) (.const (.int .i64 0))⟩),
 (7, 0, ⟨some (47, false), .mov (some 50) (.tmp 10)⟩),
 (8, 0, ⟨some (47, false), .mov (some 51) (.tmp 50)⟩),
 (9, 0, ⟨some (51, false), .mov (some 52) (.tmp 7)⟩),
 (10, 0, ⟨some (51, false), .mov (some 53) (.tmp 9)⟩),
 (11, 0, ⟨some (51, false), .idx (some 54) (.tmp 52) (.tmp 53) 1⟩),
 (12, 0, ⟨some (51, false), .ld (some 55) (.tmp 54) 1 false⟩),
 (13, 0, ⟨some (51, false), .mov (some 56) (.tmp 7)⟩),
 (14, 0, ⟨some (51, false), .mov (some 57) (.tmp 8)⟩),
 (15, 0, ⟨some (51, false), .idx (some 58) (.tmp 56) (.tmp 57) 1⟩),
 (16, 0, ⟨some (51, false), .ld (some 59) (.tmp 58) 1 false⟩),
 (17, 0, ⟨some (51, false), .call (some 60) (.func 21) [(.tmp 55), (.tmp 59)]⟩),
 (18, 0, ⟨some (47, false), .pick (some 61) (.tmp 51) (.const (.bool true)) (.tmp 60)⟩),
 (19, 0, ⟨some (47, false), .eqv (some 62) true .b (.tmp 49) (.tmp 61)⟩),
 (20, 0, ⟨none, .pick (some 63) (.tmp 47) (.const (.bool true)) (.tmp 62)⟩)])
 (K.cond (.tmp 63)
 (K.seq (K.ops [⟨none, .mov (some 6) (.const (.bool false))⟩])
 (K.ret))
 (K.skip)))
 (K.seq (K.ops [⟨none, .mov (some 12) (.const (.int .i64 0))⟩])
 (K.block 4 (K.loop (K.seq (K.seq (K.ops [⟨none, .mov (some 64) (.tmp 12)⟩,
 ⟨none, .bin (some 65) .lss (.tmp 64) (.const (.int .i64 3))⟩])
 (K.cond (.tmp 65)
 (K.skip)
 (K.exit 4)))
 (K.seq (K.block 5 (K.seq (K.dops [(0, 0, ⟨none, .mov (some 68) (.tmp 10)⟩),
 (1, 0, ⟨none, .mov (some 69) (.tmp 68)⟩),
 (2, 0, ⟨some (69, true), .mov (some 70) (.tmp 7)⟩),
 (3, 0, ⟨some (69, true), .mov (some 71) (.tmp 9)⟩),
 (4, 0, ⟨some (69, true), .idx (some 72) (.tmp 70) (.tmp 71) 1⟩),
 (5, 0, ⟨some (69, true), .ld (some 73) (.tmp 72) 1 false⟩),
 (6, 0, ⟨some (69, true), .mov (some 74) (.tmp 7)⟩),
 (7, 0, ⟨some (69, true), .mov (some 75) (.tmp 12)⟩),
 (8, 0, ⟨some (69, true), .idx (some 76) (.tmp 74) (.tmp 75) 1⟩),
 (9, 0, ⟨some (69, true), .ld (some 77) (.tmp 76) 1 false⟩),
 (10, 0, ⟨some (69, true), .call (some 78) (.func 21) [(.tmp 73), (.tmp 77)]⟩),
 (11, 0, ⟨none, .pick (some 79) (.tmp 69) (.tmp 78) (.const (.bool false))⟩),
 (12, 0, ⟨none, .mov (some 80) (.tmp 79)⟩),
 (13, 0, ⟨some (80, true), .mov (some 81) (.tmp 7)⟩),
 (14, 0, ⟨some (80, true), .mov (some 82) (.tmp 8)⟩),
 (15, 0, ⟨some (80, true), .idx (some 83) (.tmp 81) (.tmp 82) 1⟩),
 (16, 0, ⟨some (80, true), .ld (some 84) (.tmp 83) 1 false⟩),
 (17, 0, ⟨some (80, true), .mov (some 85) (.tmp 7)⟩),
 (18, 0, ⟨some (80, true), .mov (some 86) (.tmp 12)⟩),
 (19, 0, ⟨some (80, true), .idx (some 87) (.tmp 85) (.tmp 86) 1⟩),
 (20, 0, ⟨some (80, true), .ld (some 88) (.tmp 87) 1 false⟩),
 (21, 0, ⟨some (80, true), .call (some 89) (.func 21) [(.tmp 84), (.tmp 88)]⟩),
 (22, 0, ⟨some (80, true), .not (some 90) (.tmp 89)⟩),
 (23, 0, ⟨none, .pick (some 91) (.tmp 80) (.tmp 90) (.const (.bool false))⟩)])
 (K.cond (.tmp 91)
 (K.seq (K.ops [⟨none, .mov (some 6) (.const (.bool false))⟩])
 (K.ret))
 (K.skip))))
 (K.ops [⟨none, .mov (some 66) (.tmp 12)⟩,
 ⟨none, .bin (some 67) .add (.tmp 66) (.const (.int .i64 1))⟩,
 ⟨none, .mov (some 12) (.tmp 67)⟩]))))))))))
 (K.ops [⟨none, .mov (some 23) (.tmp 9)⟩,
 ⟨none, .bin (some 24) .add (.tmp 23) (.const (.int .i64 1))⟩,
 ⟨none, .mov (some 9) (.tmp 24)⟩])))))))
 (K.ops [⟨none, .mov (some 19) (.tmp 8)⟩,
 ⟨none, .bin (some 20) .add (.tmp 19) (.const (.int .i64 1))⟩,
 ⟨none, .mov (some 8) (.tmp 20)⟩]))))))
 (K.seq (K.ops [⟨none, .call (some 92) (.func 15) []⟩,
 ⟨none, .mov (some 6) (.tmp 92)⟩])
 (K.ret))))
theorem c5 : compile Try.prog Try.f5.ntmps (Try.f5.body.getD .skip) = some K5.erase := by kernel_rfl
@[simp] theorem cal5 : callable Try.prog 5 = true := by kernel_rfl


theorem before_law (X : List (List Val)) (hX : X.length = 3) (hok : ∀ l ∈ X, ∀ v ∈ l, OkV v) (a b c : List Val) (habc : X = [a, b, c]) : Ret Try.prog 5 [.sl a.length (cellsV a), .sl b.length (cellsV b), .sl c.length (cellsV c)] [] (bl true) [] := by
  refine ret_of_wp Try.func5 rfl c5 (rs := [.slot 6]) (by kernel_rfl) ?_
  unfold K5
  simp -implicitDefEqProofs
  have hc3 : cellsW X = [.sl a.length (cellsV a), .sl b.length (cellsV b), .sl c.length (cellsV c)] := by rw [habc]; rfl
  refine loopS (S := Nat) (fun i => [(7, .fsl 3 (cellsW X)), (8, int i)]) (fun i => []) (fun i => i ≤ 3) (fun i => 3 - i) 0 (by simp)
    (selW [] 0 (by simp) (by simp) (by simp) (by simp [hc3])) ?_
  intro i hi
  by_cases h : i < 3
  · have hiX : i < X.length := by omega
    have hi3 : (i : Int) < 3 := by omega
    simp -implicitDefEqProofs [hi3]
    refine loopS (S := Nat) (fun k => [(7, .fsl 3 (cellsW X)), (8, int i), (9, int k)]) (fun k => []) (fun k => k ≤ 3) (fun k => 3 - k) 0 (by simp)
      (selW [] 0 (by simp) (by simp) (by simp) (by simp)) ?_
    intro k hk
    by_cases hk3 : k < 3
    · have hkX : k < X.length := by omega
      have hk3' : (k : Int) < 3 := by omega
      simp -implicitDefEqProofs [hi3, hk3', cellsW_drop hiX, cellsW_drop hkX, hX, h, hk3]
      refine dcall0 (before_ok X[i] X[k]) (by simp) (by simp) ?_
      simp -implicitDefEqProofs [hi3, hk3', cellsW_drop hiX, cellsW_drop hkX, hX, h, hk3]
      refine dcall0 (refOrder_ok X[i] X[k]) (by simp) (by simp) ?_
      rw [order_eq (hok _ (List.getElem_mem hiX)) (hok _ (List.getElem_mem hkX))]
      have hsw := lin_orderV.swap X[k] X[i]
      rcases Int.lt_trichotomy (orderV X[i] X[k]) 0 with ho | ho | ho
      · simp -implicitDefEqProofs [ho, Int.ne_of_lt ho, hi3, hk3', cellsW_drop hiX, cellsW_drop hkX, hX, h, hk3]
        refine loopS (S := Nat) (fun j => [(7, .fsl 3 (cellsW X)), (8, int i), (9, int k), (10, bl true), (12, int j)]) (fun j => []) (fun j => j ≤ 3) (fun j => 3 - j) 0 (by simp)
          (selW [] 0 (by simp) (by simp) (by simp) (by simp)) ?_
        intro j hj
        by_cases hj3 : j < 3
        · have hjX : j < X.length := by omega
          have hj3' : (j : Int) < 3 := by omega
          have hwj : IntKind.i64.wrap ((j : Int) + 1) = (j : Int) + 1 := IntWalk.i64_in _ (by omega)
          simp -implicitDefEqProofs [hi3, hk3', hj3', cellsW_drop hiX, cellsW_drop hkX, cellsW_drop hjX, hX, h, hk3, hj3, hwj]
          refine dcall0 (before_ok X[k] X[j]) (by simp) (by simp) ?_
          by_cases g1 : orderV X[k] X[j] < 0
          · have g2 : orderV X[i] X[j] < 0 := lin_orderV.trans _ _ _ ho g1
            simp -implicitDefEqProofs [g1, hi3, hk3', hj3', cellsW_drop hiX, cellsW_drop hkX, cellsW_drop hjX, hX, h, hk3, hj3, hwj]
            refine dcall0 (before_ok X[i] X[j]) (by simp) (by simp) ?_
            simp -implicitDefEqProofs [g2]
            exact roundS (j + 1) hj3 (by omega) (selW [] 0 (by simp) (by simp) (by simp) (by simp [hwj]))
          · simp -implicitDefEqProofs [g1, hi3, hk3', hj3', cellsW_drop hiX, cellsW_drop hkX, cellsW_drop hjX, hX, h, hk3, hj3, hwj]
            exact roundS (j + 1) hj3 (by omega) (selW [] 0 (by simp) (by simp) (by simp) (by simp [hwj]))
        · have hjj : j = 3 := by omega
          subst hjj
          have hwk : IntKind.i64.wrap ((k : Int) + 1) = (k : Int) + 1 := IntWalk.i64_in _ (by omega)
          simp -implicitDefEqProofs
          exact roundS (k + 1) hk3 (by omega) (selW [] 0 (by simp) (by simp) (by simp) (by simp [hwk]))
      · have hn : ¬ orderV X[k] X[i] < 0 := by rw [hsw]; omega
        simp -implicitDefEqProofs [ho, hi3, hk3', cellsW_drop hiX, cellsW_drop hkX, hX, h, hk3]
        refine dcall0 (before_ok X[k] X[i]) (by simp) (by simp) ?_
        simp -implicitDefEqProofs [hn]
        refine loopS (S := Nat) (fun j => [(7, .fsl 3 (cellsW X)), (8, int i), (9, int k), (10, bl false), (12, int j)]) (fun j => []) (fun j => j ≤ 3) (fun j => 3 - j) 0 (by simp)
          (selW [] 0 (by simp) (by simp) (by simp) (by simp)) ?_
        intro j hj
        by_cases hj3 : j < 3
        · have hjX : j < X.length := by omega
          have hj3' : (j : Int) < 3 := by omega
          have hwj : IntKind.i64.wrap ((j : Int) + 1) = (j : Int) + 1 := IntWalk.i64_in _ (by omega)
          simp -implicitDefEqProofs [hi3, hk3', hj3', cellsW_drop hiX, cellsW_drop hkX, cellsW_drop hjX, hX, h, hk3, hj3, hwj]
          exact roundS (j + 1) hj3 (by omega) (selW [] 0 (by simp) (by simp) (by simp) (by simp [hwj]))
        · have hjj : j = 3 := by omega
          subst hjj
          have hwk : IntKind.i64.wrap ((k : Int) + 1) = (k : Int) + 1 := IntWalk.i64_in _ (by omega)
          simp -implicitDefEqProofs
          exact roundS (k + 1) hk3 (by omega) (selW [] 0 (by simp) (by simp) (by simp) (by simp [hwk]))
      · have hn : orderV X[k] X[i] < 0 := by rw [hsw]; omega
        have ho1 : ¬ orderV X[i] X[k] < 0 := by omega
        have ho2 : ¬ orderV X[i] X[k] = 0 := by omega
        simp -implicitDefEqProofs [ho1, ho2, hi3, hk3', cellsW_drop hiX, cellsW_drop hkX, hX, h, hk3]
        refine dcall0 (before_ok X[k] X[i]) (by simp) (by simp) ?_
        simp -implicitDefEqProofs [hn]
        refine loopS (S := Nat) (fun j => [(7, .fsl 3 (cellsW X)), (8, int i), (9, int k), (10, bl false), (12, int j)]) (fun j => []) (fun j => j ≤ 3) (fun j => 3 - j) 0 (by simp)
          (selW [] 0 (by simp) (by simp) (by simp) (by simp)) ?_
        intro j hj
        by_cases hj3 : j < 3
        · have hjX : j < X.length := by omega
          have hj3' : (j : Int) < 3 := by omega
          have hwj : IntKind.i64.wrap ((j : Int) + 1) = (j : Int) + 1 := IntWalk.i64_in _ (by omega)
          simp -implicitDefEqProofs [hi3, hk3', hj3', cellsW_drop hiX, cellsW_drop hkX, cellsW_drop hjX, hX, h, hk3, hj3, hwj]
          exact roundS (j + 1) hj3 (by omega) (selW [] 0 (by simp) (by simp) (by simp) (by simp [hwj]))
        · have hjj : j = 3 := by omega
          subst hjj
          have hwk : IntKind.i64.wrap ((k : Int) + 1) = (k : Int) + 1 := IntWalk.i64_in _ (by omega)
          simp -implicitDefEqProofs
          exact roundS (k + 1) hk3 (by omega) (selW [] 0 (by simp) (by simp) (by simp) (by simp [hwk]))
    · have hkk : k = 3 := by omega
      subst hkk
      have hw : IntKind.i64.wrap ((i : Int) + 1) = (i : Int) + 1 := IntWalk.i64_in _ (by omega)
      simp -implicitDefEqProofs
      exact roundS (i + 1) h (by omega) (selW [] 0 (by simp) (by simp) (by simp) (by simp [hw]))
  · have hii : i = 3 := by omega
    subst hii
    simp -implicitDefEqProofs
    refine call0 lives_ok (by simp) (by simp) ?_
    simp -implicitDefEqProofs
    exact ret_end 0 (by simp)
end Go.Proofs.Ytbkiphnlbadhcaa
