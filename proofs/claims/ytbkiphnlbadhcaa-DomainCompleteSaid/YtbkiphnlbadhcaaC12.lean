/-
  The reference's product.
-/
import Derived.Test.YtbkiphnlbadhcaaC8
namespace Go.Proofs.Ytbkiphnlbadhcaa
open Go.Abs

-- splicery/spliceryref13.product · results ["2"]
def K49 : K :=
 K.seq (K.ops [⟨none, .mov (some 2) (.const (.slice none 0 0))⟩])
 (K.seq (K.ops [⟨none, .bslice (some 9) 60 3 0 [] []⟩,
 ⟨none, .bslice (some 10) 36 1 1 [(.slice none 0 0)] [(0, 1, (.tmp 9))]⟩,
 ⟨none, .mov (some 3) (.tmp 10)⟩])
 (K.seq (K.seq (K.ops [⟨none, .mov (some 4) (.const (.int .i64 0))⟩])
 (K.block 0 (K.loop (K.seq (K.seq (K.ops [⟨none, .mov (some 11) (.tmp 4)⟩,
 ⟨none, .mov (some 12) (.tmp 0)⟩,
 ⟨none, .len (some 13) false (.tmp 12)⟩,
 ⟨none, .bin (some 14) .lss (.tmp 11) (.tmp 13)⟩])
 (K.cond (.tmp 14)
 (K.skip)
 (K.exit 0)))
 (K.seq (K.block 1 (K.seq (K.ops [⟨none, .mov (some 5) (.const (.slice none 0 0))⟩])
 (K.seq (K.seq (K.ops [⟨none, .mov (some 6) (.const (.int .i64 0))⟩])
 (K.block 2 (K.loop (K.seq (K.seq (K.ops [⟨none, .mov (some 17) (.tmp 6)⟩,
 ⟨none, .mov (some 18) (.tmp 3)⟩,
 ⟨none, .len (some 19) false (.tmp 18)⟩,
 ⟨none, .bin (some 20) .lss (.tmp 17) (.tmp 19)⟩])
 (K.cond (.tmp 20)
 (K.skip)
 (K.exit 2)))
 (K.seq (K.block 3 (K.seq (K.ops [⟨none, .mov (some 7) (.const (.int .i64 0))⟩])
 (K.block 4 (K.loop (K.seq (K.seq (K.ops [⟨none, .mov (some 23) (.tmp 7)⟩,
 ⟨none, .mov (some 24) (.tmp 0)⟩,
 ⟨none, .mov (some 25) (.tmp 4)⟩,
 ⟨none, .idx (some 26) (.tmp 24) (.tmp 25) 1⟩,
 ⟨none, .ld (some 27) (.tmp 26) 1 false⟩,
 ⟨none, .len (some 28) false (.tmp 27)⟩,
 ⟨none, .bin (some 29) .lss (.tmp 23) (.tmp 28)⟩])
 (K.cond (.tmp 29)
 (K.skip)
 (K.exit 4)))
 (K.seq (K.block 5 (K.seq (K.ops [⟨none, .mov (some 8) (.const (.slice none 0 0))⟩])
 (K.dops [(0, 0, ⟨none, .mov (some 32) (.tmp 5)⟩),
 (1, 0, ⟨none, .mov (some 33) (.tmp 8)⟩),
 (2, 0, ⟨none, .mov (some 34) (.tmp 3)⟩),
 (3, 0, ⟨none, .mov (some 35) (.tmp 6)⟩),
 (4, 1, ⟨none, .idx (some 36) (.tmp 34) (.tmp 35) 1⟩),
 (5, 1, ⟨none, .ld (some 37) (.tmp 36) 1 false⟩),
 (7, 0, ⟨none, .mov (some 39) (.tmp 0)⟩),
 (8, 0, ⟨none, .mov (some 40) (.tmp 4)⟩),
 (9, 1, ⟨none, .idx (some 41) (.tmp 39) (.tmp 40) 1⟩),
 (10, 1, ⟨none, .ld (some 42) (.tmp 41) 1 false⟩),
 (11, 0, ⟨none, .mov (some 43) (.tmp 7)⟩),
 (12, 1, ⟨none, .idx (some 44) (.tmp 42) (.tmp 43) 3⟩),
 (13, 1, ⟨none, .ld (some 45) (.tmp 44) 3 true⟩),
 (14, 0, ⟨none, .bslice (some 46) 60 3 1 [(.int .i64 0), (.int .i64 0), (.slice none 0 0)] [(0, 3, (.tmp 45))]⟩),
 (6, 0, ⟨none, .app (some 38) 60 3 40 (.tmp 33) (.tmp 37)⟩),
 (15, 0, ⟨none, .app (some 47) 60 3 40 (.tmp 38) (.tmp 46)⟩),
 (16, 0, ⟨none, .bslice (some 48) 36 1 1 [(.slice none 0 0)] [(0, 1, (.tmp 47))]⟩),
 (17, 0, ⟨none, .app (some 49) 36 1 24 (.tmp 32) (.tmp 48)⟩),
 (18, 0, ⟨none, .mov (some 5) (.tmp 49)⟩)])))
 (K.ops [⟨none, .mov (some 30) (.tmp 7)⟩,
 ⟨none, .bin (some 31) .add (.tmp 30) (.const (.int .i64 1))⟩,
 ⟨none, .mov (some 7) (.tmp 31)⟩])))))))
 (K.ops [⟨none, .mov (some 21) (.tmp 6)⟩,
 ⟨none, .bin (some 22) .add (.tmp 21) (.const (.int .i64 1))⟩,
 ⟨none, .mov (some 6) (.tmp 22)⟩]))))))
 (K.ops [⟨none, .mov (some 50) (.tmp 5)⟩,
 ⟨none, .mov (some 3) (.tmp 50)⟩]))))
 (K.ops [⟨none, .mov (some 15) (.tmp 4)⟩,
 ⟨none, .bin (some 16) .add (.tmp 15) (.const (.int .i64 1))⟩,
 ⟨none, .mov (some 4) (.tmp 16)⟩]))))))
 (K.seq (K.ops [⟨none, .mov (some 51) (.tmp 3)⟩,
 ⟨none, .mov (some 2) (.tmp 51)⟩])
 (K.ret))))
def h49 : Nat → Option (List (Nat × Nat)) := fun r => if r = 13 then some [(0, 0), (1, 0), (2, 0), (3, 0), (4, 1), (5, 1), (7, 0), (8, 0), (9, 1), (10, 1), (11, 0), (12, 1), (13, 1), (14, 0), (6, 0), (15, 0), (16, 0), (17, 0), (18, 0)] else none
theorem c49 : compileH Try.prog Try.f49.ntmps h49 (Try.f49.body.getD .skip) = some K49.erase := by kernel_rfl
@[simp] theorem cal49 : callable Try.prog 49 = true := by kernel_rfl


theorem step_take {S : List (List Val)} {c : Nat} (h : c < S.length) : cellsW (S.take (c + 1)) = cellsW (S.take c) ++ [.sl S[c].length (cellsV S[c])] := by
  rw [List.take_succ_eq_append_getElem h, cellsW_append]; rfl
theorem product_ok (L : List (List Val)) (hL : L.length ≤ 1000000) (hP : ∀ i, (prodT (L.take i)).length ≤ 1000000) : Ret Try.prog 49 [.sl L.length (cellsW L)] [] (.sl (prodT L).length (cellsW (prodT L))) [] := by
  refine ret_of_wpH Try.func49 rfl c49 (rs := [.slot 2]) (by kernel_rfl) ?_
  unfold K49
  simp -implicitDefEqProofs
  refine loopS (S := Nat) (fun i => [(0, .sl L.length (cellsW L)), (3, .sl (prodT (L.take i)).length (cellsW (prodT (L.take i)))), (4, int i)]) (fun i => []) (fun i => i ≤ L.length) (fun i => L.length - i) 0 (by simp)
    (selW [] 0 (by simp) (by simp) (by simp) (by simp)) ?_
  intro i hi
  by_cases h : i < L.length
  · have hw : IntKind.i64.wrap ((i : Int) + 1) = (i : Int) + 1 := IntWalk.i64_in _ (by omega)
    have htk : prodT (L.take (i + 1)) = stepT (prodT (L.take i)) L[i] := by rw [List.take_succ_eq_append_getElem h, prodT_snoc]
    have hS : (stepT (prodT (L.take i)) L[i]).length ≤ 1000000 := by rw [← htk]; exact hP _
    have hPl : ∀ t ∈ prodT (L.take i), t.length ≤ 1000000 := fun t ht => by rw [prodT_len ht]; simp; omega
    have hPn := hP i
    generalize prodT (L.take i) = P at htk hS hPl hPn ⊢
    simp -implicitDefEqProofs [h]
    intro _
    refine loopS (S := Nat) (fun k => [(0, .sl L.length (cellsW L)), (3, .sl P.length (cellsW P)), (4, int i), (5, .row 0 (k * L[i].length)), (6, int k)])
      (fun k => [.row false 36 1 (k * L[i].length) (cellsW ((stepT P L[i]).take (k * L[i].length)))]) (fun k => k ≤ P.length) (fun k => P.length - k) 0 (by simp)
      ((weak_nilslot (t := 5) (by simp) 36 1).trans (selW [0] 0 (by simp) (by simp) (by simp) (by simp))) ?_
    intro k hk
    by_cases hkP : k < P.length
    · have hwk : IntKind.i64.wrap ((k : Int) + 1) = (k : Int) + 1 := IntWalk.i64_in _ (by omega)
      simp -implicitDefEqProofs [hkP]
      intro hPm
      refine loopS (S := Nat) (fun j => [(0, .sl L.length (cellsW L)), (3, .sl P.length (cellsW P)), (4, int i), (5, .row 0 (k * L[i].length + j)), (6, int k), (7, int j)])
        (fun j => [.row false 36 1 (k * L[i].length + j) (cellsW ((stepT P L[i]).take (k * L[i].length + j)))]) (fun j => j ≤ L[i].length) (fun j => L[i].length - j) 0 (by simp)
        (selW [0] 0 (by simp) (by simp) (by simp) (by simp)) ?_
      intro j hj
      by_cases hjl : j < L[i].length
      · have hgl : k * L[i].length + j < (stepT P L[i]).length := by
          rw [stepT_length]
          have := Nat.mul_le_mul_right L[i].length (Nat.succ_le_of_lt hkP)
          rw [Nat.succ_mul] at this
          omega
        have hge : (stepT P L[i])[k * L[i].length + j] = P[k] ++ [L[i][j]] := by
          have := stepT_get hkP hjl
          rw [List.getElem?_eq_getElem hgl] at this
          simpa using this
        have hst := step_take hgl
        rw [hge] at hst
        have hPk := hPl P[k] (List.getElem_mem hkP)
        by_cases hh : P[k] = []
        · simp -implicitDefEqProofs [h, hkP, hjl, cellsW_drop h, cellsW_drop hkP, cellsV_drop hjl, hh]
          intro hm
          refine ⟨by simp [maxLen], ⟨by simp [maxLen]; omega, by omega⟩, ?_⟩
          exact roundS (j + 1) hjl (by omega) (selW [0] 1 (by simp) (by simp) (by simp [← Nat.add_assoc, hst, hh]) (by simp [← Nat.add_assoc, wrap_succ hjl hm]))
        · simp -implicitDefEqProofs [h, hkP, hjl, cellsW_drop h, cellsW_drop hkP, cellsV_drop hjl, hh]
          intro hm
          refine ⟨⟨by simp [maxLen]; omega, by omega⟩, ⟨by simp [maxLen]; omega, by omega⟩, ⟨by simp [maxLen]; omega, by omega⟩, ?_⟩
          exact roundS (j + 1) hjl (by omega) (selW [0] 1 (by simp) (by simp) (by simp [← Nat.add_assoc, hst]) (by simp [← Nat.add_assoc, wrap_succ hjl hm]))
      · have hjj : j = L[i].length := by omega
        subst hjj
        simp -implicitDefEqProofs [cellsW_drop h, h]
        intro hm
        exact roundS (k + 1) hkP (by omega) (selW [0] 0 (by simp) (by simp) (by simp [Nat.succ_mul]) (by simp [Nat.succ_mul, hwk]))
    · have hkk : k = P.length := by omega
      subst hkk
      have hfull : (stepT P L[i]).take (P.length * L[i].length) = stepT P L[i] := List.take_of_length_le (by rw [stepT_length]; exact Nat.le_refl _)
      simp -implicitDefEqProofs
      intro hm
      exact roundS (i + 1) h (by omega) (selW [] 1 (by simp) (by simp) (by simp) (by simp [htk, stepT_length, hw, hfull]))
  · have hi : i = L.length := by omega
    subst hi
    have hfull : L.take L.length = L := List.take_of_length_le (Nat.le_refl _)
    simp -implicitDefEqProofs
    exact fun _ => ret_end 0 (by simp)
end Go.Proofs.Ytbkiphnlbadhcaa
