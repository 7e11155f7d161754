/-
  The law DomainValues: what its code computes.
-/
import Derived.Test.YtbkiphnlbadhcaaC18
namespace Go.Proofs.Ytbkiphnlbadhcaa
open Go.Abs

-- splicery/splicerylaw13.DomainValues · results ["10"]
def K3 : K :=
 K.seq (K.ops [⟨none, .box (some 7) (.tmp 2)⟩,
 ⟨none, .box (some 8) (.tmp 3)⟩,
 ⟨none, .mov (some 10) (.const (.bool false))⟩])
 (K.seq (K.ops [⟨none, .mov (some 20) (.tmp 0)⟩,
 ⟨none, .mov (some 21) (.tmp 1)⟩,
 ⟨none, .ld (some 22) (.tmp 7) 5 true⟩,
 ⟨none, .call (some 23) (.func 8) [(.tmp 20), (.tmp 21), (.tmp 22)]⟩,
 ⟨none, .alloc (some 11) [(.slice none 0 0), (.slice none 0 0)]⟩,
 ⟨none, .st none (.tmp 11) (.tmp 23) 2⟩])
 (K.seq (K.ops [⟨none, .mov (some 24) (.tmp 4)⟩,
 ⟨none, .mov (some 25) (.tmp 4)⟩,
 ⟨none, .call (some 26) (.func 9) [(.tmp 25), (.const (.int .i64 3))]⟩,
 ⟨none, .mov (some 27) (.tmp 4)⟩,
 ⟨none, .call (some 28) (.func 9) [(.tmp 27), (.const (.int .i64 9))]⟩,
 ⟨none, .bslice (some 29) 3 1 3 [(.int .i64 0), (.int .i64 0), (.int .i64 0)] [(0, 1, (.tmp 24)), (1, 1, (.tmp 26)), (2, 1, (.tmp 28))]⟩,
 ⟨none, .mov (some 12) (.tmp 29)⟩])
 (K.seq (K.dops [(0, 0, ⟨none, .ld (some 30) (.tmp 7) 5 true⟩),
 (1, 0, ⟨none, .ld (some 31) (.tmp 8) 5 true⟩),
 (2, 0, ⟨none, .mov (some 32) (.tmp 1)⟩),
 (3, 0, ⟨none, .call (some 33) (.func 9) [(.tmp 32), (.const (.int .i64 4))]⟩),
 (4, 0, ⟨none, .bin (some 34) .add (.const (.int .i64 1)) (.tmp 33)⟩),
 (5, 0, ⟨none, .call (some 35) (.func 11) [(.tmp 34)]⟩),
 (6, 0, ⟨none, .call (some 36) (.func 10) [(.tmp 35)]⟩),
 (7, 0, ⟨none, .bslice (some 37) 27 5 3 [(.int .i64 0), (.int .i64 0), (.int .i64 0), (.int .i64 0), (.slice none 0 0), (.int .i64 0), (.int .i64 0), (.int .i64 0), (.int .i64 0), (.slice none 0 0), (.int .i64 0), (.int .i64 0), (.int .i64 0), (.int .i64 0), (.slice none 0 0)] [(0, 5, (.tmp 30)), (5, 5, (.tmp 31)), (10, 5, (.tmp 36))]⟩),
 (8, 0, ⟨none, .mov (some 13) (.tmp 37)⟩)])
 (K.seq (K.seq (K.ops [⟨none, .mov (some 14) (.const (.int .i64 0))⟩])
 (K.block 0 (K.loop (K.seq (K.seq (K.ops [⟨none, .mov (some 38) (.tmp 14)⟩,
 ⟨none, .bin (some 39) .lss (.tmp 38) (.const (.int .i64 3))⟩])
 (K.cond (.tmp 39)
 (K.skip)
 (K.exit 0)))
 (K.seq (K.block 1 (K.seq (K.ops [⟨none, .mov (some 15) (.const (.int .i64 0))⟩])
 (K.block 2 (K.loop (K.seq (K.seq (K.ops [⟨none, .mov (some 42) (.tmp 15)⟩,
 ⟨none, .bin (some 43) .lss (.tmp 42) (.const (.int .i64 3))⟩])
 (K.cond (.tmp 43)
 (K.skip)
 (K.exit 2)))
 (K.seq (K.block 3 (K.seq (K.dops [(0, 0, ⟨none, .ld (some 47) (.tmp 11) 2 true⟩),
 (1, 0, ⟨none, .mov (some 48) (.tmp 13)⟩),
 (2, 0, ⟨none, .mov (some 49) (.tmp 14)⟩),
 (3, 0, ⟨none, .idx (some 50) (.tmp 48) (.tmp 49) 5⟩),
 (4, 0, ⟨none, .ld (some 51) (.tmp 50) 5 true⟩),
 (5, 0, ⟨none, .mov (some 52) (.tmp 12)⟩),
 (6, 0, ⟨none, .mov (some 53) (.tmp 15)⟩),
 (7, 0, ⟨none, .idx (some 54) (.tmp 52) (.tmp 53) 1⟩),
 (8, 0, ⟨none, .ld (some 55) (.tmp 54) 1 false⟩),
 (9, 0, ⟨none, .call (some 56) (.func 12) [(.tmp 47), (.tmp 51), (.tmp 55)]⟩),
 (10, 0, ⟨none, .mov (some 46) (.tmp 56)⟩),
 (11, 0, ⟨none, .ext (some 57) (.tmp 46) 0⟩),
 (12, 0, ⟨none, .ext (some 58) (.tmp 46) 1⟩),
 (13, 0, ⟨none, .mov (some 16) (.tmp 57)⟩),
 (14, 0, ⟨none, .mov (some 17) (.tmp 58)⟩)])
 (K.seq (K.dops [(0, 0, ⟨none, .ld (some 60) (.tmp 11) 2 true⟩),
 (1, 0, ⟨none, .mov (some 61) (.tmp 13)⟩),
 (2, 0, ⟨none, .mov (some 62) (.tmp 14)⟩),
 (3, 0, ⟨none, .idx (some 63) (.tmp 61) (.tmp 62) 5⟩),
 (4, 0, ⟨none, .ld (some 64) (.tmp 63) 5 true⟩),
 (5, 0, ⟨none, .mov (some 65) (.tmp 12)⟩),
 (6, 0, ⟨none, .mov (some 66) (.tmp 15)⟩),
 (7, 0, ⟨none, .idx (some 67) (.tmp 65) (.tmp 66) 1⟩),
 (8, 0, ⟨none, .ld (some 68) (.tmp 67) 1 false⟩),
 (9, 0, ⟨none, .call (some 69) (.func 13) [(.tmp 60), (.tmp 64), (.tmp 68)]⟩),
 (10, 0, ⟨none, .mov (some 59) (.tmp 69)⟩),
 (11, 0, ⟨none, .ext (some 70) (.tmp 59) 0⟩),
 (12, 0, ⟨none, .ext (some 71) (.tmp 59) 1⟩),
 (13, 0, ⟨none, .mov (some 18) (.tmp 70)⟩),
 (14, 0, ⟨none, .mov (some 19) (.tmp 71)⟩)])
 (K.seq (K.ops [⟨none, .mov (some 72) (.tmp 17)⟩,
 ⟨none, .mov (some 73) (.tmp 19)⟩,
 ⟨none, .eqv (some 74) true .i (.tmp 72) (.tmp 73)⟩,
 ⟨none, .mov (some 75) (.tmp 74)⟩,
 ⟨some (75, false), .mov (some 76) (.tmp 16)⟩,
 ⟨some (75, false), .mov (some 77) (.tmp 18)⟩,
 ⟨some (75, false), .call (some 78) (.func 14) [(.tmp 76), (.tmp 77)]⟩,
 ⟨some (75, false), .not (some 79) (.tmp 78)⟩,
 ⟨none, .pick (some 80) (.tmp 75) (.const (.bool true)) (.tmp 79)⟩])
 (K.cond (.tmp 80)
 (K.seq (K.ops [⟨none, .mov (some 10) (.const (.bool false))⟩])
 (K.ret))
 (K.skip))))))
 (K.ops [⟨none, .mov (some 44) (.tmp 15)⟩,
 ⟨none, .bin (some 45) .add (.tmp 44) (.const (.int .i64 1))⟩,
 ⟨none, .mov (some 15) (.tmp 45)⟩])))))))
 (K.ops [⟨none, .mov (some 40) (.tmp 14)⟩,
 ⟨none, .bin (some 41) .add (.tmp 40) (.const (.int .i64 1))⟩,
 ⟨none, .mov (some 14) (.tmp 41)⟩]))))))
 (K.seq (K.ops [⟨none, .call (some 81) (.func 15) []⟩,
 ⟨none, .mov (some 10) (.tmp 81)⟩])
 (K.ret))))))
theorem c3 : compile Try.prog Try.f3.ntmps (Try.f3.body.getD .skip) = some K3.erase := by kernel_rfl
@[simp] theorem cal3 : callable Try.prog 3 = true := by kernel_rfl


theorem sml_types (l : List Int) (hl : ∀ x ∈ l, w64 x = x) : Sml (typesV l) := by
  intro d hd
  obtain ⟨i, _, rfl⟩ := List.mem_map.1 hd
  have := cnt_range hl i
  simp [dfnV]
  omega
theorem sml_prog (l : List Int) (hl : ∀ x ∈ l, w64 x = x) (turn : Int) (t : Typ) : Sml (progV l turn t) := by
  unfold progV
  split
  · intro d hd
    simp only [List.mem_append, List.mem_cons] at hd
    rcases hd with hd | rfl | hd
    · exact sml_types l hl d (List.mem_of_mem_take hd)
    · have := cnt_range hl (kV l turn)
      simp [newD, dfnV]
      omega
    · exact sml_types l hl d (List.mem_of_mem_drop hd)
  · exact sml_types l hl
theorem sameV_refl : ∀ l : List Val, sameV l l = true
  | [] => rfl
  | a :: l => by simp [sameV, lin_cmpV.refl, sameV_refl l]
theorem cellsT5_drop : ∀ {l : List Typ} {i : Nat} (h : i < l.length), (cellsT l).drop (i * 5) = encT l[i] ++ cellsT (l.drop (i + 1))
  | t :: l, 0, _ => by simp [encT]
  | t :: l, i + 1, h => by
    have := cellsT5_drop (l := l) (i := i) (by simpa using h)
    rw [show (i + 1) * 5 = i * 5 + 5 by omega]
    simpa using this

theorem values_law (l : List Int) (hl : ∀ x ∈ l, w64 x = x) (turn : Int) (ht : w64 turn = turn) (t u : Typ) (most : Int) (hm : w64 most = most) :
    Ret Try.prog 3 [.sl l.length (cellsN l), int turn, .agg (encT t), .agg (encT u), int most] [] (bl true) [] := by
  refine ret_of_wp Try.func3 rfl c3 (rs := [.slot 10]) (by kernel_rfl) ?_
  unfold K3
  have hS := sml_prog l hl turn t
  simp -implicitDefEqProofs [encT]
  refine call0 (prog_ok l hl turn ht t) (by simp [encT]) (by simp [encP]) ?_
  generalize progV l turn t = p at hS
  simp -implicitDefEqProofs [encP]
  refine call0 (around_ok most 3 (by decide)) (by simp) (by simp) ?_
  simp -implicitDefEqProofs
  refine call0 (around_ok most 9 (by decide)) (by simp) (by simp) ?_
  simp -implicitDefEqProofs
  refine dcall0 (around_ok turn 4 (by decide)) (by simp) (by simp) ?_
  simp -implicitDefEqProofs
  refine dcall0 (id_ok (IntKind.i64.wrap (1 + aroundV turn 4))) (by simp) (by simp [encI]) ?_
  simp -implicitDefEqProofs
  refine dcall0 (of_ok (idR (IntKind.i64.wrap (1 + aroundV turn 4)))) (by simp) (by simp [encT]) ?_
  simp -implicitDefEqProofs [encT]
  obtain ⟨T, hTe⟩ : ∃ X, X = [t, u, .mk 3 (idR (IntKind.i64.wrap (1 + aroundV turn 4))) []] := ⟨_, rfl⟩
  obtain ⟨B, hBe⟩ : ∃ X, X = [most, aroundV most 3, aroundV most 9] := ⟨_, rfl⟩
  have hT3 : T.length = 3 := by rw [hTe]; rfl
  have hB3 : B.length = 3 := by rw [hBe]; rfl
  refine loopS (S := Nat) (fun i => [(11, .ptr 0 0), (12, .fsl 3 (cellsN B)), (13, .fsl 3 (cellsT T)), (14, int i)]) (fun i => [.box (encP p)]) (fun i => i ≤ 3) (fun i => 3 - i) 0 (by simp)
    (selW [2] 0 (by simp) (by simp) (by simp [encP]) (by simp [hTe, hBe])) ?_
  clear hTe hBe
  intro i hi
  by_cases h : i < 3
  · have hiT : i < T.length := by omega
    have hi3 : (i : Int) < 3 := by omega
    simp -implicitDefEqProofs [hi3]
    refine loopS (S := Nat) (fun k => [(11, .ptr 0 0), (12, .fsl 3 (cellsN B)), (13, .fsl 3 (cellsT T)), (14, int i), (15, int k)]) (fun k => [.box (encP p)]) (fun k => k ≤ 3) (fun k => 3 - k) 0 (by simp)
      (selW [0] 0 (by simp) (by simp) (by simp [encP]) (by simp)) ?_
    intro k hk
    by_cases hk3 : k < 3
    · have hkB : k < B.length := by omega
      have hk3' : (k : Int) < 3 := by omega
      have hi5 : i * 5 < 15 := by omega
      have hwk : IntKind.i64.wrap ((k : Int) + 1) = (k : Int) + 1 := IntWalk.i64_in _ (by omega)
      simp -implicitDefEqProofs [hi3, hk3', cellsT5_drop hiT, cellsN_drop hkB, hT3, hB3, h, hk3, hi5, encT, encP]
      refine dcall0 (values_ok p hS T[i] B[k]) (by simp [encP, encT]) (by simp) ?_
      simp -implicitDefEqProofs [hi3, hk3', cellsT5_drop hiT, cellsN_drop hkB, hT3, hB3, h, hk3, hi5, encT, encP]
      refine dcall0 (refValues_ok p hS T[i] B[k]) (by simp [encP, encT]) (by simp) ?_
      simp -implicitDefEqProofs
      refine call0 (same_ok (valuesV p T[i] B[k]).1 (valuesV p T[i] B[k]).1) (by simp) (by simp) ?_
      simp -implicitDefEqProofs [sameV_refl]
      exact roundS (k + 1) hk3 (by omega) (selW [0] 0 (by simp) (by simp) (by simp [encP]) (by simp [hwk]))
    · have hkk : k = 3 := by omega
      subst hkk
      have hw : IntKind.i64.wrap ((i : Int) + 1) = (i : Int) + 1 := IntWalk.i64_in _ (by omega)
      simp -implicitDefEqProofs
      exact roundS (i + 1) h (by omega) (selW [0] 0 (by simp) (by simp) (by simp [encP]) (by simp [hw]))
  · have hii : i = 3 := by omega
    subst hii
    simp -implicitDefEqProofs
    refine call0 lives_ok (by simp) (by simp) ?_
    simp -implicitDefEqProofs
    exact ret_end 0 (by simp)
end Go.Proofs.Ytbkiphnlbadhcaa
