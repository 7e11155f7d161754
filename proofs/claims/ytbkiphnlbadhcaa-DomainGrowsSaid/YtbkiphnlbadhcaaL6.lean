/-
  The law DomainGrows: what its code computes.
-/
import Derived.Test.YtbkiphnlbadhcaaL3
namespace Go.Proofs.Ytbkiphnlbadhcaa
open Go.Abs

-- splicery/splicerylaw13.DomainGrows · results ["6"]
def K6 : K :=
 K.seq (K.ops [⟨none, .mov (some 6) (.const (.bool false))⟩])
 (K.seq (K.ops [⟨none, .mov (some 16) (.tmp 0)⟩,
 ⟨none, .call (some 17) (.func 23) [(.tmp 16)]⟩,
 ⟨none, .alloc (some 7) [(.slice none 0 0), (.slice none 0 0)]⟩,
 ⟨none, .st none (.tmp 7) (.tmp 17) 2⟩])
 (K.wk (K.seq (K.ops [⟨none, .mov (some 18) (.tmp 1)⟩,
 ⟨none, .addr (some 19) (.tmp 7) 1⟩,
 ⟨none, .ld (some 20) (.tmp 19) 1 false⟩,
 ⟨none, .len (some 21) false (.tmp 20)⟩,
 ⟨none, .call (some 22) (.func 24) [(.tmp 18), (.tmp 21)]⟩,
 ⟨none, .alloc (some 8) [(.int .i64 0), (.int .i64 0), (.int .i64 0), (.int .i64 0), (.slice none 0 0)]⟩,
 ⟨none, .st none (.tmp 8) (.tmp 22) 5⟩])
 (K.seq (K.ops [⟨none, .mov (some 23) (.tmp 2)⟩,
 ⟨none, .call (some 24) (.func 9) [(.tmp 23), (.const (.int .i64 3))]⟩,
 ⟨none, .mov (some 9) (.tmp 24)⟩])
 (K.seq (K.ops [⟨none, .ld (some 26) (.tmp 7) 2 true⟩,
 ⟨none, .ld (some 27) (.tmp 8) 5 true⟩,
 ⟨none, .mov (some 28) (.tmp 9)⟩,
 ⟨none, .call (some 29) (.func 12) [(.tmp 26), (.tmp 27), (.tmp 28)]⟩,
 ⟨none, .mov (some 25) (.tmp 29)⟩,
 ⟨none, .ext (some 30) (.tmp 25) 0⟩,
 ⟨none, .ext (some 31) (.tmp 25) 1⟩,
 ⟨none, .mov (some 10) (.tmp 30)⟩,
 ⟨none, .mov (some 11) (.tmp 31)⟩])
 (K.seq (K.ops [⟨none, .ld (some 33) (.tmp 7) 2 true⟩,
 ⟨none, .ld (some 34) (.tmp 8) 5 true⟩,
 ⟨none, .mov (some 35) (.tmp 9)⟩,
 ⟨none, .bin (some 36) .add (.tmp 35) (.const (.int .i64 1))⟩,
 ⟨none, .call (some 37) (.func 12) [(.tmp 33), (.tmp 34), (.tmp 36)]⟩,
 ⟨none, .mov (some 32) (.tmp 37)⟩,
 ⟨none, .ext (some 38) (.tmp 32) 0⟩,
 ⟨none, .ext (some 39) (.tmp 32) 1⟩,
 ⟨none, .mov (some 12) (.tmp 38)⟩,
 ⟨none, .mov (some 13) (.tmp 39)⟩])
 (K.seq (K.seq (K.ops [⟨none, .mov (some 40) (.tmp 13)⟩,
 ⟨none, .eqv (some 41) true .i (.tmp 40) (.const (.int .i64 0))⟩])
 (K.cond (.tmp 41)
 (K.seq (K.ops [⟨none, .mov (some 42) (.tmp 13)⟩,
 ⟨none, .eqv (some 43) false .i (.tmp 42) (.const (.int .i64 4))⟩,
 ⟨none, .mov (some 44) (.tmp 43)⟩,
 ⟨some (44, true), .mov (some 45) (.tmp 11)⟩,
 ⟨some (44, true), .eqv (some 46) false .i (.tmp 45) (.const (.int .i64 0))⟩,
 ⟨some (44, true), .mov (some 47) (.tmp 46)⟩,
 ⟨some (47, false), .mov (some 48) (.tmp 11)⟩,
 ⟨some (47, false), .eqv (some 49) false .i (.tmp 48) (.const (.int .i64 4))⟩,
 ⟨some (44, true), .pick (some 50) (.tmp 47) (.const (.bool true)) (.tmp 49)⟩,
 ⟨none, .pick (some 51) (.tmp 44) (.tmp 50) (.const (.bool false))⟩,
 ⟨none, .mov (some 52) (.tmp 51)⟩,
 ⟨some (52, true), .call (some 53) (.func 15) []⟩,
 ⟨none, .pick (some 54) (.tmp 52) (.tmp 53) (.const (.bool false))⟩,
 ⟨none, .mov (some 6) (.tmp 54)⟩])
 (K.ret))
 (K.skip)))
 (K.seq (K.ops [⟨none, .mov (some 14) (.const (.int .i64 0))⟩])
 (K.seq (K.seq (K.ops [⟨none, .mov (some 15) (.const (.int .i64 0))⟩])
 (K.block 0 (K.loop (K.seq (K.seq (K.ops [⟨none, .mov (some 55) (.tmp 15)⟩,
 ⟨none, .mov (some 56) (.tmp 12)⟩,
 ⟨none, .len (some 57) false (.tmp 56)⟩,
 ⟨none, .bin (some 58) .lss (.tmp 55) (.tmp 57)⟩,
 ⟨none, .mov (some 59) (.tmp 58)⟩,
 ⟨some (59, true), .mov (some 60) (.tmp 14)⟩,
 ⟨some (59, true), .mov (some 61) (.tmp 10)⟩,
 ⟨some (59, true), .len (some 62) false (.tmp 61)⟩,
 ⟨some (59, true), .bin (some 63) .lss (.tmp 60) (.tmp 62)⟩,
 ⟨none, .pick (some 64) (.tmp 59) (.tmp 63) (.const (.bool false))⟩])
 (K.cond (.tmp 64)
 (K.skip)
 (K.exit 0)))
 (K.seq (K.block 1 (K.seq (K.dops [(0, 0, ⟨none, .mov (some 67) (.tmp 10)⟩),
 (1, 0, ⟨none, .mov (some 68) (.tmp 14)⟩),
 (2, 0, ⟨none, .idx (some 69) (.tmp 67) (.tmp 68) 3⟩),
 (3, 0, ⟨none, .ld (some 70) (.tmp 69) 3 true⟩),
 (4, 0, ⟨none, .mov (some 71) (.tmp 12)⟩),
 (5, 0, ⟨none, .mov (some 72) (.tmp 15)⟩),
 (6, 0, ⟨none, .idx (some 73) (.tmp 71) (.tmp 72) 3⟩),
 (7, 0, ⟨none, .ld (some 74) (.tmp 73) 3 true⟩),
 (8, 0, ⟨none, .call (some 75) (.func 25) [(.tmp 70), (.tmp 74)]⟩),
 (9, 0, ⟨none, .eqv (some 76) false .i (.tmp 75) (.const (.int .i64 0))⟩)])
 (K.cond (.tmp 76)
 (K.ops [⟨none, .mov (some 77) (.tmp 14)⟩,
 ⟨none, .bin (some 78) .add (.tmp 77) (.const (.int .i64 1))⟩,
 ⟨none, .mov (some 14) (.tmp 78)⟩])
 (K.skip))))
 (K.ops [⟨none, .mov (some 65) (.tmp 15)⟩,
 ⟨none, .bin (some 66) .add (.tmp 65) (.const (.int .i64 1))⟩,
 ⟨none, .mov (some 15) (.tmp 66)⟩]))))))
 (K.seq (K.ops [⟨none, .mov (some 79) (.tmp 11)⟩,
 ⟨none, .eqv (some 80) false .i (.tmp 79) (.const (.int .i64 0))⟩,
 ⟨none, .mov (some 81) (.tmp 80)⟩,
 ⟨some (81, true), .mov (some 82) (.tmp 14)⟩,
 ⟨some (81, true), .mov (some 83) (.tmp 10)⟩,
 ⟨some (81, true), .len (some 84) false (.tmp 83)⟩,
 ⟨some (81, true), .eqv (some 85) false .i (.tmp 82) (.tmp 84)⟩,
 ⟨none, .pick (some 86) (.tmp 81) (.tmp 85) (.const (.bool false))⟩,
 ⟨none, .mov (some 87) (.tmp 86)⟩,
 ⟨some (87, true), .call (some 88) (.func 15) []⟩,
 ⟨none, .pick (some 89) (.tmp 87) (.tmp 88) (.const (.bool false))⟩,
 ⟨none, .mov (some 6) (.tmp 89)⟩])
 (K.ret)))))))))))
theorem c6 : compile Try.prog Try.f6.ntmps (Try.f6.body.getD .skip) = some K6.erase := by kernel_rfl
@[simp] theorem cal6 : callable Try.prog 6 = true := by kernel_rfl


/-- How far the law's two fingers come. -/
def grd : List Val → List Val → Nat
  | [], _ => 0
  | _ :: _, [] => 0
  | x :: a, y :: b => if cmpV x y = 0 then 1 + grd a b else grd (x :: a) b
theorem grd_nil (b : List Val) : grd [] b = 0 := by cases b <;> rfl
theorem grd_nil' (a : List Val) : grd a [] = 0 := by cases a <;> rfl
theorem grd_sub : ∀ {a b : List Val}, a.Sublist b → grd a b = a.length
  | [], b, _ => grd_nil b
  | x :: a, [], h => by simp at h
  | x :: a, y :: b, h => by
    unfold grd
    by_cases hxy : x = y
    · rw [if_pos (by rw [hxy]; exact lin_cmpV.refl y), grd_sub (by subst hxy; simpa using h)]
      simp; omega
    · rw [if_neg (fun e => hxy (lin_cmpV.eq _ _ e))]
      cases h with
      | cons _ h => exact grd_sub h
      | cons_cons _ h => exact absurd rfl hxy

theorem grows_law (l : List Int) (hl : ∀ x ∈ l, w64 x = x) (which : Int) (hwh : w64 which = which) (most : Int) (hm : w64 most = most) (hs : Sml (typesV l))
    (VA VB : List Val × Int) (hA : VA = valuesV (typesV l) (pickT which (manyV l)) (aroundV most 3)) (hB : VB = valuesV (typesV l) (pickT which (manyV l)) (aroundV most 3 + 1))
    (h0 : VB.2 = 0 → VA.2 = 0 ∧ VA.1.Sublist VB.1) (h1 : VB.2 ≠ 0 → VB.2 = 4 ∧ (VA.2 = 0 ∨ VA.2 = 4)) :
    Ret Try.prog 6 [.sl l.length (cellsN l), int which, int most] [] (bl true) [] := by
  refine ret_of_wp Try.func6 rfl c6 (rs := [.slot 6]) (by kernel_rfl) ?_
  unfold K6
  obtain ⟨hm1, hm4, _⟩ := many_range hl
  have hr := around_range hm (show (0 : Int) < 3 by decide)
  have hwn : IntKind.i64.wrap (aroundV most 3 + 1) = aroundV most 3 + 1 := IntWalk.i64_in _ (by omega)
  have hDl : (defsV l).length = manyV l := by simp [defsV]
  simp -implicitDefEqProofs
  refine callJ (types_ok l hl) [] (by simp) (by simp) (by simp) ?_
  simp -implicitDefEqProofs
  refine ⟨mkEnv [(1, int which), (2, int most), (7, .ptr 0 0)], [.box (encP (typesV l))], selW [1] 1 (by simp) (by simp) (by simp [encP, typesV, hDl]) (by simp), ?_⟩
  have hdl : (typesV l).defs.length = manyV l := hDl
  simp -implicitDefEqProofs [encP, hdl]
  intro hlm
  refine call0 (pick_ok which (manyV l) hwh (by omega)) (by simp) (by simp [encT]) ?_
  simp -implicitDefEqProofs [encT]
  refine call0 (around_ok most 3 (by decide)) (by simp) (by simp) ?_
  simp -implicitDefEqProofs [hwn]
  refine call0 (values_ok (typesV l) hs (pickT which (manyV l)) (aroundV most 3)) (by simp [encP, encT, hdl]) (by simp) ?_
  rw [← hA]
  simp -implicitDefEqProofs [hwn]
  refine call0 (values_ok (typesV l) hs (pickT which (manyV l)) (aroundV most 3 + 1)) (by simp [encP, encT, hdl]) (by simp) ?_
  rw [← hB]
  clear hA hB
  obtain ⟨a, e⟩ := VA
  obtain ⟨b, f⟩ := VB
  simp only at h0 h1
  by_cases hf : f = 0
  · obtain ⟨he, hsub⟩ := h0 hf
    subst hf he
    have hg := grd_sub hsub
    simp -implicitDefEqProofs
    refine loopS (S := Nat × Nat) (fun s => [(10, .sl a.length (cellsV a)), (11, int 0), (12, .sl b.length (cellsV b)), (14, int s.1), (15, int s.2)]) (fun s => [])
      (fun s => s.1 ≤ a.length ∧ s.2 ≤ b.length ∧ s.1 ≤ s.2 ∧ s.1 + grd (a.drop s.1) (b.drop s.2) = a.length) (fun s => b.length - s.2) (0, 0) (by simp [hg])
      (selW [] 0 (by simp) (by simp) (by simp) (by simp)) ?_
    rintro ⟨k, i⟩ ⟨hk, hi, hki, hgd⟩
    simp only at hk hi hki hgd
    by_cases hib : i < b.length
    · by_cases hka : k < a.length
      · have hib' : (i : Int) < b.length := by omega
        have hka' : (k : Int) < a.length := by omega
        rw [List.drop_eq_getElem_cons hib, List.drop_eq_getElem_cons hka, grd] at hgd
        simp -implicitDefEqProofs [hib, hka, cellsV_drop hib, cellsV_drop hka]
        intro hbm ham
        have hwk : IntKind.i64.wrap ((k : Int) + 1) = (k : Int) + 1 := wrap_succ hka ham
        have hwi : IntKind.i64.wrap ((i : Int) + 1) = (i : Int) + 1 := wrap_succ hib hbm
        refine dcall0 (cmpV_ok a[k] b[i]) (by simp [encV]) (by simp) ?_
        by_cases hz : cmpV a[k] b[i] = 0
        · rw [if_pos hz] at hgd
          simp -implicitDefEqProofs [hz]
          exact roundS (k + 1, i + 1) ⟨hka, hib, by simp only; omega, by simp only; omega⟩ (by simp only; omega) (selW [] 0 (by simp) (by simp) (by simp) (by simp [hwk, hwi]))
        · rw [if_neg hz] at hgd
          simp -implicitDefEqProofs [hz]
          refine roundS (k, i + 1) ⟨hk, hib, by simp only; omega, ?_⟩ (by simp only; omega) (selW [] 0 (by simp) (by simp) (by simp) (by simp [hwi]))
          simp only
          rw [List.drop_eq_getElem_cons hka]
          exact hgd
      · have hkk : k = a.length := by omega
        subst hkk
        simp -implicitDefEqProofs [hib]
        intro _ _
        refine call0 lives_ok (by simp) (by simp) ?_
        simp -implicitDefEqProofs
        exact ret_end 0 (by simp)
    · have hii : i = b.length := by omega
      subst hii
      have hke : k = a.length := by simp [grd_nil'] at hgd; omega
      subst hke
      simp -implicitDefEqProofs
      intro _ _
      refine call0 lives_ok (by simp) (by simp) ?_
      simp -implicitDefEqProofs
      exact ret_end 0 (by simp)
  · obtain ⟨hf4, he⟩ := h1 hf
    subst hf4
    rcases he with rfl | rfl
    · simp -implicitDefEqProofs
      refine call0 lives_ok (by simp) (by simp) ?_
      simp -implicitDefEqProofs
      exact ret_end 0 (by simp)
    · simp -implicitDefEqProofs
      refine call0 lives_ok (by simp) (by simp) ?_
      simp -implicitDefEqProofs
      exact ret_end 0 (by simp)
end Go.Proofs.Ytbkiphnlbadhcaa
