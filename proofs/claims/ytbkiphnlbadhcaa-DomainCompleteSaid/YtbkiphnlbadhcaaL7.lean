/-
  The law DomainComplete: what its code computes.
-/
import Derived.Test.YtbkiphnlbadhcaaL3
import Derived.Test.YtbkiphnlbadhcaaC23
namespace Go.Proofs.Ytbkiphnlbadhcaa
open Go.Abs

-- splicery/splicerylaw13.DomainComplete · results ["8"]
def K7 : K :=
 K.seq (K.ops [⟨none, .mov (some 8) (.const (.bool false))⟩])
 (K.seq (K.ops [⟨none, .mov (some 19) (.tmp 0)⟩,
 ⟨none, .call (some 20) (.func 23) [(.tmp 19)]⟩,
 ⟨none, .alloc (some 9) [(.slice none 0 0), (.slice none 0 0)]⟩,
 ⟨none, .st none (.tmp 9) (.tmp 20) 2⟩])
 (K.wk (K.seq (K.ops [⟨none, .mov (some 21) (.tmp 2)⟩,
 ⟨none, .addr (some 22) (.tmp 9) 1⟩,
 ⟨none, .ld (some 23) (.tmp 22) 1 false⟩,
 ⟨none, .len (some 24) false (.tmp 23)⟩,
 ⟨none, .call (some 25) (.func 24) [(.tmp 21), (.tmp 24)]⟩,
 ⟨none, .alloc (some 10) [(.int .i64 0), (.int .i64 0), (.int .i64 0), (.int .i64 0), (.slice none 0 0)]⟩,
 ⟨none, .st none (.tmp 10) (.tmp 25) 5⟩])
 (K.seq (K.ops [⟨none, .mov (some 26) (.tmp 3)⟩,
 ⟨none, .call (some 27) (.func 9) [(.tmp 26), (.const (.int .i64 3))]⟩,
 ⟨none, .mov (some 11) (.tmp 27)⟩])
 (K.seq (K.ops [⟨none, .ld (some 29) (.tmp 9) 2 true⟩,
 ⟨none, .ld (some 30) (.tmp 10) 5 true⟩,
 ⟨none, .mov (some 31) (.tmp 11)⟩,
 ⟨none, .call (some 32) (.func 12) [(.tmp 29), (.tmp 30), (.tmp 31)]⟩,
 ⟨none, .mov (some 28) (.tmp 32)⟩,
 ⟨none, .ext (some 33) (.tmp 28) 0⟩,
 ⟨none, .ext (some 34) (.tmp 28) 1⟩,
 ⟨none, .mov (some 12) (.tmp 33)⟩,
 ⟨none, .mov (some 13) (.tmp 34)⟩])
 (K.seq (K.seq (K.ops [⟨none, .mov (some 35) (.tmp 13)⟩,
 ⟨none, .eqv (some 36) true .i (.tmp 35) (.const (.int .i64 0))⟩])
 (K.cond (.tmp 36)
 (K.seq (K.ops [⟨none, .mov (some 37) (.tmp 13)⟩,
 ⟨none, .eqv (some 38) false .i (.tmp 37) (.const (.int .i64 4))⟩,
 ⟨none, .mov (some 39) (.tmp 38)⟩,
 ⟨some (39, true), .mov (some 40) (.tmp 12)⟩,
 ⟨some (39, true), .len (some 41) false (.tmp 40)⟩,
 ⟨some (39, true), .eqv (some 42) false .i (.tmp 41) (.const (.int .i64 0))⟩,
 ⟨none, .pick (some 43) (.tmp 39) (.tmp 42) (.const (.bool false))⟩,
 ⟨none, .mov (some 44) (.tmp 43)⟩,
 ⟨some (44, true), .call (some 45) (.func 15) []⟩,
 ⟨none, .pick (some 46) (.tmp 44) (.tmp 45) (.const (.bool false))⟩,
 ⟨none, .mov (some 8) (.tmp 46)⟩])
 (K.ret))
 (K.skip)))
 (K.seq (K.ops [⟨none, .ld (some 47) (.tmp 9) 2 true⟩,
 ⟨none, .ld (some 48) (.tmp 10) 5 true⟩,
 ⟨none, .mov (some 49) (.tmp 1)⟩,
 ⟨none, .call (some 50) (.func 27) [(.tmp 47), (.tmp 48), (.tmp 49)]⟩,
 ⟨none, .mov (some 51) (.tmp 11)⟩,
 ⟨none, .call (some 52) (.func 26) [(.tmp 50), (.tmp 51)]⟩,
 ⟨none, .alloc (some 14) [(.int .i64 0), (.int .i64 0), (.slice none 0 0)]⟩,
 ⟨none, .st none (.tmp 14) (.tmp 52) 3⟩])
 (K.seq (K.ops [⟨none, .mov (some 15) (.const (.bool false))⟩])
 (K.seq (K.seq (K.ops [⟨none, .mov (some 16) (.const (.int .i64 0))⟩])
 (K.block 0 (K.loop (K.seq (K.seq (K.ops [⟨none, .mov (some 53) (.tmp 16)⟩,
 ⟨none, .mov (some 54) (.tmp 12)⟩,
 ⟨none, .len (some 55) false (.tmp 54)⟩,
 ⟨none, .bin (some 56) .lss (.tmp 53) (.tmp 55)⟩])
 (K.cond (.tmp 56)
 (K.skip)
 (K.exit 0)))
 (K.seq (K.block 1 (K.seq (K.dops [(0, 0, ⟨none, .mov (some 59) (.tmp 15)⟩),
 (1, 0, ⟨none, .mov (some 60) (.tmp 59)⟩),
 (2, 0, ⟨some (60, false), .mov (some 61) (.tmp 12)⟩),
 (3, 0, ⟨some (60, false), .mov (some 62) (.tmp 16)⟩),
 (4, 0, ⟨some (60, false), .idx (some 63) (.tmp 61) (.tmp 62) 3⟩),
 (5, 0, ⟨some (60, false), .ld (some 64) (.tmp 63) 3 true⟩),
 (6, 0, ⟨some (60, false), .ld (some 65) (.tmp 14) 3 true⟩),
 (7, 0, ⟨some (60, false), .call (some 66) (.func 25) [(.tmp 64), (.tmp 65)]⟩),
 (8, 0, ⟨some (60, false), .eqv (some 67) false .i (.tmp 66) (.const (.int .i64 0))⟩),
 (9, 0, ⟨none, .pick (some 68) (.tmp 60) (.const (.bool true)) (.tmp 67)⟩),
 (10, 0, ⟨none, .mov (some 15) (.tmp 68)⟩)])
 (K.seq (K.seq (K.dops [(0, 0, ⟨none, .mov (some 69) (.tmp 12)⟩),
 (1, 0, ⟨none, .mov (some 70) (.tmp 16)⟩),
 (2, 0, ⟨none, .idx (some 71) (.tmp 69) (.tmp 70) 3⟩),
 (3, 0, ⟨none, .ld (some 72) (.tmp 71) 3 true⟩),
 (4, 0, ⟨none, .mov (some 73) (.tmp 11)⟩),
 (5, 0, ⟨none, .call (some 74) (.func 28) [(.tmp 72), (.tmp 73)]⟩),
 (6, 0, ⟨none, .not (some 75) (.tmp 74)⟩),
 (7, 0, ⟨none, .mov (some 76) (.tmp 75)⟩),
 (8, 0, ⟨some (76, false), .mov (some 77) (.tmp 16)⟩),
 (9, 0, ⟨some (76, false), .bin (some 78) .rem (.tmp 77) (.const (.int .i64 7))⟩),
 (10, 0, ⟨some (76, false), .eqv (some 79) false .i (.tmp 78) (.const (.int .i64 0))⟩),
 (11, 0, ⟨some (76, false), .mov (some 80) (.tmp 79)⟩),
 (12, 0, ⟨some (80, true), .ld (some 81) (.tmp 9) 2 true⟩),
 (13, 0, ⟨some (80, true), .ld (some 82) (.tmp 10) 5 true⟩),
 (14, 0, ⟨some (80, true), .mov (some 83) (.tmp 12)⟩),
 (15, 0, ⟨some (80, true), .mov (some 84) (.tmp 16)⟩),
 (16, 0, ⟨some (80, true), .idx (some 85) (.tmp 83) (.tmp 84) 3⟩),
 (17, 0, ⟨some (80, true), .ld (some 86) (.tmp 85) 3 true⟩),
 (18, 0, ⟨some (80, true), .call (some 87) (.func 29) [(.tmp 81), (.tmp 82), (.tmp 86)]⟩),
 (19, 0, ⟨some (80, true), .not (some 88) (.tmp 87)⟩),
 (20, 0, ⟨some (76, false), .pick (some 89) (.tmp 80) (.tmp 88) (.const (.bool false))⟩),
 (21, 0, ⟨none, .pick (some 90) (.tmp 76) (.const (.bool true)) (.tmp 89)⟩)])
 (K.cond (.tmp 90)
 (K.seq (K.ops [⟨none, .mov (some 8) (.const (.bool false))⟩])
 (K.ret))
 (K.skip)))
 (K.seq (K.ops [⟨none, .mov (some 91) (.tmp 16)⟩,
 ⟨none, .bin (some 92) .gtr (.tmp 91) (.const (.int .i64 0))⟩])
 (K.cond (.tmp 92)
 (K.seq (K.ops [⟨none, .mov (some 93) (.tmp 12)⟩,
 ⟨none, .mov (some 94) (.tmp 16)⟩,
 ⟨none, .bin (some 95) .sub (.tmp 94) (.const (.int .i64 1))⟩,
 ⟨none, .idx (some 96) (.tmp 93) (.tmp 95) 3⟩,
 ⟨none, .ld (some 97) (.tmp 96) 3 true⟩,
 ⟨none, .call (some 98) (.func 30) [(.tmp 97)]⟩,
 ⟨none, .mov (some 17) (.tmp 98)⟩])
 (K.seq (K.ops [⟨none, .mov (some 99) (.tmp 12)⟩,
 ⟨none, .mov (some 100) (.tmp 16)⟩,
 ⟨none, .idx (some 101) (.tmp 99) (.tmp 100) 3⟩,
 ⟨none, .ld (some 102) (.tmp 101) 3 true⟩,
 ⟨none, .call (some 103) (.func 30) [(.tmp 102)]⟩,
 ⟨none, .mov (some 18) (.tmp 103)⟩])
 (K.seq (K.dops [(0, 0, ⟨none, .mov (some 104) (.tmp 17)⟩),
 (1, 0, ⟨none, .mov (some 105) (.tmp 18)⟩),
 (2, 0, ⟨none, .bin (some 106) .gtr (.tmp 104) (.tmp 105)⟩),
 (3, 0, ⟨none, .mov (some 107) (.tmp 106)⟩),
 (4, 0, ⟨some (107, false), .mov (some 108) (.tmp 17)⟩),
 (5, 0, ⟨some (107, false), .mov (some 109) (.tmp 18)⟩),
 (6, 0, ⟨some (107, false), .eqv (some 110) false .i (.tmp 108) (.tmp 109)⟩),
 (7, 0, ⟨some (107, false), .mov (some 111) (.tmp 110)⟩),
 (8, 0, ⟨some (111, true), .mov (some 112) (.tmp 12)⟩),
 (9, 0, ⟨some (111, true), .mov (some 113) (.tmp 16)⟩),
 (10, 0, ⟨some (111, true), .bin (some 114) .sub (.tmp 113) (.const (.int .i64 1))⟩),
 (11, 0, ⟨some (111, true), .idx (some 115) (.tmp 112) (.tmp 114) 3⟩),
 (12, 0, ⟨some (111, true), .ld (some 116) (.tmp 115) 3 true⟩),
 (13, 0, ⟨some (111, true), .mov (some 117) (.tmp 12)⟩),
 (14, 0, ⟨some (111, true), .mov (some 118) (.tmp 16)⟩),
 (15, 0, ⟨some (111, true), .idx (some 119) (.tmp 117) (.tmp 118) 3⟩),
 (16, 0, ⟨some (111, true), .ld (some 120) (.tmp 119) 3 true⟩),
 (17, 0, ⟨some (111, true), .call (some 121) (.func 25) [(.tmp 116), (.tmp 120)]⟩),
 (18, 0, ⟨some (111, true), .bin (some 122) .geq (.tmp 121) (.const (.int .i64 0))⟩),
 (19, 0, ⟨some (107, false), .pick (some 123) (.tmp 111) (.tmp 122) (.const (.bool false))⟩),
 (20, 0, ⟨none, .pick (some 124) (.tmp 107) (.const (.bool true)) (.tmp 123)⟩)])
 (K.cond (.tmp 124)
 (K.seq (K.ops [⟨none, .mov (some 8) (.const (.bool false))⟩])
 (K.ret))
 (K.skip)))))
 (K.skip))))))
 (K.ops [⟨none, .mov (some 57) (.tmp 16)⟩,
 ⟨none, .bin (some 58) .add (.tmp 57) (.const (.int .i64 1))⟩,
 ⟨none, .mov (some 16) (.tmp 58)⟩]))))))
 (K.seq (K.ops [⟨none, .mov (some 125) (.tmp 15)⟩,
 ⟨none, .mov (some 126) (.tmp 125)⟩,
 ⟨some (126, true), .call (some 127) (.func 15) []⟩,
 ⟨none, .pick (some 128) (.tmp 126) (.tmp 127) (.const (.bool false))⟩,
 ⟨none, .mov (some 8) (.tmp 128)⟩])
 (K.ret)))))))))))
theorem c7 : compile Try.prog Try.f7.ntmps (Try.f7.body.getD .skip) = some K7.erase := by kernel_rfl
@[simp] theorem cal7 : callable Try.prog 7 = true := by kernel_rfl


def fndV (v : Val) (l : List Val) : Bool := l.any fun x => decide (cmpV x v = 0)
theorem fndV_take {v : Val} {l : List Val} {i : Nat} (h : i < l.length) : fndV v (l.take (i + 1)) = (fndV v (l.take i) || decide (cmpV l[i] v = 0)) := by
  rw [fndV, List.take_succ_eq_append_getElem h, List.any_append]
  simp [fndV]
theorem complete_law (l m : List Int) (hl : ∀ x ∈ l, w64 x = x) (hml : ∀ x ∈ m, w64 x = x) (which : Int) (hwh : w64 which = which) (most : Int) (hm : w64 most = most) (hs : Sml (typesV l))
    (T : Typ) (hT : T = pickT which (manyV l)) (hf : Wf (typesV l) 10 T) (hz : Wz (typesV l) 5 T) (n : Int) (hn : n = aroundV most 3)
    (V : List Val × Int) (hV : V = valuesV (typesV l) T n) (h1 : V.2 ≠ 0 → V.2 = 4 ∧ V.1 = [])
    (hW : ∀ v ∈ V.1, withinV n v = true ∧ sizeV v ≤ 256 ∧ depthV v ≤ 24 ∧ ∃ f, Shp (typesV l) f T v) (hP : V.1.Pairwise fun x y => weightV x ≤ weightV y ∧ (weightV x = weightV y → cmpV x y < 0))
    (w : Val) (hw : w = clipV n (valueV (typesV l) T m)) (hth : thinV (valueV (typesV l) T m) = true) (hlen : V.1.length ≤ 1000000) (hF : V.2 = 0 → fndV w V.1 = true) :
    Ret Try.prog 7 [.sl l.length (cellsN l), .sl m.length (cellsN m), int which, int most] [] (bl true) [] := by
  refine ret_of_wp Try.func7 rfl c7 (rs := [.slot 8]) (by kernel_rfl) ?_
  unfold K7
  obtain ⟨hm1, hm4, _⟩ := many_range hl
  have hr := around_range hm (show (0 : Int) < 3 by decide)
  rw [← hn] at hr
  have hDl : (defsV l).length = manyV l := by simp [defsV]
  simp -implicitDefEqProofs
  refine callJ (types_ok l hl) [] (by simp) (by simp) (by simp) ?_
  simp -implicitDefEqProofs
  refine ⟨mkEnv [(1, .sl m.length (cellsN m)), (2, int which), (3, int most), (9, .ptr 0 0)], [.box (encP (typesV l))], selW [1] 1 (by simp) (by simp) (by simp [encP, typesV, hDl]) (by simp), ?_⟩
  have hdl : (typesV l).defs.length = manyV l := hDl
  simp -implicitDefEqProofs [encP, hdl]
  intro hlm
  refine call0 (pick_ok which (manyV l) hwh (by omega)) (by simp) (by simp [encT]) ?_
  rw [← hT]
  simp -implicitDefEqProofs [encT]
  refine call0 (around_ok most 3 (by decide)) (by simp) (by simp) ?_
  rw [← hn]
  simp -implicitDefEqProofs
  refine call0 (values_ok (typesV l) hs T n) (by simp [encP, encT, hdl]) (by simp) ?_
  rw [← hV]
  clear hV
  obtain ⟨a, e⟩ := V
  simp only at h1 hW hP hF hlen
  by_cases he : e = 0
  · subst he
    have hF := hF rfl
    simp -implicitDefEqProofs
    refine call0 (value_ok (typesV l) m hml T hf hz) (by simp [encP, encT, hdl]) (by simp [encV]) ?_
    simp -implicitDefEqProofs [encV]
    refine call0 (clip_ok n (by omega) _ hth) (by simp [encV]) (by simp [encV]) ?_
    rw [← hw]
    simp -implicitDefEqProofs [encV]
    refine loopS (S := Nat) (fun i => [(9, .ptr 0 0), (10, .ptr 1 0), (11, int n), (12, .sl a.length (cellsV a)), (14, .ptr 2 0), (15, bl (fndV w (a.take i))), (16, int i)]) (fun i => [.box (encP (typesV l)), .box (encT T), .box (encV w)])
      (fun i => i ≤ a.length) (fun i => a.length - i) 0 (by simp)
      (selW [0, 1, 2] 0 (by decide) (by simp) (by simp [encP, encT, encV, hdl]) (by simp [fndV])) ?_
    intro i hi
    by_cases hia : i < a.length
    · obtain ⟨k1, k2, k3, f, k4⟩ := hW a[i] (List.getElem_mem hia)
      have hft := fndV_take (v := w) hia
      have hval := validV_ok (typesV l) n (by omega) f T a[i] k4 k1 k2 k3
      have hfd : fndV w (a.take i) = true ∨ fndV w (a.take i) = false := by cases fndV w (a.take i) <;> simp
      have h7 : (i : Int).tmod 7 = 0 ∨ ¬ (i : Int).tmod 7 = 0 := by omega
      have hi0 : ¬ 0 < i ∨ ∃ j, i = j + 1 ∧ 0 < i ∧ IntKind.i64.wrap ((i : Int) - 1) = (j : Int) := by
        rcases Nat.eq_zero_or_pos i with rfl | h
        · exact .inl (by simp)
        · have hmx : a.length ≤ 1000000 := hlen
          exact .inr ⟨i - 1, by omega, by omega, by rw [IntWalk.i64_in _ (by omega)]; omega⟩
      rcases hfd with hfd | hfd
      case' inl =>
        rw [hfd] at hft
        simp -implicitDefEqProofs [hia, hfd, cellsV_drop hia]
        intro hl0
      case' inr =>
        rw [hfd] at hft
        simp -implicitDefEqProofs [hia, hfd, cellsV_drop hia, encV]
        intro hl0
        refine dcall0 (cmpV_ok a[i] w) (by simp [encV]) (by simp) ?_
        simp -implicitDefEqProofs [hia, cellsV_drop hia]
      all_goals
        refine dcall0 (within_ok n (by omega) a[i] k1) (by simp [encV]) (by simp) ?_
        rcases h7 with h7 | h7
        case' inl =>
          simp -implicitDefEqProofs [h7, hia, cellsV_drop hia, encP, encT]
          refine dcall0 hval (by simp [encP, encT, encV, hdl]) (by simp) ?_
          simp -implicitDefEqProofs
        case' inr =>
          simp -implicitDefEqProofs [h7]
        all_goals
          rcases hi0 with hi0 | ⟨j, hij, hi0, hwj⟩
          · simp -implicitDefEqProofs [hi0]
            exact roundS (i + 1) hia (by omega) (selW [0, 1, 2] 0 (by decide) (by simp) (by simp [encP, encT, encV]) (by simp [hft, wrap_succ hia hl0]))
          · have hja : j < a.length := by omega
            have hp := List.pairwise_iff_getElem.1 hP j i hja hia (by omega)
            have q1 : ¬ weightV a[i] < weightV a[j] := by omega
            simp -implicitDefEqProofs [hi0, hwj, hja, cellsV_drop hja]
            refine call0 (weight_ok a[j]) (by simp [encV]) (by simp) ?_
            simp -implicitDefEqProofs [hia, cellsV_drop hia]
            refine call0 (weight_ok a[i]) (by simp [encV]) (by simp) ?_
            by_cases hxy : weightV a[j] = weightV a[i]
            · have q2 : ¬ 0 ≤ cmpV a[j] a[i] := by have := hp.2 hxy; omega
              simp -implicitDefEqProofs [q1, hxy, hwj, hja, hia, cellsV_drop hja, cellsV_drop hia]
              refine dcall0 (cmpV_ok a[j] a[i]) (by simp [encV]) (by simp) ?_
              simp -implicitDefEqProofs [q2]
              exact roundS (i + 1) hia (by omega) (selW [0, 1, 2] 0 (by decide) (by simp) (by simp [encP, encT, encV]) (by simp [hft, wrap_succ hia hl0]))
            · simp -implicitDefEqProofs [q1, hxy]
              exact roundS (i + 1) hia (by omega) (selW [0, 1, 2] 0 (by decide) (by simp) (by simp [encP, encT, encV]) (by simp [hft, wrap_succ hia hl0]))
    · have hia : i = a.length := by omega
      subst hia
      rw [List.take_length]
      simp -implicitDefEqProofs [hF]
      intro _
      refine call0 lives_ok (by simp) (by simp) ?_
      simp -implicitDefEqProofs
      exact ret_end 0 (by simp)
  · obtain ⟨he4, ha⟩ := h1 he
    subst he4 ha
    simp -implicitDefEqProofs
    refine call0 lives_ok (by simp) (by simp) ?_
    simp -implicitDefEqProofs
    exact ret_end 0 (by simp)
end Go.Proofs.Ytbkiphnlbadhcaa
