/-
  slices.Compact at lists of IDs.
  value.SameType, trace.sameDef, trace.sameNode, trace.bodied.
-/
import Derived.Test.YthglhccibdlccaaGreatDoorX25
set_option linter.unusedVariables false
set_option linter.unusedSimpArgs false
namespace Go.Proofs.YthglhccibdlccaaGreatDoor
open Go.Abs
theorem comp_take {l : List Id} {m : Nat} (h1 : 1 ≤ m) (h : m < l.length) : compD (l.take (m + 1)) = if l[m - 1] = l[m] then compD (l.take m) else compD (l.take m) ++ [l[m]] := by
  rw [List.take_succ_eq_append_getElem h, compD_snoc, stepC, compD_last]
  have : (l.take m).getLast? = some l[m - 1] := by
    rw [List.getLast?_eq_getElem?, List.length_take, Nat.min_eq_left (by omega), List.getElem?_take, if_pos (by omega), List.getElem?_eq_getElem (by omega)]
  rw [this]
  simp only [Option.some.injEq]
theorem compD_len (l : List Id) : (compD l).length ≤ l.length := by
  induction l using snocRec with
  | nil => simp [compD]
  | snoc l y ih =>
    rw [compD_snoc, stepC]
    split
    · simp; omega
    · simp; omega
theorem comp_one {l : List Id} (h : 1 ≤ l.length) : compD (l.take 1) = l.take 1 := by
  cases l with
  | nil => simp at h
  | cons x l => simp [compD, stepC]
theorem comp_ne {l : List Id} {i : Nat} (h1 : 1 ≤ i) (h : i < l.length) (hd : l[i - 1] = l[i]) : compD l ≠ l := by
  intro e
  have : ∀ r : List Id, (compD (l.take (i + 1) ++ r)).length ≤ i + r.length := fun r => by
    induction r using snocRec with
    | nil =>
      rw [List.append_nil, comp_take h1 h, if_pos hd]
      have := compD_len (l.take i)
      simp at this
      simp
      omega
    | snoc r y ih =>
      rw [← List.append_assoc, compD_snoc, stepC]
      split
      · simp; omega
      · simp; omega
  have := this (l.drop (i + 1))
  rw [List.take_append_drop, e] at this
  simp at this
  omega
theorem cellsI_set : ∀ {R : List Id} {k : Nat} (x : Id), k < R.length → (cellsI R).take (k * 3) ++ (.lit (.int .i64 x.a) :: .lit (.int .i64 x.b) :: .lit (.int .i64 x.c) :: (cellsI R).drop (k * 3 + 3)) = cellsI (R.set k x)
  | v :: R, 0, x, h => by simp
  | v :: R, k + 1, x, h => by
    have e : (k + 1) * 3 = k * 3 + 3 := by omega
    have := cellsI_set (R := R) (k := k) x (by simpa using h)
    rw [e, cellsI_cons, List.set_cons_succ, cellsI_cons, ← this]
    simp
def zerosI (n : Nat) : List Id := List.replicate n Id.zero
theorem cellsI_zeros : ∀ n : Nat, cellsI (zerosI n) = (List.replicate n [A.lit (.int .i64 0), A.lit (.int .i64 0), A.lit (.int .i64 0)]).flatten
  | 0 => rfl
  | n + 1 => by
    have := cellsI_zeros n
    simp only [zerosI, List.replicate_succ, List.flatten_cons] at this ⊢
    rw [← this]; rfl
theorem set_take {R : List Id} {k : Nat} {x : Id} (h : k < R.length) : (R.set k x).take (k + 1) = R.take k ++ [x] := by
  rw [List.take_set, List.take_succ_eq_append_getElem h, List.set_append_right _ _ (by simp; omega)]
  simp [Nat.min_eq_left (Nat.le_of_lt h)]
def compA (l : List Id) : A := if compD l = l then .row 0 l.length else .win 0 l.length 0 (compD l).length ((compD l).length * 3)
theorem compact_ok (l : List Id) (hb : l.length ≤ 1000000) : Ret Tryz.prog 97 [.row 0 l.length] [.row false 29 3 l.length (cellsI l)] (compA l)
    [.row false 29 3 l.length (cellsI (compD l ++ zerosI (l.length - (compD l).length)))] := by
  have hsame : compD l = l → cellsI (compD l ++ zerosI (l.length - (compD l).length)) = cellsI l := fun e => by rw [e]; simp [zerosI]
  refine ret_of_wp Tryz.func97 rfl cCompact (rs := [.slot 2]) (by kernel_rfl) ?_
  unfold KCompact
  by_cases h2 : l.length < 2
  · have hc : compD l = l := by
      match l, h2 with
      | [], _ => rfl
      | [x], _ => simp [compD, stepC]
    have h2' : (l.length : Int) < 2 := by omega
    simp -implicitDefEqProofs [h2']
    exact ret_keep [0] 0 (by simp) (by simp) (by simp [hsame hc]) (by simp [compA, hc])
  · have h2' : ¬ (l.length : Int) < 2 := by omega
    simp -implicitDefEqProofs [h2']
    refine loopS (S := Nat) (fun i => [(0, .row 0 l.length), (3, int i)]) (fun i => [.row false 29 3 l.length (cellsI l)]) (fun i => 1 ≤ i ∧ i ≤ l.length ∧ compD (l.take i) = l.take i) (fun i => l.length - i) 1 ⟨by omega, by omega, comp_one (by omega)⟩
      (selW [0] 0 (by simp) (by simp) (by simp) (by simp)) ?_
    rintro i ⟨h1, hi, hc⟩
    by_cases h : i < l.length
    · have hi1 : i - 1 < l.length := by omega
      have hw : IntKind.i64.wrap ((i : Int) - 1) = ((i - 1 : Nat) : Int) := by rw [Int.ofNat_sub h1]; exact IntWalk.i64_in _ (by omega)
      have hn1 : ¬ (l.length * 3 < i * 3 + 3) := by omega
      have hl1 : i * 3 + 3 ≤ l.length * 3 := by omega
      have hl2 : (i - 1) * 3 + 3 ≤ l.length * 3 := by omega
      have hct := comp_take h1 h
      by_cases hd : l[i - 1] = l[i]
      · rw [if_pos hd, hc] at hct
        have hne := comp_ne h1 h hd
        have hd3 : same3 l[i].a l[i].b l[i].c l[i - 1].a l[i - 1].b l[i - 1].c = true := by rw [same3_id]; simp [hd]
        simp -implicitDefEqProofs [h, hw, hl1, hl2, hi1, cellsI_drop h, cellsI_drop hi1, hd3]
        refine ⟨hi, ?_⟩
        refine loopS (S := Nat × Nat × List Id) (fun s => [(0, .row 0 l.length), (3, int s.1), (4, .win 0 l.length (i * 3) (l.length - i) ((l.length - i) * 3)), (5, int s.2.1)]) (fun s => [.row false 29 3 l.length (cellsI s.2.2)])
          (fun s => s.2.2.length = l.length ∧ 1 ≤ s.2.1 ∧ i + s.2.1 ≤ l.length ∧ s.1 + 1 ≤ i + s.2.1 ∧ (compD (l.take (i + s.2.1))).length = s.1 ∧ s.2.2.take s.1 = compD (l.take (i + s.2.1)) ∧ s.2.2.drop (i + s.2.1 - 1) = l.drop (i + s.2.1 - 1))
          (fun s => l.length - (i + s.2.1)) (i, 1, l) ⟨rfl, Nat.le_refl _, h, by simp, by simp [hct]; omega, by simp [hct], rfl⟩
          (selW [0] 0 (by simp) (by simp) (by simp) (by simp)) ?_
        rintro ⟨k, j, R⟩ ⟨r1, r2, r3, r4, r5, r6, r7⟩
        simp only at r1 r2 r3 r4 r5 r6 r7
        simp only
        have hsub : (l.length : Int) - i = ((l.length - i : Nat) : Int) := by omega
        have hwj : IntKind.i64.wrap ((j : Int) - 1) = ((j - 1 : Nat) : Int) := by rw [Int.ofNat_sub r2]; exact IntWalk.i64_in _ (by omega)
        have hwj1 : IntKind.i64.wrap ((j : Int) + 1) = ((j + 1 : Nat) : Int) := by push_cast; exact IntWalk.i64_in _ (by omega)
        have hwk1 : IntKind.i64.wrap ((k : Int) + 1) = ((k + 1 : Nat) : Int) := by push_cast; exact IntWalk.i64_in _ (by omega)
        by_cases hj : i + j < l.length
        · have hjR : i + j < R.length := by omega
          have hj1R : i + j - 1 < R.length := by omega
          have hkR : k < R.length := by omega
          have hR : R[i + j] = l[i + j] := by
            have := congrArg (fun x : List Id => x[1]?) r7
            simp only [List.getElem?_drop] at this
            rw [show i + j - 1 + 1 = i + j by omega, List.getElem?_eq_getElem hjR, List.getElem?_eq_getElem hj] at this
            exact Option.some.inj this
          have hR1 : R[i + j - 1] = l[i + j - 1] := by
            have := congrArg (fun x : List Id => x[0]?) r7
            simp only [List.getElem?_drop] at this
            rw [show i + j - 1 + 0 = i + j - 1 by omega, List.getElem?_eq_getElem hj1R, List.getElem?_eq_getElem (by omega)] at this
            exact Option.some.inj this
          have e0 : i * 3 + j * 3 = (i + j) * 3 := by omega
          have e1 : i * 3 + (j - 1) * 3 = (i + j - 1) * 3 := by omega
          have hjlt : j < l.length - i := by omega
          have hjlt1 : j - 1 < l.length - i := by omega
          have hb0 : (i + j) * 3 + 3 ≤ l.length * 3 := by omega
          have hb1 : (i + j - 1) * 3 + 3 ≤ l.length * 3 := by omega
          have hbk : k * 3 + 3 ≤ l.length * 3 := by omega
          have hkl : k < l.length := by omega
          have hct2 := comp_take (l := l) (m := i + j) (by omega) hj
          by_cases hd2 : l[i + j - 1] = l[i + j]
          · rw [if_pos hd2] at hct2
            have hs3 : same3 R[i + j].a R[i + j].b R[i + j].c R[i + j - 1].a R[i + j - 1].b R[i + j - 1].c = true := by rw [same3_id, hR, hR1, hd2]; simp
            simp -implicitDefEqProofs [hjlt, hjlt1, hwj, e0, e1, r1, hb0, hb1, cellsI_drop hjR, cellsI_drop hj1R, hs3]
            exact roundS (k, j + 1, R) ⟨r1, by simp, by simp only; omega, by simp only; omega, by simp only [← Nat.add_assoc, hct2]; exact r5, by simp only [← Nat.add_assoc, hct2]; exact r6, by
                have := congrArg (fun x : List Id => x.drop 1) r7
                simp only [List.drop_drop] at this
                simp only
                rw [show i + (j + 1) - 1 = i + j - 1 + 1 by omega]
                exact this⟩ (by simp only; omega) (selW [0] 0 (by simp) (by simp) (by simp) (by simp [hwj1]))
          · rw [if_neg hd2] at hct2
            have hs3 : same3 R[i + j].a R[i + j].b R[i + j].c R[i + j - 1].a R[i + j - 1].b R[i + j - 1].c = false := by rw [same3_id, hR, hR1]; exact decide_eq_false fun e => hd2 e.symm
            simp -implicitDefEqProofs [hjlt, hjlt1, hwj, e0, e1, r1, hb0, hb1, hbk, hkl, cellsI_drop hjR, cellsI_drop hj1R, hs3, cellsI_set _ hkR]
            exact roundS (k + 1, j + 1, R.set k l[i + j]) ⟨by simp [r1], by simp, by simp only; omega, by simp only; omega, by simp only [← Nat.add_assoc, hct2, List.length_append, r5]; simp, by
                simp only [← Nat.add_assoc, hct2]
                rw [set_take hkR, r6], by
                have := congrArg (fun x : List Id => x.drop 1) r7
                simp only [List.drop_drop] at this
                simp only
                rw [show i + (j + 1) - 1 = i + j - 1 + 1 by omega, List.drop_set_of_lt (by omega)]
                exact this⟩ (by simp only; omega) (selW [0] 0 (by simp) (by simp) (by simp [hR]) (by simp [hwj1, hwk1]))
        · have hij : i + j = l.length := by omega
          have hj' : ¬ (j : Int) < ((l.length - i : Nat) : Int) := by omega
          simp -implicitDefEqProofs [hj', r1]
          rw [hij, List.take_length] at r5 r6
          have e2 : k * 3 + (l.length - k) * 3 = l.length * 3 := by omega
          have hcells : List.take (k * 3) (cellsI R) ++ ((List.replicate (l.length - k) [A.lit (Value.int IntKind.i64 0), A.lit (Value.int IntKind.i64 0), A.lit (Value.int IntKind.i64 0)]).flatten ++ List.drop (k * 3 + (l.length - k) * 3) (cellsI R)) = cellsI (compD l ++ zerosI (l.length - (compD l).length)) := by
            rw [e2, List.drop_of_length_le (by simp [r1]), List.append_nil, cellsI_take, r6, cellsI_append, cellsI_zeros, r5]
          rw [hcells]
          refine ⟨by omega, by omega, by omega, ?_⟩
          exact ret_keep [0] 0 (by simp) (by simp) (by simp) (by simp [compA, hne, r5])
      · rw [if_neg hd, hc] at hct
        have hd3 : same3 l[i].a l[i].b l[i].c l[i - 1].a l[i - 1].b l[i - 1].c = false := by rw [same3_id]; exact decide_eq_false fun e => hd e.symm
        simp -implicitDefEqProofs [h, hw, hl1, hl2, hi1, cellsI_drop h, cellsI_drop hi1, hd3]
        exact roundS (i + 1) ⟨by omega, h, by rw [hct, List.take_succ_eq_append_getElem h]⟩ (by omega) (selW [0] 0 (by simp) (by simp) (by simp) (by simp [wrap_succ h (show l.length ≤ maxLen by simp [maxLen]; omega)]))
    · have : i = l.length := by omega
      subst this
      rw [List.take_length] at hc
      simp -implicitDefEqProofs
      exact ret_keep [0] 0 (by simp) (by simp) (by simp [hsame hc]) (by simp [compA, hc])
end Go.Proofs.YthglhccibdlccaaGreatDoor
namespace Go.Proofs.YthglhccibdlccaaGreatDoor
open Go.Abs
def KSameT : K :=
 K.seq (K.ops [kO 2 0,
 kO 3 1,
 kMb 4 false])
 (K.seq (K.ops [kA 5 2 0,
 kL 6 5 1,
 kA 7 3 0,
 kL 8 7 1,
 kQ 9 6 8 false,
 kM 10 9,
 kT 10 true (kA 11 2 1),
 kT 10 true (kG 12 11 3),
 kT 10 true (kA 13 3 1),
 kT 10 true (kG 14 13 3),
 ⟨some (10, true), .eqs (some 15) false [.i, .i, .i] (.tmp 12) (.tmp 14)⟩,
 kPf 16 10 15,
 kM 17 16,
 kT 17 true (kA 18 2 4),
 kT 17 true (kL 19 18 1),
 kT 17 true (kA 20 3 4),
 kT 17 true (kL 21 20 1),
 kT 17 true (kC 22 139 [(.tmp 19), (.tmp 21), (.func 105)]),
 kPf 23 17 22,
 kM 4 23])
 (K.ret))
theorem cSameT : compile Tryz.prog Tryz.f105.ntmps (Tryz.f105.body.getD .skip) = some KSameT.erase := by kernel_rfl
@[simp] theorem calSameT : callable Tryz.prog 105 = true := by kernel_rfl
def KSD : K :=
 K.seq (K.ops [kO 2 0,
 kO 3 1,
 kMb 4 false])
 (K.seq (K.ops [⟨none, .mov (some 5) (.func 104)⟩])
 (K.seq (K.ops [kA 6 2 3,
 kL 7 6 1,
 kA 8 3 3,
 kL 9 8 1,
 kQ 10 7 9 false,
 kM 11 10,
 kT 11 true (kA 12 2 8),
 kT 11 true (kL 13 12 1),
 kT 11 true (kA 14 3 8),
 kT 11 true (kL 15 14 1),
 kT 11 true (kM 16 5),
 kT 11 true (kC 17 106 [(.tmp 13), (.tmp 15), (.tmp 16)]),
 kPf 18 11 17,
 kM 19 18,
 kT 19 true (kA 20 2 9),
 kT 19 true (kG 21 20 5),
 kT 19 true (kA 22 3 9),
 kT 19 true (kG 23 22 5),
 kT 19 true (kC 24 105 [(.tmp 21), (.tmp 23)]),
 kPf 25 19 24,
 kM 26 25,
 kT 26 true (kG 27 2 31),
 kT 26 true (kC 28 43 [(.tmp 27)]),
 kT 26 true (kR 29 28),
 kT 26 true (kM 30 29),
 kT 30 false (kA 31 2 14),
 kT 30 false (kA 32 31 0),
 kT 30 false (kG 33 32 3),
 kT 30 false (kA 34 3 14),
 kT 30 false (kA 35 34 0),
 kT 30 false (kG 36 35 3),
 ⟨some (30, false), .eqs (some 37) false [.i, .i, .i] (.tmp 33) (.tmp 36)⟩,
 kT 26 true (kPt 38 30 37),
 kPf 39 26 38,
 kM 4 39])
 (K.ret)))
theorem cSD : compile Tryz.prog Tryz.f57.ntmps (Tryz.f57.body.getD .skip) = some KSD.erase := by kernel_rfl
@[simp] theorem calSD : callable Tryz.prog 57 = true := by kernel_rfl
def KSD1 : K :=
 K.seq (K.ops [kO 2 0,
 kO 3 1,
 kMb 4 false])
 (K.seq (K.ops [kA 5 2 0,
 kG 6 5 3,
 kA 7 3 0,
 kG 8 7 3,
 ⟨none, .eqs (some 9) false [.i, .i, .i] (.tmp 6) (.tmp 8)⟩,
 kM 10 9,
 kT 10 true (kA 11 2 4),
 kT 10 true (kG 12 11 5),
 kT 10 true (kA 13 3 4),
 kT 10 true (kG 14 13 5),
 kT 10 true (kC 15 105 [(.tmp 12), (.tmp 14)]),
 kPf 16 10 15,
 kM 17 16,
 kT 17 true (kA 18 2 9),
 kT 17 true (kL 19 18 1),
 kT 17 true (kA 20 3 9),
 kT 17 true (kL 21 20 1),
 kT 17 true (kQ 22 19 21 false),
 kPf 23 17 22,
 kM 4 23])
 (K.ret))
theorem cSD1 : compile Tryz.prog Tryz.f104.ntmps (Tryz.f104.body.getD .skip) = some KSD1.erase := by kernel_rfl
@[simp] theorem calSD1 : callable Tryz.prog 104 = true := by kernel_rfl
def KSN : K :=
 K.seq (K.ops [kO 2 0,
 kO 3 1,
 kMb 4 false])
 (K.seq (K.ops [⟨none, .mov (some 5) (.func 107)⟩])
 (K.seq (K.ops [kA 6 2 3,
 kL 7 6 1,
 kA 8 3 3,
 kL 9 8 1,
 kQ 10 7 9 false,
 kM 11 10,
 kT 11 true (kA 12 2 4),
 kT 11 true (kL 13 12 1),
 kT 11 true (kA 14 3 4),
 kT 11 true (kL 15 14 1),
 kT 11 true (kQ 16 13 15 false),
 kPf 17 11 16,
 kM 18 17,
 kT 18 true (kA 19 2 5),
 kT 18 true (kG 20 19 3),
 kT 18 true (kA 21 3 5),
 kT 18 true (kG 22 21 3),
 ⟨some (18, true), .eqs (some 23) false [.i, .i, .i] (.tmp 20) (.tmp 22)⟩,
 kPf 24 18 23,
 kM 25 24,
 kT 25 true (kA 26 2 8),
 kT 25 true (kG 27 26 5),
 kT 25 true (kA 28 3 8),
 kT 25 true (kG 29 28 5),
 kT 25 true (kC 30 105 [(.tmp 27), (.tmp 29)]),
 kPf 31 25 30,
 kM 32 31,
 kT 32 true (kA 33 2 13),
 kT 32 true (kL 34 33 1),
 kT 32 true (kA 35 3 13),
 kT 32 true (kL 36 35 1),
 kT 32 true (kM 37 5),
 kT 32 true (kC 38 108 [(.tmp 34), (.tmp 36), (.tmp 37)]),
 kPf 39 32 38,
 kM 4 39])
 (K.ret)))
theorem cSN : compile Tryz.prog Tryz.f59.ntmps (Tryz.f59.body.getD .skip) = some KSN.erase := by kernel_rfl
@[simp] theorem calSN : callable Tryz.prog 59 = true := by kernel_rfl
def KSN1 : K :=
 K.seq (K.ops [kO 2 0,
 kO 3 1,
 kMb 4 false])
 (K.seq (K.ops [kA 5 2 0,
 kG 6 5 3,
 kA 7 3 0,
 kG 8 7 3,
 ⟨none, .eqs (some 9) false [.i, .i, .i] (.tmp 6) (.tmp 8)⟩,
 kM 4 9])
 (K.ret))
theorem cSN1 : compile Tryz.prog Tryz.f107.ntmps (Tryz.f107.body.getD .skip) = some KSN1.erase := by kernel_rfl
@[simp] theorem calSN1 : callable Tryz.prog 107 = true := by kernel_rfl
def KBod : K :=
 K.seq (K.ops [kO 1 0,
 kMb 2 false])
 (K.seq (K.ops [kA 3 1 3,
 kL 4 3 1,
 kQi 5 4 2 false,
 kM 6 5,
 kT 6 false (kA 7 1 3),
 kT 6 false (kL 8 7 1),
 kT 6 false (kQi 9 8 3 false),
 kPt 10 6 9,
 kM 11 10,
 kT 11 false (kA 12 1 3),
 kT 11 false (kL 13 12 1),
 kT 11 false (kQi 14 13 4 false),
 kPt 15 11 14,
 kM 16 15,
 kT 16 false (kA 17 1 3),
 kT 16 false (kL 18 17 1),
 kT 16 false (kQi 19 18 5 false),
 kPt 20 16 19,
 kM 2 20])
 (K.ret))
theorem cBod : compile Tryz.prog Tryz.f43.ntmps (Tryz.f43.body.getD .skip) = some KBod.erase := by kernel_rfl
@[simp] theorem calBod : callable Tryz.prog 43 = true := by kernel_rfl
mutual
def sameT : Typ → Typ → Bool
  | .mk k i l, .mk k' i' l' => decide (k = k') && (decide (i = i') && sameTs l l')
def sameTs : List Typ → List Typ → Bool
  | [], [] => true
  | x :: a, y :: b => sameT x y && sameTs a b
  | _, _ => false
end
theorem sameTs_eq : ∀ (a b : List Typ), sameTs a b = allS sameT a b
  | [], [] => by simp only [sameTs, allS]
  | x :: a, y :: b => by simp only [sameTs, allS, sameTs_eq a b]
  | [], _ :: _ => by simp only [sameTs, allS]
  | _ :: _, [] => by simp only [sameTs, allS]
theorem sameT_def (a b : Typ) : sameT a b = (decide (a.k = b.k) && (decide (a.id = b.id) && allS sameT a.kids b.kids)) := by
  cases a; cases b; simp only [sameT, sameTs_eq]; rfl
mutual
theorem sameT_iff : ∀ (a b : Typ), sameT a b = true ↔ a = b
  | .mk k i l, .mk k' i' l' => by
    simp only [sameT, Bool.and_eq_true, decide_eq_true_eq, sameTs_iff l l', Typ.mk.injEq]
theorem sameTs_iff : ∀ (a b : List Typ), sameTs a b = true ↔ a = b
  | [], [] => by simp [sameTs]
  | x :: a, y :: b => by simp only [sameTs, Bool.and_eq_true, sameT_iff x y, sameTs_iff a b, List.cons.injEq]
  | [], _ :: _ => by simp [sameTs]
  | _ :: _, [] => by simp [sameTs]
end
theorem sameT_refl (a : Typ) : sameT a a = true := (sameT_iff a a).2 rfl
mutual
theorem sameType_ok : ∀ (a b : Typ), Ret Tryz.prog 105 [.agg (encT a), .agg (encT b)] [] (bl (sameT a b)) []
  | .mk k i l, b => by
    have ih := sameTypes_ok l
    generalize ha : Typ.mk k i l = a
    have hal : a.kids = l := by rw [← ha]; rfl
    rw [← hal] at ih
    refine ret_of_wp Tryz.func105 rfl cSameT (rs := [.slot 4]) (by kernel_rfl) ?_
    unfold KSameT
    have hd := sameT_def a b
    by_cases h1 : a.k = b.k
    · by_cases h2 : a.id = b.id
      · simp -implicitDefEqProofs [encT, h1, h2]
        refine call0 (eqFT_ok 105 calSameT sameT a.kids b.kids fun x hx y hy => ih x hx y) (by simp) (by simp) ?_
        simp -implicitDefEqProofs
        exact ret_end 0 (by simp [hd, h1, h2])
      · have h3 : same3 a.id.a a.id.b a.id.c b.id.a b.id.b b.id.c = false := by rw [same3_id]; exact decide_eq_false h2
        simp -implicitDefEqProofs [encT, h1, h3]
        exact ret_end 0 (by simp [hd, h2])
    · simp -implicitDefEqProofs [encT, h1]
      exact ret_end 0 (by simp [hd, h1])
theorem sameTypes_ok : ∀ (l : List Typ), ∀ x ∈ l, ∀ y : Typ, Ret Tryz.prog 105 [.agg (encT x), .agg (encT y)] [] (bl (sameT x y)) []
  | [], x, hx, _ => by simp at hx
  | z :: l, x, hx, y => by
    rcases List.mem_cons.1 hx with e | hx
    · rw [e]; exact sameType_ok z y
    · exact sameTypes_ok l x hx y
end
def bodK (k : Int) : Bool := decide (k = 2) || (decide (k = 3) || (decide (k = 4) || decide (k = 5)))
theorem bodied_ok (d : Dfn) : Ret Tryz.prog 43 [.agg (encD d)] [] (bl (bodK d.kind)) [] := by
  refine ret_of_wp Tryz.func43 rfl cBod (rs := [.slot 2]) (by kernel_rfl) ?_
  unfold KBod
  by_cases h2 : d.kind = 2
  · simp -implicitDefEqProofs [encD, h2]
    exact ret_end 0 (by simp [bodK, h2])
  · by_cases h3 : d.kind = 3
    · simp -implicitDefEqProofs [encD, h2, h3]
      exact ret_end 0 (by simp [bodK, h2, h3])
    · by_cases h4 : d.kind = 4
      · simp -implicitDefEqProofs [encD, h2, h3, h4]
        exact ret_end 0 (by simp [bodK, h2, h3, h4])
      · simp -implicitDefEqProofs [encD, h2, h3, h4]
        exact ret_end 0 (by simp [bodK, h2, h3, h4])
def sameS (x y : Slt) : Bool := decide (x.id = y.id) && (sameT x.typ y.typ && decide (x.most = y.most))
theorem sameDef1_ok (x y : Slt) : Ret Tryz.prog 104 [.agg (encS x), .agg (encS y)] [] (bl (sameS x y)) [] := by
  refine ret_of_wp Tryz.func104 rfl cSD1 (rs := [.slot 4]) (by kernel_rfl) ?_
  unfold KSD1
  by_cases h1 : x.id = y.id
  · simp -implicitDefEqProofs [encS, h1]
    refine call0 (sameType_ok x.typ y.typ) (by simp [encT]) (by simp) ?_
    cases h2 : sameT x.typ y.typ with
    | true =>
      simp -implicitDefEqProofs
      exact ret_end 0 (by simp [sameS, h1, h2])
    | false =>
      simp -implicitDefEqProofs
      exact ret_end 0 (by simp [sameS, h1, h2])
  · have h3 : same3 x.id.a x.id.b x.id.c y.id.a y.id.b y.id.c = false := by rw [same3_id]; exact decide_eq_false h1
    simp -implicitDefEqProofs [encS, h3]
    exact ret_end 0 (by simp [sameS, h1])
def sameK (x y : Exp) : Bool := decide (x.id = y.id)
theorem sameNode1_ok (x y : Exp) : Ret Tryz.prog 107 [.agg (encE x), .agg (encE y)] [] (bl (sameK x y)) [] := by
  refine ret_of_wp Tryz.func107 rfl cSN1 (rs := [.slot 4]) (by kernel_rfl) ?_
  unfold KSN1
  simp -implicitDefEqProofs [encE]
  exact ret_end 0 (by simp [sameK])
def sameDf (a b : Dfn) : Bool := decide (a.kind = b.kind) && (allS sameS a.slots b.slots && (sameT a.res b.res && (!bodK a.kind || decide (a.body.id = b.body.id))))
theorem sameDef_ok (a b : Dfn) : Ret Tryz.prog 57 [.agg (encD a), .agg (encD b)] [] (bl (sameDf a b)) [] := by
  refine ret_of_wp Tryz.func57 rfl cSD (rs := [.slot 4]) (by kernel_rfl) ?_
  unfold KSD
  by_cases h1 : a.kind = b.kind
  · simp -implicitDefEqProofs [encD, h1]
    refine call0 (eqFS_ok 104 calSD1 sameS a.slots b.slots fun x _ y _ => sameDef1_ok x y) (by simp) (by simp) ?_
    cases h2 : allS sameS a.slots b.slots with
    | false =>
      simp -implicitDefEqProofs
      exact ret_end 0 (by simp [sameDf, h1, h2])
    | true =>
      simp -implicitDefEqProofs [encD]
      refine call0 (sameType_ok a.res b.res) (by simp [encT]) (by simp) ?_
      cases h3 : sameT a.res b.res with
      | false =>
        simp -implicitDefEqProofs
        exact ret_end 0 (by simp [sameDf, h1, h2, h3])
      | true =>
        simp -implicitDefEqProofs [encD]
        refine call0 (bodied_ok a) (by simp [encD, h1]) (by simp) ?_
        cases h4 : bodK a.kind with
        | false =>
          simp -implicitDefEqProofs
          exact ret_end 0 (by rw [h1] at h4; simp [sameDf, h1, h2, h3, h4])
        | true =>
          simp -implicitDefEqProofs [encD]
          exact ret_end 0 (by rw [h1] at h4; simp [sameDf, h1, h2, h3, h4])
  · simp -implicitDefEqProofs [encD, h1]
    exact ret_end 0 (by simp [sameDf, h1])
def sameNd (a b : Exp) : Bool := decide (a.k = b.k) && (decide (a.n = b.n) && (decide (a.ref = b.ref) && (sameT a.typ b.typ && allS sameK a.kids b.kids)))
theorem sameNode_ok (a b : Exp) : Ret Tryz.prog 59 [.agg (encE a), .agg (encE b)] [] (bl (sameNd a b)) [] := by
  refine ret_of_wp Tryz.func59 rfl cSN (rs := [.slot 4]) (by kernel_rfl) ?_
  unfold KSN
  by_cases h1 : a.k = b.k
  · by_cases h2 : a.n = b.n
    · by_cases h3 : a.ref = b.ref
      · simp -implicitDefEqProofs [encE, h1, h2, h3]
        refine call0 (sameType_ok a.typ b.typ) (by simp [encT]) (by simp) ?_
        cases h4 : sameT a.typ b.typ with
        | false =>
          simp -implicitDefEqProofs
          exact ret_end 0 (by simp [sameNd, h1, h2, h3, h4])
        | true =>
          simp -implicitDefEqProofs [encE]
          refine call0 (eqFE_ok 107 calSN1 sameK a.kids b.kids fun x _ y _ => sameNode1_ok x y) (by simp) (by simp) ?_
          simp -implicitDefEqProofs
          exact ret_end 0 (by simp [sameNd, h1, h2, h3, h4])
      · have h5 : same3 a.ref.a a.ref.b a.ref.c b.ref.a b.ref.b b.ref.c = false := by rw [same3_id]; exact decide_eq_false h3
        simp -implicitDefEqProofs [encE, h1, h2, h5]
        exact ret_end 0 (by simp [sameNd, h1, h2, h3])
    · simp -implicitDefEqProofs [encE, h1, h2]
      exact ret_end 0 (by simp [sameNd, h1, h2])
  · simp -implicitDefEqProofs [encE, h1]
    exact ret_end 0 (by simp [sameNd, h1])
end Go.Proofs.YthglhccibdlccaaGreatDoor
