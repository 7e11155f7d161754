/-
  slices.Compact at lists of IDs.
-/
import Derived.Test.YthglhccibdlccaaDoorA4
namespace Go.Proofs.YthglhccibdlccaaDoor
open Go.Abs

theorem comp_take {l : List Id} {m : Nat} (h1 : 1 ≤ m) (h : m < l.length) : compD (l.take (m + 1)) = if l[m - 1] = l[m] then compD (l.take m) else compD (l.take m) ++ [l[m]] := by
  rw [List.take_succ_eq_append_getElem h, compD_snoc, stepC, compD_last]
  have : (l.take m).getLast? = some l[m - 1] := by
    rw [List.getLast?_eq_getElem?, List.length_take, Nat.min_eq_left (by omega), List.getElem?_take, if_pos (by omega), List.getElem?_eq_getElem (by omega)]
  rw [this]
  simp only [Option.some.injEq]
theorem compD_len (l : List Id) : (compD l).length ≤ l.length := by
  induction l using snocRec with
  | nil => simp [compD]
  | snoc l y ih =>
    rw [compD_snoc, stepC]
    split
    · simp; omega
    · simp; omega
theorem comp_one {l : List Id} (h : 1 ≤ l.length) : compD (l.take 1) = l.take 1 := by
  cases l with
  | nil => simp at h
  | cons x l => simp [compD, stepC]
theorem comp_ne {l : List Id} {i : Nat} (h1 : 1 ≤ i) (h : i < l.length) (hd : l[i - 1] = l[i]) : compD l ≠ l := by
  intro e
  have : ∀ r : List Id, (compD (l.take (i + 1) ++ r)).length ≤ i + r.length := fun r => by
    induction r using snocRec with
    | nil =>
      rw [List.append_nil, comp_take h1 h, if_pos hd]
      have := compD_len (l.take i)
      simp at this
      simp
      omega
    | snoc r y ih =>
      rw [← List.append_assoc, compD_snoc, stepC]
      split
      · simp; omega
      · simp; omega
  have := this (l.drop (i + 1))
  rw [List.take_append_drop, e] at this
  simp at this
  omega
theorem cellsI_set : ∀ {R : List Id} {k : Nat} (x : Id), k < R.length → (cellsI R).take (k * 3) ++ (.lit (.int .i64 x.a) :: .lit (.int .i64 x.b) :: .lit (.int .i64 x.c) :: (cellsI R).drop (k * 3 + 3)) = cellsI (R.set k x)
  | v :: R, 0, x, h => by simp
  | v :: R, k + 1, x, h => by
    have e : (k + 1) * 3 = k * 3 + 3 := by omega
    have := cellsI_set (R := R) (k := k) x (by simpa using h)
    rw [e, cellsI_cons, List.set_cons_succ, cellsI_cons, ← this]
    simp
def zerosI (n : Nat) : List Id := List.replicate n Id.zero
theorem cellsI_zeros : ∀ n : Nat, cellsI (zerosI n) = (List.replicate n [A.lit (.int .i64 0), A.lit (.int .i64 0), A.lit (.int .i64 0)]).flatten
  | 0 => rfl
  | n + 1 => by
    have := cellsI_zeros n
    simp only [zerosI, List.replicate_succ, List.flatten_cons] at this ⊢
    rw [← this]; rfl
theorem set_take {R : List Id} {k : Nat} {x : Id} (h : k < R.length) : (R.set k x).take (k + 1) = R.take k ++ [x] := by
  rw [List.take_set, List.take_succ_eq_append_getElem h, List.set_append_right _ _ (by simp; omega)]
  simp [Nat.min_eq_left (Nat.le_of_lt h)]

def compA (l : List Id) : A := if compD l = l then .row 0 l.length else .win 0 l.length 0 (compD l).length ((compD l).length * 3)
theorem compact_ok (l : List Id) (hb : l.length ≤ 1000000) : Ret Tryd.prog 28 [.row 0 l.length] [.row false 39 3 l.length (cellsI l)] (compA l)
    [.row false 39 3 l.length (cellsI (compD l ++ zerosI (l.length - (compD l).length)))] := by
  have hsame : compD l = l → cellsI (compD l ++ zerosI (l.length - (compD l).length)) = cellsI l := fun e => by rw [e]; simp [zerosI]
  refine ret_of_wp Tryd.func28 rfl cCompact (rs := [.slot 2]) (by kernel_rfl) ?_
  unfold KCompact
  by_cases h2 : l.length < 2
  · have hc : compD l = l := by
      match l, h2 with
      | [], _ => rfl
      | [x], _ => simp [compD, stepC]
    have h2' : (l.length : Int) < 2 := by omega
    simp -implicitDefEqProofs [h2']
    exact ret_keep [0] 0 (by simp) (by simp) (by simp [hsame hc]) (by simp [compA, hc])
  · have h2' : ¬ (l.length : Int) < 2 := by omega
    simp -implicitDefEqProofs [h2']
    refine loopS (S := Nat) (fun i => [(0, .row 0 l.length), (3, int i)]) (fun i => [.row false 39 3 l.length (cellsI l)]) (fun i => 1 ≤ i ∧ i ≤ l.length ∧ compD (l.take i) = l.take i) (fun i => l.length - i) 1 ⟨by omega, by omega, comp_one (by omega)⟩
      (selW [0] 0 (by simp) (by simp) (by simp) (by simp)) ?_
    rintro i ⟨h1, hi, hc⟩
    by_cases h : i < l.length
    · have hi1 : i - 1 < l.length := by omega
      have hw : IntKind.i64.wrap ((i : Int) - 1) = ((i - 1 : Nat) : Int) := by rw [Int.ofNat_sub h1]; exact IntWalk.i64_in _ (by omega)
      have hn1 : ¬ (l.length * 3 < i * 3 + 3) := by omega
      have hl1 : i * 3 + 3 ≤ l.length * 3 := by omega
      have hl2 : (i - 1) * 3 + 3 ≤ l.length * 3 := by omega
      have hct := comp_take h1 h
      by_cases hd : l[i - 1] = l[i]
      · rw [if_pos hd, hc] at hct
        have hne := comp_ne h1 h hd
        have hd3 : same3 l[i].a l[i].b l[i].c l[i - 1].a l[i - 1].b l[i - 1].c = true := by rw [same3_id]; simp [hd]
        simp -implicitDefEqProofs [h, hw, hl1, hl2, hi1, cellsI_drop h, cellsI_drop hi1, hd3]
        refine ⟨hi, ?_⟩
        refine loopS (S := Nat × Nat × List Id) (fun s => [(0, .row 0 l.length), (3, int s.1), (4, .win 0 l.length (i * 3) (l.length - i) ((l.length - i) * 3)), (5, int s.2.1)]) (fun s => [.row false 39 3 l.length (cellsI s.2.2)])
          (fun s => s.2.2.length = l.length ∧ 1 ≤ s.2.1 ∧ i + s.2.1 ≤ l.length ∧ s.1 + 1 ≤ i + s.2.1 ∧ (compD (l.take (i + s.2.1))).length = s.1 ∧ s.2.2.take s.1 = compD (l.take (i + s.2.1)) ∧ s.2.2.drop (i + s.2.1 - 1) = l.drop (i + s.2.1 - 1))
          (fun s => l.length - (i + s.2.1)) (i, 1, l) ⟨rfl, Nat.le_refl _, h, by simp, by simp [hct]; omega, by simp [hct], rfl⟩
          (selW [0] 0 (by simp) (by simp) (by simp) (by simp)) ?_
        rintro ⟨k, j, R⟩ ⟨r1, r2, r3, r4, r5, r6, r7⟩
        simp only at r1 r2 r3 r4 r5 r6 r7
        simp only
        have hsub : (l.length : Int) - i = ((l.length - i : Nat) : Int) := by omega
        have hwj : IntKind.i64.wrap ((j : Int) - 1) = ((j - 1 : Nat) : Int) := by rw [Int.ofNat_sub r2]; exact IntWalk.i64_in _ (by omega)
        have hwj1 : IntKind.i64.wrap ((j : Int) + 1) = ((j + 1 : Nat) : Int) := by push_cast; exact IntWalk.i64_in _ (by omega)
        have hwk1 : IntKind.i64.wrap ((k : Int) + 1) = ((k + 1 : Nat) : Int) := by push_cast; exact IntWalk.i64_in _ (by omega)
        by_cases hj : i + j < l.length
        · have hjR : i + j < R.length := by omega
          have hj1R : i + j - 1 < R.length := by omega
          have hkR : k < R.length := by omega
          have hR : R[i + j] = l[i + j] := by
            have := congrArg (fun x : List Id => x[1]?) r7
            simp only [List.getElem?_drop] at this
            rw [show i + j - 1 + 1 = i + j by omega, List.getElem?_eq_getElem hjR, List.getElem?_eq_getElem hj] at this
            exact Option.some.inj this
          have hR1 : R[i + j - 1] = l[i + j - 1] := by
            have := congrArg (fun x : List Id => x[0]?) r7
            simp only [List.getElem?_drop] at this
            rw [show i + j - 1 + 0 = i + j - 1 by omega, List.getElem?_eq_getElem hj1R, List.getElem?_eq_getElem (by omega)] at this
            exact Option.some.inj this
          have e0 : i * 3 + j * 3 = (i + j) * 3 := by omega
          have e1 : i * 3 + (j - 1) * 3 = (i + j - 1) * 3 := by omega
          have hjlt : j < l.length - i := by omega
          have hjlt1 : j - 1 < l.length - i := by omega
          have hb0 : (i + j) * 3 + 3 ≤ l.length * 3 := by omega
          have hb1 : (i + j - 1) * 3 + 3 ≤ l.length * 3 := by omega
          have hbk : k * 3 + 3 ≤ l.length * 3 := by omega
          have hkl : k < l.length := by omega
          have hct2 := comp_take (l := l) (m := i + j) (by omega) hj
          by_cases hd2 : l[i + j - 1] = l[i + j]
          · rw [if_pos hd2] at hct2
            have hs3 : same3 R[i + j].a R[i + j].b R[i + j].c R[i + j - 1].a R[i + j - 1].b R[i + j - 1].c = true := by rw [same3_id, hR, hR1, hd2]; simp
            simp -implicitDefEqProofs [hjlt, hjlt1, hwj, e0, e1, r1, hb0, hb1, cellsI_drop hjR, cellsI_drop hj1R, hs3]
            exact roundS (k, j + 1, R) ⟨r1, by simp, by simp only; omega, by simp only; omega, by simp only [← Nat.add_assoc, hct2]; exact r5, by simp only [← Nat.add_assoc, hct2]; exact r6, by
                have := congrArg (fun x : List Id => x.drop 1) r7
                simp only [List.drop_drop] at this
                simp only
                rw [show i + (j + 1) - 1 = i + j - 1 + 1 by omega]
                exact this⟩ (by simp only; omega) (selW [0] 0 (by simp) (by simp) (by simp) (by simp [hwj1]))
          · rw [if_neg hd2] at hct2
            have hs3 : same3 R[i + j].a R[i + j].b R[i + j].c R[i + j - 1].a R[i + j - 1].b R[i + j - 1].c = false := by rw [same3_id, hR, hR1]; exact decide_eq_false fun e => hd2 e.symm
            simp -implicitDefEqProofs [hjlt, hjlt1, hwj, e0, e1, r1, hb0, hb1, hbk, hkl, cellsI_drop hjR, cellsI_drop hj1R, hs3, cellsI_set _ hkR]
            exact roundS (k + 1, j + 1, R.set k l[i + j]) ⟨by simp [r1], by simp, by simp only; omega, by simp only; omega, by simp only [← Nat.add_assoc, hct2, List.length_append, r5]; simp, by
                simp only [← Nat.add_assoc, hct2]
                rw [set_take hkR, r6], by
                have := congrArg (fun x : List Id => x.drop 1) r7
                simp only [List.drop_drop] at this
                simp only
                rw [show i + (j + 1) - 1 = i + j - 1 + 1 by omega, List.drop_set_of_lt (by omega)]
                exact this⟩ (by simp only; omega) (selW [0] 0 (by simp) (by simp) (by simp [hR]) (by simp [hwj1, hwk1]))
        · have hij : i + j = l.length := by omega
          have hj' : ¬ (j : Int) < ((l.length - i : Nat) : Int) := by omega
          simp -implicitDefEqProofs [hj', r1]
          rw [hij, List.take_length] at r5 r6
          have e2 : k * 3 + (l.length - k) * 3 = l.length * 3 := by omega
          have hcells : List.take (k * 3) (cellsI R) ++ ((List.replicate (l.length - k) [A.lit (Value.int IntKind.i64 0), A.lit (Value.int IntKind.i64 0), A.lit (Value.int IntKind.i64 0)]).flatten ++ List.drop (k * 3 + (l.length - k) * 3) (cellsI R)) = cellsI (compD l ++ zerosI (l.length - (compD l).length)) := by
            rw [e2, List.drop_of_length_le (by simp [r1]), List.append_nil, cellsI_take, r6, cellsI_append, cellsI_zeros, r5]
          rw [hcells]
          refine ⟨by omega, by omega, by omega, ?_⟩
          exact ret_keep [0] 0 (by simp) (by simp) (by simp) (by simp [compA, hne, r5])
      · rw [if_neg hd, hc] at hct
        have hd3 : same3 l[i].a l[i].b l[i].c l[i - 1].a l[i - 1].b l[i - 1].c = false := by rw [same3_id]; exact decide_eq_false fun e => hd e.symm
        simp -implicitDefEqProofs [h, hw, hl1, hl2, hi1, cellsI_drop h, cellsI_drop hi1, hd3]
        exact roundS (i + 1) ⟨by omega, h, by rw [hct, List.take_succ_eq_append_getElem h]⟩ (by omega) (selW [0] 0 (by simp) (by simp) (by simp) (by simp [wrap_succ h (show l.length ≤ maxLen by simp [maxLen]; omega)]))
    · have : i = l.length := by omega
      subst this
      rw [List.take_length] at hc
      simp -implicitDefEqProofs
      exact ret_keep [0] 0 (by simp) (by simp) (by simp [hsame hc]) (by simp [compA, hc])
end Go.Proofs.YthglhccibdlccaaDoor
