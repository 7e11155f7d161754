/-
  The order of values: linear; the weights of the program and of the reference are one.
-/
import Derived.Test.YtbkiphnlbadhcaaC3
import Derived.Test.YtbkiphnlbadhcaaE23
namespace Go.Proofs.Ytbkiphnlbadhcaa
open Go.Abs

/-- A comparison that parts whatever is not equal. -/
structure Lin {α : Type} (c : α → α → Int) : Prop where
  refl : ∀ x, c x x = 0
  eq : ∀ x y, c x y = 0 → x = y
  swap : ∀ x y, c x y < 0 ↔ 0 < c y x
  trans : ∀ x y z, c x y < 0 → c y z < 0 → c x z < 0

theorem Lin.ord {α : Type} {c : α → α → Int} (h : Lin c) : Ord c where
  irrefl x := by rw [h.refl]; omega
  trans := h.trans
  ntrans x y z h1 h2 h3 := by
    by_cases e1 : c x y = 0
    · rw [h.eq _ _ e1] at h3; exact h2 h3
    by_cases e2 : c y z = 0
    · rw [← h.eq _ _ e2] at h3; exact h1 h3
    have h4 : c y x < 0 := (h.swap y x).2 (by omega)
    have h5 := h.trans _ _ _ h4 h3
    exact h2 h5
  anti x y h1 h2 := by
    by_cases e1 : c x y = 0
    · exact h.eq _ _ e1
    · have : c y x < 0 := (h.swap y x).2 (by omega)
      exact (h2 this).elim

theorem cmpI_neg {a b : Int} : cmpI a b < 0 ↔ a < b := by
  unfold cmpI
  split
  · omega
  · split <;> omega
theorem cmpI_pos {a b : Int} : 0 < cmpI a b ↔ b < a := by
  unfold cmpI
  split
  · omega
  · split <;> omega
theorem cmpI_zero {a b : Int} : cmpI a b = 0 ↔ a = b := by
  unfold cmpI
  split
  · omega
  · split <;> omega

theorem lin_cmpI : Lin cmpI where
  refl x := cmpI_zero.2 rfl
  eq x y h := cmpI_zero.1 h
  swap x y := by rw [cmpI_neg, cmpI_pos]
  trans x y z := by simp only [cmpI_neg]; omega

theorem orI_one (a : Int) : orI [a] = a := by simp only [orI]; split <;> simp_all
theorem orI_cons (a : Int) (l : List Int) : orI (a :: l) = if a = 0 then orI l else a := rfl

/-- First by one, then by another. -/
theorem lin_then {α : Type} {c d : α → α → Int} (hc0 : ∀ x, c x x = 0) (hcs : ∀ x y, c x y < 0 ↔ 0 < c y x) (hct : ∀ x y z, c x y < 0 → c y z < 0 → c x z < 0)
    (hce : ∀ x y z, c x y = 0 → c x z = c y z ∧ c z x = c z y) (hd0 : ∀ x, d x x = 0) (hde : ∀ x y, c x y = 0 → d x y = 0 → x = y) (hds : ∀ x y, c x y = 0 → (d x y < 0 ↔ 0 < d y x))
    (hdt : ∀ x y z, c x y = 0 → c y z = 0 → d x y < 0 → d y z < 0 → d x z < 0) : Lin fun x y => if c x y = 0 then d x y else c x y where
  refl x := by simp [hc0, hd0]
  eq x y h := by
    split at h
    · rename_i hc; exact hde x y hc h
    · rename_i hc; exact (hc h).elim
  swap x y := by
    by_cases h : c x y = 0
    · have h' : c y x = 0 := by
        have := (hce x y x h).1
        rw [hc0] at this
        exact this.symm
      simp only [h, h', if_true]
      exact hds x y h
    · have h' : ¬ c y x = 0 := fun e => h (by
        have := (hce y x y e).1
        rw [hc0] at this
        exact this.symm)
      simp only [h, h', if_false]
      exact hcs x y
  trans x y z := by
    by_cases h1 : c x y = 0
    · by_cases h2 : c y z = 0
      · have h3 : c x z = 0 := by rw [(hce x y z h1).1]; exact h2
        simp only [h1, h2, h3, if_true]
        exact hdt x y z h1 h2
      · have h3 : ¬ c x z = 0 := by rw [(hce x y z h1).1]; exact h2
        simp only [h1, h2, h3, if_true, if_false]
        intro _ h
        rw [(hce x y z h1).1]; exact h
    · by_cases h2 : c y z = 0
      · have h3 : ¬ c x z = 0 := by rw [← (hce y z x h2).2]; exact h1
        simp only [h1, h2, h3, if_true, if_false]
        intro h _
        rw [← (hce y z x h2).2]; exact h
      · simp only [h1, h2, if_false]
        intro h4 h5
        have h6 := hct x y z h4 h5
        have h3 : ¬ c x z = 0 := by omega
        simp only [h3, if_false]
        exact h6

mutual
theorem cmpV_refl : ∀ (a : Val), cmpV a a = 0
  | .mk k n l => by
    rw [cmpV_eq]
    have : headI (.mk k n l) (.mk k n l) = 0 := by simp [headI, orI, cmpI_zero.2]
    simp only [this, ne_eq, not_true_eq_false, if_false, Val.kids]
    exact cmpVs_refl l
theorem cmpVs_refl : ∀ (l : List Val), cmpVs l l = 0
  | [] => by simp only [cmpVs]
  | a :: l => by simp only [cmpVs, cmpV_refl a, ne_eq, not_true_eq_false, if_false]; exact cmpVs_refl l
end

theorem head_zero {a b : Val} : headI a b = 0 ↔ a.k = b.k ∧ a.n = b.n ∧ a.kids.length = b.kids.length := by
  simp only [headI, orI]
  by_cases h1 : a.k = b.k
  · by_cases h2 : a.n = b.n
    · by_cases h3 : a.kids.length = b.kids.length
      · simp [h1, h2, h3, cmpI_zero.2]
      · have : ¬ cmpI a.kids.length b.kids.length = 0 := fun e => h3 (by have := cmpI_zero.1 e; omega)
        simp [h1, h2, h3, cmpI_zero.2, this]
    · have : ¬ cmpI a.n b.n = 0 := fun e => h2 (cmpI_zero.1 e)
      simp [h1, h2, cmpI_zero.2, this]
  · have : ¬ cmpI a.k b.k = 0 := fun e => h1 (cmpI_zero.1 e)
    simp [h1, this]

mutual
theorem cmpV_zero : ∀ (a b : Val), cmpV a b = 0 → a = b
  | .mk k n l, .mk k' n' l', h => by
    rw [cmpV_eq] at h
    split at h
    · rename_i h1; exact (h1 h).elim
    · rename_i h1
      simp only [ne_eq, Decidable.not_not] at h1
      obtain ⟨e1, e2, e3⟩ := head_zero.1 h1
      simp only [Val.k, Val.n, Val.kids] at e1 e2 e3 h
      rw [e1, e2, cmpVs_zero l l' h]
theorem cmpVs_zero : ∀ (l l' : List Val), cmpVs l l' = 0 → l = l'
  | [], [], _ => rfl
  | [], _ :: _, h => by simp [cmpVs] at h
  | _ :: _, [], h => by simp [cmpVs] at h
  | a :: l, b :: l', h => by
    simp only [cmpVs] at h
    split at h
    · rename_i h1; exact (h1 h).elim
    · rename_i h1
      simp only [ne_eq, Decidable.not_not] at h1
      rw [cmpV_zero a b h1, cmpVs_zero l l' h]
end

theorem head_neg {a b : Val} : headI a b < 0 ↔ a.k < b.k ∨ (a.k = b.k ∧ (a.n < b.n ∨ (a.n = b.n ∧ a.kids.length < b.kids.length))) := by
  simp only [headI, orI_cons, orI_one]
  by_cases h1 : a.k = b.k
  · by_cases h2 : a.n = b.n
    · simp [h1, h2, cmpI_zero.2, cmpI_neg]
      simp only [orI]
      split <;> rename_i h <;> simp_all [cmpI_neg]
      have := cmpI_zero.1 h; omega
    · have : ¬ cmpI a.n b.n = 0 := fun e => h2 (cmpI_zero.1 e)
      simp [h1, h2, cmpI_zero.2, this, cmpI_neg]
  · have : ¬ cmpI a.k b.k = 0 := fun e => h1 (cmpI_zero.1 e)
    simp [h1, this, cmpI_neg]
theorem head_pos {a b : Val} : 0 < headI a b ↔ headI b a < 0 := by
  rw [head_neg]
  simp only [headI, orI_cons, orI_one]
  by_cases h1 : a.k = b.k
  · by_cases h2 : a.n = b.n
    · simp [h1, h2, cmpI_zero.2]
      simp only [orI]
      split <;> rename_i h <;> simp_all [cmpI_pos]
      have := cmpI_zero.1 h; omega
    · have : ¬ cmpI a.n b.n = 0 := fun e => h2 (cmpI_zero.1 e)
      simp [h1, cmpI_zero.2, this, cmpI_pos]
      omega
  · have : ¬ cmpI a.k b.k = 0 := fun e => h1 (cmpI_zero.1 e)
    simp [this, cmpI_pos]
    omega

mutual
theorem cmpV_swap : ∀ (a b : Val), cmpV a b < 0 ↔ 0 < cmpV b a
  | .mk k n l, .mk k' n' l' => by
    rw [cmpV_eq, cmpV_eq]
    by_cases h : headI (.mk k n l) (.mk k' n' l') = 0
    · have h' : headI (.mk k' n' l') (.mk k n l) = 0 := by rw [head_zero] at *; omega
      simp only [h, h', ne_eq, not_true_eq_false, if_false, Val.kids]
      exact cmpVs_swap l l'
    · have h' : ¬ headI (.mk k' n' l') (.mk k n l) = 0 := by rw [head_zero] at *; omega
      simp only [h, h', ne_eq, not_false_eq_true, if_true]
      rw [head_pos]
theorem cmpVs_swap : ∀ (l l' : List Val), cmpVs l l' < 0 ↔ 0 < cmpVs l' l
  | [], [] => by simp [cmpVs]
  | [], _ :: _ => by simp [cmpVs]
  | _ :: _, [] => by simp [cmpVs]
  | a :: l, b :: l' => by
    simp only [cmpVs]
    by_cases h : cmpV a b = 0
    · have e := cmpV_zero a b h
      subst e
      simp only [h, ne_eq, not_true_eq_false, if_false]
      exact cmpVs_swap l l'
    · have h' : ¬ cmpV b a = 0 := fun e => h (by rw [cmpV_zero b a e]; exact cmpV_refl a)
      simp only [h, h', ne_eq, not_false_eq_true, if_true]
      exact cmpV_swap a b
end

mutual
theorem cmpV_trans : ∀ (a b c : Val), cmpV a b < 0 → cmpV b c < 0 → cmpV a c < 0
  | .mk k n l, .mk k' n' l', .mk k'' n'' l'', h1, h2 => by
    rw [cmpV_eq] at *
    by_cases e1 : headI (.mk k n l) (.mk k' n' l') = 0
    · by_cases e2 : headI (.mk k' n' l') (.mk k'' n'' l'') = 0
      · have e3 : headI (.mk k n l) (.mk k'' n'' l'') = 0 := by rw [head_zero] at *; omega
        simp only [e1, e2, e3, ne_eq, not_true_eq_false, if_false, Val.kids] at *
        exact cmpVs_trans l l' l'' h1 h2
      · have e3 : headI (.mk k n l) (.mk k'' n'' l'') < 0 := by
          simp only [e2, ne_eq, not_false_eq_true, if_true] at h2
          rw [head_zero] at e1; rw [head_neg] at *; omega
        have e4 : headI (.mk k n l) (.mk k'' n'' l'') ≠ 0 := by omega
        simp only [e4, ne_eq, not_false_eq_true, if_true]
        exact e3
    · simp only [e1, ne_eq, not_false_eq_true, if_true] at h1
      have e3 : headI (.mk k n l) (.mk k'' n'' l'') < 0 := by
        by_cases e2 : headI (.mk k' n' l') (.mk k'' n'' l'') = 0
        · rw [head_zero] at e2; rw [head_neg] at *; omega
        · simp only [e2, ne_eq, not_false_eq_true, if_true] at h2
          rw [head_neg] at *; omega
      have e4 : headI (.mk k n l) (.mk k'' n'' l'') ≠ 0 := by omega
      simp only [e4, ne_eq, not_false_eq_true, if_true]
      exact e3
theorem cmpVs_trans : ∀ (a b c : List Val), cmpVs a b < 0 → cmpVs b c < 0 → cmpVs a c < 0
  | [], [], _, h1, _ => by simp [cmpVs] at h1
  | [], _ :: _, [], _, h2 => by simp [cmpVs] at h2
  | [], _ :: _, _ :: _, _, _ => by simp [cmpVs]
  | _ :: _, [], _, h1, _ => by simp [cmpVs] at h1
  | _ :: _, _ :: _, [], _, h2 => by simp [cmpVs] at h2
  | a :: l, b :: l', c :: l'', h1, h2 => by
    simp only [cmpVs] at *
    by_cases e1 : cmpV a b = 0
    · have e := cmpV_zero a b e1
      subst e
      by_cases e2 : cmpV a c = 0
      · simp only [cmpV_refl, e2, ne_eq, not_true_eq_false, if_false] at *
        exact cmpVs_trans l l' l'' h1 h2
      · simp only [e2, ne_eq, not_false_eq_true, if_true] at *
        exact h2
    · simp only [e1, ne_eq, not_false_eq_true, if_true] at h1
      have e3 : cmpV a c < 0 := by
        by_cases e2 : cmpV b c = 0
        · rw [← cmpV_zero b c e2]; exact h1
        · simp only [e2, ne_eq, not_false_eq_true, if_true] at h2
          exact cmpV_trans a b c h1 h2
      have e4 : cmpV a c ≠ 0 := by omega
      simp only [e4, ne_eq, not_false_eq_true, if_true]
      exact e3
end

theorem lin_cmpV : Lin cmpV := ⟨cmpV_refl, cmpV_zero, cmpV_swap, cmpV_trans⟩
theorem lin_cmpVs : Lin cmpVs := ⟨cmpVs_refl, cmpVs_zero, cmpVs_swap, cmpVs_trans⟩

/-- First by a number, then by a linear comparison. -/
theorem lin_by {α : Type} (f : α → Int) {d : α → α → Int} (h : Lin d) : Lin fun x y => orI [cmpI (f x) (f y), d x y] := by
  have := lin_then (c := fun x y => cmpI (f x) (f y)) (d := d) (fun x => cmpI_zero.2 rfl) (fun x y => by rw [cmpI_neg, cmpI_pos]) (fun x y z => by simp only [cmpI_neg]; omega)
    (fun x y z e => by have := cmpI_zero.1 e; simp [this]) h.refl (fun x y _ => h.eq x y) (fun x y _ => h.swap x y) (fun x y z _ _ => h.trans x y z)
  have e : (fun x y => orI [cmpI (f x) (f y), d x y]) = fun x y => if cmpI (f x) (f y) = 0 then d x y else cmpI (f x) (f y) := by
    funext x y
    rw [orI_cons, orI_one]
  rw [e]
  exact this

/-- The order of the values of a domain. -/
def cmpW (a b : Val) : Int := orI [cmpI (weightV a) (weightV b), cmpV a b]
theorem lin_cmpW : Lin cmpW := lin_by weightV lin_cmpV
theorem lin_orderV : Lin orderV := lin_by (fun l => sumW 0 l) lin_cmpVs

end Go.Proofs.Ytbkiphnlbadhcaa
