/-
  The reference's weights and orders are those of the program, at values of Go's integers.
-/
import Derived.Test.YtbkiphnlbadhcaaJ1
import Derived.Test.YtbkiphnlbadhcaaP1
namespace Go.Proofs.Ytbkiphnlbadhcaa
open Go.Abs

theorem w64_add_l (a b : Int) : w64 (w64 a + b) = w64 (a + b) := by simp only [w64, IntKind.wrap_i64]; omega
theorem w64_add_r (a b : Int) : w64 (a + w64 b) = w64 (a + b) := by simp only [w64, IntKind.wrap_i64]; omega
theorem sumW_cons (s : Int) (x : Val) (l : List Val) : sumW s (x :: l) = sumW (w64 (s + weightV x)) l := rfl
theorem sumW_shift : ∀ (l : List Val) (s t : Int), sumW (w64 (s + t)) l = w64 (s + sumW t l)
  | [], s, t => rfl
  | x :: l, s, t => by
    rw [sumW_cons, sumW_cons, w64_add_l, Int.add_assoc, ← w64_add_r, sumW_shift l]
theorem sumW_from {l : List Val} {s : Int} (h : w64 s = s) : sumW s l = w64 (s + sumW 0 l) := by
  have := sumW_shift l s 0
  rwa [Int.add_zero, h] at this
theorem refSum_eq {l : List Val} (h : ∀ x ∈ l, refWeightV x = weightV x) (s : Int) : refSum s l = sumW s l := by
  induction l generalizing s with
  | nil => rfl
  | cons x l ih =>
    have h1 : refSum s (x :: l) = refSum (w64 (s + refWeightV x)) l := rfl
    rw [h1, sumW_cons, h x (List.mem_cons_self ..), ih (fun y hy => h y (List.mem_cons_of_mem _ hy))]
theorem weight_eq {v : Val} (h : OkV v) : refWeightV v = weightV v := by
  induction h with
  | @mk k n l hk hn hl ih =>
    rw [refWeightV_eq, weightV_eq]
    simp only [Val.kids]
    rw [refSum_eq ih]
    simp only [refOwn, ownW, Val.k, Val.n, Val.kids]
    by_cases h0 : k = 0
    · subst h0; simp
    by_cases h1 : k = 1
    · subst h1; simp
    by_cases h2 : k = 2
    · subst h2; simp
    by_cases h3 : k = 3
    · subst h3; simp; exact (sumW_from hn).symm
    by_cases h4 : k = 4
    · subst h4
      simp
      cases l with
      | nil => simp [sumW, w64, IntKind.wrap_i64]
      | cons x l =>
        rw [sumW_cons, sumW_cons, Int.zero_add, ← sumW_shift, w64_add_r]
    · have h5 : k < 0 ∨ 4 < k := by omega
      simp [h0, h1, h2, h3, h4, h5]
theorem sum_eq {l : List Val} (h : ∀ x ∈ l, OkV x) : refSum 0 l = sumW 0 l := refSum_eq (fun x hx => weight_eq (h x hx)) 0
theorem order_eq {a b : List Val} (ha : ∀ x ∈ a, OkV x) (hb : ∀ x ∈ b, OkV x) : refOrder a b = orderV a b := by
  unfold refOrder orderV
  rw [sum_eq ha, sum_eq hb, orI_cons, orI_one]
  by_cases h1 : sumW 0 a < sumW 0 b
  · rw [if_pos h1, cmpI_lt h1]; simp
  · rw [if_neg h1]
    by_cases h2 : sumW 0 b < sumW 0 a
    · rw [if_pos h2, cmpI_gt h2]; simp
    · rw [if_neg h2, cmpI_eq (by omega) (by omega)]; simp
end Go.Proofs.Ytbkiphnlbadhcaa
