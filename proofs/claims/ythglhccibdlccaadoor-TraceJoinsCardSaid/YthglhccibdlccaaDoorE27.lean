/-
  Cells of lists whose elements have so many cells each.
-/
import Derived.Test.YthglhccibdlccaaDoorE22
namespace Go.Abs

section
variable {α : Type} {enc : α → List A} {k : Nat}

theorem flat_len (hk : ∀ x, (enc x).length = k) : ∀ (l : List α), (l.flatMap enc).length = l.length * k
  | [] => by simp
  | x :: l => by rw [List.flatMap_cons, List.length_append, hk, flat_len hk l, List.length_cons, Nat.succ_mul, Nat.add_comm]
theorem flat_drop (hk : ∀ x, (enc x).length = k) : ∀ {l : List α} {i : Nat} (h : i < l.length), (l.flatMap enc).drop (i * k) = enc l[i] ++ (l.drop (i + 1)).flatMap enc
  | x :: l, 0, h => by simp
  | x :: l, i + 1, h => by
    rw [Nat.succ_mul, Nat.add_comm, List.flatMap_cons, ← List.drop_drop, List.drop_left' (hk x), flat_drop hk (by simpa using h)]
    simp
theorem flat_dropW (hk : ∀ x, (enc x).length = k) : ∀ (l : List α) (i : Nat), (l.flatMap enc).drop (i * k) = (l.drop i).flatMap enc
  | [], i => by simp
  | x :: l, 0 => by simp
  | x :: l, i + 1 => by
    rw [Nat.succ_mul, Nat.add_comm, List.flatMap_cons, ← List.drop_drop, List.drop_left' (hk x), flat_dropW hk l i]
    simp
theorem flat_take (hk : ∀ x, (enc x).length = k) : ∀ (l : List α) (i : Nat), (l.flatMap enc).take (i * k) = (l.take i).flatMap enc
  | [], i => by simp
  | x :: l, 0 => by simp
  | x :: l, i + 1 => by
    rw [Nat.succ_mul, Nat.add_comm, List.flatMap_cons, List.take_add, List.take_left' (hk x), List.drop_left' (hk x), flat_take hk l i]
    simp
theorem flat_take_succ (hk : ∀ x, (enc x).length = k) {l : List α} {i : Nat} (h : i < l.length) : (l.take (i + 1)).flatMap enc = (l.take i).flatMap enc ++ enc l[i] := by
  rw [List.take_succ_eq_append_getElem h, List.flatMap_append]; simp
theorem flat_set (hk : ∀ x, (enc x).length = k) : ∀ {l : List α} {i : Nat} (x : α), i < l.length → (l.flatMap enc).take (i * k) ++ (enc x ++ (l.flatMap enc).drop (i * k + k)) = (l.set i x).flatMap enc
  | y :: l, 0, x, h => by
    simp [List.drop_left' (hk y)]
  | y :: l, i + 1, x, h => by
    have := flat_set hk (l := l) (i := i) x (by simpa using h)
    rw [List.set_cons_succ, List.flatMap_cons, List.flatMap_cons, ← this, Nat.succ_mul, Nat.add_comm (i * k) k, List.take_add, List.take_left' (hk y), List.drop_left' (hk y), Nat.add_assoc k, ← List.drop_drop, List.drop_left' (hk y), List.append_assoc, Nat.add_comm k (i * k)]
theorem flat_plain (hp : ∀ x, Plain (enc x)) : ∀ (l : List α), Plain (l.flatMap enc)
  | [] => Plain.nil
  | x :: l => by
    have h1 := hp x
    have h2 := flat_plain hp l
    refine ⟨?_, fun rf g => ?_⟩
    · rw [List.flatMap_cons, nrm0L_append, h1.1, h2.1]
    · rw [List.flatMap_cons, vwL_append, h1.2, h2.2]
end
end Go.Abs
