/-
  The reference's Count and Inputs.
-/
import Derived.Test.YtbkiphnlbadhcaaC18
namespace Go.Proofs.Ytbkiphnlbadhcaa
open Go.Abs

theorem refCount_ok (p : Prg) (hs : Sml p) (l : List Slt) : Ret Try.prog 17 [.agg (encP p), .sl l.length (cellsS l)] [] (.tup [int (countF p 1 l).1, int (countF p 1 l).2]) [] := by
  refine ret_of_wp Try.func17 rfl c17 (rs := [.slot 4, .slot 5]) (by kernel_rfl) ?_
  unfold K17
  simp -implicitDefEqProofs [encP]
  refine loopS (S := Nat × Int) (fun s => [(1, .sl l.length (cellsS l)), (2, .ptr 0 0), (6, int s.2), (7, int s.1)])
    (fun s => [.box (encP p)]) (fun s => s.1 ≤ l.length ∧ 0 ≤ s.2 ∧ s.2 ≤ 4096 ∧ countF p 1 l = countF p s.2 (l.drop s.1)) (fun s => l.length - s.1) (0, 1) (by simp)
    (selW [0] 0 (by simp) (by simp) (by simp [encP]) (by simp)) ?_
  rintro ⟨i, n⟩ ⟨hi, hn0, hn1, ho⟩
  simp only at hi hn0 hn1 ho
  by_cases h : i < l.length
  · have hd : l.drop i = l[i] :: l.drop (i + 1) := List.drop_eq_getElem_cons h
    rw [hd, countF] at ho
    by_cases h1 : l[i].most < 0
    · simp -implicitDefEqProofs [h, cellsS_drop h, encS, h1]
      exact fun _ => ret_end 0 (by simp [ho, h1])
    by_cases h2 : 64 < l[i].most
    · simp -implicitDefEqProofs [h, cellsS_drop h, encS, h1, h2]
      exact fun _ => ret_end 0 (by simp [ho, h2])
    rw [if_neg (by omega)] at ho
    simp -implicitDefEqProofs [h, cellsS_drop h, encS, h1, h2, encP]
    intro hl
    refine dcall0 (refMeas_ok p hs l[i].most (by omega) l[i].typ) (by simp [encP, encT]) (by simp [szT]) ?_
    have hok := sizeN_ok p l[i].most (by omega) 24 l[i].typ
    by_cases h3 : (size p l[i].most l[i].typ).e = 0
    · rw [if_neg (by simp [h3])] at ho
      have hok := hok h3
      change 0 ≤ (size p l[i].most l[i].typ).a ∧ (size p l[i].most l[i].typ).a ≤ 4096 ∧ _ at hok
      have hab0 : 0 ≤ n * (size p l[i].most l[i].typ).a := Int.mul_nonneg hn0 hok.1
      have hab1 : n * (size p l[i].most l[i].typ).a ≤ 4096 * 4096 := Int.mul_le_mul hn1 hok.2.1 hok.1 (by decide)
      have hw : IntKind.i64.wrap (n * (size p l[i].most l[i].typ).a) = n * (size p l[i].most l[i].typ).a := IntWalk.i64_in _ (by omega)
      by_cases h4 : 4096 < n * (size p l[i].most l[i].typ).a
      · rw [if_pos h4] at ho
        simp -implicitDefEqProofs [szT, h3, hw, h4]
        exact ret_end 0 (by simp [ho])
      · rw [if_neg h4] at ho
        simp -implicitDefEqProofs [szT, h3, hw, h4]
        exact roundS (i + 1, n * (size p l[i].most l[i].typ).a) ⟨h, hab0, by simp only; omega, ho⟩ (by simp only; omega) (selW [0] 0 (by simp) (by simp) (by simp [encP]) (by simp [wrap_succ h hl]))
    · rw [if_pos h3] at ho
      simp -implicitDefEqProofs [szT, h3]
      exact ret_end 0 (by simp [ho])
  · have hi : i = l.length := by omega
    subst hi
    rw [List.drop_length, countF] at ho
    simp -implicitDefEqProofs
    exact fun _ => ret_end 0 (by simp [ho])

theorem countF_part (p : Prg) : ∀ (l : List Slt) (n : Int), (countF p n l).2 = 0 → n ≤ 4096 → ∀ i, n * ((((partsV p l).take i).map List.length).foldl (· * ·) 1 : Nat) ≤ 4096
  | [], n, h, hn, i => by simpa [partsV] using hn
  | s :: l, n, h, hn, 0 => by simpa using hn
  | s :: l, n, h, hn, i + 1 => by
    unfold countF at h
    split at h
    · simp at h
    split at h
    · simp at h; contradiction
    split at h
    · simp at h
    · rename_i g1 g2 g3
      have g2 : (size p s.most s.typ).e = 0 := by simpa using g2
      have := countF_part p l _ h (by omega) i
      have hl := size_len p s.most (by omega) 24 s.typ g2
      have h2 := foldl_mul (((partsV p l).take i).map List.length) (allV p s.most 24 s.typ).length 1
      rw [Nat.mul_one] at h2
      have e : ((partsV p (s :: l)).take (i + 1)).map List.length = (allV p s.most 24 s.typ).length :: ((partsV p l).take i).map List.length := by simp [partsV]
      rw [e, List.foldl_cons, Nat.one_mul, h2, Int.natCast_mul, ← Int.mul_assoc, ← hl]
      exact this

theorem refInputs_ok (p : Prg) (hs : Sml p) (l : List Slt) (hl6 : l.length ≤ 1000000) : Ret Try.prog 19 [.agg (encP p), .sl l.length (cellsS l)] [] (.tup [.sl (inputsV p l).1.length (cellsW (inputsV p l).1), int (inputsV p l).2]) [] := by
  refine ret_of_wp Try.func19 rfl c19 (rs := [.slot 4, .slot 5]) (by kernel_rfl) ?_
  unfold K19
  simp -implicitDefEqProofs [encP]
  refine call0 (refCount_ok p hs l) (by simp [encP]) (by simp) ?_
  by_cases h : (countF p 1 l).2 = 0
  · have e : inputsV p l = (sortL orderV (prodT (partsV p l)), 0) := by simp [inputsV, h]
    obtain ⟨hk, hall⟩ := countF_len p l 1 h
    have hle := countF_ok p l 1 (by decide) (by decide)
    have hPl : (prodT (partsV p l)).length ≤ 4096 := by
      rw [prodT, prodT_length]
      simp only [List.length_cons, List.length_nil]
      omega
    have hpart : ∀ i, (prodT ((partsV p l).take i)).length ≤ 1000000 := fun i => by
      have := countF_part p l 1 h (by decide) i
      rw [prodT_take_len]
      omega
    have hpl : (partsV p l).length = l.length := by simp [partsV]
    have hpg : ∀ i (h : i < l.length), (partsV p l)[i]? = some (allV p l[i].most 24 l[i].typ) := fun i h => by simp [partsV, h]
    have hok : OkW (partsV p l) := fun x hx v hv => by
      obtain ⟨s, hs', rfl⟩ := List.mem_map.1 hx
      obtain ⟨q1, q2, _⟩ := hall s hs'
      exact allV_ok p hs s.most ⟨q1, q2⟩ 24 s.typ v hv
    rw [e]
    generalize partsV p l = L at hPl hpl hpg hpart hok
    simp -implicitDefEqProofs [h]
    refine loopS (S := Nat) (fun i => [(1, .sl l.length (cellsS l)), (2, .ptr 0 0), (8, .row 1 i), (9, int i)])
      (fun i => [.box (encP p), .row false 36 1 i (cellsW (L.take i))]) (fun i => i ≤ l.length) (fun i => l.length - i) 0 (by simp)
      ((weak_nilslot (t := 8) (by simp) 36 1).trans (selW [0, 1] 0 (by simp) (by simp) (by simp [encP]) (by simp))) ?_
    intro i hi
    by_cases hil : i < l.length
    · have hiL : i < L.length := by omega
      obtain ⟨q1, q2, q3⟩ := hall l[i] (List.getElem_mem hil)
      have hc := refAll_ok p hs l[i].most ⟨q1, q2⟩ 24 l[i].typ q3
      have hLi := hpg i hil
      rw [List.getElem?_eq_getElem hiL] at hLi
      rw [← Option.some.inj hLi] at hc
      have htL : cellsW (L.take (i + 1)) = cellsW (L.take i) ++ [.sl L[i].length (cellsV L[i])] := by rw [List.take_succ_eq_append_getElem hiL, cellsW_append]; rfl
      simp -implicitDefEqProofs [hil, cellsS_drop hil, encS, encP]
      intro hl
      refine dcall0 hc (by simp [encP, encT]) (by simp) ?_
      simp -implicitDefEqProofs
      refine ⟨⟨by simp [maxLen]; omega, by omega⟩, ?_⟩
      exact roundS (i + 1) hil (by omega) (selW [0, 1] 1 (by simp) (by simp) (by simp [encP, htL]) (by simp [wrap_succ hil hl]))
    · have hi : i = l.length := by omega
      subst hi
      have htk : L.take l.length = L := List.take_of_length_le (by omega)
      simp -implicitDefEqProofs [htk]
      intro hl
      refine callA_frz (l := 1) rfl ?_
      refine call0 (product_ok L (by omega) hpart) (by simp [hpl]) (by simp) ?_
      simp -implicitDefEqProofs
      refine call0 (sorted_ok (prodT L).length (prodT L) rfl (by omega) (prodT_ok hok)) (by simp) (by simp) ?_
      simp -implicitDefEqProofs
      exact ret_end 1 (by simp)
  · have e : inputsV p l = ([], (countF p 1 l).2) := by simp [inputsV, h]
    simp -implicitDefEqProofs [h, e]
    exact ret_end 1 (by simp)
end Go.Proofs.Ytbkiphnlbadhcaa
