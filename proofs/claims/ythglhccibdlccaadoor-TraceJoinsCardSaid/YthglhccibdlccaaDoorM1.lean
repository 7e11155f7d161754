/-
  Keys of maps that are made of integers: they are compared cell by cell, they may be keys, and they stay.
-/
import Derived.Test.YthglhccibdlccaaDoorE9
import Derived.WideKeyRuns
namespace Go.Abs

/-- The value of a type made of integers. -/
def valT (P : Program) (t : TypeId) (xs : List Int) : Value := match P.underlying t with
  | some (.struct _) => .agg (xs.map intV).toArray
  | _ => intV (xs.headD 0)

section
variable {P : Program} {w : World}

theorem part_int {t : TypeId} {d n : Nat} (h : intsT P d t = some n) (hi : (P.info? t).map (·.size) = some n) {pre xs : List Int} (hx : n ≤ xs.length) :
    (part t ((pre ++ xs).map intV).toArray pre.length).run P w = .ok (valT P t (xs.take n)) w := by
  cases d with
  | zero => simp [intsT] at h
  | succ d =>
  unfold intsT at h
  unfold part valT
  split at h
  · rename_i hu
    cases h
    rw [Sem.run_bind, run_isAgg hu, Result.andThen_ok, hu]
    simp only [aggD, Bool.false_eq_true, if_false]
    cases xs with
    | nil => simp at hx
    | cons x xs => simp
  · rename_i fs hu
    obtain ⟨i, hii, hsz⟩ := Option.map_eq_some_iff.1 hi
    rw [Sem.run_bind, run_isAgg hu, Result.andThen_ok, hu]
    simp only [aggD, if_true, Sem.run_bind, run_sizeOf' hii, Result.andThen_ok, hsz, Sem.run_pure]
    congr 2
    apply Array.ext'
    simp [Array.toList_extract, List.extract, List.drop_append, List.map_take]
  · cases h

theorem eqI : ∀ (d D n : Nat) (t : TypeId) (xs ys : List Int), d ≤ D → intsT P d t = some n → xs.length = n → ys.length = n → (Op.equalIn D t (valT P t xs) (valT P t ys)).run P w = .ok (decide (xs = ys)) w
  | 0, _, _, _, _, _, _, h, _, _ => by simp [intsT] at h
  | d + 1, 0, _, _, _, _, hD, _, _, _ => by omega
  | d + 1, D + 1, n, t, xs, ys, hD, h, hx, hy => by
    unfold intsT at h
    split at h
    · rename_i hu
      cases h
      unfold valT
      rw [hu]
      match xs, hx, ys, hy with
      | [x], _, [y], _ =>
        simp only [List.headD_cons, intV]
        rw [run_equalIn_int w D t .i64 .i64 x y hu]
        congr 1
        by_cases hxy : x = y <;> simp [hxy]
    · rename_i fs hu
      split at h
      · cases h
      rename_i hst
      unfold valT
      rw [hu]
      have hfo : P.fieldsOf t = fs := by simp [Program.fieldsOf, hu]
      rw [run_equalIn_struct w D t _ _ (by rw [hfo]; exact hu) (by simpa using hst), hfo]
      have go : ∀ (fs : List Field) (pre pre' xs ys : List Int), pre.length = pre'.length → intsF P (intsT P d) pre.length fs = some n → pre.length + xs.length = n → pre.length + ys.length = n →
          (Op.eqFields D ((pre ++ xs).map intV).toArray ((pre' ++ ys).map intV).toArray fs).run P w = .ok (decide (xs = ys)) w := by
        intro fs
        induction fs with
        | nil =>
          intro pre pre' xs ys hp hf hx hy
          simp only [intsF, Option.some.injEq] at hf
          have e1 : xs = [] := List.length_eq_zero_iff.1 (by omega)
          have e2 : ys = [] := List.length_eq_zero_iff.1 (by omega)
          simp [Op.eqFields, e1, e2]
        | cons f fs ih =>
          intro pre pre' xs ys hp hf hx hy
          unfold intsF at hf
          split at hf <;> try (cases hf; done)
          rename_i hof
          obtain ⟨hof, hnm⟩ := hof
          split at hf <;> try (cases hf; done)
          rename_i k hk
          split at hf <;> try (cases hf; done)
          rename_i hsz
          have hkn : pre.length + k ≤ n := by
            have mono : ∀ (fs : List Field) (o n : Nat), intsF P (intsT P d) o fs = some n → o ≤ n := by
              intro fs
              induction fs with
              | nil => intro o n h; simp only [intsF, Option.some.injEq] at h; omega
              | cons f fs ih =>
                intro o n h
                unfold intsF at h
                split at h <;> try (cases h; done)
                split at h <;> try (cases h; done)
                split at h <;> try (cases h; done)
                have := ih _ _ h
                omega
            exact mono _ _ _ hf
          have p1 := part_int (w := w) (pre := pre) (xs := xs) hk hsz (by omega)
          have p2 := part_int (w := w) (pre := pre') (xs := ys) hk hsz (by omega)
          rw [← hof] at p1
          rw [← hp, ← hof] at p2
          have hq := eqI d D k f.type (xs.take k) (ys.take k) (by omega) hk (by simp; omega) (by simp; omega)
          have := ih (pre ++ xs.take k) (pre' ++ ys.take k) (xs.drop k) (ys.drop k) (by simp; omega) (by simpa [Nat.min_eq_left (show k ≤ xs.length by omega)] using hf) (by simp; omega) (by simp; omega)
          simp only [List.append_assoc, List.take_append_drop] at this
          simp only [Op.eqFields, hnm, ne_eq, not_false_eq_true, if_true, Sem.run_bind, p1, p2, Result.andThen_ok, hq]
          have hdec : decide (xs = ys) = (decide (xs.take k = ys.take k) && decide (xs.drop k = ys.drop k)) := by
            by_cases h : xs = ys
            · simp [h]
            · have : ¬ (xs.take k = ys.take k ∧ xs.drop k = ys.drop k) := fun ⟨a, b⟩ => h (by rw [← List.take_append_drop k xs, a, b, List.take_append_drop])
              simp only [h, decide_false]
              symm
              rw [Bool.and_eq_false_iff]
              by_cases h1 : xs.take k = ys.take k
              · right; simp only [decide_eq_false_iff_not]; exact fun e => this ⟨h1, e⟩
              · left; simp [h1]
          rw [hdec]
          by_cases h1 : xs.take k = ys.take k
          · simp only [h1, decide_true, Bool.not_true, Bool.false_eq_true, if_false, this, Bool.true_and]
          · simp [h1]
      exact go fs.toList [] [] xs ys rfl h (by simpa using hx) (by simpa using hy)
    · cases h

theorem checkI (em : Bool) : ∀ (d D n : Nat) (t : TypeId) (xs : List Int), d ≤ D → intsT P d t = some n → xs.length = n → (Instr.checkKey em D t (valT P t xs)).run P w = .ok () w
  | 0, _, _, _, _, _, h, _ => by simp [intsT] at h
  | d + 1, 0, _, _, _, hD, _, _ => by omega
  | d + 1, D + 1, n, t, xs, hD, h, hx => by
    unfold intsT at h
    split at h
    · rename_i hu
      cases h
      unfold valT
      rw [hu]
      simp [Instr.checkKey, run_underlying hu, intV]
    · rename_i fs hu
      split at h
      · cases h
      rename_i hst
      unfold valT
      rw [hu]
      simp only [Instr.checkKey, Sem.run_bind, run_underlying hu, Result.andThen_ok]
      rw [← Array.forIn_toList]
      have go : ∀ (fs : List Field) (pre xs : List Int), intsF P (intsT P d) pre.length fs = some n → pre.length + xs.length = n →
          (forIn (m := Sem) fs PUnit.unit fun f (_ : PUnit) => (if f.name ≠ "_" then do
              let a ← part f.type ((pre ++ xs).map intV).toArray f.offset
              Instr.checkKey em D f.type a
              pure (ForInStep.yield PUnit.unit)
            else pure (ForInStep.yield PUnit.unit))).run P w = .ok PUnit.unit w := by
        intro fs
        induction fs with
        | nil => intro pre xs _ _; simp
        | cons f fs ih =>
          intro pre xs hf hx
          unfold intsF at hf
          split at hf <;> try (cases hf; done)
          rename_i hof
          obtain ⟨hof, hnm⟩ := hof
          split at hf <;> try (cases hf; done)
          rename_i k hk
          split at hf <;> try (cases hf; done)
          rename_i hsz
          have hkn : pre.length + k ≤ n := by
            have mono : ∀ (fs : List Field) (o n : Nat), intsF P (intsT P d) o fs = some n → o ≤ n := by
              intro fs
              induction fs with
              | nil => intro o n h; simp only [intsF, Option.some.injEq] at h; omega
              | cons f fs ih =>
                intro o n h
                unfold intsF at h
                split at h <;> try (cases h; done)
                split at h <;> try (cases h; done)
                split at h <;> try (cases h; done)
                have := ih _ _ h
                omega
            exact mono _ _ _ hf
          have p1 := part_int (w := w) (pre := pre) (xs := xs) hk hsz (by omega)
          rw [← hof] at p1
          have hq := checkI em d D k f.type (xs.take k) (by omega) hk (by simp; omega)
          have := ih (pre ++ xs.take k) (xs.drop k) (by simpa [Nat.min_eq_left (show k ≤ xs.length by omega)] using hf) (by simp; omega)
          simp only [List.append_assoc, List.take_append_drop] at this
          simp only [List.forIn_cons, hnm, ne_eq, not_false_eq_true, if_true, Sem.run_bind, p1, Result.andThen_ok, hq, Sem.run_pure]
          exact this
      have h' := go fs.toList [] xs h (by simpa using hx)
      simp at h' ⊢
      rw [h']
      rfl
    · cases h
end
end Go.Abs
