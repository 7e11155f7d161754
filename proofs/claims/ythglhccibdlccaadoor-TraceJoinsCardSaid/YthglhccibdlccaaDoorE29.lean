/-
  Tables of the evaluator; results in their plain form.
-/
import Derived.Test.YthglhccibdlccaaDoorE25
namespace Go.Abs
section
variable {P : Program}
theorem tab_nil : ∀ f e, findE f [] = some e → EntryOk P f e := fun f e h => by cases h
theorem tab_cons {f0 : Nat} {e0 : Entry} {T : List (Nat × Entry)} (h0 : EntryOk P f0 e0) (hT : ∀ f e, findE f T = some e → EntryOk P f e) : ∀ f e, findE f ((f0, e0) :: T) = some e → EntryOk P f e := fun f e h => by
  simp only [findE] at h
  cases hb : Nat.beq f f0
  · rw [hb] at h; exact hT f e h
  · rw [hb] at h
    cases h
    rw [Nat.eq_of_beq_eq_true hb]
    exact h0
def noOrc : Run := fun _ _ _ => none
theorem noOrc_ok : CallsOk P noOrc := fun f xs σ r σ' h => by cases h
theorem ret_nrm0 {f : FuncId} {xs : List A} {σ σ' : St} {r : A} (h : Ret P f xs σ r σ') : Ret P f xs σ (nrm0 r) σ' := fun H L w vs hs ha => (h H L w vs hs ha).mono fun e w' hh => by
  obtain ⟨o, τ, H', L', ho, hn, rfl, rfl⟩ := hh
  obtain ⟨v, rfl, hv⟩ := ho
  exact ⟨.ret (nrm0 r), _, H', L', ⟨v, rfl, Rel.nrm0 _ hv⟩, hn, rfl, rfl⟩
/-- A run of the evaluator, its result in plain form. -/
def runPl (T : List (Nat × Entry)) (orc : Run) (lf n : Nat) (f : FuncId) (xs : List A) (σ : St) : Option (A × St) := match runF T orc lf n f xs σ with
  | some (r, σ') => some (nrm0 r, σ')
  | none => none
theorem runPl_ok {T : List (Nat × Entry)} {orc : Run} {lf n : Nat} (hT : ∀ f e, findE f T = some e → EntryOk P f e) (hO : CallsOk P orc) {f : FuncId} {xs : List A} {σ σ' : St} {r : A} (h : runPl T orc lf n f xs σ = some (r, σ')) : Ret P f xs σ r σ' := by
  unfold runPl at h
  split at h
  · rename_i r0 τ h0
    cases h
    exact ret_nrm0 (runF_ok hT hO n _ _ _ _ _ h0).2
  · cases h

/-! ### Known calls -/
def idV : Value → Value → Bool
  | .int .i64 a, .int .i64 b => decide (a = b)
  | .bool a, .bool b => a == b
  | .string a, .string b => decide (a = b)
  | _, _ => false
theorem idV_sound {a b : Value} (h : idV a b = true) : a = b := by
  unfold idV at h
  split at h
  · rw [of_decide_eq_true h]
  · rw [eq_of_beq h]
  · rw [of_decide_eq_true h]
  · cases h
mutual
def idA : A → A → Bool
  | .nil, .nil => true
  | .lit a, .lit b => idV a b
  | .agg a, .agg b => idL a b
  | .sl n a, .sl m b => Nat.beq n m && idL a b
  | _, _ => false
def idL : List A → List A → Bool
  | [], [] => true
  | a :: l, b :: l' => idA a b && idL l l'
  | _, _ => false
end
mutual
theorem idA_sound : ∀ {a b : A}, idA a b = true → a = b := by
  intro a b h
  cases a <;> cases b <;> first | rfl | (simp [idA] at h; done) | skip
  case lit.lit => simp only [idA] at h; rw [idV_sound h]
  case agg.agg => simp only [idA] at h; rw [idL_sound h]
  case sl.sl =>
    simp only [idA] at h
    rw [Bool.and_eq_true] at h
    rw [Nat.eq_of_beq_eq_true h.1, idL_sound h.2]
theorem idL_sound : ∀ {a b : List A}, idL a b = true → a = b := by
  intro a b h
  cases a <;> cases b <;> first | rfl | (simp [idL] at h; done) | skip
  · simp only [idL] at h
    rw [Bool.and_eq_true] at h
    rw [idA_sound h.1, idL_sound h.2]
end
theorem relL_nrm0 {H : Mem} {L : List LI} : ∀ {xs : List A} {vs : List Value}, RelL H L xs vs → RelL H L (nrm0L xs) vs
  | [], vs, h => by simpa [nrm0L] using h
  | x :: xs, vs, h => by
    obtain ⟨u, us, rfl, h1, h2⟩ := relL_cons_inv h
    simp only [nrm0L]
    exact relL_cons (Rel.nrm0 _ h1) (relL_nrm0 h2)
/-- Contracts at given arguments. -/
def orcT : List (Nat × List A × A) → Run
  | [], _, _, _ => none
  | (g, ys, r) :: T, f, xs, σ => match Nat.beq f g && idL (nrm0L xs) ys, σ with
    | true, [] => some (r, [])
    | _, _ => orcT T f xs σ
theorem orcT_ok : ∀ {T : List (Nat × List A × A)}, (∀ p ∈ T, callable P p.1 = true ∧ Ret P p.1 p.2.1 [] p.2.2 []) → CallsOk P (orcT T)
  | [], _ => fun f xs σ r σ' h => by cases h
  | (g, ys, r0) :: T, hT => fun f xs σ r σ' h => by
    simp only [orcT] at h
    split at h
    · rename_i hb
      cases h
      rw [Bool.and_eq_true] at hb
      obtain ⟨h1, h2⟩ := hT _ (List.mem_cons_self ..)
      rw [Nat.eq_of_beq_eq_true hb.1]
      refine ⟨h1, fun H L w vs hs ha => h2 H L w vs hs ?_⟩
      have := relL_nrm0 ha
      rw [idL_sound hb.2] at this
      exact this
    · exact orcT_ok (fun p hp => hT p (List.mem_cons_of_mem _ hp)) _ _ _ _ _ h
/-- Either oracle. -/
def orE (a b : Run) : Run := fun f xs σ => match a f xs σ with
  | some r => some r
  | none => b f xs σ
theorem orE_ok {a b : Run} (ha : CallsOk P a) (hb : CallsOk P b) : CallsOk P (orE a b) := fun f xs σ r σ' h => by
  unfold orE at h
  split at h
  · rename_i hx
    cases h
    exact ha _ _ _ _ _ hx
  · exact hb _ _ _ _ _ h
end
end Go.Abs
