/-
  Calls in regions that draw: of functions that work on objects of the caller's, and beside growing operations.
-/
import Derived.Test.YthglhccibdlccaaDoorE20
namespace Go.Abs

section
variable {P : Program} {KD : Env → Prop} {env : Env} {σ : St} {d : Option Nat}

/-- Beside growing operations: a function that only computes. -/
theorem dcallF0 {f : FuncId} {args args' : List A} {r : A} (h : Ret P f args [] r []) (ha : argOk [] args' args) (hr : ∀ m, vw anyRow (fun l => some (m + l)) r = r) (hq : KD (env.put d r)) : wpDcallF P σ d KD f args' env := by
  refine ⟨r, fun τ _ => call_emb h [] (by simp) trivial ha ?_, hq⟩
  have : ren [] τ.length r = r := by
    have := hr τ.length
    simpa [ren] using this
  rw [this]
  simp

/-- The objects of the caller's that a function works on, and leaves as they are: boxes. -/
def sameAt (σ : St) (js : List Nat) : List Nat → St → Prop
  | [], [] => True
  | j :: ks, o :: os => (objAt σ[j]? fun p => (∃ cs, p = .box cs) ∧ (∀ n, renO js n o = p) ∧ (o = vwO anyRow (posOf js) p ∨ o = nrmO (vwO anyRow (posOf js) p))) ∧ sameAt σ js ks os
  | _, _ => False
@[simp] theorem sameAt_nil {js : List Nat} : sameAt σ js [] [] := trivial
@[simp] theorem sameAt_cons {js ks : List Nat} {j : Nat} {o : AObj} {os : St} : sameAt σ js (j :: ks) (o :: os) = ((objAt σ[j]? fun p => (∃ cs, p = .box cs) ∧ (∀ n, renO js n o = p) ∧ (o = vwO anyRow (posOf js) p ∨ o = nrmO (vwO anyRow (posOf js) p))) ∧ sameAt σ js ks os) := rfl

theorem sameAt_mono {js : List Nat} {τ : St} (hk : Keeps σ τ) : ∀ {ks : List Nat} {os : St}, sameAt σ js ks os → sameAt τ js ks os
  | [], [], _ => trivial
  | j :: ks, o :: os, h => by
    obtain ⟨h1, h2⟩ := h
    refine ⟨?_, sameAt_mono hk h2⟩
    cases hj : σ[j]? with
    | none => rw [hj] at h1; exact h1.elim
    | some p =>
      rw [hj] at h1
      obtain ⟨⟨cs, rfl⟩, h3⟩ := h1
      rw [hk j cs hj]
      exact ⟨⟨cs, rfl⟩, h3⟩
  | [], _ :: _, h => h.elim
  | _ :: _, [], h => h.elim

theorem sameAt_sel {js : List Nat} : ∀ {ks : List Nat} {os : St}, sameAt σ js ks os → selOk σ anyRow (posOf js) ks os
  | [], [], _ => trivial
  | j :: ks, o :: os, h => by
    obtain ⟨h1, h2⟩ := h
    refine ⟨?_, sameAt_sel h2⟩
    cases hj : σ[j]? with
    | none => rw [hj] at h1; exact h1.elim
    | some p => rw [hj] at h1; exact h1.2.2
  | [], _ :: _, h => h.elim
  | _ :: _, [], h => h.elim

theorem sameAt_put {js : List Nat} {n : Nat} : ∀ {ks : List Nat} {os : St}, sameAt σ js ks os → putAll σ ks (os.map (renO js n)) = σ
  | [], [], _ => by simp
  | j :: ks, o :: os, h => by
    obtain ⟨h1, h2⟩ := h
    cases hj : σ[j]? with
    | none => rw [hj] at h1; exact h1.elim
    | some p =>
      rw [hj] at h1
      simp only [List.map_cons, putAll_cons]
      rw [h1.2.1 n, set_same hj]
      exact sameAt_put h2
  | [], _ :: _, h => h.elim
  | _ :: _, [], h => h.elim

theorem dcallJ {f : FuncId} {args args' : List A} {σ0 : St} {r : A} (h : Ret P f args σ0 r σ0) (js : List Nat) (hd : js.Nodup) (ho : sameAt σ js js σ0) (ha : argOk js args' args) (hr : ∀ n, ren js n r = r) (hq : KD (env.put d r)) :
    wpDcall P σ d KD f args' env := by
  refine ⟨r, call_emb h js hd (sameAt_sel ho) ha ?_, hq⟩
  rw [hr, sameAt_put ho]
  simp

theorem dcallJF {f : FuncId} {args args' : List A} {σ0 : St} {r : A} (h : Ret P f args σ0 r σ0) (js : List Nat) (hd : js.Nodup) (ho : sameAt σ js js σ0) (ha : argOk js args' args) (hr : ∀ n, ren js n r = r) (hq : KD (env.put d r)) :
    wpDcallF P σ d KD f args' env := by
  refine ⟨r, fun τ hk => call_emb h js hd (sameAt_sel (sameAt_mono hk ho)) ha ?_, hq⟩
  rw [hr, sameAt_put (sameAt_mono hk ho)]
  simp

end
end Go.Abs
