/-
  Functions that only compute: their contracts, and how a call meets them.
-/
import Derived.Test.YthglhccibdlccaaDoorE15
namespace Go.Abs

section
variable {P : Program} {H : Mem} {L : List LI} {σ : St} {w : World}

/-- A place that some row holds. -/
def inRow (L : List LI) (σ : St) (b o : Nat) : Prop := ∃ (i : Nat) (li : LI) (fz : Bool) (e : TypeId) (sz n : Nat) (cs : List A), L[i]? = some li ∧ σ[i]? = some (AObj.row fz e sz n cs) ∧ li.block = some b ∧ o < n * sz

open Classical in
/-- The persistent memory with all rows in it. -/
noncomputable def hAll (H : Mem) (L : List LI) (σ : St) (w : World) : Mem := fun b o => match H b o with
  | some v => some v
  | none => if inRow L σ b o then w.cell? ⟨b, o, none⟩ else none

theorem hAll_le : HLe H (hAll H L σ w) := fun b o v h => by simp [hAll, h]

theorem hAll_inv {b o : Nat} {v : Value} (h : hAll H L σ w b o = some v) : H b o = some v ∨ (inRow L σ b o ∧ w.cell? ⟨b, o, none⟩ = some v) := by
  unfold hAll at h
  split at h
  · rename_i u hu; cases h; exact .inl hu
  · split at h
    · rename_i hr; exact .inr ⟨hr, h⟩
    · cases h

theorem hAll_pers (hs : RelSt H L σ w) : ∀ b o v, hAll H L σ w b o = some v → w.cell? ⟨b, o, none⟩ = some v := fun b o v h =>
  (hAll_inv h).elim (hs.pers b o v) fun h => h.2

theorem hAll_frozen (hs : RelSt H L σ w) : Frozen (hAll H L σ w) L σ w := by
  intro i li fz e sz n cs hL hσ b hb
  have hob := hs.obj i li _ hL hσ
  simp only [RelObj] at hob
  obtain ⟨_, hln, hcl, hob⟩ := hob
  rcases hob with ⟨h0, _⟩ | ⟨b', cur, hb', hh, k1, k2, k3, k4, k5, k6⟩
  · rw [hb] at h0; cases h0
  · rw [hb] at hb'
    cases hb'
    refine ⟨cur, hh, k1, k2, RelL.mono hAll_le (LLe.refl _) _ k4, k5, fun j u hu => ?_⟩
    have hj : j < n * sz := by
      rw [List.getElem?_take] at hu
      split at hu
      · assumption
      · cases hu
    have hc : w.cell? ⟨b, j, none⟩ = some u := by
      rw [cell_of_row w b j cur e (0, 0) hh]
      rw [List.getElem?_take, if_pos hj] at hu
      simpa using hu
    simp only [Nat.zero_add]
    unfold hAll
    split
    · rename_i v hv
      have := hs.pers b j v hv
      rw [hc] at this
      exact this.symm
    · rw [if_pos ⟨i, li, fz, e, sz, n, cs, hL, hσ, hb, hj⟩]
      exact hc

theorem rows_len (hs : RelSt H L σ w) : ∀ (i : Nat) l fz e sz n cs, L[i]? = some l → σ[i]? = some (.row fz e sz n cs) → l.len = n ∧ cs.length = n * sz ∧ (l.block = none → n = 0) := by
  intro i l fz e sz n cs hL hσ
  have hob := hs.obj i l _ hL hσ
  simp only [RelObj] at hob
  refine ⟨hob.2.1, hob.2.2.1, fun hb => ?_⟩
  rcases hob.2.2.2 with ⟨_, h0⟩ | ⟨b, cur, hb', _⟩
  · exact h0
  · rw [hb] at hb'; cases hb'

/-- The contract of a function that only computes. -/
def Pure (P : Program) (f : FuncId) (args : List A) (r : A) : Prop :=
  CallA P f args [] fun o σ' => ∃ r', o = .ret r' ∧ nrm σ' r' = r ∧ r.bnd 0 = true

theorem CallA.mono {f : FuncId} {args : List A} {Q Q' : Out → St → Prop} (h : CallA P f args σ Q) (hq : ∀ o σ', Q o σ' → Q' o σ') : CallA P f args σ Q' := fun H L w vs h1 h2 =>
  (h H L w vs h1 h2).mono fun _ _ ⟨o, σ', H', L', g1, g2, g3⟩ => ⟨o, σ', H', L', g1, g2, hq _ _ g3⟩

theorem CallA.args {f : FuncId} {args args' : List A} {Q : Out → St → Prop} (h : CallA P f args' σ Q) (he : nrm0L args = args') : CallA P f args σ Q := fun H L w vs h1 h2 =>
  h H L w vs h1 (he ▸ RelL.nrm0 args h2)

theorem RelSt.forget (hs : RelSt H L σ w) : RelSt H [] [] w :=
  ⟨hs.pers, rfl, fun i l o h => by simp at h, fun i j l l' b h => by simp at h, fun i l b h => by simp at h⟩

/-- A call of such a function, whatever the state. -/
theorem Pure.call {f : FuncId} {args : List A} {r : A} (h : Pure P f args r) (hb : bndL 0 args = true) : CallA P f args σ fun o σ' => o = .ret r ∧ σ' = σ := by
  intro H L w vs hs ha
  refine (h H [] w vs hs.forget (RelL.levels (k := 0) (fun l hl => by omega) args hb ha)).mono fun e w' hh => ?_
  obtain ⟨o, σ', H', L', g1, g2, r', rfl, hr, hrb⟩ := hh
  obtain ⟨v, rfl, hv⟩ := g1
  have hO : ∀ b, ¬ ownS ([] : List LI) b := fun b ⟨i, l, hi, _⟩ => by simp at hi
  have hnew : ∀ b, ownS L' b → w.heap.size ≤ b := fun b hb => (g2.own b hb).elim (fun h => (hO b h).elim) id
  have hle : HLe H (hAll H' L' σ' w') := g2.step.hle.trans hAll_le
  have hkeep : ∀ k, k < w.heap.size → w'.heap[k]? = w.heap[k]? := fun k hk => g2.step.keep k hk (hO k)
  have hold : ∀ b o v, hAll H' L' σ' w' b o = some v → H b o = some v ∨ w.heap.size ≤ b := by
    intro b o v hv
    rcases hAll_inv hv with h1 | ⟨⟨i, li, _, _, _, _, _, hL, _, hb, _⟩, _⟩
    · rcases g2.step.hnew b o v h1 with h2 | h2 | h2
      · exact .inl h2
      · exact (hO b h2).elim
      · exact .inr h2
    · exact .inr (hnew b ⟨i, li, hL, hb⟩)
  have hrel : Rel (hAll H' L' σ' w') L' r v := by
    have := Rel.nrm (rows_len g2.st) (hAll_frozen g2.st) r' (Rel.mono hAll_le (LLe.refl _) r' hv)
    rwa [hr] at this
  refine ⟨.ret r, σ, hAll H' L' σ' w', L, ⟨v, rfl, Rel.levels (k := 0) (fun l hl => by omega) r hrb hrel⟩, ⟨⟨hAll_pers g2.st, hs.len, fun i l o hL hσ => ?_, hs.inj, fun i l b hL hb => ?_⟩,
    ⟨g2.step.os, g2.step.tape, g2.step.output, g2.step.size, fun k hk _ => hkeep k hk, hle, fun b o v hv => (hold b o v hv).imp id .inr, g2.step.drawn, g2.step.dfr⟩, LLe.refl _, fun b hb => .inl hb⟩, rfl, rfl⟩
  · refine (hs.obj i l o hL hσ).carry (fun b hb => hkeep b (hs.lt i l b hL hb)) hle (LLe.refl _) (fun b hb o' => ?_)
    have hlt := hs.lt i l b hL hb
    cases h1 : H b o' with
    | some v => exact hle _ _ _ h1
    | none =>
      cases h2 : hAll H' L' σ' w' b o' with
      | none => rfl
      | some v =>
        rcases hold b o' v h2 with h3 | h3
        · rw [h1] at h3; cases h3
        · omega
  · exact Nat.lt_of_lt_of_le (hs.lt i l b hL hb) g2.step.size

/-- A call, in a walk. -/
theorem call_pure {f : FuncId} {args args' : List A} {r : A} (h : Pure P f args r) (ha : nrm0L args' = args) (hb : bndL 0 args = true) {Q : Out → St → Prop} (hq : Q (.ret r) σ) : CallA P f args' σ Q :=
  ((h.call (σ := σ) hb).mono fun o σ' ⟨h1, h2⟩ => by rw [h1, h2]; exact hq).args ha

/-- The same in a region that draws. -/
theorem call_draw {f : FuncId} {args args' : List A} {r : A} (h : Pure P f args r) (ha : nrm0L args' = args) (hb : bndL 0 args = true) : CallA P f args' σ fun o σ' => o = .ret r ∧ σ' = σ :=
  (h.call hb).args ha

/-- The contract, out of a walk. -/
theorem pure_of_wp {f : FuncId} {fn : Func} {c : Code} {k : K} {rs : List RS} (hf : P.funcs[f]? = some fn) (hb : fn.body = some c) (hc : compile P fn.ntmps c = some k.erase) (hr : slotsOf P fn.results.toList = some rs)
    {args : List A} {r : A} (h : wpF P k rs args [] fun o σ' => ∃ r', o = .ret r' ∧ nrm σ' r' = r ∧ r.bnd 0 = true) : Pure P f args r := callA_of_wp hf hb hc hr h

/-- What a value stands for can be seen in another way. -/
theorem Weak.sub {n0 : Nat} {env env' : Env} (h : ∀ t, env' t = env t ∨ env' t = nrm0 (env t)) : Weak n0 env' σ env σ := by
  intro H0 L0 w0 H L w N tmps _ h1 h2
  refine ⟨H, L, h1, h2.1, fun t => ?_⟩
  rcases h t with h | h
  · rw [h]; exact h2.2 t
  · rw [h]; exact Rel.nrm0 _ (h2.2 t)

end
end Go.Abs
