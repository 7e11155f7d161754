/-
  Soundness of the operations that leave the state alone.
-/
import Derived.Test.YthglhccibdlccaaDoorE2
namespace Go.Abs

section
variable {P : Program} {H : Mem} {L : List LI} {σ : St} {w : World} {N : Nat} {env : Env} {a : Act}

theorem rel_ofCell (v : Value) : Rel H L (ofCell v) v := by
  unfold ofCell
  split <;> simp [Rel]

theorem relL_ofCell : ∀ (vs : List Value), RelL H L (vs.map ofCell) vs
  | [] => relL_nil
  | v :: vs => relL_cons (rel_ofCell v) (relL_ofCell vs)

theorem rel_ofConst (v : Value) : Rel H L (ofConst v) v := by
  unfold ofConst
  split
  · rename_i cs
    split
    · rename_i h
      simp only [Rel]
      exact ⟨cs.toList, by simp, relL_ofCell _, fun u hu => by simp only [okCells, List.all_eq_true] at h; exact h u hu⟩
    · simp [Rel]
  · exact rel_ofCell v

theorem rel_ev (he : RelEnv H L N env a.tmps) (x : Operand) : Rel H L (ev env x) (a.eval x) := by
  cases x with
  | tmp t => exact he.2 t
  | const v => exact rel_ofConst v
  | global g => simp [ev, Rel]
  | func f => simp only [ev, Rel, Act.eval]; exact ⟨[], [], rfl, relL_nil, relL_nil⟩

theorem one_agg {cs : Array Value} (h : one (.agg cs)) : False := by simp [one, Value.oneCell'] at h
theorem one_tuple {cs : Array Value} (h : one (.tuple cs)) : False := by simp [one, Value.oneCell'] at h

theorem cells_of_one {v : Value} (h : one v) : v.cells.toList = [v] := by
  cases v <;> first | rfl | (exact (one_agg h).elim)

theorem rel_cellsOf {x : A} {v : Value} {cs : List A} (h : Rel H L x v) (hc : cellsOf x = some cs) : RelL H L cs v.cells.toList ∧ ∀ u ∈ v.cells.toList, one u := by
  have sing : ∀ {x : A} {v : Value}, Rel H L x v → one v → some [x] = some cs → RelL H L cs v.cells.toList ∧ ∀ u ∈ v.cells.toList, one u := by
    intro x v hx ho hs
    rw [cells_of_one ho]
    cases hs
    exact ⟨relL_cons hx relL_nil, by simpa using ho⟩
  cases x <;> simp only [cellsOf] at hc <;> try (cases hc; done)
  case nil => exact sing h (by simp only [Rel] at h; subst h; rfl) hc
  case lit u =>
    split at hc
    · rename_i ho; exact sing h (by simp only [Rel] at h; subst h; exact ho) hc
    · cases hc
  case agg ds =>
    simp only [Option.some.injEq] at hc
    subst hc
    simp only [Rel] at h
    obtain ⟨vs, rfl, h1, h2⟩ := h
    simpa [Value.cells] using ⟨h1, h2⟩
  case sl n ds => exact sing h (by simp only [Rel] at h; obtain ⟨_, _, rfl, _⟩ := h; rfl) hc
  case fsl n ds => exact sing h (by simp only [Rel] at h; obtain ⟨_, rfl, _⟩ := h; rfl) hc
  case ptr l o => exact sing h (by simp only [Rel] at h; obtain ⟨_, _, _, _, _, rfl⟩ := h; rfl) hc
  case rptr ds => exact sing h (by simp only [Rel] at h; obtain ⟨_, _, _, rfl, _⟩ := h; rfl) hc
  case row l n => exact sing h (by simp only [Rel] at h; exact h.1) hc
  case rwp l n o => exact sing h (by simp only [Rel] at h; exact h.1) hc
  case win l n o k c => exact sing h (by simp only [Rel] at h; exact h.1) hc
  case map l => exact sing h (by simp only [Rel] at h; obtain ⟨_, _, _, _, _, rfl⟩ := h; rfl) hc
  case clo f fs cs' => exact sing h (by simp only [Rel] at h; obtain ⟨_, _, rfl, _⟩ := h; rfl) hc

/-! ### Loads -/

theorem run_isAgg {t : TypeId} {u : TypeDesc} (hu : P.underlying t = some u) : (isAgg t).run P w = .ok (aggD u) w := by
  unfold isAgg
  rw [Sem.run_bind, run_underlying hu, Result.andThen_ok]
  cases u <;> rfl

theorem run_sizeOf' {t : TypeId} {i : TypeInfo} (hi : P.info? t = some i) : (sizeOf t).run P w = .ok i.size w := by
  simp [sizeOf, typeInfo, hi]

theorem run_loadVar {t : TypeId} {u : TypeDesc} {i : TypeInfo} (hu : P.underlying t = some u) (hi : P.info? t = some i) {b o : Nat} {us : List Value}
    (hc : ∀ j v, us[j]? = some v → w.cell? ⟨b, o + j, none⟩ = some v) (hl : us.length = i.size) {r : A} {cs : List A} (hr : RelL H L cs us) (h1 : ∀ u ∈ us, one u)
    (hp : packA (aggD u) cs = some r) : ∃ v, (loadVar t ⟨b, o, none⟩).run P w = .ok v w ∧ Rel H L r v := by
  unfold loadVar
  rw [Sem.run_bind, run_isAgg hu, Result.andThen_ok]
  cases hag : aggD u with
  | true =>
    rw [hag] at hp
    simp only [packA, Option.some.injEq] at hp
    subst hp
    refine ⟨.agg us.toArray, ?_, ?_⟩
    · simp only [if_true, Sem.run_bind, run_sizeOf' hi, Result.andThen_ok, ← hl]
      rw [run_loadCells_list w ⟨b, o, none⟩ us (fun j v hv => by rw [Addr.add_lit]; exact hc j v hv)]
      rfl
    · simp only [Rel]; exact ⟨us, rfl, hr, h1⟩
  | false =>
    rw [hag] at hp
    cases cs with
    | nil => simp [packA] at hp
    | cons c cs =>
      cases cs with
      | cons c' cs => simp [packA] at hp
      | nil =>
        simp only [packA, Option.some.injEq] at hp
        subst hp
        obtain ⟨u', us', rfl, h2, h3⟩ := relL_cons_inv hr
        have h4 := relL_nil_inv h3
        subst h4
        refine ⟨u', ?_, h2⟩
        have := hc 0 u' (by simp)
        simp only [Nat.add_zero] at this
        simp [this]

theorem sub_rel {cs cs' : List A} {us : List Value} {off n : Nat} (h : sub cs off n = some cs') (hr : RelL H L cs us) :
    RelL H L cs' ((us.drop off).take n) ∧ ((us.drop off).take n).length = n := by
  unfold sub at h
  split at h
  · cases h
    refine ⟨(hr.drop off).take n, ?_⟩
    have := hr.length
    simp only [List.length_take, List.length_drop]
    omega
  · cases h

theorem get_take_drop {α : Type} {us : List α} {off n j : Nat} {v : α} (h : ((us.drop off).take n)[j]? = some v) : us[off + j]? = some v := by
  rw [List.getElem?_take] at h
  split at h
  · rwa [List.getElem?_drop] at h
  · cases h

theorem mem_take_drop {α : Type} {us : List α} {off n : Nat} {p : α → Prop} (h : ∀ u ∈ us, p u) : ∀ u ∈ (us.drop off).take n, p u :=
  fun u hu => h u (List.mem_of_mem_drop (List.mem_of_mem_take hu))

/-- What a pointer that can be loaded from leads to. -/
theorem ldA_cells (hs : RelSt H L σ w) {x : A} {v : Value} {n : Nat} {cs : List A} (hx : Rel H L x v) (hl : ldA σ n x = some cs) :
    ∃ b o, ∃ us : List Value, v = .pointer (some ⟨b, o, none⟩) ∧ RelL H L cs us ∧ us.length = n ∧ (∀ u ∈ us, one u) ∧ ∀ j u, us[j]? = some u → w.cell? ⟨b, o + j, none⟩ = some u := by
  cases x <;> simp only [ldA] at hl <;> try (cases hl; done)
  case rptr ds =>
    simp only [Rel] at hx
    obtain ⟨b, o, us, rfl, h1, h2, h3⟩ := hx
    obtain ⟨h4, h5⟩ := sub_rel hl h1
    refine ⟨b, o, _, rfl, h4, h5, mem_take_drop h2, fun j u hu => ?_⟩
    have := get_take_drop hu
    simp only [Nat.zero_add] at this
    exact hs.pers _ _ _ (h3 j u this)
  case ptr l off =>
    simp only [Rel] at hx
    obtain ⟨li, b, e1, e2, e3, rfl⟩ := hx
    split at hl <;> try (cases hl; done)
    rename_i ds hds
    have ho := hs.obj l li _ e1 hds
    simp only [RelObj] at ho
    obtain ⟨_, b', vs, e, hb', hh, hr, h1, _⟩ := ho
    rw [e2] at hb'
    cases hb'
    obtain ⟨h4, h5⟩ := sub_rel hl hr
    refine ⟨b, off, _, rfl, h4, h5, mem_take_drop h1, fun j u hu => ?_⟩
    rw [cell_of_row w b _ _ _ _ hh]
    simpa using get_take_drop hu
  case rwp l m off =>
    simp only [Rel] at hx
    obtain ⟨_, li, e1, e2, e3, e4⟩ := hx
    split at hl <;> try (cases hl; done)
    rename_i fz e sz k ds hds
    split at hl <;> try (cases hl; done)
    rename_i hk
    subst hk
    have ho := hs.obj l li _ e1 hds
    simp only [RelObj] at ho
    obtain ⟨_, hlen, _, ho⟩ := ho
    obtain ⟨b, hb, rfl⟩ := e4 hlen.symm
    rcases ho with ⟨h0, _⟩ | ⟨b', cur, hb', hh, _, _, _, hr, h1, _⟩
    · rw [hb] at h0; cases h0
    · rw [hb] at hb'
      cases hb'
      obtain ⟨h4, h5⟩ := sub_rel hl hr
      refine ⟨b, off, _, rfl, h4, h5, mem_take_drop h1, fun j u hu => ?_⟩
      rw [cell_of_row w b _ _ _ _ hh]
      have := get_take_drop hu
      rw [List.getElem?_take] at this
      split at this
      · simpa using this
      · cases this

end
end Go.Abs
