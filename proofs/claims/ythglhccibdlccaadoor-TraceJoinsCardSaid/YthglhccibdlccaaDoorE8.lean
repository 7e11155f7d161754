/-
  How the state goes on when a box or a row is written, and when a row grows.
-/
import Derived.Test.YthglhccibdlccaaDoorE7
namespace Go.Abs

section
variable {P : Program} {H : Mem} {L : List LI} {σ : St} {w : World} {N : Nat} {env : Env} {a : Act}

/-- A block of an object that is owned has turned, and nothing else; the object reads anew. -/
theorem nxt_set (hs : RelSt H L σ w) {l : Nat} {li : LI} {b : Nat} {o : AObj} {H' : Mem} {w' : World} (hl : L[l]? = some li) (hb : li.block = some b)
    (hos : w'.os = w.os) (htape : w'.tape = w.tape) (hout : w'.output = w.output) (hdr : w'.drawn = w.drawn) (hnd : ∀ d, w.heap[b]? ≠ some (.deferred d)) (hsz : w'.heap.size = w.heap.size) (hkeep : ∀ k, k ≠ b → w'.heap[k]? = w.heap[k]?)
    (hle : HLe H H') (hnew : ∀ b' o' v, H' b' o' = some v → H b' o' = some v ∨ b' = b) (hpers : ∀ o' v, H' b o' = some v → w'.cell? ⟨b, o', none⟩ = some v)
    (ho : RelObj H' L w' li o) : Nxt H L w H' L (σ.set l o) w' := by
  have hne : ∀ (i : Nat) l' b', L[i]? = some l' → l'.block = some b' → i ≠ l → b' ≠ b := fun i l' b' h1 h2 hi e => hi (hs.inj i l l' li b' h1 hl h2 (by rw [hb, e]))
  refine ⟨⟨fun b' o' v hv => ?_, by simp [hs.len], fun i l' o' hL hσ => ?_, hs.inj, fun i l' b' h1 h2 => by rw [hsz]; exact hs.lt i l' b' h1 h2⟩,
    ⟨hos, htape, hout, by rw [hsz]; exact Nat.le_refl _, fun k _ hk => hkeep k (fun e => hk ⟨l, li, hl, by rw [hb, e]⟩), hle, fun b' o' v hv => ?_, by rw [hdr]; exact Nat.le_refl _, dfr_keep hkeep hnd⟩, LLe.refl _, fun _ h => .inl h⟩
  · by_cases hbb : b' = b
    · subst hbb; exact hpers o' v hv
    · rcases hnew b' o' v hv with h1 | h1
      · have := hs.pers b' o' v h1
        simp only [World.cell?] at this ⊢
        rw [hkeep b' hbb]
        exact this
      · exact (hbb h1).elim
  · by_cases hi : i = l
    · subst hi
      rw [hl] at hL
      cases hL
      rw [List.getElem?_set_self (by rw [← hs.len]; exact (List.getElem?_eq_some_iff.1 hl).1)] at hσ
      cases hσ
      exact ho
    · rw [List.getElem?_set_ne (Ne.symm hi)] at hσ
      refine (hs.obj i l' o' hL hσ).carry (fun b' hb' => hkeep b' (hne i l' b' hL hb' hi)) hle (LLe.refl _) (fun b' hb' o'' => ?_)
      have hbne := hne i l' b' hL hb' hi
      cases h1 : H b' o'' with
      | some v => exact hle _ _ _ h1
      | none =>
        cases h2 : H' b' o'' with
        | none => rfl
        | some v =>
          rcases hnew b' o'' v h2 with h3 | h3
          · rw [h1] at h3; cases h3
          · exact (hbne h3).elim
  · rcases hnew b' o' v hv with h1 | h1
    · exact .inl h1
    · exact .inr (.inl ⟨l, li, hl, by rw [hb, h1]⟩)

/-- What a store leaves. -/
def stA (σ : St) (cs : List A) : A → Option St
  | .ptr l off => match σ[l]? with
    | some (.box ds) => if off + cs.length ≤ ds.length then some (σ.set l (.box (ds.take off ++ cs ++ ds.drop (off + cs.length)))) else none
    | _ => none
  | .rwp l m off => match σ[l]? with
    | some (.row false e sz k ds) => if m = k ∧ off + cs.length ≤ ds.length then some (σ.set l (.row false e sz k (ds.take off ++ cs ++ ds.drop (off + cs.length)))) else none
    | _ => none
  | _ => none

theorem run_storeAt {t : TypeId} {i : TypeInfo} {x : Value} {b off : Nat} {e : TypeId} {cur : Array Value} (hi : P.info? t = some i) (hsz : x.cells.size = i.size) (h1 : ∀ u ∈ x.cells.toList, one u)
    (hh : w.heap[b]? = some (.cells cur e (0, 0))) (hfit : off + x.cells.size ≤ cur.size) :
    (Instr.storeAt t (.pointer (some ⟨b, off, none⟩)) x).run P w = .ok () (w.setRow b (cur.toList.take off ++ x.cells.toList ++ cur.toList.drop (off + x.cells.size)).toArray) := by
  have hst := run_storeCells_at P b off e x.cells.toList 0 cur w hh (by simpa using hfit) h1
  simp only [Nat.add_zero, Array.length_toList] at hst
  simp [Instr.storeAt, Instr.sureAddr, storeVar, run_sizeOf' hi, hsz, hst]

theorem st_sound {o : Oper} {t : TypeId} {x v : Operand} {i : TypeInfo} {cs : List A} {σ' : St} (ho : o.op = .store t x v) (hi : P.info? t = some i) (he : RelEnv H L N env a.tmps) (hs : RelSt H L σ w)
    (hc : cellsOf (ev env v) = some cs) (hn : cs.length = i.size) (hst : stA σ cs (ev env x) = some σ') :
    ∃ w', (execOp a.eval o).run P w = .ok .skip w' ∧ Nxt H L w H L σ' w' := by
  obtain ⟨g1, g2⟩ := rel_cellsOf (rel_ev he v) hc
  have hlen := g1.length
  have hx := rel_ev he x
  have hsz : (a.eval v).cells.size = i.size := by rw [← Array.length_toList, hlen, hn]
  have fin : ∀ b off e cur, a.eval x = .pointer (some ⟨b, off, none⟩) → w.heap[b]? = some (.cells cur e (0, 0)) → off + (a.eval v).cells.size ≤ cur.size →
      (execOp a.eval o).run P w = .ok .skip (w.setRow b (cur.toList.take off ++ (a.eval v).cells.toList ++ cur.toList.drop (off + (a.eval v).cells.size)).toArray) := by
    intro b off e cur hv hh hfit
    unfold execOp
    simp only [ho, hv, Sem.run_bind, run_storeAt hi hsz g2 hh hfit, Result.andThen_ok, Sem.run_pure]
  unfold stA at hst
  split at hst <;> try (cases hst; done)
  · rename_i l off hxe
    split at hst <;> try (cases hst; done)
    rename_i ds hds
    split at hst <;> try (cases hst; done)
    rename_i hfit
    cases hst
    rw [hxe] at hx
    simp only [Rel] at hx
    obtain ⟨li, b, e1, e2, e3, hv⟩ := hx
    have hob := hs.obj l li _ e1 hds
    simp only [RelObj] at hob
    obtain ⟨_, b', vs, e, hb', hh, hr, h1, hH⟩ := hob
    rw [e2] at hb'
    cases hb'
    have hvl := hr.length
    refine ⟨_, fin b off e _ hv hh (by simp only [List.size_toArray]; omega), ?_⟩
    refine nxt_set hs e1 e2 rfl rfl rfl rfl (fun d => by rw [hh]; simp) (by simp) (fun k hk => setRow_other w b k _ hk) (HLe.refl _) (fun _ _ _ h => .inl h) (fun o' v hv => by rw [hH] at hv; cases hv) ?_
    simp only [RelObj]
    refine ⟨e3, b, _, e, e2, setRow_heap w b _ _ e _ hh, ?_, ?_, hH⟩
    · rw [hsz, ← hn]
      exact ((hr.take off).append g1).append (hr.drop _)
    · intro u hu
      simp only [List.mem_append] at hu
      rcases hu with (hu | hu) | hu
      · exact h1 u (List.mem_of_mem_take hu)
      · exact g2 u hu
      · exact h1 u (List.mem_of_mem_drop hu)
  · rename_i l m off hxe
    split at hst <;> try (cases hst; done)
    rename_i e sz k ds hds
    split at hst <;> try (cases hst; done)
    rename_i hfit
    obtain ⟨rfl, hfit⟩ := hfit
    cases hst
    rw [hxe] at hx
    simp only [Rel] at hx
    obtain ⟨_, li, e1, e2, e3, hv⟩ := hx
    have hob := hs.obj l li _ e1 hds
    simp only [RelObj] at hob
    obtain ⟨_, hln, hcl, hob⟩ := hob
    obtain ⟨b, hb, hv⟩ := hv hln.symm
    rcases hob with ⟨h0, _⟩ | ⟨b', cur, hb', hh, k1, k2, k3, k4, k5, k6⟩
    · rw [hb] at h0; cases h0
    · rw [hb] at hb'
      cases hb'
      have hmc : m * sz ≤ cur.size := by rw [k3]; exact Nat.mul_le_mul_right _ k1
      have hcs : off + (a.eval v).cells.size ≤ cur.size := by rw [hsz, ← hn]; omega
      refine ⟨_, fin b off e _ hv hh hcs, ?_⟩
      refine nxt_set hs e1 hb rfl rfl rfl rfl (fun d => by rw [hh]; simp) (by simp) (fun k hk => setRow_other w b k _ hk) (HLe.refl _) (fun _ _ _ h => .inl h) (fun o' v hv => by rw [k6] at hv; cases hv) ?_
      have htake : (cur.toList.take off ++ (a.eval v).cells.toList ++ cur.toList.drop (off + (a.eval v).cells.size)).take (m * sz) =
          (cur.toList.take (m * sz)).take off ++ (a.eval v).cells.toList ++ (cur.toList.take (m * sz)).drop (off + (a.eval v).cells.size) := by
        have hl1 : (cur.toList.take off ++ (a.eval v).cells.toList).length = off + (a.eval v).cells.size := by simp; omega
        have hle2 : off + (a.eval v).cells.size ≤ m * sz := by rw [hsz, ← hn, ← hcl]; exact hfit
        rw [List.take_append, hl1, List.take_of_length_le (by rw [hl1]; exact hle2), List.take_take, Nat.min_eq_left (by omega), List.drop_take]
      simp only [RelObj]
      refine ⟨e2, hln, by simp; omega, .inr ⟨b, _, hb, setRow_heap w b _ _ e _ hh, k1, k2, by simp; omega, ?_, ?_, k6⟩⟩
      · rw [htake, hsz, ← hn]
        exact ((k4.take off).append g1).append (k4.drop _)
      · rw [htake]
        intro u hu
        simp only [List.mem_append] at hu
        rcases hu with (hu | hu) | hu
        · exact k5 u (List.mem_of_mem_take hu)
        · exact g2 u hu
        · exact k5 u (List.mem_of_mem_drop hu)

end
end Go.Abs
