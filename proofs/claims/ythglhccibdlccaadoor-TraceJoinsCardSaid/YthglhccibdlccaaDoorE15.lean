/-
  Weakening a state; calls of functions that only compute.
-/
import Derived.Test.YthglhccibdlccaaDoorE14
namespace Go.Abs

section
variable {P : Program} {H : Mem} {L L' : List LI}

/-- Of a state only some slots and the first levels are kept. -/
theorem Weak.cut {n0 : Nat} {env : Env} {σ τ : St} (l : List (Nat × A)) (hn : n0 ≤ σ.length) (hl : ∀ p ∈ l, env p.1 = p.2) (hb : ∀ p ∈ l, p.2.bnd σ.length = true) (ho : ∀ o ∈ σ, o.bnd σ.length = true) :
    Weak n0 (mkEnv l) σ env (σ ++ τ) := by
  intro H0 L0 w0 H L w N tmps h0 h1 h2
  obtain ⟨L', k1, k2⟩ := nxt_cut (by omega) ho h1
  refine ⟨H, L', k1, h2.1, fun t => ?_⟩
  rcases mkEnv_mem l t with h | h
  · rw [h]; simp [Rel]
  · have := h2.2 t
    rw [hl _ h] at this
    exact k2 _ _ (hb _ h) this

/-- A variable that is nil becomes a row of its own. -/
theorem Weak.nilrow {n0 : Nat} {env : Env} {σ : St} (t : Nat) (e : TypeId) (sz : Nat) (ht : env t = .nil) : Weak n0 (env.put (some t) (.row σ.length 0)) (σ ++ [AObj.row false e sz 0 []]) env σ := by
  intro H0 L0 w0 H L w N tmps h0 h1 h2
  have hn := nxt_nilrow h1.st e sz
  refine ⟨H, _, h1.trans hn, h2.1, fun x => ?_⟩
  simp only [Env.put]
  split
  · rename_i hx
    subst hx
    have := h2.2 x
    rw [ht] at this
    simp only [Rel] at this ⊢
    rw [this]
    exact ⟨rfl, ⟨none, 0, 0, true⟩, by rw [← h1.st.len]; simp, rfl, Nat.le_refl _, fun _ => rfl⟩
  · exact Rel.mono (HLe.refl _) hn.lle _ (h2.2 x)

mutual
/-- nil and full slices are slices. -/
def nrm0 : A → A
  | .nil => .sl 0 []
  | .fsl n cs => .sl n (nrm0L cs)
  | .sl n cs => .sl n (nrm0L cs)
  | .agg cs => .agg (nrm0L cs)
  | .tup cs => .tup (nrm0L cs)
  | .rptr cs => .rptr (nrm0L cs)
  | .clo f fs cs => .clo f (nrm0L fs) (nrm0L cs)
  | .any => .any
  | .lit v => .lit v
  | .ptr l o => .ptr l o
  | .row l n => .row l n
  | .rwp l n o => .rwp l n o
  | .map l => .map l
  | .win l n o k c => .win l n o k c
def nrm0L : List A → List A
  | [] => []
  | c :: cs => nrm0 c :: nrm0L cs
end

mutual
theorem Rel.nrm0 : ∀ (a : A) {v : Value}, Rel H L a v → Rel H L (nrm0 a) v
  | .nil, v, h => by
    simp only [Rel, Abs.nrm0] at h ⊢
    exact ⟨none, 0, h, Nat.le_refl _, Nat.zero_le _, .inl (by simp)⟩
  | .fsl n cs, v, h => by
    simp only [Rel, Abs.nrm0] at h ⊢
    obtain ⟨a, rfl, h1, h3⟩ := h
    refine ⟨a, n, rfl, Nat.le_refl _, h1, ?_⟩
    rcases h3 with ⟨h3, rfl⟩ | ⟨b, o, us, rfl, h4, h5, h6⟩
    · exact .inl ⟨h3, by simp [nrm0L]⟩
    · exact .inr ⟨b, o, us, rfl, RelL.nrm0 cs h4, h5, h6⟩
  | .sl n cs, v, h => by
    simp only [Rel, Abs.nrm0] at h ⊢
    obtain ⟨a, cap, rfl, h1, h2, h3⟩ := h
    refine ⟨a, cap, rfl, h1, h2, ?_⟩
    rcases h3 with ⟨h3, rfl⟩ | ⟨b, o, us, rfl, h4, h5, h6⟩
    · exact .inl ⟨h3, by simp [nrm0L]⟩
    · exact .inr ⟨b, o, us, rfl, RelL.nrm0 cs h4, h5, h6⟩
  | .agg cs, v, h => by
    simp only [Rel, Abs.nrm0] at h ⊢
    obtain ⟨vs, rfl, h1, h2⟩ := h
    exact ⟨vs, rfl, RelL.nrm0 cs h1, h2⟩
  | .tup cs, v, h => by
    simp only [Rel, Abs.nrm0] at h ⊢
    obtain ⟨vs, rfl, h1⟩ := h
    exact ⟨vs, rfl, RelL.nrm0 cs h1⟩
  | .rptr cs, v, h => by
    simp only [Rel, Abs.nrm0] at h ⊢
    obtain ⟨b, o, us, rfl, h4, h5, h6⟩ := h
    exact ⟨b, o, us, rfl, RelL.nrm0 cs h4, h5, h6⟩
  | .clo f first cap, v, h => by
    simp only [Rel, Abs.nrm0] at h ⊢
    obtain ⟨fs, cs, rfl, h1, h2⟩ := h
    exact ⟨fs, cs, rfl, RelL.nrm0 first h1, RelL.nrm0 cap h2⟩
  | .any, _, h => h
  | .lit _, _, h => h
  | .ptr _ _, _, h => h
  | .row _ _, _, h => h
  | .rwp _ _ _, _, h => h
  | .map _, _, h => h
  | .win _ _ _ _ _, _, h => h
theorem RelL.nrm0 : ∀ (cs : List A) {vs : List Value}, RelL H L cs vs → RelL H L (nrm0L cs) vs
  | [], vs, h => by simpa [RelL, nrm0L] using h
  | c :: cs, vs, h => by
    simp only [RelL, nrm0L] at h ⊢
    obtain ⟨u, us, rfl, h1, h2⟩ := h
    exact ⟨u, us, rfl, Rel.nrm0 c h1, RelL.nrm0 cs h2⟩
end

mutual
/-- .. and rows are what they hold. -/
def nrm (σ : St) : A → A
  | .row l n => match σ[l]? with
    | some (.row _ _ _ m cs) => if n = m then .sl n (nrm0L cs) else .row l n
    | _ => .row l n
  | .nil => .sl 0 []
  | .fsl n cs => .sl n (nrmL σ cs)
  | .sl n cs => .sl n (nrmL σ cs)
  | .agg cs => .agg (nrmL σ cs)
  | .tup cs => .tup (nrmL σ cs)
  | .rptr cs => .rptr (nrmL σ cs)
  | .clo f fs cs => .clo f (nrmL σ fs) (nrmL σ cs)
  | .any => .any
  | .lit v => .lit v
  | .ptr l o => .ptr l o
  | .rwp l n o => .rwp l n o
  | .map l => .map l
  | .win l n o k c => .win l n o k c
def nrmL (σ : St) : List A → List A
  | [] => []
  | c :: cs => nrm σ c :: nrmL σ cs
end

/-- All rows are persistent. -/
def Frozen (H : Mem) (L : List LI) (σ : St) (w : World) : Prop :=
  ∀ (i : Nat) li fz e sz n cs, L[i]? = some li → σ[i]? = some (.row fz e sz n cs) → ∀ b, li.block = some b → ∃ cur, w.heap[b]? = some (.cells cur e (0, 0)) ∧ n ≤ li.cap ∧ li.cap ≤ maxLen ∧
    RelL H L cs (cur.toList.take (n * sz)) ∧ (∀ u ∈ cur.toList.take (n * sz), one u) ∧ At H b 0 (cur.toList.take (n * sz))

mutual
theorem Rel.nrm {σ : St} {w : World} (hs : ∀ (i : Nat) l fz e sz n cs, L[i]? = some l → σ[i]? = some (.row fz e sz n cs) → l.len = n ∧ cs.length = n * sz ∧ (l.block = none → n = 0)) (hf : Frozen H L σ w) :
    ∀ (a : A) {v : Value}, Rel H L a v → Rel H L (nrm σ a) v
  | .row l n, v, h => by
    simp only [Abs.nrm]
    split
    · rename_i fz e sz m cs hσ
      split
      · rename_i hn
        subst hn
        simp only [Rel] at h ⊢
        obtain ⟨_, li, e1, e2, e3, hv⟩ := h
        obtain ⟨g1, g2, g3⟩ := hs l li fz e sz n cs e1 hσ
        have hv := hv g1.symm
        cases hb : li.block with
        | none =>
          have h0 := g3 hb
          subst h0
          rw [hb] at hv
          have hcs : cs = [] := List.eq_nil_of_length_eq_zero (by simpa using g2)
          exact ⟨none, 0, hv, Nat.le_refl _, Nat.zero_le _, .inl ⟨rfl, by simp [hcs, nrm0L]⟩⟩
        | some b =>
          rw [hb] at hv
          obtain ⟨cur, _, k2, k3, k4, k5, k6⟩ := hf l li fz e sz n cs e1 hσ b hb
          exact ⟨_, _, hv, k2, k3, .inr ⟨b, 0, _, rfl, RelL.nrm0 cs k4, k5, k6⟩⟩
      · exact h
    · exact h
  | .nil, v, h => by
    simp only [Rel, Abs.nrm] at h ⊢
    exact ⟨none, 0, h, Nat.le_refl _, Nat.zero_le _, .inl (by simp)⟩
  | .fsl n cs, v, h => by
    simp only [Rel, Abs.nrm] at h ⊢
    obtain ⟨a, rfl, h1, h3⟩ := h
    refine ⟨a, n, rfl, Nat.le_refl _, h1, ?_⟩
    rcases h3 with ⟨h3, rfl⟩ | ⟨b, o, us, rfl, h4, h5, h6⟩
    · exact .inl ⟨h3, by simp [nrmL]⟩
    · exact .inr ⟨b, o, us, rfl, RelL.nrm hs hf cs h4, h5, h6⟩
  | .sl n cs, v, h => by
    simp only [Rel, Abs.nrm] at h ⊢
    obtain ⟨a, cap, rfl, h1, h2, h3⟩ := h
    refine ⟨a, cap, rfl, h1, h2, ?_⟩
    rcases h3 with ⟨h3, rfl⟩ | ⟨b, o, us, rfl, h4, h5, h6⟩
    · exact .inl ⟨h3, by simp [nrmL]⟩
    · exact .inr ⟨b, o, us, rfl, RelL.nrm hs hf cs h4, h5, h6⟩
  | .agg cs, v, h => by
    simp only [Rel, Abs.nrm] at h ⊢
    obtain ⟨vs, rfl, h1, h2⟩ := h
    exact ⟨vs, rfl, RelL.nrm hs hf cs h1, h2⟩
  | .tup cs, v, h => by
    simp only [Rel, Abs.nrm] at h ⊢
    obtain ⟨vs, rfl, h1⟩ := h
    exact ⟨vs, rfl, RelL.nrm hs hf cs h1⟩
  | .rptr cs, v, h => by
    simp only [Rel, Abs.nrm] at h ⊢
    obtain ⟨b, o, us, rfl, h4, h5, h6⟩ := h
    exact ⟨b, o, us, rfl, RelL.nrm hs hf cs h4, h5, h6⟩
  | .clo f first cap, v, h => by
    simp only [Rel, Abs.nrm] at h ⊢
    obtain ⟨fs, cs, rfl, h1, h2⟩ := h
    exact ⟨fs, cs, rfl, RelL.nrm hs hf first h1, RelL.nrm hs hf cap h2⟩
  | .any, _, h => h
  | .lit _, _, h => h
  | .ptr _ _, _, h => h
  | .rwp _ _ _, _, h => h
  | .map _, _, h => h
  | .win _ _ _ _ _, _, h => h
theorem RelL.nrm {σ : St} {w : World} (hs : ∀ (i : Nat) l fz e sz n cs, L[i]? = some l → σ[i]? = some (.row fz e sz n cs) → l.len = n ∧ cs.length = n * sz ∧ (l.block = none → n = 0)) (hf : Frozen H L σ w) :
    ∀ (cs : List A) {vs : List Value}, RelL H L cs vs → RelL H L (nrmL σ cs) vs
  | [], vs, h => by simpa [RelL, nrmL] using h
  | c :: cs, vs, h => by
    simp only [RelL, nrmL] at h ⊢
    obtain ⟨u, us, rfl, h1, h2⟩ := h
    exact ⟨u, us, rfl, Rel.nrm hs hf c h1, RelL.nrm hs hf cs h2⟩
end

end
end Go.Abs
