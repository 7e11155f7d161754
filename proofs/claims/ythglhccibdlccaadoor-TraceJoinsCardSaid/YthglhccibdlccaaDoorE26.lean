/-
  Nil slices as rows of their own; rows that are frozen.
-/
import Derived.Test.YthglhccibdlccaaDoorE22
namespace Go.Abs
section
variable {P : Program} {H : Mem} {L : List LI} {σ : St} {w : World}
theorem weak_nilslot {n0 t : Nat} {env : Env} {σ : St} (ht : env t = .nil) (e : TypeId) (sz : Nat) : Weak n0 (env.put (some t) (.row σ.length 0)) (σ ++ [AObj.row false e sz 0 []]) env σ := by
  intro H0 L0 w0 H L w N tmps h0 h1 h2
  have hn := nxt_nilrow h1.st e sz
  refine ⟨H, _, h1.trans hn, h2.1, fun x => ?_⟩
  simp only [Env.put]
  split
  · rename_i hx
    subst hx
    have := h2.2 x
    rw [ht] at this
    simp only [Rel] at this
    rw [this]
    simp only [Rel]
    exact ⟨rfl, ⟨none, 0, 0, true⟩, by rw [← h1.st.len]; simp, rfl, Nat.le_refl _, fun _ => rfl⟩
  · exact Rel.mono (HLe.refl _) hn.lle _ (h2.2 x)
theorem weak_nilrow {n0 : Nat} {env : Env} {σ : St} {l o n : Nat} {e : TypeId} {sz : Nat} {cs : List A} (hl : σ[l]? = some (.row false e sz n cs)) (hc : cs[o]? = some .nil) (e' : TypeId) (sz' : Nat) :
    Weak n0 env (σ.set l (.row false e sz n (cs.set o (.row σ.length 0))) ++ [AObj.row false e' sz' 0 []]) env σ := by
  intro H0 L0 w0 H L w N tmps h0 h1 h2
  have hn := nxt_nilrow h1.st e' sz'
  have hlt : l < σ.length := (List.getElem?_eq_some_iff.1 hl).1
  have hl' : (σ ++ [AObj.row false e' sz' 0 []])[l]? = some (.row false e sz n cs) := by rw [List.getElem?_append_left hlt]; exact hl
  have hs := relSt_obj (o' := .row false e sz n (cs.set o (.row σ.length 0))) hn.st hl' (fun li hob => by
    simp only [RelObj] at hob ⊢
    obtain ⟨g0, g1, g2, g3⟩ := hob
    refine ⟨g0, g1, by simpa using g2, ?_⟩
    rcases g3 with ⟨q1, q2⟩ | ⟨b, cur, q1, q2, q3, q4, q5, q6, q7, q8⟩
    · subst q2
      have : cs = [] := List.eq_nil_of_length_eq_zero (by simpa using g2)
      subst this
      simp at hc
    · obtain ⟨v, hv, hrel⟩ := q6.get hc
      simp only [Rel] at hrel
      subst hrel
      have hset : cur.toList.take (n * sz) = (cur.toList.take (n * sz)).set o (.slice none 0 0) := by
        apply List.ext_getElem?
        intro i
        by_cases hi : i = o
        · subst hi; rw [List.getElem?_set_self (List.getElem?_eq_some_iff.1 hv).1, hv]
        · rw [List.getElem?_set_ne (Ne.symm hi)]
      refine .inr ⟨b, cur, q1, q2, q3, q4, q5, ?_, q7, q8⟩
      rw [hset]
      refine q6.set o ?_
      simp only [Rel]
      exact ⟨rfl, ⟨none, 0, 0, true⟩, by rw [← h1.st.len]; simp, rfl, Nat.le_refl _, fun _ => rfl⟩)
  rw [List.set_append_left _ _ hlt] at hs
  have hm := h1.trans hn
  exact ⟨H, _, ⟨hs, hm.step, hm.lle, hm.own⟩, h2.1, fun x => Rel.mono (HLe.refl _) hn.lle _ (h2.2 x)⟩
theorem callA_frz {f : FuncId} {l n : Nat} {e : TypeId} {sz : Nat} {cs : List A} (hσ : σ[l]? = some (.row false e sz n cs)) {Q : Out → St → Prop} (h : CallA P f [.sl n cs] (σ.set l (.row true e sz n cs)) Q) : CallA P f [.row l n] σ Q := by
  intro H L w vs hs hvs
  obtain ⟨v, vs', rfl, h1, h2⟩ := relL_cons_inv hvs
  have := relL_nil_inv h2
  subst this
  obtain ⟨H', hn, hr⟩ := nxt_frz hs hσ h1
  refine (h H' L w [v] hn.st (relL_cons hr relL_nil)).mono fun e w' hh => ?_
  obtain ⟨o, σ', H2, L2, g1, g2, g3⟩ := hh
  exact ⟨o, σ', H2, L2, g1, hn.trans g2, g3⟩
theorem callA_frzT {f : FuncId} {l n : Nat} {e : TypeId} {sz : Nat} {cs : List A} (hσ : σ[l]? = some (.row true e sz n cs)) {Q : Out → St → Prop} (h : CallA P f [.sl n cs] σ Q) : CallA P f [.row l n] σ Q := by
  intro H L w vs hs hvs
  obtain ⟨v, vs', rfl, h1, h2⟩ := relL_cons_inv hvs
  have := relL_nil_inv h2
  subst this
  refine h H L w [v] hs (relL_cons ?_ relL_nil)
  simp only [Rel] at h1
  obtain ⟨_, li, e1, e2, e3, hv⟩ := h1
  have hob := hs.obj l li _ e1 hσ
  simp only [RelObj] at hob
  obtain ⟨_, hln, hcl, hob⟩ := hob
  have hv := hv hln.symm
  rcases hob with ⟨hb, h0⟩ | ⟨b, cur, hb, hh, k1, k2, k3, k4, k5, k6⟩
  · rw [hb] at hv
    subst h0
    have hcs : cs = [] := List.eq_nil_of_length_eq_zero (by simpa using hcl)
    simp only [Rel]
    exact ⟨none, 0, hv, Nat.le_refl _, Nat.zero_le _, .inl ⟨trivial, hcs⟩⟩
  · rw [hb] at hv
    simp only [Rel]
    exact ⟨_, _, hv, k1, k2, .inr ⟨b, 0, _, rfl, k4, k5, k6.1⟩⟩
theorem weak_frz {n0 : Nat} {env : Env} {l n : Nat} {e : TypeId} {sz : Nat} {cs : List A} (hσ : σ[l]? = some (.row false e sz n cs)) : Weak n0 env (σ.set l (.row true e sz n cs)) env σ := by
  intro H0 L0 w0 H L w N tmps h0 h1 h2
  have hlt : l < L.length := by rw [h1.st.len]; exact (List.getElem?_eq_some_iff.1 hσ).1
  have hl : L[l]? = some L[l] := by simp [hlt]
  have hob := h1.st.obj l L[l] _ hl hσ
  simp only [RelObj] at hob
  have hr : Rel H L (.row l n) (match L[l].block with | none => .slice none 0 0 | some b => .slice (some ⟨b, 0, none⟩) n L[l].cap) := by
    simp only [Rel]
    refine ⟨?_, L[l], hl, hob.1, by rw [hob.2.1]; exact Nat.le_refl _, fun _ => rfl⟩
    split <;> rfl
  obtain ⟨H', hn, _⟩ := nxt_frz h1.st hσ hr
  exact ⟨H', L, h1.trans hn, h2.mono hn.step.hle hn.lle⟩
end
end Go.Abs
