import Derived.Test.YtbkiphnlbadhcaaP4
open Go
namespace Go.Proofs.Ytbkiphnlbadhcaa

def LeS (k k' : Sz) : Prop := k.e = 0 ∧ 0 ≤ k.a ∧ k.a ≤ k'.a ∧ 0 ≤ k.b ∧ k.b ≤ k'.b
theorem recF_mono {α : Type} (f g : α → Sz) : ∀ (L : List α) (a b a' b' : Int), 0 ≤ a → a ≤ a' → 0 ≤ b → b ≤ b' → (∀ s ∈ L, LeS (f s) (g s)) → (recF a' b' (L.map g)).e = 0 → LeS (recF a b (L.map f)) (recF a' b' (L.map g))
  | [], a, b, a', b', h1, h2, h3, h4, _, _ => ⟨rfl, h1, h2, h3, h4⟩
  | s :: L, a, b, a', b', h1, h2, h3, h4, hk, he => by
    obtain ⟨_, k1, k2, k3, k4⟩ := hk s (List.mem_cons_self ..)
    have hm : a * (f s).a ≤ a' * (g s).a := Int.mul_le_mul h2 k2 k1 (by omega)
    have hn : 0 ≤ a * (f s).a := Int.mul_nonneg h1 k1
    simp only [List.map_cons, recF] at he ⊢
    by_cases hc : a' * (g s).a > 4096
    · rw [if_pos hc] at he
      simp at he
    · rw [if_neg hc] at he ⊢
      rw [if_neg (by omega)]
      exact recF_mono f g L _ _ _ _ hn hm (by omega) (by omega) (fun s hs => hk s (List.mem_cons_of_mem _ hs)) he
theorem caseF_mono {α : Type} (f g : α → Sz) : ∀ (L : List α) (a b a' b' : Int), 0 ≤ a → a ≤ a' → 0 ≤ b → b ≤ b' → (∀ s ∈ L, LeS (f s) (g s)) → LeS (caseF a b (L.map f)) (caseF a' b' (L.map g))
  | [], a, b, a', b', h1, h2, h3, h4, _ => ⟨rfl, h1, h2, h3, h4⟩
  | s :: L, a, b, a', b', h1, h2, h3, h4, hk => by
    obtain ⟨_, k1, k2, k3, k4⟩ := hk s (List.mem_cons_self ..)
    simp only [List.map_cons, caseF]
    exact caseF_mono f g L _ _ _ _ (by omega) (by omega) (by omega) (by omega) (fun s hs => hk s (List.mem_cons_of_mem _ hs))
theorem errF_all : ∀ {l : List Sz}, (∀ k ∈ l, k.e = 0) → errF l = 0
  | [], _ => rfl
  | k :: l, h => by
    simp only [errF]
    rw [if_neg (by simp [h k (List.mem_cons_self ..)])]
    exact errF_all fun k hk => h k (List.mem_cons_of_mem _ hk)
theorem finSz_mono {k k' : Sz} (h : k'.e = 0 → LeS k k') (he : (finSz k').e = 0) : LeS (finSz k) (finSz k') := by
  obtain ⟨e1, _, e3⟩ := finSz_e he
  obtain ⟨h1, h2, h3, h4, h5⟩ := h e1
  have f1 : finSz k' = if k'.a > 4096 ∨ k'.b > 256 then ⟨0, 0, 4⟩ else ⟨k'.a, if k'.a = 0 then 0 else k'.b, 0⟩ := by unfold finSz; rw [if_neg (by simp [e1])]
  have f2 : finSz k = if k.a > 4096 ∨ k.b > 256 then ⟨0, 0, 4⟩ else ⟨k.a, if k.a = 0 then 0 else k.b, 0⟩ := by unfold finSz; rw [if_neg (by simp [h1])]
  rw [f1] at he
  rw [f1, f2]
  by_cases hc : k'.a > 4096 ∨ k'.b > 256
  · rw [if_pos hc] at he
    simp at he
  · rw [if_neg hc, if_neg (show ¬ (k.a > 4096 ∨ k.b > 256) by omega)]
    refine ⟨rfl, h2, h3, ?_, ?_⟩
    · simp only; split <;> omega
    · simp only; split <;> split <;> omega
theorem listSz_mono {m : Int} {k k' : Sz} (h : k'.e = 0 → LeS k k') (he : (listSz (m + 1) k').e = 0) : LeS (listSz m k) (listSz (m + 1) k') := by
  have e1 : k'.e = 0 := by
    unfold listSz at he
    by_cases hz : k'.e = 0
    · exact hz
    · rw [if_pos hz] at he; exact he
  obtain ⟨h1, h2, h3, h4, h5⟩ := h e1
  have hq : k.a * k.a ≤ k'.a * k'.a := Int.mul_le_mul h3 h3 h2 (by omega)
  have hp : 0 ≤ k.a * k.a := Int.mul_nonneg h2 h2
  have f1 : listSz (m + 1) k' = if m + 1 ≤ 0 then ⟨1, 1, 0⟩ else if m + 1 ≤ 1 then ⟨1 + k'.a, 1 + k'.b, 0⟩ else ⟨1 + k'.a + k'.a * k'.a, 1 + k'.b + k'.b, 0⟩ := by unfold listSz; rw [if_neg (by simp [e1])]
  have f2 : listSz m k = if m ≤ 0 then ⟨1, 1, 0⟩ else if m ≤ 1 then ⟨1 + k.a, 1 + k.b, 0⟩ else ⟨1 + k.a + k.a * k.a, 1 + k.b + k.b, 0⟩ := by unfold listSz; rw [if_neg (by simp [h1])]
  rw [f1, f2]
  unfold LeS
  generalize k.a * k.a = q at *
  generalize k'.a * k'.a = q' at *
  by_cases c1 : m ≤ 0
  · rw [if_pos c1]
    split
    · refine ⟨rfl, ?_, ?_, ?_, ?_⟩ <;> simp only [] <;> omega
    · split <;> (refine ⟨rfl, ?_, ?_, ?_, ?_⟩ <;> simp only [] <;> omega)
  · by_cases c2 : m ≤ 1
    · rw [if_neg c1, if_pos c2, if_neg (by omega), if_neg (by omega)]
      refine ⟨rfl, ?_, ?_, ?_, ?_⟩ <;> simp only [] <;> omega
    · rw [if_neg c1, if_neg c2, if_neg (by omega), if_neg (by omega)]
      refine ⟨rfl, ?_, ?_, ?_, ?_⟩ <;> simp only [] <;> omega
theorem size_mono (p : Prg) (m : Int) (hm : 0 ≤ m) : ∀ (n : Nat) (t : Typ), (sizeN p (m + 1) n t).e = 0 → LeS (sizeN p m n t) (sizeN p (m + 1) n t)
  | 0, t, h => by
    unfold sizeN at h
    split at h <;> simp at h
  | n + 1, t, h => by
    unfold sizeN at *
    split at h
    · simp at h
    rename_i hv
    rw [if_neg hv, if_neg hv]
    by_cases h0 : t.k = 0
    · rw [if_pos h0, if_pos h0]; refine ⟨rfl, ?_, ?_, ?_, ?_⟩ <;> simp only [] <;> omega
    by_cases h1 : t.k = 1
    · simp [h1, LeS]
    by_cases h2 : t.k = 2
    · rw [if_neg h0, if_neg h1, if_pos h2] at h ⊢
      rw [if_neg h0, if_neg h1, if_pos h2]
      exact finSz_mono (fun he => listSz_mono (fun hk => size_mono p m hm n _ hk) he) h
    · rw [if_neg h0, if_neg h1, if_neg h2] at h ⊢
      rw [if_neg h0, if_neg h1, if_neg h2]
      refine finSz_mono (fun he => ?_) h
      have e3 : errF ((dfn p t.id).slots.map fun s => sizeN p (m + 1) n s.typ) = 0 := by
        by_cases hz : errF ((dfn p t.id).slots.map fun s => sizeN p (m + 1) n s.typ) = 0
        · exact hz
        · exact absurd he (by simp [slotsSz, hz])
      have hk : ∀ s ∈ (dfn p t.id).slots, LeS (sizeN p m n s.typ) (sizeN p (m + 1) n s.typ) := fun s hs =>
        size_mono p m hm n s.typ (errF_zero e3 _ (List.mem_map_of_mem (f := fun s => sizeN p (m + 1) n s.typ) hs))
      have e4 : errF ((dfn p t.id).slots.map fun s => sizeN p m n s.typ) = 0 := errF_all fun k hk' => by
        obtain ⟨s, hs, rfl⟩ := List.mem_map.1 hk'
        exact (hk s hs).1
      have g1 : slotsSz (decide ((dfn p t.id).kind = 0)) ((dfn p t.id).slots.map fun s => sizeN p (m + 1) n s.typ) = if decide ((dfn p t.id).kind = 0) = true then recF 1 1 ((dfn p t.id).slots.map fun s => sizeN p (m + 1) n s.typ) else caseF 0 1 ((dfn p t.id).slots.map fun s => sizeN p (m + 1) n s.typ) := by unfold slotsSz; rw [if_neg (by simp [e3])]
      have g2 : slotsSz (decide ((dfn p t.id).kind = 0)) ((dfn p t.id).slots.map fun s => sizeN p m n s.typ) = if decide ((dfn p t.id).kind = 0) = true then recF 1 1 ((dfn p t.id).slots.map fun s => sizeN p m n s.typ) else caseF 0 1 ((dfn p t.id).slots.map fun s => sizeN p m n s.typ) := by unfold slotsSz; rw [if_neg (by simp [e4])]
      rw [g1] at he
      rw [g1, g2]
      split
      · rename_i hr
        rw [if_pos hr] at he
        exact recF_mono _ _ _ 1 1 1 1 (by omega) (by omega) (by omega) (by omega) hk he
      · exact caseF_mono _ _ _ 0 1 0 1 (by omega) (by omega) (by omega) (by omega) hk
end Go.Proofs.Ytbkiphnlbadhcaa
