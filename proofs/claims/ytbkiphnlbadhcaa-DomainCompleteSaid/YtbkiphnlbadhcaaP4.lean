/-
  Growth of a domain, in plain Lean.
-/
import Derived.Test.YtbkiphnlbadhcaaC15
namespace Go.Proofs.Ytbkiphnlbadhcaa
open Go.Abs

theorem sub_of_sorted {β : Type} {cf : β → β → Int} (ho : Ord cf) : ∀ {a b : List β}, a.Pairwise (fun x y => ¬ cf y x < 0) → a.Nodup → b.Pairwise (fun x y => ¬ cf y x < 0) → (∀ x ∈ a, x ∈ b) → a.Sublist b
  | [], b, _, _, _, _ => List.nil_sublist b
  | x :: a, [], _, _, _, h => absurd (h x (List.mem_cons_self ..)) (by simp)
  | x :: a, y :: b, ha, hn, hb, h => by
    obtain ⟨a1, a2⟩ := List.pairwise_cons.1 ha
    obtain ⟨b1, b2⟩ := List.pairwise_cons.1 hb
    obtain ⟨n1, n2⟩ := List.nodup_cons.1 hn
    by_cases hxy : x = y
    · subst hxy
      refine List.Sublist.cons_cons x (sub_of_sorted ho a2 n2 b2 fun z hz => ?_)
      rcases List.mem_cons.1 (h z (List.mem_cons_of_mem _ hz)) with rfl | hz'
      · exact absurd hz n1
      · exact hz'
    · have hxb : x ∈ b := by
        rcases List.mem_cons.1 (h x (List.mem_cons_self ..)) with rfl | hx
        · exact absurd rfl hxy
        · exact hx
      refine List.Sublist.cons y (sub_of_sorted ho ha hn b2 fun z hz => ?_)
      rcases List.mem_cons.1 (h z hz) with rfl | hz'
      · rcases List.mem_cons.1 hz with rfl | hz
        · exact absurd rfl hxy
        · exact absurd (ho.anti _ _ (b1 x hxb) (a1 z hz)) (fun e => hxy (by first | exact e | exact e.symm))
      · exact hz'

/-! Products. -/
theorem prodT_mono : ∀ {L M : List (List Val)} {acc acc' : List (List Val)}, L.length = M.length → (∀ (i : Nat) (l m : List Val), L[i]? = some l → M[i]? = some m → ∀ x ∈ l, x ∈ m) → (∀ s ∈ acc, s ∈ acc') → ∀ t ∈ L.foldl stepT acc, t ∈ M.foldl stepT acc'
  | [], [], _, _, _, _, ha, t, ht => ha t ht
  | a :: L, b :: M, acc, acc', hl, h, ha, t, ht => by
    simp only [List.foldl_cons] at ht ⊢
    refine prodT_mono (by simpa using hl) (fun i l m h1 h2 => h (i + 1) l m (by simpa using h1) (by simpa using h2)) (fun s hs => ?_) t ht
    simp only [stepT, List.mem_flatMap, List.mem_map] at hs ⊢
    obtain ⟨u, hu, x, hx, rfl⟩ := hs
    exact ⟨u, ha u hu, x, h 0 a b (by simp) (by simp) x hx, rfl⟩
  | [], _ :: _, _, _, hl, _, _, _, _ => by simp at hl
  | _ :: _, [], _, _, hl, _, _, _, _ => by simp at hl
theorem stepT_nodup {acc : List (List Val)} {l : List Val} {n : Nat} (hlen : ∀ s ∈ acc, s.length = n) (ha : acc.Nodup) (hl : l.Nodup) : (stepT acc l).Nodup := by
  induction acc with
  | nil => simp [stepT]
  | cons s acc ih =>
    obtain ⟨h1, h2⟩ := List.nodup_cons.1 ha
    have e : stepT (s :: acc) l = l.map (fun x => s ++ [x]) ++ stepT acc l := by simp [stepT]
    rw [e, List.nodup_append]
    refine ⟨?_, ih (fun x hx => hlen x (List.mem_cons_of_mem _ hx)) h2, ?_⟩
    · rw [List.nodup_iff_pairwise_ne] at hl ⊢
      rw [List.pairwise_map]
      exact hl.imp fun hne he => hne (by simpa using he)
    · intro u hu v hv huv
      subst huv
      simp only [List.mem_map] at hu
      obtain ⟨x, _, rfl⟩ := hu
      simp only [stepT, List.mem_flatMap, List.mem_map] at hv
      obtain ⟨w, hw, y, _, e⟩ := hv
      have hlw : w.length = s.length := by rw [hlen w (List.mem_cons_of_mem _ hw), hlen s (List.mem_cons_self ..)]
      have := (List.append_inj e hlw).1
      subst this
      exact h1 hw
theorem prodT_nodup : ∀ (L : List (List Val)) (acc : List (List Val)) (n : Nat), (∀ s ∈ acc, s.length = n) → acc.Nodup → (∀ l ∈ L, l.Nodup) → (L.foldl stepT acc).Nodup
  | [], _, _, _, ha, _ => ha
  | l :: L, acc, n, hlen, ha, h => by
    refine prodT_nodup L (stepT acc l) (n + 1) (fun s hs => ?_) (stepT_nodup hlen ha (h l (List.mem_cons_self ..))) (fun l hl => h l (List.mem_cons_of_mem _ hl))
    simp only [stepT, List.mem_flatMap, List.mem_map] at hs
    obtain ⟨u, hu, x, _, rfl⟩ := hs
    simp [hlen u hu]

theorem casesV_mono : ∀ {L M : List (List Val)} {i : Int}, L.length = M.length → (∀ (j : Nat) (l m : List Val), L[j]? = some l → M[j]? = some m → ∀ x ∈ l, x ∈ m) → ∀ v ∈ casesV i L, v ∈ casesV i M
  | [], [], _, _, _, v, hv => hv
  | a :: L, b :: M, i, hl, h, v, hv => by
    simp only [casesV, List.mem_append, List.mem_map] at hv ⊢
    rcases hv with ⟨x, hx, rfl⟩ | hv
    · exact .inl ⟨x, h 0 a b (by simp) (by simp) x hx, rfl⟩
    · exact .inr (casesV_mono (by simpa using hl) (fun j l m h1 h2 => h (j + 1) l m (by simpa using h1) (by simpa using h2)) v hv)
  | [], _ :: _, _, hl, _, _, _ => by simp at hl
  | _ :: _, [], _, hl, _, _, _ => by simp at hl
theorem allV_mono (p : Prg) (m : Int) (hm : 0 ≤ m) : ∀ (n : Nat) (t : Typ), ∀ v ∈ allV p m n t, v ∈ allV p (m + 1) n t
  | 0, t, v, hv => by simp [allV] at hv
  | n + 1, t, v, hv => by
    unfold allV at hv ⊢
    by_cases h0 : t.k = 0
    · rw [if_pos h0] at hv ⊢
      simp only [intsV, List.mem_map, List.mem_range] at hv ⊢
      obtain ⟨i, hi, rfl⟩ := hv
      exact ⟨i + 1, by omega, by congr 1; omega⟩
    rw [if_neg h0] at hv ⊢
    by_cases h1 : t.k = 1
    · rw [if_pos h1] at hv ⊢; exact hv
    rw [if_neg h1] at hv ⊢
    by_cases h2 : t.k = 2
    · rw [if_pos h2] at hv ⊢
      simp only [listsV, List.mem_flatMap, List.mem_map, List.mem_range] at hv ⊢
      obtain ⟨k, hk, t', ht, rfl⟩ := hv
      refine ⟨k, ?_, t', ?_, rfl⟩
      · split at hk <;> split <;> omega
      · refine prodT_mono (by simp) (fun i l m' e1 e2 x hx => ?_) (fun s hs => hs) t' ht
        rw [List.getElem?_replicate] at e1 e2
        split at e1
        · rw [if_pos (by assumption)] at e2
          cases e1
          cases e2
          exact allV_mono p m hm n _ x hx
        · cases e1
    rw [if_neg h2] at hv ⊢
    have key : ∀ (j : Nat) (l m' : List Val), ((dfn p t.id).slots.map fun s => allV p m n s.typ)[j]? = some l → ((dfn p t.id).slots.map fun s => allV p (m + 1) n s.typ)[j]? = some m' → ∀ x ∈ l, x ∈ m' := fun j l m' e1 e2 x hx => by
      rw [List.getElem?_map] at e1 e2
      cases hs : (dfn p t.id).slots[j]? with
      | none => rw [hs] at e1; simp at e1
      | some s =>
        rw [hs] at e1 e2
        simp at e1 e2
        subst e1 e2
        exact allV_mono p m hm n _ x hx
    unfold slotsV at hv ⊢
    split at hv
    · rename_i hk
      rw [if_pos hk]
      simp only [recsV, List.mem_map] at hv ⊢
      obtain ⟨t', ht, rfl⟩ := hv
      exact ⟨t', prodT_mono (by simp) key (fun s hs => hs) t' ht, rfl⟩
    · rename_i hk
      rw [if_neg hk]
      split at hv
      · rename_i hk1
        rw [if_pos hk1]
        exact casesV_mono (by simp) key v hv
      · simp at hv

theorem map_nodup {α β : Type} {f : α → β} (hf : ∀ x y, f x = f y → x = y) {l : List α} (h : l.Nodup) : (l.map f).Nodup := by
  rw [List.nodup_iff_pairwise_ne] at h ⊢
  rw [List.pairwise_map]
  exact h.imp fun hne he => hne (hf _ _ he)
theorem casesV_from : ∀ (L : List (List Val)) (i : Int), ∀ v ∈ casesV i L, i ≤ v.n
  | [], _, v, hv => by simp [casesV] at hv
  | l :: L, i, v, hv => by
    simp only [casesV, List.mem_append, List.mem_map] at hv
    rcases hv with ⟨x, _, rfl⟩ | hv
    · exact Int.le_refl _
    · have := casesV_from L (i + 1) v hv
      omega
theorem casesV_nodup : ∀ (L : List (List Val)) (i : Int), (∀ l ∈ L, l.Nodup) → (casesV i L).Nodup
  | [], _, _ => by simp [casesV]
  | l :: L, i, h => by
    simp only [casesV]
    rw [List.nodup_append]
    refine ⟨map_nodup (fun x y e => by simpa using e) (h l (List.mem_cons_self ..)), casesV_nodup L (i + 1) (fun l hl => h l (List.mem_cons_of_mem _ hl)), fun u hu v hv huv => ?_⟩
    subst huv
    simp only [List.mem_map] at hu
    obtain ⟨x, _, rfl⟩ := hu
    have := casesV_from L (i + 1) _ hv
    simp [Val.n] at this
    omega
theorem listsP_nodup (X : List Val) (h : X.Nodup) : ∀ j, (listsP X j).Nodup ∧ ∀ v ∈ listsP X j, v.kids.length < j
  | 0 => by simp [listsP]
  | j + 1 => by
    obtain ⟨h1, h2⟩ := listsP_nodup X h j
    rw [listsP_succ]
    have hl : ∀ v ∈ (prodT (List.replicate j X)).map (Val.mk 4 0), v.kids.length = j := fun v hv => by
      obtain ⟨t, ht, rfl⟩ := List.mem_map.1 hv
      have := prodT_len ht
      simpa [Val.kids] using this
    refine ⟨?_, fun v hv => ?_⟩
    · rw [List.nodup_append]
      refine ⟨h1, map_nodup (fun x y e => by simpa using e) (prodT_nodup _ [[]] 0 (by simp) (by simp) (fun l hl => by rw [(List.mem_replicate.1 hl).2]; exact h)), fun u hu v hv huv => ?_⟩
      subst huv
      have := h2 u hu
      have := hl u hv
      omega
    · rcases List.mem_append.1 hv with hv | hv
      · have := h2 v hv; omega
      · have := hl v hv; omega
theorem allV_nodup (p : Prg) (m : Int) : ∀ (n : Nat) (t : Typ), (allV p m n t).Nodup
  | 0, t => by simp [allV]
  | n + 1, t => by
    unfold allV
    split
    · exact map_nodup (fun x y e => by simp at e; omega) List.nodup_range
    split
    · simp
    split
    · exact (listsP_nodup _ (allV_nodup p m n _) _).1
    · have hL : ∀ l ∈ (dfn p t.id).slots.map fun s => allV p m n s.typ, l.Nodup := fun l hl => by
        obtain ⟨s, _, rfl⟩ := List.mem_map.1 hl
        exact allV_nodup p m n _
      unfold slotsV
      split
      · exact map_nodup (fun x y e => by simpa using e) (prodT_nodup _ [[]] 0 (by simp) (by simp) hL)
      split
      · exact casesV_nodup _ 0 hL
      · simp
theorem grows_sub (p : Prg) (m : Int) (hm : 0 ≤ m) (n : Nat) (t : Typ) : (sortL cmpW (allV p m n t)).Sublist (sortL cmpW (allV p (m + 1) n t)) :=
  sub_of_sorted lin_cmpW.ord (sortL_sorted lin_cmpW.ord _) ((sortL_perm _ _).nodup_iff.2 (allV_nodup p m n t)) (sortL_sorted lin_cmpW.ord _)
    fun x hx => (sortL_perm _ _).mem_iff.2 (allV_mono p m hm n t x ((sortL_perm _ _).mem_iff.1 hx))
end Go.Proofs.Ytbkiphnlbadhcaa
