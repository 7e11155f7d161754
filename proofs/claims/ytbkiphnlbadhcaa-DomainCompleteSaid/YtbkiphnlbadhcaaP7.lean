import Derived.Test.YtbkiphnlbadhcaaP6
import Derived.Test.YtbkiphnlbadhcaaC18
open Go
namespace Go.Proofs.Ytbkiphnlbadhcaa
open Go.Abs

def GT (m : Int) (t : Typ) : Prop := t = Typ0 ∨ t = .mk 1 ⟨0, 0, 0⟩ [] ∨ t = listT Typ0 ∨ ∃ j, 0 ≤ j ∧ j < m ∧ (t = .mk 3 (idR (1 + j)) [] ∨ t = listT (.mk 3 (idR (1 + j)) []))
theorem GT_mono {m m' : Int} (h : m ≤ m') {t : Typ} : GT m t → GT m' t := by
  rintro (h1 | h1 | h1 | ⟨j, h1, h2, h3⟩)
  · exact .inl h1
  · exact .inr (.inl h1)
  · exact .inr (.inr (.inl h1))
  · exact .inr (.inr (.inr ⟨j, h1, by omega, h3⟩))
theorem pick_GT {n m : Int} (hn : w64 n = n) (hm : 0 ≤ m) : GT m (pickT n m) := by
  have hr := around_range hn (show 0 < 4 + 2 * m by omega)
  have hp : pickT n m = if aroundV n (4 + 2 * m) = 1 then .mk 1 ⟨0, 0, 0⟩ [] else if aroundV n (4 + 2 * m) = 2 then listT Typ0 else if 4 ≤ aroundV n (4 + 2 * m) then
      (if aroundV (n.tdiv 64) 5 = 1 then listT (.mk 3 (idR (1 + (aroundV n (4 + 2 * m) - 4).tdiv 2)) []) else .mk 3 (idR (1 + (aroundV n (4 + 2 * m) - 4).tdiv 2)) []) else Typ0 := rfl
  rw [hp]
  generalize aroundV n (4 + 2 * m) = k at hr ⊢
  by_cases h1 : k = 1
  · rw [if_pos h1]; exact .inr (.inl rfl)
  by_cases h2 : k = 2
  · rw [if_neg h1, if_pos h2]; exact .inr (.inr (.inl rfl))
  by_cases h3 : 4 ≤ k
  · rw [if_neg h1, if_neg h2, if_pos h3]
    have hd : (k - 4).tdiv 2 = (k - 4) / 2 := Int.tdiv_eq_ediv_of_nonneg (by omega)
    refine .inr (.inr (.inr ⟨(k - 4).tdiv 2, by omega, by omega, ?_⟩))
    split
    · exact .inr rfl
    · exact .inl rfl
  · rw [if_neg h1, if_neg h2, if_neg h3]; exact .inl rfl
theorem findD_is : ∀ {l : List Dfn} {id : Id}, (∃ d ∈ l, d.id = id) → ∃ d ∈ l, findD l id = some d
  | [], id, ⟨d, hd, _⟩ => by simp at hd
  | x :: l, id, ⟨d, hd, he⟩ => by
    by_cases hx : x.id = id
    · exact ⟨x, List.mem_cons_self .., by simp [findD, hx]⟩
    · rcases List.mem_cons.1 hd with rfl | hd
      · exact absurd he hx
      · obtain ⟨y, hy, hf⟩ := findD_is ⟨d, hd, he⟩
        exact ⟨y, List.mem_cons_of_mem _ hy, by simp [findD, hx, hf]⟩
/-- A program whose definitions are there, of a good kind, and of good types. -/
def GP (m : Int) (p : Prg) : Prop := ∀ j, 0 ≤ j → j < m → ∃ d, findD p.defs (idR (1 + j)) = some d ∧ (d.kind = 0 ∨ d.kind = 1) ∧ ∀ s ∈ d.slots, GT m s.typ
theorem types_GP {l : List Int} (hl : ∀ x ∈ l, w64 x = x) (hw : ∀ i, w64 (atV l i 65536) = atV l i 65536) : GP (manyV l) (typesV l) := by
  intro j h0 h1
  obtain ⟨d, hd, hf⟩ := findD_is (l := (typesV l).defs) (id := idR (1 + j)) ⟨dfnV l j.toNat, List.mem_map.2 ⟨j.toNat, by simp; omega, rfl⟩, by simp only [dfnV]; congr 1; omega⟩
  refine ⟨d, hf, ?_⟩
  obtain ⟨i, hi, rfl⟩ := List.mem_map.1 (show d ∈ (List.range (manyV l)).map (dfnV l) from hd)
  have hr := at_range (i := (1 + i : Int)) hl (show (0 : Int) < 65536 by omega)
  refine ⟨?_, fun s hs => ?_⟩
  · simp only [dfnV]
    rw [Int.tmod_eq_emod_of_nonneg hr.1]
    omega
  · simp only [dfnV, List.mem_map] at hs
    obtain ⟨k, _, rfl⟩ := hs
    have hi : i < manyV l := by simpa using hi
    exact GT_mono (by omega) (pick_GT (hw _) (by omega))
theorem GT_valid {m : Int} {p : Prg} (hp : GP m p) {t : Typ} (ht : GT m t) : validT p t = true := by
  have hz : Id.zero = ⟨0, 0, 0⟩ := rfl
  rcases ht with rfl | rfl | rfl | ⟨j, h0, h1, rfl | rfl⟩
  · simp [validT, validN, Typ0, hz]
  · simp [validT, validN, hz]
  · simp [validT, validN, Typ0, listT, hz]
  · obtain ⟨d, hd, hk, _⟩ := hp j h0 h1
    simp [validT, validN, hd, kindOk, hk]
  · obtain ⟨d, hd, hk, _⟩ := hp j h0 h1
    simp [validT, validN, listT, hd, kindOk, hk, hz]
theorem errF_04 : ∀ {l : List Sz}, (∀ k ∈ l, k.e = 0 ∨ k.e = 4) → errF l = 0 ∨ errF l = 4
  | [], _ => .inl rfl
  | k :: l, h => by
    simp only [errF]
    split
    · exact h k (List.mem_cons_self ..)
    · exact errF_04 fun k hk => h k (List.mem_cons_of_mem _ hk)
theorem recF_04 : ∀ (l : List Sz) (a b : Int), (recF a b l).e = 0 ∨ (recF a b l).e = 4
  | [], _, _ => .inl rfl
  | k :: l, a, b => by
    simp only [recF]
    split
    · exact .inr rfl
    · exact recF_04 l _ _
theorem caseF_0 : ∀ (l : List Sz) (a b : Int), (caseF a b l).e = 0
  | [], _, _ => rfl
  | k :: l, a, b => caseF_0 l _ _
theorem finSz_04 {k : Sz} (h : k.e = 0 ∨ k.e = 4) : (finSz k).e = 0 ∨ (finSz k).e = 4 := by
  unfold finSz
  split
  · exact h
  · split <;> simp
theorem listSz_04 {m : Int} {k : Sz} (h : k.e = 0 ∨ k.e = 4) : (listSz m k).e = 0 ∨ (listSz m k).e = 4 := by
  unfold listSz
  split
  · exact h
  · split
    · simp
    · split <;> simp
theorem slotsSz_04 {r : Bool} {l : List Sz} (h : ∀ k ∈ l, k.e = 0 ∨ k.e = 4) : (slotsSz r l).e = 0 ∨ (slotsSz r l).e = 4 := by
  unfold slotsSz
  split
  · exact errF_04 h
  · split
    · exact recF_04 ..
    · exact .inl (caseF_0 ..)
theorem size_04 {M : Int} {p : Prg} (hp : GP M p) (m : Int) : ∀ (n : Nat) (t : Typ), GT M t → (sizeN p m n t).e = 0 ∨ (sizeN p m n t).e = 4
  | 0, t, ht => by
    unfold sizeN
    rw [if_neg (by simp [GT_valid hp ht])]
    exact .inr rfl
  | n + 1, t, ht => by
    unfold sizeN
    rw [if_neg (by simp [GT_valid hp ht])]
    split
    · simp
    split
    · simp
    split
    · refine finSz_04 (listSz_04 (size_04 hp m n _ ?_))
      rename_i h2
      rcases ht with rfl | rfl | rfl | ⟨j, h0, h1, rfl | rfl⟩
      · simp [Typ0] at h2
      · simp at h2
      · exact .inl rfl
      · simp at h2
      · exact .inr (.inr (.inr ⟨j, h0, h1, .inl rfl⟩))
    · refine finSz_04 (slotsSz_04 fun k hk => ?_)
      obtain ⟨s, hs, rfl⟩ := List.mem_map.1 hk
      refine size_04 hp m n _ ?_
      rename_i h0' h1' h2'
      rcases ht with rfl | rfl | rfl | ⟨j, h0, h1, rfl | rfl⟩
      · simp [Typ0] at h0'
      · simp at h1'
      · simp [listT] at h2'
      · obtain ⟨d, hd, _, hk⟩ := hp j h0 h1
        refine hk s ?_
        simpa [dfn, hd] using hs
      · simp [listT] at h2'
end Go.Proofs.Ytbkiphnlbadhcaa
