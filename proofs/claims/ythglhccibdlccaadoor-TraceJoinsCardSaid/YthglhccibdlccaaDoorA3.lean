/-
  Lists of IDs in increasing order, each once: what the reference's insertion gives, and what a sort and a compaction give.
-/
import Derived.Test.YthglhccibdlccaaDoorA2
import Derived.Test.YthglhccibdlccaaDoorE23
namespace Go.Proofs.YthglhccibdlccaaDoor
open Go.Abs

theorem lessD_iff {x y : Id} : lessD x y = true ↔ x.a < y.a ∨ (x.a = y.a ∧ (x.b < y.b ∨ (x.b = y.b ∧ x.c < y.c))) := by
  unfold lessD
  split
  · simp only [decide_eq_true_eq]; omega
  · split
    · simp only [decide_eq_true_eq]; omega
    · simp only [decide_eq_true_eq]; omega
theorem lessD_not {x y : Id} : lessD x y = false ↔ ¬ (x.a < y.a ∨ (x.a = y.a ∧ (x.b < y.b ∨ (x.b = y.b ∧ x.c < y.c)))) := by
  rw [← lessD_iff]; simp
theorem lessD_irrefl (x : Id) : lessD x x = false := by rw [lessD_not]; omega
theorem lessD_trans {x y z : Id} (h : lessD x y = true) (k : lessD y z = true) : lessD x z = true := by rw [lessD_iff] at *; omega
theorem lessD_anti {x y : Id} (h : lessD x y = false) (k : lessD y x = false) : x = y := by
  rw [lessD_not] at *
  rw [Id.eq_iff]; omega
theorem lessD_ne {x y : Id} (h : lessD x y = true) : x ≠ y := fun e => by subst e; rw [lessD_irrefl] at h; cases h
theorem lessD_asym {x y : Id} (h : lessD x y = true) : lessD y x = false := by rw [lessD_iff] at h; rw [lessD_not]; omega
theorem lessD_le {x y z : Id} (h : lessD y x = false) (k : lessD y z = true) : lessD x z = true := by
  rw [lessD_not] at h; rw [lessD_iff] at *; omega
theorem cmpD_neg {x y : Id} : cmpD x y < 0 ↔ lessD x y = true := by
  rw [lessD_iff]
  simp only [cmpD, orI, cmpI]
  repeat' split
  all_goals omega
theorem lin_cmpD : Ord cmpD where
  irrefl x := by rw [cmpD_neg, lessD_irrefl]; simp
  trans x y z h k := by rw [cmpD_neg] at *; exact lessD_trans h k
  ntrans x y z h k := by
    rw [cmpD_neg, Bool.not_eq_true] at *
    rw [lessD_not] at *; omega
  anti x y h k := by
    rw [cmpD_neg, Bool.not_eq_true] at *
    exact lessD_anti h k

/-- In increasing order, each once. -/
def SS (l : List Id) : Prop := l.Pairwise fun x y => lessD x y = true

theorem insD_mem {x y : Id} : ∀ {l : List Id}, y ∈ insD l x ↔ y ∈ l ∨ y = x
  | [] => by simp [insD]
  | z :: l => by
    simp only [insD]
    split
    · simp only [List.mem_cons, insD_mem (l := l), or_assoc]
    · split
      · rename_i h; subst h
        simp only [List.mem_cons]
        constructor
        · exact fun h => .inl h
        · rintro (h | h)
          · exact h
          · exact .inl h
      · simp only [List.mem_cons]
        constructor
        · rintro (h | h)
          · exact .inr h
          · exact .inl h
        · rintro (h | h)
          · exact .inr h
          · exact .inl h
theorem insD_ss {x : Id} : ∀ {l : List Id}, SS l → SS (insD l x)
  | [], _ => by simp [insD, SS]
  | z :: l, h => by
    have h' := List.pairwise_cons.1 h
    simp only [insD]
    split
    · rename_i hz
      refine List.pairwise_cons.2 ⟨fun y hy => ?_, insD_ss h'.2⟩
      rcases insD_mem.1 hy with hy | rfl
      · exact h'.1 y hy
      · exact hz
    · rename_i hz
      split
      · exact h
      · rename_i hne
        have hxz : lessD x z = true := by
          cases hh : lessD x z with
          | true => rfl
          | false => exact (hne (lessD_anti (by simpa using hz) hh)).elim
        refine List.pairwise_cons.2 ⟨fun y hy => ?_, h⟩
        rcases List.mem_cons.1 hy with rfl | hy
        · exact hxz
        · exact lessD_trans hxz (h'.1 y hy)
theorem foldD_ss : ∀ {l acc : List Id}, SS acc → SS (l.foldl insD acc)
  | [], _, h => h
  | _ :: l, _, h => foldD_ss (l := l) (insD_ss h)
theorem foldD_mem {y : Id} : ∀ {l acc : List Id}, y ∈ l.foldl insD acc ↔ y ∈ acc ∨ y ∈ l
  | [], _ => by simp
  | x :: l, acc => by
    simp only [List.foldl_cons, foldD_mem (l := l), insD_mem, List.mem_cons, or_assoc]

theorem SS.unique : ∀ {l l' : List Id}, SS l → SS l' → (∀ x, x ∈ l ↔ x ∈ l') → l = l'
  | [], [], _, _, _ => rfl
  | [], y :: l', _, _, h => by have := (h y).2 (List.mem_cons_self ..); simp at this
  | x :: l, [], _, _, h => by have := (h x).1 (List.mem_cons_self ..); simp at this
  | x :: l, y :: l', h1, h2, h => by
    have p1 := List.pairwise_cons.1 h1
    have p2 := List.pairwise_cons.1 h2
    have hxy : x = y := by
      rcases List.mem_cons.1 ((h x).1 (List.mem_cons_self ..)) with e | e
      · exact e
      · rcases List.mem_cons.1 ((h y).2 (List.mem_cons_self ..)) with e' | e'
        · exact e'.symm
        · have a := p2.1 x e
          have b := p1.1 y e'
          rw [lessD_asym b] at a; cases a
    subst hxy
    congr 1
    refine SS.unique p1.2 p2.2 fun z => ?_
    constructor
    · intro hz
      rcases List.mem_cons.1 ((h z).1 (List.mem_cons_of_mem _ hz)) with e | e
      · have := p1.1 z hz; subst e; rw [lessD_irrefl] at this; cases this
      · exact e
    · intro hz
      rcases List.mem_cons.1 ((h z).2 (List.mem_cons_of_mem _ hz)) with e | e
      · have := p2.1 z hz; subst e; rw [lessD_irrefl] at this; cases this
      · exact e

theorem snocRec {α : Type} {motive : List α → Prop} (nil : motive []) (snoc : ∀ l y, motive l → motive (l ++ [y])) (l : List α) : motive l := by
  have h : ∀ r : List α, motive r.reverse := fun r => by
    induction r with
    | nil => exact nil
    | cons a r ih => rw [List.reverse_cons]; exact snoc _ _ ih
  have := h l.reverse
  rwa [List.reverse_reverse] at this

/-- One more element of a compacted list. -/
def stepC (acc : List Id) (y : Id) : List Id := if acc.getLast? = some y then acc else acc ++ [y]
def compD (l : List Id) : List Id := l.foldl stepC []
theorem compD_snoc (l : List Id) (y : Id) : compD (l ++ [y]) = stepC (compD l) y := by simp [compD, List.foldl_append]
theorem compD_last : ∀ (l : List Id), (compD l).getLast? = l.getLast? := by
  intro l
  induction l using snocRec with
  | nil => rfl
  | snoc l y ih =>
    rw [compD_snoc, stepC]
    split
    · rename_i h; rw [h]; simp
    · simp
theorem compD_mem {x : Id} (l : List Id) : x ∈ compD l ↔ x ∈ l := by
  induction l using snocRec with
  | nil => simp [compD]
  | snoc l y ih =>
    rw [compD_snoc, stepC]
    split
    · rename_i h
      have hy : y ∈ compD l := List.mem_of_getLast? h
      simp only [ih, List.mem_append, List.mem_singleton]
      constructor
      · exact .inl
      · rintro (h | rfl)
        · exact h
        · exact ih.1 hy |> fun h => h
    · simp [ih]
theorem compD_ss (l : List Id) (h : l.Pairwise fun x y => lessD y x = false) : SS (compD l) := by
  induction l using snocRec with
  | nil => simp [compD, SS]
  | snoc l y ih =>
    rw [List.pairwise_append] at h
    have hi := ih h.1
    rw [compD_snoc, stepC]
    split
    · exact hi
    · rename_i hne
      unfold SS
      rw [List.pairwise_append]
      refine ⟨hi, by simp, fun z hz y' hy' => ?_⟩
      simp only [List.mem_singleton] at hy'
      subst hy'
      have hzl := (compD_mem l).1 hz
      have h1 := h.2.2 z hzl y' (by simp)
      cases hh : lessD z y' with
      | true => rfl
      | false =>
        exfalso
        have e := lessD_anti hh h1
        subst e
        -- the last element is z
        rw [compD_last] at hne
        have hl : l ≠ [] := fun e => by rw [e] at hzl; simp at hzl
        obtain ⟨w, hw⟩ : ∃ w, l.getLast? = some w := ⟨_, List.getLast?_eq_some_getLast hl⟩
        have hwl : w ∈ l := List.mem_of_getLast? hw
        have h2 := h.2.2 w hwl z (by simp)
        have hwz : w = z ∨ lessD w z = false := by
          obtain ⟨l', rfl⟩ : ∃ l', l = l' ++ [w] := List.getLast?_eq_some_iff.1 hw
          rcases List.mem_append.1 hzl with hz' | hz'
          · have := h.1
            rw [List.pairwise_append] at this
            exact .inr (this.2.2 z hz' w (by simp))
          · exact .inl (List.mem_singleton.1 hz').symm
        have : w = z := by
          rcases hwz with e | e
          · exact e
          · exact lessD_anti e h2
        subst this
        exact hne hw

def setD (l : List Id) : List Id := compD (sortL cmpD l)
theorem sortD_perm (l : List Id) : (sortL cmpD l).Perm l := List.mergeSort_perm l _
theorem sortD_sorted (l : List Id) : (sortL cmpD l).Pairwise fun x y => lessD y x = false := by
  have h := List.pairwise_mergeSort (le := fun x y => !decide (cmpD y x < 0)) (fun a b c h1 h2 => by simp only [Bool.not_eq_true', decide_eq_false_iff_not] at *; exact lin_cmpD.ntrans c b a h2 h1)
    (fun a b => by
      simp only [Bool.or_eq_true, Bool.not_eq_true', decide_eq_false_iff_not]
      by_cases h : cmpD b a < 0
      · exact .inr fun h' => lin_cmpD.irrefl _ (lin_cmpD.trans _ _ _ h h')
      · exact .inl h) l
  exact h.imp fun h => by
    simp only [Bool.not_eq_true', decide_eq_false_iff_not, cmpD_neg, Bool.not_eq_true] at h
    exact h
theorem setD_mem {l : List Id} {x : Id} : x ∈ setD l ↔ x ∈ l := by rw [setD, compD_mem, (sortD_perm l).mem_iff]
theorem setD_ss (l : List Id) : SS (setD l) := compD_ss _ (sortD_sorted l)
theorem setD_eq (l : List Id) : setD l = l.foldl insD [] :=
  SS.unique (setD_ss l) (foldD_ss (by simp [SS])) fun x => by rw [setD_mem, foldD_mem]; simp
theorem allD_eq (a b : List Id) : allD a b = setD (a ++ b) := by rw [setD_eq, List.foldl_append]; rfl
theorem allD_mem {a b : List Id} {x : Id} : x ∈ allD a b ↔ x ∈ a ∨ x ∈ b := by rw [allD_eq, setD_mem, List.mem_append]
end Go.Proofs.YthglhccibdlccaaDoor
