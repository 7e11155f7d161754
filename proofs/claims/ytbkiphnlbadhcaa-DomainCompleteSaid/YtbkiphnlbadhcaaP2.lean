/-
  A sort that can be evaluated.
-/
import Derived.Test.YtbkiphnlbadhcaaP1
import Derived.Test.YtbkiphnlbadhcaaC9
namespace Go.Proofs.Ytbkiphnlbadhcaa
open Go.Abs

def insL {β : Type} (cf : β → β → Int) (x : β) : List β → List β
  | [] => [x]
  | y :: l => if cf y x < 0 then y :: insL cf x l else x :: y :: l
def isortL {β : Type} (cf : β → β → Int) : List β → List β
  | [] => []
  | x :: l => insL cf x (isortL cf l)
theorem insL_perm {β : Type} (cf : β → β → Int) (x : β) : ∀ l, (insL cf x l).Perm (x :: l)
  | [] => .refl _
  | y :: l => by
    unfold insL
    split
    · exact ((insL_perm cf x l).cons y).trans (.swap x y l)
    · exact .refl _
theorem insL_sorted {β : Type} {cf : β → β → Int} (ho : Ord cf) (x : β) : ∀ {l : List β}, l.Pairwise (fun x y => ¬ cf y x < 0) → (insL cf x l).Pairwise (fun x y => ¬ cf y x < 0)
  | [], _ => by simp [insL]
  | y :: l, h => by
    obtain ⟨h1, h2⟩ := List.pairwise_cons.1 h
    unfold insL
    split
    · rename_i hy
      refine List.pairwise_cons.2 ⟨fun z hz => ?_, insL_sorted ho x h2⟩
      rcases List.mem_cons.1 ((insL_perm cf x l).mem_iff.1 hz) with rfl | hz
      · exact fun hh => ho.irrefl _ (ho.trans _ _ _ hy hh)
      · exact h1 z hz
    · rename_i hy
      refine List.pairwise_cons.2 ⟨fun z hz => ?_, h⟩
      rcases List.mem_cons.1 hz with rfl | hz
      · exact hy
      · exact ho.ntrans _ _ _ (h1 z hz) hy
theorem isortL_ok {β : Type} {cf : β → β → Int} (ho : Ord cf) : ∀ l : List β, (isortL cf l).Perm l ∧ (isortL cf l).Pairwise (fun x y => ¬ cf y x < 0)
  | [] => ⟨.refl _, .nil⟩
  | x :: l => by
    obtain ⟨h1, h2⟩ := isortL_ok ho l
    exact ⟨(insL_perm cf x _).trans (h1.cons x), insL_sorted ho x h2⟩
theorem sortL_isort {β : Type} {cf : β → β → Int} (ho : Ord cf) (l : List β) : sortL cf l = isortL cf l := (sortL_unique ho (isortL_ok ho l).1 (isortL_ok ho l).2).symm

def exS (k : Int) (t : Typ) : Slt := ⟨⟨0, 1, k⟩, ⟨#[]⟩, t, 0, 0⟩
def exP : Prg := ⟨.sl 0 [], ⟨by simp, by simp, by simp⟩, [⟨⟨0, 1, 1⟩, 0, ⟨0, 0, 0⟩, ⟨#[]⟩, [exS 3 Typ0, exS 4 (.mk 1 ⟨0, 0, 0⟩ [])]⟩, ⟨⟨0, 1, 2⟩, 1, ⟨0, 0, 0⟩, ⟨#[]⟩, [exS 5 Typ0, exS 6 (.mk 3 ⟨0, 1, 1⟩ [])]⟩]⟩
def nm (n : Int) : Val := .mk 0 n []
def tr (n : Int) : Val := .mk 1 n []
def exInts : Typ := .mk 2 ⟨0, 0, 0⟩ [Typ0]
theorem ex_v1 : valuesV exP Typ0 1 = ([nm 0, nm (-1), nm 1], 0) := by
  unfold valuesV
  rw [sortL_isort lin_cmpW.ord]
  kernel_rfl
theorem ex_v2 : valuesV exP exInts 1 = ([.mk 4 0 [], .mk 4 0 [nm 0], .mk 4 0 [nm (-1)], .mk 4 0 [nm 1]], 0) := by
  unfold valuesV
  rw [sortL_isort lin_cmpW.ord]
  kernel_rfl
theorem ex_v3 : valuesV exP (.mk 3 ⟨0, 1, 1⟩ []) 1 = ([.mk 2 0 [nm 0, tr 0], .mk 2 0 [nm (-1), tr 0], .mk 2 0 [nm 0, tr 1], .mk 2 0 [nm 1, tr 0], .mk 2 0 [nm (-1), tr 1], .mk 2 0 [nm 1, tr 1]], 0) := by
  unfold valuesV
  rw [sortL_isort lin_cmpW.ord]
  kernel_rfl
theorem ex_c : countF exP 1 [⟨⟨0, 0, 0⟩, ⟨#[]⟩, .mk 3 ⟨0, 1, 2⟩ [], 1, 0⟩] = (9, 0) := by kernel_rfl
theorem ex_v4 : valuesV exP exInts 64 = ([], 4) := by
  unfold valuesV
  rw [sortL_isort lin_cmpW.ord]
  kernel_rfl
theorem ex_i : inputsV exP [⟨⟨0, 0, 0⟩, ⟨#[]⟩, Typ0, 1, 0⟩, ⟨⟨0, 0, 0⟩, ⟨#[]⟩, .mk 1 ⟨0, 0, 0⟩ [], 0, 0⟩] = ([[nm 0, tr 0], [nm (-1), tr 0], [nm 0, tr 1], [nm 1, tr 0], [nm (-1), tr 1], [nm 1, tr 1]], 0) := by
  unfold inputsV
  rw [sortL_isort lin_orderV.ord]
  kernel_rfl
end Go.Proofs.Ytbkiphnlbadhcaa
