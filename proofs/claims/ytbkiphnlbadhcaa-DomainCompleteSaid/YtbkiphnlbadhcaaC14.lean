/-
  The reference's sort.
-/
import Derived.Test.YtbkiphnlbadhcaaC12
import Derived.Test.YtbkiphnlbadhcaaP2
import Derived.Test.YtbkiphnlbadhcaaP3
namespace Go.Proofs.Ytbkiphnlbadhcaa
open Go.Abs

-- splicery/spliceryref13.merged · results ["4"]
def K70 : K :=
 K.seq (K.ops [⟨none, .mov (some 4) (.const (.slice none 0 0))⟩])
 (K.seq (K.ops [⟨none, .mov (some 5) (.const (.slice none 0 0))⟩])
 (K.seq (K.ops [⟨none, .mov (some 6) (.const (.int .i64 0))⟩])
 (K.seq (K.ops [⟨none, .mov (some 7) (.const (.int .i64 0))⟩])
 (K.seq (K.block 0 (K.loop (K.seq (K.seq (K.ops [⟨none, .mov (some 9) (.tmp 6)⟩,
 ⟨none, .mov (some 10) (.tmp 0)⟩,
 ⟨none, .len (some 11) false (.tmp 10)⟩,
 ⟨none, .bin (some 12) .lss (.tmp 9) (.tmp 11)⟩,
 ⟨none, .mov (some 13) (.tmp 12)⟩,
 ⟨some (13, false), .mov (some 14) (.tmp 7)⟩,
 ⟨some (13, false), .mov (some 15) (.tmp 1)⟩,
 ⟨some (13, false), .len (some 16) false (.tmp 15)⟩,
 ⟨some (13, false), .bin (some 17) .lss (.tmp 14) (.tmp 16)⟩,
 ⟨none, .pick (some 18) (.tmp 13) (.const (.bool true)) (.tmp 17)⟩])
 (K.cond (.tmp 18)
 (K.skip)
 (K.exit 0)))
 (K.block 1 (K.seq (K.ops [⟨none, .mov (some 19) (.tmp 7)⟩,
 ⟨none, .mov (some 20) (.tmp 1)⟩,
 ⟨none, .len (some 21) false (.tmp 20)⟩,
 ⟨none, .eqv (some 22) false .i (.tmp 19) (.tmp 21)⟩,
 ⟨none, .mov (some 8) (.tmp 22)⟩])
 (K.seq (K.seq (K.ops [⟨none, .mov (some 23) (.tmp 8)⟩,
 ⟨none, .not (some 24) (.tmp 23)⟩,
 ⟨none, .mov (some 25) (.tmp 24)⟩,
 ⟨some (25, true), .mov (some 26) (.tmp 6)⟩,
 ⟨some (25, true), .mov (some 27) (.tmp 0)⟩,
 ⟨some (25, true), .len (some 28) false (.tmp 27)⟩,
 ⟨some (25, true), .bin (some 29) .lss (.tmp 26) (.tmp 28)⟩,
 ⟨none, .pick (some 30) (.tmp 25) (.tmp 29) (.const (.bool false))⟩])
 (K.cond (.tmp 30)
 (K.dops [(0, 0, ⟨none, .mov (some 31) (.tmp 0)⟩),
 (1, 0, ⟨none, .mov (some 32) (.tmp 6)⟩),
 (2, 0, ⟨none, .idx (some 33) (.tmp 31) (.tmp 32) 1⟩),
 (3, 0, ⟨none, .ld (some 34) (.tmp 33) 1 false⟩),
 (4, 0, ⟨none, .mov (some 35) (.tmp 1)⟩),
 (5, 0, ⟨none, .mov (some 36) (.tmp 7)⟩),
 (6, 0, ⟨none, .idx (some 37) (.tmp 35) (.tmp 36) 1⟩),
 (7, 0, ⟨none, .ld (some 38) (.tmp 37) 1 false⟩),
 (8, 0, ⟨none, .call (some 39) (.func 22) [(.tmp 34), (.tmp 38)]⟩),
 (9, 0, ⟨none, .bin (some 40) .leq (.tmp 39) (.const (.int .i64 0))⟩),
 (10, 0, ⟨none, .mov (some 8) (.tmp 40)⟩)])
 (K.skip)))
 (K.seq (K.ops [⟨none, .mov (some 41) (.tmp 8)⟩])
 (K.cond (.tmp 41)
 (K.seq (K.ops [⟨none, .mov (some 42) (.tmp 5)⟩,
 ⟨none, .mov (some 43) (.tmp 0)⟩,
 ⟨none, .mov (some 44) (.tmp 6)⟩,
 ⟨none, .idx (some 45) (.tmp 43) (.tmp 44) 1⟩,
 ⟨none, .ld (some 46) (.tmp 45) 1 false⟩,
 ⟨none, .bslice (some 47) 36 1 1 [(.slice none 0 0)] [(0, 1, (.tmp 46))]⟩,
 ⟨none, .app (some 48) 36 1 24 (.tmp 42) (.tmp 47)⟩,
 ⟨none, .mov (some 5) (.tmp 48)⟩])
 (K.ops [⟨none, .mov (some 49) (.tmp 6)⟩,
 ⟨none, .bin (some 50) .add (.tmp 49) (.const (.int .i64 1))⟩,
 ⟨none, .mov (some 6) (.tmp 50)⟩]))
 (K.seq (K.ops [⟨none, .mov (some 51) (.tmp 5)⟩,
 ⟨none, .mov (some 52) (.tmp 1)⟩,
 ⟨none, .mov (some 53) (.tmp 7)⟩,
 ⟨none, .idx (some 54) (.tmp 52) (.tmp 53) 1⟩,
 ⟨none, .ld (some 55) (.tmp 54) 1 false⟩,
 ⟨none, .bslice (some 56) 36 1 1 [(.slice none 0 0)] [(0, 1, (.tmp 55))]⟩,
 ⟨none, .app (some 57) 36 1 24 (.tmp 51) (.tmp 56)⟩,
 ⟨none, .mov (some 5) (.tmp 57)⟩])
 (K.ops [⟨none, .mov (some 58) (.tmp 7)⟩,
 ⟨none, .bin (some 59) .add (.tmp 58) (.const (.int .i64 1))⟩,
 ⟨none, .mov (some 7) (.tmp 59)⟩]))))))))))
 (K.seq (K.ops [⟨none, .mov (some 60) (.tmp 5)⟩,
 ⟨none, .mov (some 4) (.tmp 60)⟩])
 (K.ret))))))
theorem c70 : compile Try.prog Try.f70.ntmps (Try.f70.body.getD .skip) = some K70.erase := by kernel_rfl
@[simp] theorem cal70 : callable Try.prog 70 = true := by kernel_rfl

-- splicery/spliceryref13.sorted · results ["2"]
def K39 : K :=
 K.seq (K.ops [⟨none, .mov (some 2) (.const (.slice none 0 0))⟩])
 (K.seq (K.seq (K.ops [⟨none, .mov (some 3) (.tmp 0)⟩,
 ⟨none, .len (some 4) false (.tmp 3)⟩,
 ⟨none, .bin (some 5) .lss (.tmp 4) (.const (.int .i64 2))⟩])
 (K.cond (.tmp 5)
 (K.seq (K.ops [⟨none, .mov (some 6) (.tmp 0)⟩,
 ⟨none, .mov (some 2) (.tmp 6)⟩])
 (K.ret))
 (K.skip)))
 (K.seq (K.dops [(0, 0, ⟨none, .mov (some 7) (.tmp 0)⟩),
 (1, 0, ⟨none, .mov (some 8) (.tmp 0)⟩),
 (2, 0, ⟨none, .len (some 9) false (.tmp 8)⟩),
 (3, 0, ⟨none, .bin (some 10) .quo (.tmp 9) (.const (.int .i64 2))⟩),
 (4, 0, ⟨none, .slc (some 11) (.tmp 7) 1 none (some (.tmp 10)) none⟩),
 (5, 0, ⟨none, .call (some 12) (.func 39) [(.tmp 11)]⟩),
 (6, 0, ⟨none, .mov (some 13) (.tmp 0)⟩),
 (7, 0, ⟨none, .mov (some 14) (.tmp 0)⟩),
 (8, 0, ⟨none, .len (some 15) false (.tmp 14)⟩),
 (9, 0, ⟨none, .bin (some 16) .quo (.tmp 15) (.const (.int .i64 2))⟩),
 (10, 0, ⟨none, .slc (some 17) (.tmp 13) 1 (some (.tmp 16)) none none⟩),
 (11, 0, ⟨none, .call (some 18) (.func 39) [(.tmp 17)]⟩),
 (12, 0, ⟨none, .call (some 19) (.func 70) [(.tmp 12), (.tmp 18)]⟩),
 (13, 0, ⟨none, .mov (some 2) (.tmp 19)⟩)])
 (K.ret)))
theorem c39 : compile Try.prog Try.f39.ntmps (Try.f39.body.getD .skip) = some K39.erase := by kernel_rfl
@[simp] theorem cal39 : callable Try.prog 39 = true := by kernel_rfl


def leR (x y : List Val) : Bool := decide (refOrder x y ≤ 0)
def mergeR (a b : List (List Val)) : List (List Val) := List.merge a b leR
theorem mergeR_left {x : List Val} {a b : List (List Val)} (h : ∀ y ∈ b.head?, refOrder x y ≤ 0) : mergeR (x :: a) b = x :: mergeR a b := by
  cases b with
  | nil => simp [mergeR]
  | cons y b => simp [mergeR, List.cons_merge_cons, leR, h y (by simp)]
theorem mergeR_right {y : List Val} {a b : List (List Val)} (h : ∀ x ∈ a.head?, ¬ refOrder x y ≤ 0) : mergeR a (y :: b) = y :: mergeR a b := by
  cases a with
  | nil => simp [mergeR]
  | cons x a => simp [mergeR, List.cons_merge_cons, leR, h x (by simp)]
theorem mergeR_len (a b : List (List Val)) : (mergeR a b).length = a.length + b.length := by simp [mergeR, List.length_merge]

theorem merged_ok (a b : List (List Val)) (hn : a.length + b.length ≤ 1000000) : Ret Try.prog 70 [.sl a.length (cellsW a), .sl b.length (cellsW b)] [] (.sl (mergeR a b).length (cellsW (mergeR a b))) [] := by
  refine ret_of_wp Try.func70 rfl c70 (rs := [.slot 4]) (by kernel_rfl) ?_
  unfold K70
  simp -implicitDefEqProofs
  have hML := mergeR_len a b
  refine loopS (S := Nat × Nat) (fun s => [(0, .sl a.length (cellsW a)), (1, .sl b.length (cellsW b)), (5, .row 0 (s.1 + s.2)), (6, int s.1), (7, int s.2)])
    (fun s => [.row false 36 1 (s.1 + s.2) (cellsW ((mergeR a b).take (s.1 + s.2)))]) (fun s => s.1 ≤ a.length ∧ s.2 ≤ b.length ∧ (mergeR a b).drop (s.1 + s.2) = mergeR (a.drop s.1) (b.drop s.2)) (fun s => a.length + b.length - (s.1 + s.2)) (0, 0) (by simp)
    ((weak_nilslot (t := 5) (by simp) 36 1).trans (selW [0] 0 (by simp) (by simp) (by simp) (by simp))) ?_
  rintro ⟨i, k⟩ ⟨hi, hk, hM⟩
  simp only at hi hk hM
  generalize hMM : mergeR a b = M at hML hM ⊢
  have hwi : IntKind.i64.wrap ((i : Int) + 1) = (i : Int) + 1 := IntWalk.i64_in _ (by omega)
  have hwk : IntKind.i64.wrap ((k : Int) + 1) = (k : Int) + 1 := IntWalk.i64_in _ (by omega)
  have left : ∀ (h : i < a.length), (∀ y ∈ (b.drop k).head?, refOrder a[i] y ≤ 0) → cellsW (M.take (i + k + 1)) = cellsW (M.take (i + k)) ++ [.sl a[i].length (cellsV a[i])] ∧ M.drop (i + k + 1) = mergeR (a.drop (i + 1)) (b.drop k) := fun h hy => by
    rw [List.drop_eq_getElem_cons h, mergeR_left hy] at hM
    have hlt : i + k < M.length := by
      have := congrArg List.length hM
      simp at this
      omega
    rw [List.drop_eq_getElem_cons hlt] at hM
    obtain ⟨q1, q2⟩ := List.cons.inj hM
    exact ⟨by rw [step_take hlt, q1], q2⟩
  have right : ∀ (h : k < b.length), (∀ x ∈ (a.drop i).head?, ¬ refOrder x b[k] ≤ 0) → cellsW (M.take (i + k + 1)) = cellsW (M.take (i + k)) ++ [.sl b[k].length (cellsV b[k])] ∧ M.drop (i + k + 1) = mergeR (a.drop i) (b.drop (k + 1)) := fun h hx => by
    rw [List.drop_eq_getElem_cons h, mergeR_right hx] at hM
    have hlt : i + k < M.length := by
      have := congrArg List.length hM
      simp at this
      omega
    rw [List.drop_eq_getElem_cons hlt] at hM
    obtain ⟨q1, q2⟩ := List.cons.inj hM
    exact ⟨by rw [step_take hlt, q1], q2⟩
  have hik : i + 1 + k = i + k + 1 := by omega
  by_cases hia : i < a.length
  · by_cases hkb : k < b.length
    · have hke : ¬ (k : Int) = b.length := by omega
      simp -implicitDefEqProofs [hia, hkb, hke, cellsW_drop hia, cellsW_drop hkb]
      intro _ _ _
      refine dcall0 (refOrder_ok a[i] b[k]) (by simp) (by simp) ?_
      by_cases ho : refOrder a[i] b[k] ≤ 0
      · obtain ⟨q1, q2⟩ := left hia (by intro y hy; simp [hkb] at hy; subst hy; exact ho)
        simp -implicitDefEqProofs [ho, hia, hkb, cellsW_drop hia]
        refine ⟨⟨by simp [maxLen]; omega, by omega⟩, ?_⟩
        exact roundS (i + 1, k) ⟨hia, hk, by simp only; rw [hik]; exact q2⟩ (by simp only; omega) (selW [0] 0 (by simp) (by simp) (by simp [hik, q1]) (by simp [hik, hwi]))
      · obtain ⟨q1, q2⟩ := right hkb (by intro y hy; simp [hia] at hy; subst hy; exact ho)
        simp -implicitDefEqProofs [ho, hia, hkb, cellsW_drop hkb]
        refine ⟨⟨by simp [maxLen]; omega, by omega⟩, ?_⟩
        exact roundS (i, k + 1) ⟨hi, hkb, by simp only; rw [← Nat.add_assoc]; exact q2⟩ (by simp only; omega) (selW [0] 0 (by simp) (by simp) (by simp [← Nat.add_assoc, q1]) (by simp [← Nat.add_assoc, hwk]))
    · have hke : k = b.length := by omega
      subst hke
      simp -implicitDefEqProofs [hia, cellsW_drop hia]
      obtain ⟨q1, q2⟩ := left hia (by simp)
      intro _ _
      refine ⟨⟨by simp [maxLen]; omega, by omega⟩, ?_⟩
      exact roundS (i + 1, b.length) ⟨hia, hk, by simp only; rw [hik]; exact q2⟩ (by simp only; omega) (selW [0] 0 (by simp) (by simp) (by simp [hik, q1]) (by simp [hik, hwi]))
  · by_cases hkb : k < b.length
    · have hke : ¬ (k : Int) = b.length := by omega
      simp -implicitDefEqProofs [hia, hkb, hke, cellsW_drop hkb]
      have hii : i = a.length := by omega
      obtain ⟨q1, q2⟩ := right hkb (by simp [hii])
      intro _ _ _
      refine ⟨⟨by simp [maxLen]; omega, by omega⟩, ?_⟩
      exact roundS (i, k + 1) ⟨hi, hkb, by simp only; rw [← Nat.add_assoc]; exact q2⟩ (by simp only; omega) (selW [0] 0 (by simp) (by simp) (by simp [← Nat.add_assoc, q1]) (by simp [← Nat.add_assoc, hwk]))
    · have hii : i = a.length := by omega
      have hkk : k = b.length := by omega
      subst hii hkk
      simp -implicitDefEqProofs
      intro _ _
      exact ret_end 1 (by simp [hML, List.take_of_length_le (show M.length ≤ a.length + b.length by omega)])

def OkW (l : List (List Val)) : Prop := ∀ x ∈ l, ∀ v ∈ x, OkV v
theorem leR_eq {x y : List Val} (hx : ∀ v ∈ x, OkV v) (hy : ∀ v ∈ y, OkV v) : leR x y = true ↔ ¬ orderV y x < 0 := by
  rw [leR, order_eq hx hy, decide_eq_true_eq, lin_orderV.swap]
  omega
theorem mergeR_sorted : ∀ {a b : List (List Val)}, OkW a → OkW b → a.Pairwise (fun x y => ¬ orderV y x < 0) → b.Pairwise (fun x y => ¬ orderV y x < 0) → (mergeR a b).Pairwise (fun x y => ¬ orderV y x < 0)
  | [], b, _, _, _, hb => by simpa [mergeR] using hb
  | x :: a, [], _, _, ha, _ => by simpa [mergeR] using ha
  | x :: a, y :: b, ka, kb, ha, hb => by
    obtain ⟨h1, h2⟩ := List.pairwise_cons.1 ha
    obtain ⟨h3, h4⟩ := List.pairwise_cons.1 hb
    have kx := ka x (by simp)
    have ky := kb y (by simp)
    have ka' : OkW a := fun z hz => ka z (List.mem_cons_of_mem _ hz)
    have kb' : OkW b := fun z hz => kb z (List.mem_cons_of_mem _ hz)
    by_cases hc : refOrder x y ≤ 0
    · rw [mergeR_left (by simpa using hc)]
      have hxy : ¬ orderV y x < 0 := (leR_eq kx ky).1 (by simpa [leR] using hc)
      refine List.pairwise_cons.2 ⟨fun z hz => ?_, mergeR_sorted ka' kb h2 hb⟩
      have hz : z ∈ a ∨ z ∈ y :: b := by simpa [mergeR, List.mem_merge] using hz
      rcases hz with hz | hz
      · exact h1 z hz
      · rcases List.mem_cons.1 hz with rfl | hz
        · exact hxy
        · exact lin_orderV.ord.ntrans _ _ _ (h3 z hz) hxy
    · rw [mergeR_right (by simpa using hc)]
      have hyx : ¬ orderV x y < 0 := by
        rw [order_eq kx ky] at hc
        omega
      refine List.pairwise_cons.2 ⟨fun z hz => ?_, mergeR_sorted ka kb' ha h4⟩
      have hz : z ∈ x :: a ∨ z ∈ b := by simpa [mergeR, List.mem_merge] using hz
      rcases hz with hz | hz
      · rcases List.mem_cons.1 hz with rfl | hz
        · exact hyx
        · exact lin_orderV.ord.ntrans _ _ _ (h1 z hz) hyx
      · exact h3 z hz
termination_by a b => a.length + b.length
theorem mergeR_perm : ∀ (a b : List (List Val)), (mergeR a b).Perm (a ++ b) := fun a b => List.merge_perm_append _
theorem sortL_perm {β : Type} (cf : β → β → Int) (l : List β) : (sortL cf l).Perm l := List.mergeSort_perm _ _
theorem sortL_sorted {β : Type} {cf : β → β → Int} (ho : Ord cf) (l : List β) : (sortL cf l).Pairwise (fun x y => ¬ cf y x < 0) := by
  rw [sortL_isort ho]
  exact (isortL_ok ho l).2

theorem sorted_ok : ∀ (N : Nat) (l : List (List Val)), l.length = N → N ≤ 1000000 → OkW l → Ret Try.prog 39 [.sl l.length (cellsW l)] [] (.sl (sortL orderV l).length (cellsW (sortL orderV l))) [] := by
  intro N
  induction N using Nat.strongRecOn with
  | _ N ih =>
  intro l hN hl6 hok
  refine ret_of_wp Try.func39 rfl c39 (rs := [.slot 2]) (by kernel_rfl) ?_
  unfold K39
  by_cases h2 : l.length < 2
  · have e : sortL orderV l = l := (sortL_unique lin_orderV.ord (.refl _) (by
      match l, h2 with
      | [], _ => exact .nil
      | [x], _ => simp)).symm
    have h2' : (l.length : Int) < 2 := by omega
    rw [e]
    simp -implicitDefEqProofs [h2']
    exact fun _ => ret_end 0 (by simp)
  · have h2' : ¬ (l.length : Int) < 2 := by omega
    have hq : (l.length : Int).tdiv 2 = ((l.length / 2 : Nat) : Int) := by
      rw [Int.tdiv_eq_ediv_of_nonneg (by omega)]; rfl
    have hwq : IntKind.i64.wrap ((l.length : Int) / 2) = (l.length : Int) / 2 := IntWalk.i64_in _ (by omega)
    have htn : ((l.length : Int) / 2).toNat = l.length / 2 := by omega
    have hh : l.length / 2 ≤ l.length := by omega
    have hA : OkW (l.take (l.length / 2)) := fun x hx => hok x (List.mem_of_mem_take hx)
    have hB : OkW (l.drop (l.length / 2)) := fun x hx => hok x (List.mem_of_mem_drop hx)
    have rA := ih (l.take (l.length / 2)).length (by simp; omega) _ rfl (by simp; omega) hA
    have rB := ih (l.drop (l.length / 2)).length (by simp; omega) _ rfl (by simp; omega) hB
    simp -implicitDefEqProofs [h2', hq, hwq, hh, htn]
    intro hlm
    refine ⟨⟨by omega, by omega⟩, ?_⟩
    have tk : (cellsW l).take (l.length / 2) = cellsW (l.take (l.length / 2)) := by simp [cellsW, List.map_take]
    have dk : (cellsW l).drop (l.length / 2) = cellsW (l.drop (l.length / 2)) := by simp [cellsW, List.map_drop]
    have hsub : ((l.length : Int) - (l.length : Int) / 2).toNat = l.length - l.length / 2 := by omega
    have tk2 : (cellsW (l.drop (l.length / 2))).take (l.length - l.length / 2) = cellsW (l.drop (l.length / 2)) := List.take_of_length_le (by simp)
    refine dcall0 rA (by simp [tk, Nat.min_eq_left hh]) (by simp) ?_
    simp -implicitDefEqProofs [h2', hq, hwq, hh, htn, hlm]
    refine ⟨⟨by omega, by omega⟩, ?_⟩
    refine dcall0 rB (by simp [hsub, dk, tk2]) (by simp) ?_
    simp -implicitDefEqProofs
    refine dcall0 (merged_ok (sortL orderV (l.take (l.length / 2))) (sortL orderV (l.drop (l.length / 2))) (by rw [(sortL_perm _ _).length_eq, (sortL_perm _ _).length_eq]; simp; omega)) (by simp) (by simp) ?_
    have hfin : mergeR (sortL orderV (l.take (l.length / 2))) (sortL orderV (l.drop (l.length / 2))) = sortL orderV l := by
      refine sortL_unique lin_orderV.ord ?_ ?_
      · refine (mergeR_perm _ _).trans (((sortL_perm _ _).append (sortL_perm _ _)).trans ?_)
        rw [List.take_append_drop]
      · refine mergeR_sorted (fun x hx => hA x ((sortL_perm _ _).mem_iff.1 hx)) (fun x hx => hB x ((sortL_perm _ _).mem_iff.1 hx)) (sortL_sorted lin_orderV.ord _) (sortL_sorted lin_orderV.ord _)
    rw [hfin]
    simp -implicitDefEqProofs
    exact ret_end 0 (by simp)
end Go.Proofs.Ytbkiphnlbadhcaa
