/-
  The law TraceJoins, walked.
-/
import Derived.Test.YthglhccibdlccaaDoorA10
namespace Go.Proofs.YthglhccibdlccaaDoor
open Go.Abs

-- splicery/splicerylaw12.TraceJoins · results ["10"]
def KLaw : K :=
 K.seq (K.ops [⟨none, .mov (some 10) (.const (.bool false))⟩])
 (K.seq (K.ops [⟨none, .mov (some 15) (.tmp 0)⟩,
 ⟨none, .call (some 16) (.func 4) [(.tmp 15)]⟩,
 ⟨none, .mov (some 17) (.tmp 1)⟩,
 ⟨none, .call (some 18) (.func 4) [(.tmp 17)]⟩,
 ⟨none, .build (some 19) [(.slice none 0 0), (.slice none 0 0)] [(0, 1, (.tmp 16)), (1, 1, (.tmp 18))]⟩,
 ⟨none, .alloc (some 11) [(.slice none 0 0), (.slice none 0 0)]⟩,
 ⟨none, .st none (.tmp 11) (.tmp 19) 2⟩])
 (K.seq (K.ops [⟨none, .mov (some 20) (.tmp 2)⟩,
 ⟨none, .call (some 21) (.func 4) [(.tmp 20)]⟩,
 ⟨none, .mov (some 22) (.tmp 3)⟩,
 ⟨none, .call (some 23) (.func 4) [(.tmp 22)]⟩,
 ⟨none, .build (some 24) [(.slice none 0 0), (.slice none 0 0)] [(0, 1, (.tmp 21)), (1, 1, (.tmp 23))]⟩,
 ⟨none, .alloc (some 12) [(.slice none 0 0), (.slice none 0 0)]⟩,
 ⟨none, .st none (.tmp 12) (.tmp 24) 2⟩])
 (K.seq (K.seq (K.dops [(0, 0, ⟨none, .ld (some 25) (.tmp 11) 2 true⟩),
 (1, 0, ⟨none, .ld (some 26) (.tmp 12) 2 true⟩),
 (2, 0, ⟨none, .call (some 27) (.func 7) [(.tmp 25), (.tmp 26)]⟩),
 (3, 0, ⟨none, .call (some 28) (.func 6) [(.tmp 27)]⟩),
 (4, 0, ⟨none, .ld (some 29) (.tmp 11) 2 true⟩),
 (5, 0, ⟨none, .call (some 30) (.func 6) [(.tmp 29)]⟩),
 (6, 0, ⟨none, .ld (some 31) (.tmp 12) 2 true⟩),
 (7, 0, ⟨none, .call (some 32) (.func 6) [(.tmp 31)]⟩),
 (8, 0, ⟨none, .call (some 33) (.func 8) [(.tmp 30), (.tmp 32)]⟩),
 (9, 0, ⟨none, .call (some 34) (.func 5) [(.tmp 28), (.tmp 33)]⟩),
 (10, 0, ⟨none, .not (some 35) (.tmp 34)⟩)])
 (K.cond (.tmp 35)
 (K.seq (K.ops [⟨none, .mov (some 10) (.const (.bool false))⟩])
 (K.ret))
 (K.skip)))
 (K.seq (K.ops [⟨none, .mov (some 36) (.tmp 4)⟩,
 ⟨none, .bslice (some 37) 3 1 1 [(.int .i64 0)] [(0, 1, (.tmp 36))]⟩,
 ⟨none, .call (some 38) (.func 4) [(.tmp 37)]⟩,
 ⟨none, .mov (some 39) (.tmp 2)⟩,
 ⟨none, .call (some 40) (.func 4) [(.tmp 39)]⟩,
 ⟨none, .mov (some 41) (.tmp 4)⟩,
 ⟨none, .mov (some 42) (.tmp 4)⟩,
 ⟨none, .bin (some 43) .quo (.tmp 42) (.const (.int .i64 5))⟩,
 ⟨none, .bslice (some 44) 3 1 2 [(.int .i64 0), (.int .i64 0)] [(0, 1, (.tmp 41)), (1, 1, (.tmp 43))]⟩,
 ⟨none, .call (some 45) (.func 4) [(.tmp 44)]⟩,
 ⟨none, .bslice (some 46) 23 1 4 [(.slice none 0 0), (.slice none 0 0), (.slice none 0 0), (.slice none 0 0)] [(0, 1, (.tmp 38)), (1, 1, (.tmp 40)), (2, 1, (.tmp 45)), (3, 1, (.const (.slice none 0 0)))]⟩,
 ⟨none, .mov (some 13) (.tmp 46)⟩])
 (K.seq (K.seq (K.ops [⟨none, .mov (some 14) (.const (.int .i64 0))⟩])
 (K.block 0 (K.loop (K.seq (K.seq (K.ops [⟨none, .mov (some 47) (.tmp 14)⟩,
 ⟨none, .bin (some 48) .lss (.tmp 47) (.const (.int .i64 4))⟩])
 (K.cond (.tmp 48)
 (K.skip)
 (K.exit 0)))
 (K.seq (K.block 1 (K.seq (K.dops [(0, 0, ⟨none, .ld (some 51) (.tmp 11) 2 true⟩),
 (1, 0, ⟨none, .mov (some 52) (.tmp 13)⟩),
 (2, 0, ⟨none, .mov (some 53) (.tmp 14)⟩),
 (3, 0, ⟨none, .idx (some 54) (.tmp 52) (.tmp 53) 1⟩),
 (4, 0, ⟨none, .ld (some 55) (.tmp 54) 1 false⟩),
 (5, 0, ⟨none, .call (some 56) (.func 9) [(.tmp 51), (.tmp 55)]⟩),
 (6, 0, ⟨none, .ld (some 57) (.tmp 11) 2 true⟩),
 (7, 0, ⟨none, .call (some 58) (.func 6) [(.tmp 57)]⟩),
 (8, 0, ⟨none, .mov (some 59) (.tmp 13)⟩),
 (9, 0, ⟨none, .mov (some 60) (.tmp 14)⟩),
 (10, 0, ⟨none, .idx (some 61) (.tmp 59) (.tmp 60) 1⟩),
 (11, 0, ⟨none, .ld (some 62) (.tmp 61) 1 false⟩),
 (12, 0, ⟨none, .call (some 63) (.func 10) [(.tmp 58), (.tmp 62)]⟩),
 (13, 0, ⟨none, .eqv (some 64) true .b (.tmp 56) (.tmp 63)⟩),
 (14, 0, ⟨none, .mov (some 65) (.tmp 64)⟩),
 (15, 0, ⟨some (65, false), .ld (some 66) (.tmp 11) 2 true⟩),
 (16, 0, ⟨some (65, false), .ld (some 67) (.tmp 12) 2 true⟩),
 (17, 0, ⟨some (65, false), .call (some 68) (.func 7) [(.tmp 66), (.tmp 67)]⟩),
 (18, 0, ⟨some (65, false), .mov (some 69) (.tmp 13)⟩),
 (19, 0, ⟨some (65, false), .mov (some 70) (.tmp 14)⟩),
 (20, 0, ⟨some (65, false), .idx (some 71) (.tmp 69) (.tmp 70) 1⟩),
 (21, 0, ⟨some (65, false), .ld (some 72) (.tmp 71) 1 false⟩),
 (22, 0, ⟨some (65, false), .call (some 73) (.func 9) [(.tmp 68), (.tmp 72)]⟩),
 (23, 0, ⟨some (65, false), .ld (some 74) (.tmp 11) 2 true⟩),
 (24, 0, ⟨some (65, false), .mov (some 75) (.tmp 13)⟩),
 (25, 0, ⟨some (65, false), .mov (some 76) (.tmp 14)⟩),
 (26, 0, ⟨some (65, false), .idx (some 77) (.tmp 75) (.tmp 76) 1⟩),
 (27, 0, ⟨some (65, false), .ld (some 78) (.tmp 77) 1 false⟩),
 (28, 0, ⟨some (65, false), .call (some 79) (.func 9) [(.tmp 74), (.tmp 78)]⟩),
 (29, 0, ⟨some (65, false), .mov (some 80) (.tmp 79)⟩),
 (30, 0, ⟨some (80, false), .ld (some 81) (.tmp 12) 2 true⟩),
 (31, 0, ⟨some (80, false), .mov (some 82) (.tmp 13)⟩),
 (32, 0, ⟨some (80, false), .mov (some 83) (.tmp 14)⟩),
 (33, 0, ⟨some (80, false), .idx (some 84) (.tmp 82) (.tmp 83) 1⟩),
 (34, 0, ⟨some (80, false), .ld (some 85) (.tmp 84) 1 false⟩),
 (35, 0, ⟨some (80, false), .call (some 86) (.func 9) [(.tmp 81), (.tmp 85)]⟩),
 (36, 0, ⟨some (65, false), .pick (some 87) (.tmp 80) (.const (.bool true)) (.tmp 86)⟩),
 (37, 0, ⟨some (65, false), .eqv (some 88) true .b (.tmp 73) (.tmp 87)⟩),
 (38, 0, ⟨none, .pick (some 89) (.tmp 65) (.const (.bool true)) (.tmp 88)⟩)])
 (K.cond (.tmp 89)
 (K.seq (K.ops [⟨none, .mov (some 10) (.const (.bool false))⟩])
 (K.ret))
 (K.skip))))
 (K.ops [⟨none, .mov (some 49) (.tmp 14)⟩,
 ⟨none, .bin (some 50) .add (.tmp 49) (.const (.int .i64 1))⟩,
 ⟨none, .mov (some 14) (.tmp 50)⟩]))))))
 (K.seq (K.ops [⟨none, .call (some 90) (.func 11) []⟩,
 ⟨none, .mov (some 10) (.tmp 90)⟩])
 (K.ret)))))))
theorem cLaw : compile Tryd.prog Tryd.f3.ntmps (Tryd.f3.body.getD .skip) = some KLaw.erase := by kernel_rfl
@[simp] theorem calLaw : callable Tryd.prog 3 = true := by kernel_rfl

@[simp] theorem encTr_len (t : Trc) : (encTr t).length = 2 := rfl
@[simp] theorem encTr_all (t : Trc) : (encTr t).take 2 = encTr t := rfl

theorem anyApp (t : Trc) (ids : List Id) : asksD t ids = ids.any fun x => decide (x ∈ t.defs ++ t.nodes) := by
  unfold asksD
  congr 1
  funext x
  simp [List.mem_append]
theorem anyJoin (a b : Trc) (ids : List Id) : (ids.any fun x => decide (x ∈ setD (a.defs ++ b.defs) ++ setD (a.nodes ++ b.nodes))) = ((ids.any fun x => decide (x ∈ a.defs ++ a.nodes)) || ids.any fun x => decide (x ∈ b.defs ++ b.nodes)) := by
  rw [Bool.eq_iff_iff, Bool.or_eq_true, List.any_eq_true, List.any_eq_true, List.any_eq_true]
  constructor
  · rintro ⟨x, hx, h⟩
    simp only [decide_eq_true_eq, List.mem_append, setD_mem] at h
    rcases h with (h | h) | (h | h)
    · exact .inl ⟨x, hx, by simp [h]⟩
    · exact .inr ⟨x, hx, by simp [h]⟩
    · exact .inl ⟨x, hx, by simp [h]⟩
    · exact .inr ⟨x, hx, by simp [h]⟩
  · rintro (⟨x, hx, h⟩ | ⟨x, hx, h⟩) <;> refine ⟨x, hx, ?_⟩ <;> simp only [decide_eq_true_eq, List.mem_append, setD_mem] at h ⊢ <;> rcases h with h | h <;> simp [h]

set_option maxHeartbeats 1000000 in
theorem law (k l m n : List Int) (x : Int) : Ret Tryd.prog 3 [.sl k.length (ints k), .sl l.length (ints l), .sl m.length (ints m), .sl n.length (ints n), int x] [] (bl true) [] := by
  refine ret_of_wp Tryd.func3 rfl cLaw (rs := [.slot 10]) (by kernel_rfl) ?_
  unfold KLaw
  have hk := someV_len k
  have hl := someV_len l
  have hm := someV_len m
  have hn := someV_len n
  have hj : (⟨setD (someV k ++ someV m), setD (someV l ++ someV n)⟩ : Trc) = ⟨allD (someV k) (someV m), allD (someV l) (someV n)⟩ := by rw [allD_eq, allD_eq]
  have hS : ∀ p q : List Id, (setD (p ++ q)).length ≤ p.length + q.length := fun p q => by
    rw [setD_eq]
    have := all_len (p ++ q) []
    simpa using this
  have hS1 := hS (someV k) (someV m)
  have hS2 := hS (someV l) (someV n)
  simp -implicitDefEqProofs
  refine call0 (some_ok k) (by simp) (by simp) ?_
  simp -implicitDefEqProofs
  refine call0 (some_ok l) (by simp) (by simp) ?_
  simp -implicitDefEqProofs
  refine call0 (some_ok m) (by simp) (by simp) ?_
  simp -implicitDefEqProofs
  refine call0 (some_ok n) (by simp) (by simp) ?_
  simp -implicitDefEqProofs
  refine dcall0 (join_ok ⟨someV k, someV l⟩ ⟨someV m, someV n⟩ (by simp only; omega) (by simp only; omega)) (by simp [encTr]) (by simp [encTr]) ?_
  simp -implicitDefEqProofs
  refine dcall0 (plain_ok ⟨setD (someV k ++ someV m), setD (someV l ++ someV n)⟩) (by simp [encTr]) (by simp [encTr]) ?_
  simp -implicitDefEqProofs
  refine dcall0 (plain_ok ⟨someV k, someV l⟩) (by simp [encTr]) (by simp [encTr]) ?_
  simp -implicitDefEqProofs
  refine dcall0 (plain_ok ⟨someV m, someV n⟩) (by simp [encTr]) (by simp [encTr]) ?_
  simp -implicitDefEqProofs
  refine dcall0 (refJoin_ok ⟨someV k, someV l⟩ ⟨someV m, someV n⟩ (by simp only; omega) (by simp only; omega) (by simp only; omega) (by simp only; omega)) (by simp [encTr]) (by simp [encTr]) ?_
  simp -implicitDefEqProofs
  refine dcall0 (same_ok ⟨setD (someV k ++ someV m), setD (someV l ++ someV n)⟩ ⟨allD (someV k) (someV m), allD (someV l) (someV n)⟩) (by simp [encTr]) (by simp) ?_
  simp -implicitDefEqProofs [hj]
  refine call0 (some_ok [x]) (by simp) (by simp) ?_
  simp -implicitDefEqProofs
  refine call0 (some_ok m) (by simp) (by simp) ?_
  simp -implicitDefEqProofs
  refine call0 (some_ok [x, IntKind.i64.wrap (x.tdiv 5)]) (by simp) (by simp) ?_
  simp -implicitDefEqProofs
  generalize hV : [someV [x], someV m, someV [x, IntKind.i64.wrap (x.tdiv 5)], []] = V
  have hV4 : V.length = 4 := by rw [← hV]; rfl
  refine loopS (S := Nat) (fun i => [(11, .ptr 0 0), (12, .ptr 1 0), (13, .sl 4 (cellsL V)), (14, int i)]) (fun i => [.box (encTr ⟨someV k, someV l⟩), .box (encTr ⟨someV m, someV n⟩)]) (fun i => i ≤ 4) (fun i => 4 - i) 0 (by simp)
    (selW [0, 1] 0 (by decide) (by simp) (by simp [encTr]) (by simp [← hV, cellsL])) ?_
  intro i hi
  by_cases h : i < 4
  · have hi4 : (i : Int) < 4 := by omega
    have hd := cellsL_drop (Ls := V) (i := i) (by omega)
    generalize V[i]'(by omega) = ids at hd
    have e1 := anyApp ⟨someV k, someV l⟩ ids
    have e2 := anyJoin ⟨someV k, someV l⟩ ⟨someV m, someV n⟩ ids
    have c1 := asks_ok ⟨someV k, someV l⟩ ids (someV k ++ someV l) rfl (by rw [List.length_append]; omega)
    have c2 := asks_ok ⟨someV m, someV n⟩ ids (someV m ++ someV n) rfl (by rw [List.length_append]; omega)
    have c3 := asks_ok ⟨setD (someV k ++ someV m), setD (someV l ++ someV n)⟩ ids (setD (someV k ++ someV m) ++ setD (someV l ++ someV n)) rfl (by rw [List.length_append]; omega)
    have c4 := refAsks_ok ⟨someV k, someV l⟩ ids
    simp only at e1 e2
    rw [e1] at c4
    rw [e2] at c3
    clear e1 e2
    generalize (ids.any fun x => decide (x ∈ someV k ++ someV l)) = A1 at c1 c3 c4
    generalize (ids.any fun x => decide (x ∈ someV m ++ someV n)) = B1 at c2 c3
    simp -implicitDefEqProofs [hi4, hd, hV4]
    refine ⟨h, ?_⟩
    refine dcall0 c1 (by simp [encTr]) (by simp) ?_
    simp -implicitDefEqProofs [hi4, hd, hV4, h]
    refine dcall0 (plain_ok ⟨someV k, someV l⟩) (by simp [encTr]) (by simp [encTr]) ?_
    simp -implicitDefEqProofs [hi4, hd, hV4, h]
    refine dcall0 c4 (by simp [encTr]) (by simp) ?_
    simp -implicitDefEqProofs [hi4, hd, hV4, h]
    refine dcall0 (join_ok ⟨someV k, someV l⟩ ⟨someV m, someV n⟩ (by simp only; omega) (by simp only; omega)) (by simp [encTr]) (by simp [encTr]) ?_
    simp -implicitDefEqProofs [hi4, hd, hV4, h]
    refine dcall0 c3 (by simp [encTr]) (by simp) ?_
    simp -implicitDefEqProofs [hi4, hd, hV4, h]
    refine dcall0 c1 (by simp [encTr]) (by simp) ?_
    simp -implicitDefEqProofs [hi4, hd, hV4, h]
    have hw : IntKind.i64.wrap ((i : Int) + 1) = (i : Int) + 1 := IntWalk.i64_in _ (by omega)
    cases A1 <;> simp -implicitDefEqProofs [hi4, hd, hV4, h]
    · refine dcall0 c2 (by simp [encTr]) (by simp) ?_
      cases B1 <;> simp -implicitDefEqProofs [hi4, hd, hV4, h]
      all_goals exact roundS (i + 1) h (by omega) (selW [0, 1] 0 (by decide) (by simp) (by simp [encTr]) (by simp [hw]))
    · exact roundS (i + 1) h (by omega) (selW [0, 1] 0 (by decide) (by simp) (by simp [encTr]) (by simp [hw]))
  · have : i = 4 := by omega
    subst this
    simp -implicitDefEqProofs
    refine call0 lives_ok (by simp) (by simp) ?_
    simp -implicitDefEqProofs
    exact ret_end 0 (by simp)
end Go.Proofs.YthglhccibdlccaaDoor
