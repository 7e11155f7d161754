/-
  The reference's Values.
-/
import Derived.Test.YtbkiphnlbadhcaaC11
import Derived.Test.YtbkiphnlbadhcaaC13
import Derived.Test.YtbkiphnlbadhcaaC14
namespace Go.Proofs.Ytbkiphnlbadhcaa
open Go.Abs

-- splicery/spliceryref13.Values · results ["6", "7"]
def K13 : K :=
 K.seq (K.ops [⟨none, .box (some 3) (.tmp 0)⟩,
 ⟨none, .box (some 4) (.tmp 1)⟩,
 ⟨none, .mov (some 6) (.const (.slice none 0 0))⟩,
 ⟨none, .mov (some 7) (.const (.int .i64 0))⟩])
 (K.seq (K.seq (K.ops [⟨none, .mov (some 16) (.tmp 2)⟩,
 ⟨none, .bin (some 17) .lss (.tmp 16) (.const (.int .i64 0))⟩,
 ⟨none, .mov (some 18) (.tmp 17)⟩,
 ⟨some (18, false), .mov (some 19) (.tmp 2)⟩,
 ⟨some (18, false), .bin (some 20) .gtr (.tmp 19) (.const (.int .i64 64))⟩,
 ⟨none, .pick (some 21) (.tmp 18) (.const (.bool true)) (.tmp 20)⟩])
 (K.cond (.tmp 21)
 (K.seq (K.ops [⟨none, .mov (some 6) (.const (.slice none 0 0))⟩,
 ⟨none, .mov (some 7) (.const (.int .i64 1))⟩])
 (K.ret))
 (K.skip)))
 (K.seq (K.ops [⟨none, .ld (some 23) (.tmp 3) 2 true⟩,
 ⟨none, .ld (some 24) (.tmp 4) 5 true⟩,
 ⟨none, .mov (some 25) (.tmp 2)⟩,
 ⟨none, .call (some 26) (.func 37) [(.tmp 23), (.tmp 24), (.tmp 25), (.const (.int .i64 1))]⟩,
 ⟨none, .mov (some 22) (.tmp 26)⟩,
 ⟨none, .ext (some 27) (.tmp 22) 0⟩,
 ⟨none, .ext (some 28) (.tmp 22) 1⟩,
 ⟨none, .ext (some 29) (.tmp 22) 2⟩,
 ⟨none, .mov (some 8) (.tmp 27)⟩,
 ⟨none, .mov (some 9) (.tmp 28)⟩,
 ⟨none, .mov (some 10) (.tmp 29)⟩])
 (K.seq (K.seq (K.ops [⟨none, .mov (some 30) (.tmp 10)⟩,
 ⟨none, .eqv (some 31) true .i (.tmp 30) (.const (.int .i64 0))⟩])
 (K.cond (.tmp 31)
 (K.seq (K.ops [⟨none, .mov (some 32) (.tmp 10)⟩,
 ⟨none, .mov (some 6) (.const (.slice none 0 0))⟩,
 ⟨none, .mov (some 7) (.tmp 32)⟩])
 (K.ret))
 (K.skip)))
 (K.seq (K.ops [⟨none, .ld (some 33) (.tmp 3) 2 true⟩,
 ⟨none, .ld (some 34) (.tmp 4) 5 true⟩,
 ⟨none, .mov (some 35) (.tmp 2)⟩,
 ⟨none, .call (some 36) (.func 38) [(.tmp 33), (.tmp 34), (.tmp 35)]⟩,
 ⟨none, .mov (some 11) (.tmp 36)⟩])
 (K.seq (K.ops [⟨none, .mov (some 12) (.const (.slice none 0 0))⟩])
 (K.seq (K.seq (K.ops [⟨none, .mov (some 13) (.const (.int .i64 0))⟩])
 (K.block 0 (K.loop (K.seq (K.seq (K.ops [⟨none, .mov (some 37) (.tmp 13)⟩,
 ⟨none, .mov (some 38) (.tmp 11)⟩,
 ⟨none, .len (some 39) false (.tmp 38)⟩,
 ⟨none, .bin (some 40) .lss (.tmp 37) (.tmp 39)⟩])
 (K.cond (.tmp 40)
 (K.skip)
 (K.exit 0)))
 (K.seq (K.block 1 (K.ops [⟨none, .mov (some 43) (.tmp 12)⟩,
 ⟨none, .mov (some 44) (.tmp 11)⟩,
 ⟨none, .mov (some 45) (.tmp 13)⟩,
 ⟨none, .idx (some 46) (.tmp 44) (.tmp 45) 3⟩,
 ⟨none, .ld (some 47) (.tmp 46) 3 true⟩,
 ⟨none, .bslice (some 48) 60 3 1 [(.int .i64 0), (.int .i64 0), (.slice none 0 0)] [(0, 3, (.tmp 47))]⟩,
 ⟨none, .bslice (some 49) 36 1 1 [(.slice none 0 0)] [(0, 1, (.tmp 48))]⟩,
 ⟨none, .app (some 50) 36 1 24 (.tmp 43) (.tmp 49)⟩,
 ⟨none, .mov (some 12) (.tmp 50)⟩]))
 (K.ops [⟨none, .mov (some 41) (.tmp 13)⟩,
 ⟨none, .bin (some 42) .add (.tmp 41) (.const (.int .i64 1))⟩,
 ⟨none, .mov (some 13) (.tmp 42)⟩]))))))
 (K.wk (K.seq (K.ops [⟨none, .mov (some 51) (.tmp 12)⟩,
 ⟨none, .call (some 52) (.func 39) [(.tmp 51)]⟩,
 ⟨none, .mov (some 12) (.tmp 52)⟩])
 (K.seq (K.ops [⟨none, .mov (some 14) (.const (.slice none 0 0))⟩])
 (K.seq (K.seq (K.ops [⟨none, .mov (some 15) (.const (.int .i64 0))⟩])
 (K.block 2 (K.loop (K.seq (K.seq (K.ops [⟨none, .mov (some 53) (.tmp 15)⟩,
 ⟨none, .mov (some 54) (.tmp 12)⟩,
 ⟨none, .len (some 55) false (.tmp 54)⟩,
 ⟨none, .bin (some 56) .lss (.tmp 53) (.tmp 55)⟩])
 (K.cond (.tmp 56)
 (K.skip)
 (K.exit 2)))
 (K.seq (K.block 3 (K.ops [⟨none, .mov (some 59) (.tmp 14)⟩,
 ⟨none, .mov (some 60) (.tmp 12)⟩,
 ⟨none, .mov (some 61) (.tmp 15)⟩,
 ⟨none, .idx (some 62) (.tmp 60) (.tmp 61) 1⟩,
 ⟨none, .ld (some 63) (.tmp 62) 1 false⟩,
 ⟨none, .idx (some 64) (.tmp 63) (.const (.int .i64 0)) 3⟩,
 ⟨none, .ld (some 65) (.tmp 64) 3 true⟩,
 ⟨none, .bslice (some 66) 60 3 1 [(.int .i64 0), (.int .i64 0), (.slice none 0 0)] [(0, 3, (.tmp 65))]⟩,
 ⟨none, .app (some 67) 60 3 40 (.tmp 59) (.tmp 66)⟩,
 ⟨none, .mov (some 14) (.tmp 67)⟩]))
 (K.ops [⟨none, .mov (some 57) (.tmp 15)⟩,
 ⟨none, .bin (some 58) .add (.tmp 57) (.const (.int .i64 1))⟩,
 ⟨none, .mov (some 15) (.tmp 58)⟩]))))))
 (K.seq (K.ops [⟨none, .mov (some 68) (.tmp 14)⟩,
 ⟨none, .mov (some 6) (.tmp 68)⟩,
 ⟨none, .mov (some 7) (.const (.int .i64 0))⟩])
 (K.ret))))))))))))
theorem c13 : compile Try.prog Try.f13.ntmps (Try.f13.body.getD .skip) = some K13.erase := by kernel_rfl
@[simp] theorem cal13 : callable Try.prog 13 = true := by kernel_rfl


theorem foldl_step_mem : ∀ (L : List (List Val)) (acc : List (List Val)) (t : List Val) (v : Val), t ∈ L.foldl stepT acc → v ∈ t → (∃ l ∈ L, v ∈ l) ∨ ∃ s ∈ acc, v ∈ s
  | [], acc, t, v, ht, hv => .inr ⟨t, ht, hv⟩
  | a :: L, acc, t, v, ht, hv => by
    rcases foldl_step_mem L (stepT acc a) t v ht hv with ⟨l, hl, h⟩ | ⟨s, hs, h⟩
    · exact .inl ⟨l, List.mem_cons_of_mem _ hl, h⟩
    · simp only [stepT, List.mem_flatMap, List.mem_map] at hs
      obtain ⟨u, hu, x, hx, rfl⟩ := hs
      rcases List.mem_append.1 h with h | h
      · exact .inr ⟨u, hu, h⟩
      · simp at h; subst h; exact .inl ⟨a, List.mem_cons_self .., hx⟩
theorem prodT_elem {L : List (List Val)} {t : List Val} {v : Val} (ht : t ∈ prodT L) (hv : v ∈ t) : ∃ l ∈ L, v ∈ l := by
  rcases foldl_step_mem L [[]] t v ht hv with h | ⟨s, hs, h⟩
  · exact h
  · simp at hs; subst hs; simp at h
theorem prodT_ok {L : List (List Val)} (h : OkW L) : OkW (prodT L) := fun t ht v hv => by
  obtain ⟨l, hl, hv⟩ := prodT_elem ht hv
  exact h l hl v hv
theorem w64_lit {n : Int} (h : -9223372036854775808 ≤ n ∧ n ≤ 9223372036854775807) : w64 n = n := IntWalk.i64_in _ (by omega)
theorem casesV_ok : ∀ (L : List (List Val)) (i : Int), OkW L → 0 ≤ i → i + L.length ≤ 2000000 → ∀ v ∈ casesV i L, OkV v
  | [], i, _, _, _, v, hv => by simp [casesV] at hv
  | l :: L, i, h, h0, h1, v, hv => by
    simp only [List.length_cons] at h1
    simp only [casesV, List.mem_append, List.mem_map] at hv
    rcases hv with ⟨x, hx, rfl⟩ | hv
    · refine .mk (w64_lit (by omega)) (w64_lit (by omega)) fun y hy => ?_
      simp at hy; subst hy
      exact h l (List.mem_cons_self ..) y hx
    · exact casesV_ok L (i + 1) (fun x hx => h x (List.mem_cons_of_mem _ hx)) (by omega) (by omega) v hv
theorem allV_ok (p : Prg) (hs : Sml p) (m : Int) (hm : 0 ≤ m ∧ m ≤ 64) : ∀ (n : Nat) (t : Typ), ∀ v ∈ allV p m n t, OkV v
  | 0, t, v, hv => by simp [allV] at hv
  | n + 1, t, v, hv => by
    unfold allV at hv
    have no : ∀ x ∈ ([] : List Val), OkV x := fun x hx => by simp at hx
    split at hv
    · simp only [intsV, List.mem_map, List.mem_range] at hv
      obtain ⟨i, hi, rfl⟩ := hv
      exact .mk (w64_lit (by omega)) (w64_lit (by omega)) no
    split at hv
    · simp only [List.mem_cons, List.not_mem_nil, or_false] at hv
      rcases hv with rfl | rfl
      · exact .mk (w64_lit (by omega)) (w64_lit (by omega)) no
      · exact .mk (w64_lit (by omega)) (w64_lit (by omega)) no
    split at hv
    · simp only [listsV, List.mem_flatMap, List.mem_map] at hv
      obtain ⟨k, _, t', ht, rfl⟩ := hv
      refine .mk (w64_lit (by omega)) (w64_lit (by omega)) fun x hx => ?_
      obtain ⟨l, hl, hx⟩ := prodT_elem ht hx
      rw [(List.mem_replicate.1 hl).2] at hx
      exact allV_ok p hs m hm n _ x hx
    · have hL : OkW ((dfn p t.id).slots.map fun s => allV p m n s.typ) := fun l hl x hx => by
        obtain ⟨s, _, rfl⟩ := List.mem_map.1 hl
        exact allV_ok p hs m hm n _ x hx
      unfold slotsV at hv
      split at hv
      · simp only [recsV, List.mem_map] at hv
        obtain ⟨t', ht, rfl⟩ := hv
        exact .mk (w64_lit (by omega)) (w64_lit (by omega)) (prodT_ok hL t' ht)
      split at hv
      · have := hs.dfn t.id
        exact casesV_ok _ 0 hL (by omega) (by simp; omega) v hv
      · simp at hv

theorem w64_w64 (a : Int) : w64 (w64 a) = w64 a := by simp only [w64, IntKind.wrap_i64]; omega
theorem sumW_w64 {s : Int} (hs : w64 s = s) : ∀ l : List Val, w64 (sumW s l) = sumW s l
  | [] => hs
  | x :: l => by rw [sumW_cons, sumW_shift, w64_w64]
theorem weight_w64 {v : Val} (h : OkV v) : w64 (weightV v) = weightV v := by
  have hn : w64 v.n = v.n := by cases h; assumption
  rw [weightV_eq]
  have own : v.k = 4 ∧ v.kids ≠ [] ∨ w64 (ownW v) = ownW v := by
    unfold ownW
    by_cases h0 : v.k = 0 ∧ v.n < 0
    · rw [if_pos h0]; exact .inr (w64_w64 _)
    · rw [if_neg h0]
      by_cases h1 : v.k = 0 ∨ v.k = 1 ∨ v.k = 3
      · rw [if_pos h1]; exact .inr hn
      · rw [if_neg h1]
        by_cases h4 : v.k = 4
        · rw [if_pos h4]
          by_cases hl : v.kids = []
          · rw [hl]; exact .inr (w64_lit (by simp))
          · exact .inl ⟨h4, hl⟩
        · rw [if_neg h4]; exact .inr (w64_lit (by omega))
  by_cases h2 : v.k < 0 ∨ 4 < v.k
  · rw [if_pos h2]; exact w64_lit (by omega)
  rw [if_neg h2]
  by_cases h3 : v.k = 0 ∨ v.k = 1
  · rw [if_pos h3]
    rcases own with ⟨h4, _⟩ | own
    · omega
    · exact own
  · rw [if_neg h3]
    rcases own with ⟨_, hne⟩ | own
    · generalize v.kids = l at hne ⊢
      cases l with
      | nil => exact absurd rfl hne
      | cons x l => rw [sumW_cons, sumW_shift, w64_w64]
    · exact sumW_w64 own _
theorem order_one {a b : Val} (ha : OkV a) (hb : OkV b) : orderV [a] [b] = cmpW a b := by
  have e : ∀ {x : Val}, OkV x → sumW 0 [x] = weightV x := fun hx => by
    rw [sumW_cons, Int.zero_add, weight_w64 hx]; rfl
  have e2 : cmpVs [a] [b] = cmpV a b := by
    simp only [cmpVs]
    by_cases h : cmpV a b = 0 <;> simp [h]
  rw [orderV, e ha, e hb, e2, cmpW]
theorem sort_singles {l : List Val} (h : ∀ v ∈ l, OkV v) : sortL orderV (l.map fun v => [v]) = (sortL cmpW l).map fun v => [v] := by
  symm
  refine sortL_unique lin_orderV.ord ((sortL_perm _ _).map _) ?_
  rw [List.pairwise_map]
  refine (sortL_sorted lin_cmpW.ord l).imp_of_mem fun {x y} hx hy hxy => ?_
  rw [order_one (h _ ((sortL_perm _ _).mem_iff.1 hy)) (h _ ((sortL_perm _ _).mem_iff.1 hx))]
  exact hxy

theorem refMeas_ok (p : Prg) (hs : Sml p) (m : Int) (hm : 0 ≤ m ∧ m ≤ 64) (t : Typ) : Ret Try.prog 37 [.agg (encP p), .agg (encT t), int m, int 1] [] (szT (size p m t)) [] := refMeasN_ok p hs m hm 24 t 1 (by decide) (by decide)

theorem refValues_ok (p : Prg) (hs : Sml p) (t : Typ) (m : Int) : Ret Try.prog 13 [.agg (encP p), .agg (encT t), int m] [] (.tup [.sl (valuesV p t m).1.length (cellsV (valuesV p t m).1), int (valuesV p t m).2]) [] := by
  refine ret_of_wp Try.func13 rfl c13 (rs := [.slot 6, .slot 7]) (by kernel_rfl) ?_
  unfold K13
  by_cases h1 : m < 0
  · have e : valuesV p t m = ([], 1) := by simp [valuesV, h1]
    simp -implicitDefEqProofs [h1, e]
    exact ret_end 1 (by simp)
  by_cases h2 : 64 < m
  · have e : valuesV p t m = ([], 1) := by simp [valuesV, h2]
    simp -implicitDefEqProofs [h1, h2, e]
    exact ret_end 1 (by simp)
  simp -implicitDefEqProofs [h1, h2, encP, encT]
  refine call0 (refMeas_ok p hs m (by omega) t) (by simp [encP, encT]) (by simp [szT]) ?_
  by_cases h3 : (size p m t).e = 0
  · have e : valuesV p t m = (sortL cmpW (allV p m 24 t), 0) := by simp [valuesV, h1, h2, h3]
    have hl := size_len p m (by omega) 24 t h3
    have hle := sizeN_ok p m (by omega) 24 t h3
    have hll : (allV p m 24 t).length ≤ 4096 := by omega
    have hok := allV_ok p hs m (by omega) 24 t
    simp -implicitDefEqProofs [szT, h3, e]
    refine call0 (refAll_ok p hs m (by omega) 24 t h3) (by simp [encP, encT]) (by simp) ?_
    rw [show (sortL cmpW (allV p m 24 t)) = sortL cmpW (allV p m 24 t) from rfl]
    have hsing := sort_singles hok
    have hSl : (sortL cmpW (allV p m 24 t)).length = (allV p m 24 t).length := (sortL_perm _ _).length_eq
    clear e
    generalize allV p m 24 t = X at hl hle hll hok hsing hSl ⊢
    generalize sortL cmpW X = S at hsing hSl ⊢
    simp -implicitDefEqProofs
    refine loopS (S := Nat) (fun i => [(11, .sl X.length (cellsV X)), (12, .row 0 i), (13, int i)]) (fun i => [.row false 36 1 i (cellsW ((X.map fun v => [v]).take i))]) (fun i => i ≤ X.length) (fun i => X.length - i) 0 (by simp)
      ((weak_nilslot (t := 12) (by simp) 36 1).trans (selW [2] 0 (by simp) (by simp) (by simp) (by simp))) ?_
    intro i hi
    by_cases h : i < X.length
    · have htk : cellsW ((X.map fun v => [v]).take (i + 1)) = cellsW ((X.map fun v => [v]).take i) ++ [.sl 1 (encV X[i])] := by
        rw [step_take (by simpa using h)]; simp [encV]
      simp -implicitDefEqProofs [h, cellsV_drop h]
      intro hm
      refine ⟨⟨by simp [maxLen]; omega, by omega⟩, ?_⟩
      exact roundS (i + 1) h (by omega) (selW [0] 1 (by simp) (by simp) (by simp [htk, encV]) (by simp [wrap_succ h hm]))
    · have hi : i = X.length := by omega
      subst hi
      simp -implicitDefEqProofs
      intro hm
      have hYl : (X.map fun v => [v]).length = X.length := by simp
      have hYk : (X.map fun v => [v]).take X.length = X.map fun v => [v] := List.take_of_length_le (by simp)
      have hYo : OkW (X.map fun v => [v]) := fun x hx v hv => by
        obtain ⟨u, hu, rfl⟩ := List.mem_map.1 hx
        simp at hv; subst hv
        exact hok _ hu
      generalize (X.map fun v => [v]) = Y at hsing hYl hYk hYo
      rw [hYk]
      refine ⟨mkEnv [(12, .sl Y.length (cellsW Y))], [], selW [] 1 (by simp) (by simp) (by simp) (by simp [hYl]), ?_⟩
      simp -implicitDefEqProofs
      refine call0 (sorted_ok Y.length Y rfl (by omega) hYo) (by simp) (by simp) ?_
      rw [hsing]
      simp -implicitDefEqProofs
      refine loopS (S := Nat) (fun i => [(12, .sl S.length (cellsW (S.map fun v => [v]))), (14, .row 0 i), (15, int i)]) (fun i => [.row false 60 3 i (cellsV (S.take i))]) (fun i => i ≤ S.length) (fun i => S.length - i) 0 (by simp)
        ((weak_nilslot (t := 14) (by simp) 60 3).trans (selW [0] 0 (by simp) (by simp) (by simp) (by simp))) ?_
      intro i hi
      by_cases hiS : i < S.length
      · have htk : cellsV (S.take (i + 1)) = cellsV (S.take i) ++ encV S[i] := by
          rw [List.take_succ_eq_append_getElem hiS, cellsV_append]; simp [encV]
        have hdr : (cellsW (S.map fun v => [v])).drop i = .sl 1 (encV S[i]) :: cellsW ((S.map fun v => [v]).drop (i + 1)) := by
          rw [cellsW_drop (by simpa using hiS)]; simp [encV]
        simp -implicitDefEqProofs [hiS, hdr, encV]
        intro hm
        refine ⟨⟨by simp [maxLen]; omega, by omega⟩, ?_⟩
        exact roundS (i + 1) hiS (by omega) (selW [0] 0 (by simp) (by simp) (by simp [htk, encV]) (by simp [wrap_succ hiS hm]))
      · have hii : i = S.length := by omega
        subst hii
        simp -implicitDefEqProofs
        exact fun _ => ret_end 1 (by simp)
  · have e : valuesV p t m = ([], (size p m t).e) := by simp [valuesV, h1, h2, h3]
    simp -implicitDefEqProofs [szT, h3, e]
    exact ret_end 1 (by simp)
end Go.Proofs.Ytbkiphnlbadhcaa
