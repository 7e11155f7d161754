/-
  Iterators: slices.Clone, domain.tuples, slices.AppendSeq, slices.Collect.
-/
import Derived.Test.YtbkiphnlbadhcaaE22
import Derived.Test.YtbkiphnlbadhcaaC3
namespace Go.Proofs.Ytbkiphnlbadhcaa
open Go.Abs

-- slices.Clone[[]splicery/api.Value,splicery/api.Value] · results ["2"]
def K73 : K :=
 K.seq (K.ops [⟨none, .mov (some 2) (.const (.slice none 0 0))⟩])
 (K.seq (K.seq (K.ops [⟨none, .mov (some 3) (.tmp 0)⟩,
 ⟨none, .isn (some 4) false (.tmp 3)⟩])
 (K.cond (.tmp 4)
 (K.seq (K.ops [⟨none, .mov (some 2) (.const (.slice none 0 0))⟩])
 (K.ret))
 (K.skip)))
 (K.seq (K.ops [⟨none, .bslice (some 5) 60 3 0 [] []⟩,
 ⟨none, .mov (some 6) (.tmp 0)⟩,
 ⟨none, .app (some 7) 60 3 40 (.tmp 5) (.tmp 6)⟩,
 ⟨none, .mov (some 2) (.tmp 7)⟩])
 (K.ret)))
theorem c73 : compile Try.prog Try.f73.ntmps (Try.f73.body.getD .skip) = some K73.erase := by kernel_rfl
@[simp] theorem cal73 : callable Try.prog 73 = true := by kernel_rfl

-- splicery/domain.tuples · results ["2"]
def K46 : K :=
 K.seq (K.ops [⟨none, .box (some 1) (.tmp 0)⟩,
 ⟨none, .mov (some 2) (.const .nilFunc)⟩])
 (K.seq (K.ops [⟨none, .clo (some 3) 72 [] [(.tmp 1)]⟩,
 ⟨none, .mov (some 2) (.tmp 3)⟩])
 (K.ret))
theorem c46 : compile Try.prog Try.f46.ntmps (Try.f46.body.getD .skip) = some K46.erase := by kernel_rfl
@[simp] theorem cal46 : callable Try.prog 46 = true := by kernel_rfl

-- splicery/domain.tuples$1 · results []
def K72 : K :=
 K.seq (K.ops [⟨none, .box (some 2) (.tmp 0)⟩])
 (K.seq (K.seq (K.ops [⟨none, .ld (some 6) (.tmp 1) 1 false⟩,
 ⟨none, .len (some 7) false (.tmp 6)⟩,
 ⟨none, .eqv (some 8) false .i (.tmp 7) (.const (.int .i64 0))⟩])
 (K.cond (.tmp 8)
 (K.seq (K.ops [⟨none, .ld (some 9) (.tmp 2) 1 false⟩,
 ⟨none, .call (some 10) (.tmp 9) [(.const (.slice none 0 0))]⟩])
 (K.ret))
 (K.skip)))
 (K.seq (K.ops [⟨none, .ld (some 11) (.tmp 1) 1 false⟩,
 ⟨none, .ld (some 12) (.tmp 1) 1 false⟩,
 ⟨none, .len (some 13) false (.tmp 12)⟩,
 ⟨none, .bin (some 14) .sub (.tmp 13) (.const (.int .i64 1))⟩,
 ⟨none, .slc (some 15) (.tmp 11) 1 none (some (.tmp 14)) none⟩,
 ⟨none, .call (some 16) (.func 46) [(.tmp 15)]⟩])
 (K.block 0 (K.rng (.tmp 16) [17]
 (K.ops [⟨none, .mov (some 3) (.tmp 17)⟩])
 (K.block 1 (K.seq (K.ops [⟨none, .ld (some 18) (.tmp 1) 1 false⟩,
 ⟨none, .ld (some 19) (.tmp 1) 1 false⟩,
 ⟨none, .len (some 20) false (.tmp 19)⟩,
 ⟨none, .bin (some 21) .sub (.tmp 20) (.const (.int .i64 1))⟩,
 ⟨none, .idx (some 22) (.tmp 18) (.tmp 21) 1⟩,
 ⟨none, .ld (some 23) (.tmp 22) 1 false⟩,
 ⟨none, .len (some 24) false (.tmp 23)⟩,
 ⟨none, .mov (some 25) (.const (.int .i64 0))⟩])
 (K.block 2 (K.loop (K.seq (K.ops [⟨none, .bin (some 26) .lss (.tmp 25) (.tmp 24)⟩])
 (K.seq (K.cond (.tmp 26)
 (K.skip)
 (K.exit 2))
 (K.seq (K.block 3 (K.seq (K.ops [⟨none, .idx (some 27) (.tmp 23) (.tmp 25) 3⟩,
 ⟨none, .ld (some 28) (.tmp 27) 3 true⟩,
 ⟨none, .alloc (some 5) [(.int .i64 0), (.int .i64 0), (.slice none 0 0)]⟩,
 ⟨none, .st none (.tmp 5) (.tmp 28) 3⟩])
 (K.seq (K.dops [(0, 1, ⟨none, .ld (some 29) (.tmp 2) 1 false⟩),
 (1, 0, ⟨none, .mov (some 30) (.tmp 3)⟩),
 (3, 1, ⟨none, .ld (some 32) (.tmp 5) 3 true⟩),
 (4, 0, ⟨none, .bslice (some 33) 60 3 1 [(.int .i64 0), (.int .i64 0), (.slice none 0 0)] [(0, 3, (.tmp 32))]⟩),
 (2, 3, ⟨none, .call (some 31) (.func 73) [(.tmp 30)]⟩),
 (5, 0, ⟨none, .app (some 34) 60 3 40 (.tmp 31) (.tmp 33)⟩),
 (6, 4, ⟨none, .call (some 35) (.tmp 29) [(.tmp 34)]⟩),
 (7, 0, ⟨none, .not (some 36) (.tmp 35)⟩)])
 (K.cond (.tmp 36)
 (K.ret)
 (K.skip)))))
 (K.ops [⟨none, .bin (some 37) .add (.tmp 25) (.const (.int .i64 1))⟩,
 ⟨none, .mov (some 25) (.tmp 37)⟩]))))))))))))
def h72 : Nat → Option (List (Nat × Nat)) := fun r => if r = 8 then some [(0, 1), (1, 0), (3, 1), (4, 0), (2, 3), (5, 0), (6, 4), (7, 0)] else none
theorem c72 : compileH Try.prog Try.f72.ntmps h72 (Try.f72.body.getD .skip) = some K72.erase := by kernel_rfl
@[simp] theorem cal72 : callable Try.prog 72 = true := by kernel_rfl

-- slices.AppendSeq[[][]splicery/api.Value,[]splicery/api.Value] · results ["4"]
def K71 : K :=
 K.seq (K.ops [⟨none, .box (some 2) (.tmp 0)⟩,
 ⟨none, .mov (some 4) (.const (.slice none 0 0))⟩])
 (K.seq (K.seq (K.ops [⟨none, .mov (some 6) (.tmp 1)⟩])
 (K.block 0 (K.rng (.tmp 6) [7]
 (K.ops [⟨none, .mov (some 5) (.tmp 7)⟩])
 (K.block 1 (K.ops [⟨none, .ld (some 8) (.tmp 2) 1 false⟩,
 ⟨none, .mov (some 9) (.tmp 5)⟩,
 ⟨none, .bslice (some 10) 36 1 1 [(.slice none 0 0)] [(0, 1, (.tmp 9))]⟩,
 ⟨none, .app (some 11) 36 1 24 (.tmp 8) (.tmp 10)⟩,
 ⟨none, .st none (.tmp 2) (.tmp 11) 1⟩])))))
 (K.seq (K.ops [⟨none, .ld (some 12) (.tmp 2) 1 false⟩,
 ⟨none, .mov (some 4) (.tmp 12)⟩])
 (K.ret)))
theorem c71 : compile Try.prog Try.f71.ntmps (Try.f71.body.getD .skip) = some K71.erase := by kernel_rfl
@[simp] theorem cal71 : callable Try.prog 71 = true := by kernel_rfl

-- slices.Collect[[]splicery/api.Value] · results ["2"]
def K45 : K :=
 K.seq (K.ops [⟨none, .mov (some 2) (.const (.slice none 0 0))⟩])
 (K.seq (K.ops [⟨none, .mov (some 3) (.tmp 0)⟩,
 ⟨none, .call (some 4) (.func 71) [(.const (.slice none 0 0)), (.tmp 3)]⟩,
 ⟨none, .mov (some 2) (.tmp 4)⟩])
 (K.ret))
theorem c45 : compile Try.prog Try.f45.ntmps (Try.f45.body.getD .skip) = some K45.erase := by kernel_rfl
@[simp] theorem cal45 : callable Try.prog 45 = true := by kernel_rfl

mutual
theorem bnd_cellV : ∀ (v : Val) (k : Nat), (cellV v).bnd k = true
  | .mk a n l, k => by
    simp only [cellV, A.bnd]
    exact bnd_cellsV l k
theorem bnd_cellsV : ∀ (l : List Val) (k : Nat), bndL k (cellsV l) = true
  | [], k => by simp
  | v :: l, k => by
    have h := bnd_cellV v k
    rw [cellV_eq] at h
    simp only [A.bnd] at h
    simp [h, bnd_cellsV l k]
end
attribute [simp] bnd_cellsV

/-- A slice of slices of values. -/
def cellsW (l : List (List Val)) : List A := l.map fun vs => .sl vs.length (cellsV vs)
@[simp] theorem cellsW_len (l : List (List Val)) : (cellsW l).length = l.length := by simp [cellsW]
@[simp] theorem cellsW_nil : cellsW [] = [] := rfl
@[simp] theorem cellsW_cons (v : List Val) (l : List (List Val)) : cellsW (v :: l) = .sl v.length (cellsV v) :: cellsW l := rfl
@[simp] theorem cellsW_append (a b : List (List Val)) : cellsW (a ++ b) = cellsW a ++ cellsW b := by simp [cellsW]
theorem cellsW_plain : ∀ (l : List (List Val)), Plain (cellsW l)
  | [] => Plain.nil
  | v :: l => Plain.sl (cellsV_plain v) (cellsW_plain l)
@[simp] theorem nrm0_cellsW (l : List (List Val)) : nrm0L (cellsW l) = cellsW l := (cellsW_plain l).1
@[simp] theorem vw_cellsW {rf g} (l : List (List Val)) : vwL rf g (cellsW l) = cellsW l := (cellsW_plain l).2 _ _
@[simp] theorem bnd_cellsW : ∀ (l : List (List Val)) (k : Nat), bndL k (cellsW l) = true
  | [], k => by simp
  | v :: l, k => by simp [bnd_cellsW l k]
theorem cellsW_drop {l : List (List Val)} {i : Nat} (h : i < l.length) : (cellsW l).drop i = .sl l[i].length (cellsV l[i]) :: cellsW (l.drop (i + 1)) := by
  rw [cellsW, ← List.map_drop, List.drop_eq_getElem_cons h]; rfl

@[simp] theorem cellsV_append (a b : List Val) : cellsV (a ++ b) = cellsV a ++ cellsV b := by
  induction a with
  | nil => simp
  | cons v a ih => simp [ih]

theorem clone_nil : Ret Try.prog 73 [.nil] [] .nil [] := by
  refine ret_of_wp Try.func73 rfl c73 (rs := [.slot 2]) (by kernel_rfl) ?_
  unfold K73
  simp -implicitDefEqProofs
  exact ret_end 0 (by simp)

theorem clone_ok (l : List Val) (h : l ≠ []) (hb : l.length * 40 ≤ 140737488355328) (hm : l.length ≤ maxLen) : Ret Try.prog 73 [.sl l.length (cellsV l)] [] (.row 0 l.length) [.row false 60 3 l.length (cellsV l)] := by
  refine ret_of_wp Try.func73 rfl c73 (rs := [.slot 2]) (by kernel_rfl) ?_
  unfold K73
  simp -implicitDefEqProofs [h]
  refine ⟨⟨hm, hb⟩, ?_⟩
  exact ret_keep [0] 0 (by simp) (by simp) (by simp) (by simp)

theorem tuples_ok (l : List (List Val)) : Ret Try.prog 46 [.sl l.length (cellsW l)] [] (.clo 72 [] [.rptr [.sl l.length (cellsW l)]]) [] := by
  refine ret_of_wp Try.func46 rfl c46 (rs := [.slot 2]) (by kernel_rfl) ?_
  unfold K46
  simp -implicitDefEqProofs
  exact ret_end 1 (by simp)

/-- A list of values that is nil where it is empty. -/
def tupA (l : List Val) : A := if l = [] then .nil else .sl l.length (cellsV l)
@[simp] theorem tupA_nil : tupA [] = .nil := rfl
theorem tupA_cons {l : List Val} (h : l ≠ []) : tupA l = .sl l.length (cellsV l) := by simp [tupA, h]
@[simp] theorem bnd_tupA (l : List Val) (k : Nat) : (tupA l).bnd k = true := by unfold tupA; split <;> simp
@[simp] theorem cellsOf_tupA (l : List Val) : cellsOf (tupA l) = some [tupA l] := by unfold tupA; split <;> simp
@[simp] theorem vw_tupA {rf g} (l : List Val) : vw rf g (tupA l) = tupA l := by unfold tupA; split <;> simp
@[simp] theorem nrm0_tupA (l : List Val) : nrm0 (tupA l) = .sl l.length (cellsV l) := by unfold tupA; split <;> simp_all

/-- All lists with an element of each of some lists, in the order of the program. -/
def stepT (acc : List (List Val)) (last : List Val) : List (List Val) := acc.flatMap fun h => last.map fun x => h ++ [x]
def prodT (l : List (List Val)) : List (List Val) := l.foldl stepT [[]]
@[simp] theorem prodT_nil : prodT [] = [[]] := rfl
theorem prodT_snoc (l : List (List Val)) (last : List Val) : prodT (l ++ [last]) = stepT (prodT l) last := by simp [prodT]
theorem prodT_mem : ∀ (l : List (List Val)) (acc : List (List Val)) (n : Nat), (∀ t ∈ acc, t.length = n) → ∀ t ∈ l.foldl stepT acc, t.length = n + l.length
  | [], acc, n, h, t, ht => by simpa using h t ht
  | a :: l, acc, n, h, t, ht => by
    have := prodT_mem l (stepT acc a) (n + 1) (fun s hs => by
      simp only [stepT, List.mem_flatMap, List.mem_map] at hs
      obtain ⟨u, hu, x, _, rfl⟩ := hs
      simp [h u hu]) t ht
    simp only [List.length_cons]
    omega
theorem prodT_len {l : List (List Val)} {t : List Val} (h : t ∈ prodT l) : t.length = l.length := by
  have := prodT_mem l [[]] 0 (by simp) t h
  omega
theorem stepT_length (acc : List (List Val)) (last : List Val) : (stepT acc last).length = acc.length * last.length := by
  induction acc with
  | nil => simp [stepT]
  | cons a acc ih =>
    have e : stepT (a :: acc) last = last.map (fun x => a ++ [x]) ++ stepT acc last := by simp [stepT]
    rw [e]; simp [ih, Nat.succ_mul, Nat.add_comm]
theorem stepT_get {acc : List (List Val)} {last : List Val} {i j : Nat} (hi : i < acc.length) (hj : j < last.length) : (stepT acc last)[i * last.length + j]? = some (acc[i] ++ [last[j]]) := by
  induction acc generalizing i with
  | nil => simp at hi
  | cons a acc ih =>
    have e : stepT (a :: acc) last = last.map (fun x => a ++ [x]) ++ stepT acc last := by simp [stepT]
    rw [e]
    cases i with
    | zero => rw [List.getElem?_append_left (by simpa using hj)]; simp [hj]
    | succ i =>
      have hi' : i < acc.length := by simpa using hi
      rw [List.getElem?_append_right (by simp [Nat.succ_mul])]
      have : (i + 1) * last.length + j - (last.map fun x => a ++ [x]).length = i * last.length + j := by simp [Nat.succ_mul]; omega
      rw [this, ih hi']
      rfl

theorem iter_ok : ∀ (n : Nat) (l : List (List Val)), l.length = n → n ≤ 1000000 → IterA Try.prog 72 [] [.rptr [.sl l.length (cellsW l)]] ((prodT l).map fun t => [tupA t]) := by
  intro n
  induction n with
  | zero =>
    intro l hl _
    have hl0 : l = [] := List.eq_nil_of_length_eq_zero hl
    subst hl0
    refine iter_of_ret fun b m T hT hY => ?_
    simp only [prodT_nil, List.map_cons, List.map_nil, List.length_cons, List.length_nil, tupA_nil] at hT hY ⊢
    have h0 := hT 0 (by simp)
    have h1 := hT 1 (by simp)
    refine ret_of_wpH Try.func72 rfl c72 (rs := []) (by kernel_rfl) ?_
    unfold K72
    simp -implicitDefEqProofs [h0.1, get_pre0 h0.1]
    refine callY_pre h0 h1 (hY 0 (by simp)) (by simp) ?_
    simp -implicitDefEqProofs
    exact ret_pre h1 (by simp)
  | succ n ih =>
    intro l hl hn
    obtain ⟨l', last, rfl⟩ : ∃ l' last, l = l' ++ [last] := ⟨l.dropLast, l.getLast (by intro h; simp [h] at hl), by rw [List.dropLast_concat_getLast]⟩
    have hl' : l'.length = n := by simpa using hl
    refine iter_of_ret fun b m T hT hY => ?_
    have hXl : ((prodT (l' ++ [last])).map fun t => [tupA t]).length = (prodT l').length * last.length := by rw [List.length_map, prodT_snoc, stepT_length]
    rw [hXl] at hT ⊢
    have h0 := hT 0 (Nat.zero_le _)
    refine ret_of_wpH Try.func72 rfl c72 (rs := []) (by kernel_rfl) ?_
    unfold K72
    have hw : IntKind.i64.wrap (l'.length : Int) = l'.length := wrap_len (by simp [maxLen]; omega)
    have hne : ¬ ((l'.length : Int) + 1 = 0) := by omega
    simp -implicitDefEqProofs [h0.1, get_pre0 h0.1, hw, hne]
    intro hmx
    refine ⟨by omega, ?_⟩
    refine call0 (tuples_ok l') (by simp) (by simp) ?_
    simp -implicitDefEqProofs
    have hCl : ∀ j, j ≤ (prodT l').length * last.length → Cl (m + 1) (T j ++ [.box [yv b]]) := fun j hj => (hT j hj).app rfl (by simp)
    have hbd : ∀ i, i ≤ (prodT l').length → i * last.length ≤ (prodT l').length * last.length := fun i hi => Nat.mul_le_mul_right _ hi
    refine ⟨[(1, .rptr [.sl (l'.length + 1) (cellsW l' ++ [.sl last.length (cellsV last)])]), (2, .ptr m 0), (16, .clo 72 [] [.rptr [.sl l'.length (cellsW l')]])], m + 1, (prodT l').map (fun t => [tupA t]), fun j => T (j * last.length) ++ [.box [yv b]], 72, [],
      [.rptr [.sl l'.length (cellsW l')]], by simp, cal72, ih l' hl' (by omega), ?_, by omega, ?_, by simp, by simp, ?_, ?_⟩
    · simp only [Nat.zero_mul]
      exact cut_at (τ := []) (by simp) (by simp [h0.1]) (by simp) (by simp [h0.1]) (by rw [(hCl 0 (Nat.zero_le _)).1]; exact (hCl 0 (Nat.zero_le _)).2)
    · intro i hi
      exact hCl _ (hbd i (by simpa using hi))
    · intro i hi b' M r r'
      simp only [List.length_map] at hi
      have hd : (cellsW l' ++ [A.sl last.length (cellsV last)]).drop l'.length = [A.sl last.length (cellsV last)] := by
        rw [← cellsW_len l']; simp
      simp -implicitDefEqProofs [hw, hd]
      intro _
      refine ⟨by omega, ?_⟩
      intro hlm
      have hCl2 : ∀ j r, i * last.length + j ≤ (prodT l').length * last.length → Cl (m + 2) (T (i * last.length + j) ++ [.box [yv b], AObj.lp b' r M
                [(1, A.rptr [A.sl (l'.length + 1) (cellsW l' ++ [A.sl last.length (cellsV last)])]), (2, A.ptr m 0),
                  (16, A.clo 72 [] [A.rptr [A.sl l'.length (cellsW l')]])]]) := fun j r hj => (hT _ hj).app rfl (by simp)
      have hij : ∀ j, j ≤ last.length → i * last.length + j ≤ (prodT l').length * last.length := fun j hj => by
        have := Nat.mul_le_mul_right last.length (Nat.succ_le_of_lt hi)
        rw [Nat.succ_mul] at this
        omega
      have hTi : (T (i * last.length)).length = m := (hT _ (hij 0 (Nat.zero_le _))).1
      refine loopS (S := Nat) (fun j => [(2, .ptr m 0), (3, tupA (prodT l')[i]), (23, .sl last.length (cellsV last)), (24, int last.length), (25, int j)]) (fun j => T (i * last.length + j) ++ [.box [yv b], AObj.lp b' r' M
                [(1, A.rptr [A.sl (l'.length + 1) (cellsW l' ++ [A.sl last.length (cellsV last)])]), (2, A.ptr m 0),
                  (16, A.clo 72 [] [A.rptr [A.sl l'.length (cellsW l')]])]]) (fun j => j ≤ last.length) (fun j => last.length - j) 0 (by simp)
        (cut_at (τ := []) (by simp) (by simp [hTi]) (by simp) (by simp [hTi]) (by rw [(hCl2 0 r' (hij 0 (Nat.zero_le _))).1]; exact (hCl2 0 r' (hij 0 (Nat.zero_le _))).2)) ?_
      intro j hj
      simp -implicitDefEqProofs
      refine condP_intro (fun h => ?_) (fun h => ?_) <;> simp at h
      · have hTj := hT _ (hij j hj)
        simp -implicitDefEqProofs [h, cellsV_drop h, hTj.1, get_pre0 hTj.1, get_pre hTj.1, set_pre hTj.1, set_pre0 hTj.1, boxes_append]
        have hgl : i * last.length + j < (stepT (prodT l') last).length := by
          rw [stepT_length]
          have := hij (j + 1) h
          omega
        have hge : (stepT (prodT l') last)[i * last.length + j] = (prodT l')[i] ++ [last[j]] := by
          have := stepT_get hi h
          rw [List.getElem?_eq_getElem hgl] at this
          simpa using this
        have hTj1 := hT (i * last.length + (j + 1)) (hij (j + 1) h)
        have hyj : CallY Try.prog b [.sl ((prodT l')[i].length + 1) (cellsV ((prodT l')[i] ++ [last[j]]))] (T (i * last.length + j)) fun o τ => o = .ret (.lit (.bool true)) ∧ τ = T (i * last.length + (j + 1)) := by
          have := hY (i * last.length + j) (by simpa [prodT_snoc] using hgl)
          simp only [prodT_snoc, List.getElem_map, hge] at this
          rw [tupA_cons (by simp)] at this
          simpa [Nat.add_assoc] using this
        have hlen : (prodT l')[i].length = n := by rw [prodT_len (List.getElem_mem hi), hl']
        by_cases hh : (prodT l')[i] = []
        · refine dcallG0 clone_nil (by simp [hh]) ?_
          simp -implicitDefEqProofs [hTj.1, get_pre0 hTj.1, get_pre hTj.1, set_pre hTj.1, set_pre0 hTj.1]
          refine ⟨by simp [maxLen], ?_⟩
          simp only [hh, List.length_nil, Nat.zero_add, List.nil_append, cellsV_cons, cellsV_nil] at hyj
          refine exY (k := 3) rfl hTj hTj1 (by simp) hyj ?_
          simp -implicitDefEqProofs
          refine roundS (j + 1) h (by omega) (cut_at (τ := [.box (encV last[j]), .row true 60 3 1 (encV last[j])]) (by simp [encV]) (by simp [hTj1.1]) (by simp [hh, wrap_succ h hlm]) (by simp [hTj1.1]) (by rw [(hCl2 (j + 1) r' (hij (j + 1) h)).1]; exact (hCl2 (j + 1) r' (hij (j + 1) h)).2))
        · refine dcallG0 (clone_ok _ hh (by omega) (by simp [maxLen]; omega)) (by simp [tupA_cons hh]) ?_
          simp -implicitDefEqProofs [hTj.1, get_pre0 hTj.1, get_pre hTj.1, set_pre hTj.1, set_pre0 hTj.1]
          refine ⟨by simp [maxLen]; omega, ?_⟩
          simp only [cellsV_append, cellsV_cons, cellsV_nil] at hyj
          refine exY (k := 3) rfl hTj hTj1 (by simp) hyj ?_
          simp -implicitDefEqProofs
          refine roundS (j + 1) h (by omega) (cut_at (τ := [.box (encV last[j]), .row true 60 3 ((prodT l')[i].length + 1) (cellsV (prodT l')[i] ++ encV last[j])]) (by simp [encV]) (by simp [hTj1.1]) (by simp [wrap_succ h hlm]) (by simp [hTj1.1]) (by rw [(hCl2 (j + 1) r' (hij (j + 1) h)).1]; exact (hCl2 (j + 1) r' (hij (j + 1) h)).2))
      · have : j = last.length := by omega
        subst this
        simp -implicitDefEqProofs
        exact Wk.here (by rw [Nat.succ_mul])
    · simp -implicitDefEqProofs
      exact ret_pre (hT _ (Nat.le_refl _)) (by simp)

theorem bndL_take : ∀ {cs : List A} {k : Nat} (n : Nat), bndL k cs = true → bndL k (cs.take n) = true
  | [], _, _, _ => by simp
  | c :: cs, k, 0, _ => rfl
  | c :: cs, k, n + 1, h => by
    simp only [bndL, Bool.and_eq_true] at h
    simp [h.1, bndL_take n h.2]
theorem nrm0_tups : ∀ (X : List (List Val)), nrm0L (X.map tupA) = cellsW X
  | [] => by simp
  | t :: X => by simp [nrm0_tups X]
@[simp] theorem bnd_tups : ∀ (X : List (List Val)) (k : Nat), bndL k (X.map tupA) = true
  | [], k => rfl
  | t :: X, k => by simp [bnd_tups X k]
@[simp] theorem vw_tups {rf g} : ∀ (X : List (List Val)), vwL rf g (X.map tupA) = X.map tupA
  | [] => by simp
  | t :: X => by simp [vw_tups X]

theorem appendSeq_ok (g : FuncId) (first cap : List A) (hg : callable Try.prog g = true) (hf : bndL 0 first = true) (hcp : bndL 0 cap = true) (X : List (List Val)) (hX : IterA Try.prog g first cap (X.map fun t => [tupA t])) (hm : X.length ≤ maxLen) (hb : X.length * 24 ≤ 140737488355328) :
    Ret Try.prog 71 [.nil, .clo g first cap] [] (.row 0 X.length) [.row false 36 1 X.length (cellsW X)] := by
  have hf' : ∀ k, bndL k first = true := fun k => bndL_mono (Nat.zero_le k) _ hf
  have hc' : ∀ k, bndL k cap = true := fun k => bndL_mono (Nat.zero_le k) _ hcp
  refine ret_of_wp Try.func71 rfl c71 (rs := [.slot 4]) (by kernel_rfl) ?_
  unfold K71
  simp -implicitDefEqProofs
  refine ⟨[(2, .ptr 0 0), (6, .clo g first cap)], 2, X.map (fun t => [tupA t]), fun j => [.box [.row 1 j], .row false 36 1 j ((X.map tupA).take j)], g, first, cap, by simp, hg, hX, ?_, by omega, ?_, by simp [hf', hc'], by simp, ?_, ?_⟩
  · exact (weak_nilbox (l := 0) (o := 0) rfl rfl 36 1).trans (cut_at (τ := []) (by simp) (by simp) (by simp) (by simp [hf', hc']) (by simp))
  · intro i hi
    simp [bndL_take]
  · intro i hi b' M r r'
    simp only [List.length_map] at hi
    have htk : (X.map tupA).take (i + 1) = (X.map tupA).take i ++ [tupA X[i]] := by rw [List.take_succ_eq_append_getElem (by simpa using hi)]; simp
    simp -implicitDefEqProofs
    exact ⟨⟨by omega, by omega⟩, Wk.here (by rw [htk])⟩
  · have htk : (X.map tupA).take X.length = X.map tupA := List.take_of_length_le (by simp)
    simp -implicitDefEqProofs [htk]
    exact ret_keep [1] 0 (by simp) (by simp) (by simp [nrm0_tups]) (by simp)

theorem collect_ok (g : FuncId) (first cap : List A) (hg : callable Try.prog g = true) (hf : bndL 0 first = true) (hcp : bndL 0 cap = true) (X : List (List Val)) (hX : IterA Try.prog g first cap (X.map fun t => [tupA t])) (hm : X.length ≤ maxLen) (hb : X.length * 24 ≤ 140737488355328) :
    Ret Try.prog 45 [.clo g first cap] [] (.row 0 X.length) [.row false 36 1 X.length (cellsW X)] := by
  refine ret_of_wp Try.func45 rfl c45 (rs := [.slot 2]) (by kernel_rfl) ?_
  unfold K45
  simp -implicitDefEqProofs
  refine callJ (appendSeq_ok g first cap hg hf hcp X hX hm hb) [] (by simp) (by simp) ⟨.inl (by simp), .inl (vw_bnd (k := 0) (fun l hl => by omega) (.clo g first cap) (by simp [hf, hcp])).symm, trivial⟩ ?_
  simp -implicitDefEqProofs
  exact ret_keep [0] 0 (by simp) (by simp) (by simp) (by simp)

end Go.Proofs.Ytbkiphnlbadhcaa
