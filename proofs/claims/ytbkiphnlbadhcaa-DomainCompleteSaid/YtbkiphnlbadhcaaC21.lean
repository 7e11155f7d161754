/-
  Size, Depth, Within and Clip of the reference; value.Valid: what is small and fits is valid.
-/
import Derived.Test.YtbkiphnlbadhcaaC6
namespace Go.Proofs.Ytbkiphnlbadhcaa
open Go.Abs

-- splicery/spliceryref04.Size · results ["2"]
def K54 : K :=
 K.seq (K.ops [⟨none, .box (some 1) (.tmp 0)⟩,
 ⟨none, .mov (some 2) (.const (.int .i64 0))⟩])
 (K.seq (K.ops [⟨none, .mov (some 3) (.const (.int .i64 1))⟩])
 (K.seq (K.seq (K.ops [⟨none, .mov (some 4) (.const (.int .i64 0))⟩])
 (K.block 0 (K.loop (K.seq (K.seq (K.ops [⟨none, .mov (some 5) (.tmp 4)⟩,
 ⟨none, .addr (some 6) (.tmp 1) 2⟩,
 ⟨none, .ld (some 7) (.tmp 6) 1 false⟩,
 ⟨none, .len (some 8) false (.tmp 7)⟩,
 ⟨none, .bin (some 9) .lss (.tmp 5) (.tmp 8)⟩])
 (K.cond (.tmp 9)
 (K.skip)
 (K.exit 0)))
 (K.seq (K.block 1 (K.ops [⟨none, .mov (some 12) (.tmp 3)⟩,
 ⟨none, .addr (some 13) (.tmp 1) 2⟩,
 ⟨none, .ld (some 14) (.tmp 13) 1 false⟩,
 ⟨none, .mov (some 15) (.tmp 4)⟩,
 ⟨none, .idx (some 16) (.tmp 14) (.tmp 15) 3⟩,
 ⟨none, .ld (some 17) (.tmp 16) 3 true⟩,
 ⟨none, .call (some 18) (.func 54) [(.tmp 17)]⟩,
 ⟨none, .bin (some 19) .add (.tmp 12) (.tmp 18)⟩,
 ⟨none, .mov (some 3) (.tmp 19)⟩]))
 (K.ops [⟨none, .mov (some 10) (.tmp 4)⟩,
 ⟨none, .bin (some 11) .add (.tmp 10) (.const (.int .i64 1))⟩,
 ⟨none, .mov (some 4) (.tmp 11)⟩]))))))
 (K.seq (K.ops [⟨none, .mov (some 20) (.tmp 3)⟩,
 ⟨none, .mov (some 2) (.tmp 20)⟩])
 (K.ret))))
theorem c54 : compile Try.prog Try.f54.ntmps (Try.f54.body.getD .skip) = some K54.erase := by kernel_rfl
@[simp] theorem cal54 : callable Try.prog 54 = true := by kernel_rfl

-- splicery/spliceryref04.Depth · results ["2"]
def K55 : K :=
 K.seq (K.ops [⟨none, .box (some 1) (.tmp 0)⟩,
 ⟨none, .mov (some 2) (.const (.int .i64 0))⟩])
 (K.seq (K.ops [⟨none, .mov (some 3) (.const (.int .i64 0))⟩])
 (K.seq (K.seq (K.ops [⟨none, .mov (some 4) (.const (.int .i64 0))⟩])
 (K.block 0 (K.loop (K.seq (K.seq (K.ops [⟨none, .mov (some 5) (.tmp 4)⟩,
 ⟨none, .addr (some 6) (.tmp 1) 2⟩,
 ⟨none, .ld (some 7) (.tmp 6) 1 false⟩,
 ⟨none, .len (some 8) false (.tmp 7)⟩,
 ⟨none, .bin (some 9) .lss (.tmp 5) (.tmp 8)⟩])
 (K.cond (.tmp 9)
 (K.skip)
 (K.exit 0)))
 (K.seq (K.block 1 (K.ops [⟨none, .mov (some 12) (.tmp 3)⟩,
 ⟨none, .addr (some 13) (.tmp 1) 2⟩,
 ⟨none, .ld (some 14) (.tmp 13) 1 false⟩,
 ⟨none, .mov (some 15) (.tmp 4)⟩,
 ⟨none, .idx (some 16) (.tmp 14) (.tmp 15) 3⟩,
 ⟨none, .ld (some 17) (.tmp 16) 3 true⟩,
 ⟨none, .call (some 18) (.func 55) [(.tmp 17)]⟩,
 ⟨none, .mm (some 19) true [(.tmp 12), (.tmp 18)]⟩,
 ⟨none, .mov (some 3) (.tmp 19)⟩]))
 (K.ops [⟨none, .mov (some 10) (.tmp 4)⟩,
 ⟨none, .bin (some 11) .add (.tmp 10) (.const (.int .i64 1))⟩,
 ⟨none, .mov (some 4) (.tmp 11)⟩]))))))
 (K.seq (K.ops [⟨none, .mov (some 20) (.tmp 3)⟩,
 ⟨none, .bin (some 21) .add (.tmp 20) (.const (.int .i64 1))⟩,
 ⟨none, .mov (some 2) (.tmp 21)⟩])
 (K.ret))))
theorem c55 : compile Try.prog Try.f55.ntmps (Try.f55.body.getD .skip) = some K55.erase := by kernel_rfl
@[simp] theorem cal55 : callable Try.prog 55 = true := by kernel_rfl

-- splicery/spliceryref13.Within · results ["4"]
def K28 : K :=
 K.seq (K.ops [⟨none, .box (some 2) (.tmp 0)⟩,
 ⟨none, .mov (some 4) (.const (.bool false))⟩])
 (K.seq (K.seq (K.ops [⟨none, .addr (some 6) (.tmp 2) 0⟩,
 ⟨none, .ld (some 7) (.tmp 6) 1 false⟩,
 ⟨none, .eqv (some 8) false .i (.tmp 7) (.const (.int .i64 0))⟩,
 ⟨none, .mov (some 9) (.tmp 8)⟩,
 ⟨some (9, true), .addr (some 10) (.tmp 2) 1⟩,
 ⟨some (9, true), .ld (some 11) (.tmp 10) 1 false⟩,
 ⟨some (9, true), .mov (some 12) (.tmp 1)⟩,
 ⟨some (9, true), .neg (some 13) (.tmp 12)⟩,
 ⟨some (9, true), .bin (some 14) .lss (.tmp 11) (.tmp 13)⟩,
 ⟨some (9, true), .mov (some 15) (.tmp 14)⟩,
 ⟨some (15, false), .addr (some 16) (.tmp 2) 1⟩,
 ⟨some (15, false), .ld (some 17) (.tmp 16) 1 false⟩,
 ⟨some (15, false), .mov (some 18) (.tmp 1)⟩,
 ⟨some (15, false), .bin (some 19) .gtr (.tmp 17) (.tmp 18)⟩,
 ⟨some (9, true), .pick (some 20) (.tmp 15) (.const (.bool true)) (.tmp 19)⟩,
 ⟨none, .pick (some 21) (.tmp 9) (.tmp 20) (.const (.bool false))⟩,
 ⟨none, .mov (some 22) (.tmp 21)⟩,
 ⟨some (22, false), .addr (some 23) (.tmp 2) 0⟩,
 ⟨some (22, false), .ld (some 24) (.tmp 23) 1 false⟩,
 ⟨some (22, false), .eqv (some 25) false .i (.tmp 24) (.const (.int .i64 4))⟩,
 ⟨some (22, false), .mov (some 26) (.tmp 25)⟩,
 ⟨some (26, true), .addr (some 27) (.tmp 2) 2⟩,
 ⟨some (26, true), .ld (some 28) (.tmp 27) 1 false⟩,
 ⟨some (26, true), .len (some 29) false (.tmp 28)⟩,
 ⟨some (26, true), .mov (some 30) (.tmp 1)⟩,
 ⟨some (26, true), .mm (some 31) false [(.tmp 30), (.const (.int .i64 2))]⟩,
 ⟨some (26, true), .bin (some 32) .gtr (.tmp 29) (.tmp 31)⟩,
 ⟨some (22, false), .pick (some 33) (.tmp 26) (.tmp 32) (.const (.bool false))⟩,
 ⟨none, .pick (some 34) (.tmp 22) (.const (.bool true)) (.tmp 33)⟩])
 (K.cond (.tmp 34)
 (K.seq (K.ops [⟨none, .mov (some 4) (.const (.bool false))⟩])
 (K.ret))
 (K.skip)))
 (K.seq (K.seq (K.ops [⟨none, .mov (some 5) (.const (.int .i64 0))⟩])
 (K.block 0 (K.loop (K.seq (K.seq (K.ops [⟨none, .mov (some 35) (.tmp 5)⟩,
 ⟨none, .addr (some 36) (.tmp 2) 2⟩,
 ⟨none, .ld (some 37) (.tmp 36) 1 false⟩,
 ⟨none, .len (some 38) false (.tmp 37)⟩,
 ⟨none, .bin (some 39) .lss (.tmp 35) (.tmp 38)⟩])
 (K.cond (.tmp 39)
 (K.skip)
 (K.exit 0)))
 (K.seq (K.block 1 (K.seq (K.ops [⟨none, .addr (some 42) (.tmp 2) 2⟩,
 ⟨none, .ld (some 43) (.tmp 42) 1 false⟩,
 ⟨none, .mov (some 44) (.tmp 5)⟩,
 ⟨none, .idx (some 45) (.tmp 43) (.tmp 44) 3⟩,
 ⟨none, .ld (some 46) (.tmp 45) 3 true⟩,
 ⟨none, .mov (some 47) (.tmp 1)⟩,
 ⟨none, .call (some 48) (.func 28) [(.tmp 46), (.tmp 47)]⟩,
 ⟨none, .not (some 49) (.tmp 48)⟩])
 (K.cond (.tmp 49)
 (K.seq (K.ops [⟨none, .mov (some 4) (.const (.bool false))⟩])
 (K.ret))
 (K.skip))))
 (K.ops [⟨none, .mov (some 40) (.tmp 5)⟩,
 ⟨none, .bin (some 41) .add (.tmp 40) (.const (.int .i64 1))⟩,
 ⟨none, .mov (some 5) (.tmp 41)⟩]))))))
 (K.seq (K.ops [⟨none, .mov (some 4) (.const (.bool true))⟩])
 (K.ret))))
theorem c28 : compile Try.prog Try.f28.ntmps (Try.f28.body.getD .skip) = some K28.erase := by kernel_rfl
@[simp] theorem cal28 : callable Try.prog 28 = true := by kernel_rfl

-- splicery/spliceryref13.Clip · results ["cell 4"]
def K26 : K :=
 K.seq (K.ops [⟨none, .box (some 2) (.tmp 0)⟩,
 ⟨none, .alloc (some 4) [(.int .i64 0), (.int .i64 0), (.slice none 0 0)]⟩])
 (K.seq (K.seq (K.ops [⟨none, .addr (some 7) (.tmp 2) 0⟩,
 ⟨none, .ld (some 8) (.tmp 7) 1 false⟩,
 ⟨none, .eqv (some 9) false .i (.tmp 8) (.const (.int .i64 0))⟩])
 (K.cond (.tmp 9)
 (K.ops [⟨none, .addr (some 10) (.tmp 2) 1⟩,
 ⟨none, .ld (some 11) (.tmp 10) 1 false⟩,
 ⟨none, .mov (some 12) (.tmp 1)⟩,
 ⟨none, .bin (some 13) .add (.tmp 12) (.const (.int .i64 1))⟩,
 ⟨none, .bin (some 14) .rem (.tmp 11) (.tmp 13)⟩,
 ⟨none, .addr (some 15) (.tmp 2) 1⟩,
 ⟨none, .st none (.tmp 15) (.tmp 14) 1⟩])
 (K.skip)))
 (K.seq (K.ops [⟨none, .mov (some 5) (.const (.slice none 0 0))⟩])
 (K.seq (K.seq (K.ops [⟨none, .mov (some 6) (.const (.int .i64 0))⟩])
 (K.block 0 (K.loop (K.seq (K.seq (K.ops [⟨none, .mov (some 16) (.tmp 6)⟩,
 ⟨none, .addr (some 17) (.tmp 2) 2⟩,
 ⟨none, .ld (some 18) (.tmp 17) 1 false⟩,
 ⟨none, .len (some 19) false (.tmp 18)⟩,
 ⟨none, .bin (some 20) .lss (.tmp 16) (.tmp 19)⟩,
 ⟨none, .mov (some 21) (.tmp 20)⟩,
 ⟨some (21, true), .addr (some 22) (.tmp 2) 0⟩,
 ⟨some (21, true), .ld (some 23) (.tmp 22) 1 false⟩,
 ⟨some (21, true), .eqv (some 24) true .i (.tmp 23) (.const (.int .i64 4))⟩,
 ⟨some (21, true), .mov (some 25) (.tmp 24)⟩,
 ⟨some (25, false), .mov (some 26) (.tmp 6)⟩,
 ⟨some (25, false), .mov (some 27) (.tmp 1)⟩,
 ⟨some (25, false), .mm (some 28) false [(.tmp 27), (.const (.int .i64 2))]⟩,
 ⟨some (25, false), .bin (some 29) .lss (.tmp 26) (.tmp 28)⟩,
 ⟨some (21, true), .pick (some 30) (.tmp 25) (.const (.bool true)) (.tmp 29)⟩,
 ⟨none, .pick (some 31) (.tmp 21) (.tmp 30) (.const (.bool false))⟩])
 (K.cond (.tmp 31)
 (K.skip)
 (K.exit 0)))
 (K.seq (K.block 1 (K.ops [⟨none, .mov (some 34) (.tmp 5)⟩,
 ⟨none, .addr (some 35) (.tmp 2) 2⟩,
 ⟨none, .ld (some 36) (.tmp 35) 1 false⟩,
 ⟨none, .mov (some 37) (.tmp 6)⟩,
 ⟨none, .idx (some 38) (.tmp 36) (.tmp 37) 3⟩,
 ⟨none, .ld (some 39) (.tmp 38) 3 true⟩,
 ⟨none, .mov (some 40) (.tmp 1)⟩,
 ⟨none, .call (some 41) (.func 26) [(.tmp 39), (.tmp 40)]⟩,
 ⟨none, .bslice (some 42) 60 3 1 [(.int .i64 0), (.int .i64 0), (.slice none 0 0)] [(0, 3, (.tmp 41))]⟩,
 ⟨none, .app (some 43) 60 3 40 (.tmp 34) (.tmp 42)⟩,
 ⟨none, .mov (some 5) (.tmp 43)⟩]))
 (K.ops [⟨none, .mov (some 32) (.tmp 6)⟩,
 ⟨none, .bin (some 33) .add (.tmp 32) (.const (.int .i64 1))⟩,
 ⟨none, .mov (some 6) (.tmp 33)⟩]))))))
 (K.seq (K.ops [⟨none, .mov (some 44) (.tmp 5)⟩,
 ⟨none, .addr (some 45) (.tmp 2) 2⟩,
 ⟨none, .st none (.tmp 45) (.tmp 44) 1⟩])
 (K.seq (K.ops [⟨none, .ld (some 46) (.tmp 2) 3 true⟩,
 ⟨none, .st none (.tmp 4) (.tmp 46) 3⟩])
 (K.ret))))))
theorem c26 : compile Try.prog Try.f26.ntmps (Try.f26.body.getD .skip) = some K26.erase := by kernel_rfl
@[simp] theorem cal26 : callable Try.prog 26 = true := by kernel_rfl


theorem valk_mk {k n : Int} {l : List Val} : (Val.mk k n l).k = k := rfl
theorem valn_mk {k n : Int} {l : List Val} : (Val.mk k n l).n = n := rfl
theorem valkids_mk {k n : Int} {l : List Val} : (Val.mk k n l).kids = l := rfl
/-- The number of nodes, as the reference computes it. -/
def sizeW : Val → Int
  | .mk _ _ l => l.attach.foldl (fun s x => w64 (s + sizeW x.1)) 1
termination_by v => sizeV v
decreasing_by
  have := sizeV_mem x.2
  simp only [sizeV]; omega
def sumS (l : List Val) : Int := l.foldl (fun s x => w64 (s + sizeW x)) 1
theorem sizeW_eq (v : Val) : sizeW v = sumS v.kids := by
  cases v with
  | mk k n l =>
    rw [sizeW]
    simp only [Val.kids, sumS]
    rw [List.foldl_attach (f := fun s x => w64 (s + sizeW x))]
theorem sumS_take {l : List Val} {i : Nat} (h : i < l.length) : sumS (l.take (i + 1)) = IntKind.i64.wrap (sumS (l.take i) + sizeW l[i]) := by
  rw [sumS, List.take_succ_eq_append_getElem h, List.foldl_append]
  rfl
theorem refSize_ok (v : Val) : Ret Try.prog 54 [.agg (encV v)] [] (int (sizeW v)) [] := by
  refine ret_of_wp Try.func54 rfl c54 (rs := [.slot 2]) (by kernel_rfl) ?_
  unfold K54
  simp -implicitDefEqProofs [encV]
  refine loopS (S := Nat) (fun i => [(1, .ptr 0 0), (3, int (sumS (v.kids.take i))), (4, int i)]) (fun s => [.box (encV v)]) (fun i => i ≤ v.kids.length) (fun i => v.kids.length - i) 0 (by simp)
    (selW [0] 0 (by simp) (by simp) (by simp [encV]) (by simp [sumS])) ?_
  intro i hi
  by_cases h : i < v.kids.length
  · simp -implicitDefEqProofs [encV, h, cellsV_drop h]
    intro hl
    refine call0 (refSize_ok v.kids[i]) (by simp [encV]) (by simp) ?_
    simp -implicitDefEqProofs
    exact roundS (i + 1) h (by omega) (selW [0] 0 (by simp) (by simp) (by simp [encV]) (by simp [wrap_succ h hl, sumS_take h]))
  · have : i = v.kids.length := by omega
    subst this
    simp -implicitDefEqProofs [encV]
    exact fun _ => ret_end 0 (by simp [sizeW_eq v])
termination_by sizeV v
decreasing_by exact sizeV_kid (List.getElem_mem _)

/-- The depth, as the reference computes it. -/
def maxI (a b : Int) : Int := if a < b then b else a
def depthW : Val → Int
  | .mk _ _ l => w64 (l.attach.foldl (fun s x => maxI s (depthW x.1)) 0 + 1)
termination_by v => sizeV v
decreasing_by
  have := sizeV_mem x.2
  simp only [sizeV]; omega
def maxD (l : List Val) : Int := l.foldl (fun s x => maxI s (depthW x)) 0
theorem depthW_eq (v : Val) : depthW v = w64 (maxD v.kids + 1) := by
  cases v with
  | mk k n l =>
    rw [depthW]
    simp only [Val.kids, maxD]
    rw [List.foldl_attach (f := fun s x => maxI s (depthW x))]
theorem maxD_take {l : List Val} {i : Nat} (h : i < l.length) : maxD (l.take (i + 1)) = maxI (maxD (l.take i)) (depthW l[i]) := by
  rw [maxD, List.take_succ_eq_append_getElem h, List.foldl_append]
  rfl
theorem refDepth_ok (v : Val) : Ret Try.prog 55 [.agg (encV v)] [] (int (depthW v)) [] := by
  refine ret_of_wp Try.func55 rfl c55 (rs := [.slot 2]) (by kernel_rfl) ?_
  unfold K55
  simp -implicitDefEqProofs [encV]
  refine loopS (S := Nat) (fun i => [(1, .ptr 0 0), (3, int (maxD (v.kids.take i))), (4, int i)]) (fun s => [.box (encV v)]) (fun i => i ≤ v.kids.length) (fun i => v.kids.length - i) 0 (by simp)
    (selW [0] 0 (by simp) (by simp) (by simp [encV]) (by simp [maxD])) ?_
  intro i hi
  by_cases h : i < v.kids.length
  · simp -implicitDefEqProofs [encV, h, cellsV_drop h]
    intro hl
    refine call0 (refDepth_ok v.kids[i]) (by simp [encV]) (by simp) ?_
    simp -implicitDefEqProofs
    exact roundS (i + 1) h (by omega) (selW [0] 0 (by simp) (by simp) (by simp [encV]) (by simp [wrap_succ h hl, maxD_take h, maxI]))
  · have : i = v.kids.length := by omega
    subst this
    simp -implicitDefEqProofs [encV]
    exact fun _ => ret_end 0 (by simp [depthW_eq v, w64])
termination_by sizeV v
decreasing_by exact sizeV_kid (List.getElem_mem _)

theorem nilslot_weak {n0 t : Nat} {env : Env} {σ : St} (ht : env t = .nil) (e : TypeId) (sz : Nat) : Weak n0 (env.put (some t) (.row σ.length 0)) (σ ++ [AObj.row false e sz 0 []]) env σ := by
  intro H0 L0 w0 H L w N tmps h0 h1 h2
  have hn := nxt_nilrow h1.st e sz
  refine ⟨H, _, h1.trans hn, h2.1, fun x => ?_⟩
  simp only [Env.put]
  split
  · rename_i hx
    subst hx
    have := h2.2 x
    rw [ht] at this
    simp only [Rel] at this
    rw [this]
    simp only [Rel]
    exact ⟨rfl, ⟨none, 0, 0, true⟩, by rw [← h1.st.len]; simp, rfl, Nat.le_refl _, fun _ => rfl⟩
  · exact Rel.mono (HLe.refl _) hn.lle _ (h2.2 x)

/-- Within a bound. -/
def min2 (m : Int) : Int := if 2 < m then 2 else m
mutual
def withinV (m : Int) : Val → Bool
  | .mk k n l => !decide (k = 0 ∧ (n < -m ∨ m < n)) && !decide (k = 4 ∧ min2 m < (l.length : Int)) && withinVs m l
def withinVs (m : Int) : List Val → Bool
  | [] => true
  | v :: l => withinV m v && withinVs m l
end
theorem withinVs_iff (m : Int) : ∀ (l : List Val), withinVs m l = true ↔ ∀ x ∈ l, withinV m x = true
  | [] => by simp [withinVs]
  | v :: l => by simp [withinVs, withinVs_iff m l]
theorem withinV_iff (m : Int) (v : Val) : withinV m v = true ↔ (v.k = 0 → -m ≤ v.n ∧ v.n ≤ m) ∧ (v.k = 4 → (v.kids.length : Int) ≤ min2 m) ∧ ∀ x ∈ v.kids, withinV m x = true := by
  cases v with
  | mk k n l =>
    simp only [withinV, Val.k, Val.n, Val.kids, Bool.and_eq_true, withinVs_iff, Bool.not_eq_true', decide_eq_false_iff_not, not_and, not_or, Int.not_lt]
    exact and_assoc
theorem within_ok (m : Int) (hm : 0 ≤ m ∧ m ≤ 64) (v : Val) (hv : withinV m v = true) : Ret Try.prog 28 [.agg (encV v), int m] [] (bl true) [] := by
  refine ret_of_wp Try.func28 rfl c28 (rs := [.slot 4]) (by kernel_rfl) ?_
  unfold K28
  obtain ⟨h1, h2, h3⟩ := (withinV_iff m v).1 hv
  have hwm : IntKind.i64.wrap (0 - m) = -m := by rw [IntWalk.i64_in _ (by omega)]; omega
  have hwm' : IntKind.i64.wrap (-m) = -m := IntWalk.i64_in _ (by omega)
  have c4 : v.k = 4 → ¬ (if 2 < m then 2 else m) < (v.kids.length : Int) := fun h => by have := h2 h; simp only [min2] at this; omega
  have hk : v.k = 0 ∨ v.k = 4 ∨ (v.k ≠ 0 ∧ v.k ≠ 4) := by omega
  rcases hk with hk | hk | ⟨hk, hk'⟩
  case' inl =>
    have g1 := h1 hk
    have g2 : ¬ v.n < -m := by omega
    have g3 : ¬ m < v.n := by omega
    simp -implicitDefEqProofs [encV, hwm, hwm', hk, g2, g3]
  case' inr.inl =>
    have g1 := c4 hk
    simp -implicitDefEqProofs [encV, hwm, hwm', hk, g1]
    intro hl0
  case' inr.inr =>
    simp -implicitDefEqProofs [encV, hwm, hwm', hk, hk']
  all_goals
    refine loopS (S := Nat) (fun i => [(1, int m), (2, .ptr 0 0), (5, int i)]) (fun s => [.box (encV v)]) (fun i => i ≤ v.kids.length) (fun i => v.kids.length - i) 0 (by simp)
      (selW [0] 0 (by simp) (by simp) (by simp [encV, hk]) (by simp)) ?_
    intro i hi
    by_cases h : i < v.kids.length
    · simp -implicitDefEqProofs [encV, h, cellsV_drop h]
      intro hl
      refine call0 (within_ok m hm v.kids[i] (h3 _ (List.getElem_mem h))) (by simp [encV]) (by simp) ?_
      simp -implicitDefEqProofs
      exact roundS (i + 1) h (by omega) (selW [0] 0 (by simp) (by simp) (by simp [encV]) (by simp [wrap_succ h hl]))
    · have : i = v.kids.length := by omega
      subst this
      simp -implicitDefEqProofs [encV]
      exact fun _ => ret_end 0 (by simp)
termination_by sizeV v
decreasing_by all_goals exact sizeV_kid (List.getElem_mem _)

mutual
def clipV (m : Int) : Val → Val
  | .mk k n l => .mk k (if k = 0 then n.tmod (m + 1) else n) (if k = 4 then (clipVs m l).take (min2 m).toNat else clipVs m l)
def clipVs (m : Int) : List Val → List Val
  | [] => []
  | v :: l => clipV m v :: clipVs m l
end
theorem clipVs_eq (m : Int) : ∀ (l : List Val), clipVs m l = l.map (clipV m)
  | [] => rfl
  | v :: l => by simp [clipVs, clipVs_eq m l]
/-- How many kids stay. -/
def keepN (m : Int) (v : Val) : Nat := if v.k = 4 then min (min2 m).toNat v.kids.length else v.kids.length
theorem clipV_eq (m : Int) (v : Val) : clipV m v = .mk v.k (if v.k = 0 then v.n.tmod (m + 1) else v.n) ((v.kids.map (clipV m)).take (keepN m v)) := by
  cases v with
  | mk k n l =>
    simp only [clipV, Val.k, Val.n, Val.kids, clipVs_eq]
    congr 1
    have e : keepN m (.mk k n l) = if k = 4 then min (min2 m).toNat l.length else l.length := rfl
    rw [e]
    split
    · rw [Nat.min_comm]
      by_cases h : (min2 m).toNat ≤ l.length
      · rw [Nat.min_eq_right h]
      · rw [Nat.min_eq_left (by omega), List.take_of_length_le (by simp; omega), List.take_of_length_le (by simp)]
    · rw [List.take_of_length_le (by simp)]
mutual
def thinV : Val → Bool
  | .mk k _ l => (decide (k = 4) || decide (l.length ≤ 1000000)) && thinVs l
def thinVs : List Val → Bool
  | [] => true
  | v :: l => thinV v && thinVs l
end
theorem thinVs_iff : ∀ (l : List Val), thinVs l = true ↔ ∀ x ∈ l, thinV x = true
  | [] => by simp [thinVs]
  | v :: l => by simp [thinVs, thinVs_iff l]
theorem thinV_iff (v : Val) : thinV v = true ↔ (v.k = 4 ∨ v.kids.length ≤ 1000000) ∧ ∀ x ∈ v.kids, thinV x = true := by
  cases v with
  | mk k n l => simp only [thinV, Val.k, Val.kids, Bool.and_eq_true, Bool.or_eq_true, decide_eq_true_eq, thinVs_iff]
theorem clip_ok (m : Int) (hm : 0 ≤ m ∧ m ≤ 64) (v : Val) (ht : thinV v = true) : Ret Try.prog 26 [.agg (encV v), int m] [] (.agg (encV (clipV m v))) [] := by
  refine ret_of_wp Try.func26 rfl c26 (rs := [.cell 4 3 true]) (by kernel_rfl) ?_
  unfold K26
  have hwm : IntKind.i64.wrap (m + 1) = m + 1 := IntWalk.i64_in _ (by omega)
  have hm1 : ¬ m + 1 = 0 := by omega
  obtain ⟨t1, t2⟩ := (thinV_iff v).1 ht
  have hK : keepN m v ≤ 1000000 ∧ keepN m v ≤ v.kids.length ∧ (v.k = 4 → keepN m v = min (min2 m).toNat v.kids.length) ∧ (v.k ≠ 4 → keepN m v = v.kids.length) := by
    have h2 : (min2 m).toNat ≤ 2 := by unfold min2; split <;> omega
    unfold keepN
    by_cases h4 : v.k = 4
    · rw [if_pos h4]
      exact ⟨by omega, by omega, fun _ => rfl, fun h => absurd h4 h⟩
    · rw [if_neg h4]
      have := t1.resolve_left h4
      exact ⟨by omega, by omega, fun h => absurd h h4, fun _ => rfl⟩
  obtain ⟨N, hN⟩ : ∃ N, N = if v.k = 0 then v.n.tmod (m + 1) else v.n := ⟨_, rfl⟩
  have hcl : clipV m v = .mk v.k N ((v.kids.map (clipV m)).take (keepN m v)) := by rw [clipV_eq, hN]
  rw [hcl]
  generalize keepN m v = Q at hK
  obtain ⟨q1, q2, q3, q4⟩ := hK
  have hk0 : v.k = 0 ∨ v.k ≠ 0 := by omega
  have hLl : (v.kids.map (clipV m)).length = v.kids.length := by simp
  have hLg : ∀ i (h : i < v.kids.length), (v.kids.map (clipV m))[i]? = some (clipV m v.kids[i]) := fun i h => by simp [h]
  generalize v.kids.map (clipV m) = L at hLl hLg
  rcases hk0 with hk | hk
  case' inl =>
    have hN' : N = v.n.tmod (m + 1) := by rw [hN, if_pos hk]
    simp -implicitDefEqProofs [encV, hwm, hk, hm1]
  case' inr =>
    have hN' : N = v.n := by rw [hN, if_neg hk]
    simp -implicitDefEqProofs [encV, hwm, hk, hm1]
  all_goals
    refine loopS (S := Nat) (fun i => [(1, int m), (2, .ptr 0 0), (4, .ptr 1 0), (5, .row 2 i), (6, int i)])
      (fun i => [.box [int v.k, int N, .sl v.kids.length (cellsV v.kids)], .box [int 0, int 0, .nil], .row false 60 3 i (cellsV (L.take i))]) (fun i => i ≤ Q) (fun i => Q - i) 0 (by simp)
      ((nilslot_weak (t := 5) (by simp) 60 3).trans (selW [0, 1, 2] 0 (by simp) (by simp) (by simp [hk, hN']) (by simp))) ?_
    intro i hi
    by_cases hkl : i < v.kids.length
    · by_cases hq : i < Q
      · have hL : i < L.length := by omega
        have hLi := hLg i hkl
        rw [List.getElem?_eq_getElem hL] at hLi
        have htL : cellsV (L.take (i + 1)) = cellsV (L.take i) ++ encV (clipV m v.kids[i]) := by
          rw [List.take_succ_eq_append_getElem hL, Option.some.inj hLi]; simp [encV]
        by_cases h4 : v.k = 4
        case' pos =>
          have q3 := q3 h4
          have hi2 : (i : Int) < if 2 < m then 2 else m := by simp only [min2] at q3; split at q3 <;> split <;> omega
          simp -implicitDefEqProofs [hkl, cellsV_drop hkl, h4, hi2]
        case' neg =>
          simp -implicitDefEqProofs [hkl, cellsV_drop hkl, h4]
        all_goals
          intro hl
          refine call0 (clip_ok m hm v.kids[i] (t2 _ (List.getElem_mem hkl))) (by simp [encV]) (by simp [encV]) ?_
          simp -implicitDefEqProofs [lenP, encV]
          refine ⟨⟨by simp [maxLen]; omega, by omega⟩, ?_⟩
          exact roundS (i + 1) hq (by omega) (selW [0, 1, 2] 0 (by simp) (by simp) (by simp [htL, encV, h4]) (by simp [wrap_succ hkl hl]))
      · have hiQ : i = Q := by omega
        subst hiQ
        have h4 : v.k = 4 := by
          by_cases h4 : v.k = 4
          · exact h4
          · have := q4 h4; omega
        have q3 := q3 h4
        have hi2 : ¬ (i : Int) < if 2 < m then 2 else m := by simp only [min2] at q3; split at q3 <;> split <;> omega
        have hlt : (L.take i).length = i := by simp; omega
        simp -implicitDefEqProofs [hkl, h4, hi2]
        intro hl
        first | (exfalso; omega) | exact ret_end 1 (by simp [encV, hlt, h4, valk_mk, valn_mk, valkids_mk])
    · have hiQ : i = v.kids.length := by omega
      have hlt : (L.take i).length = i := by simp; omega
      have hQ : Q = i := by omega
      subst hQ
      subst hiQ
      simp -implicitDefEqProofs
      exact fun _ => ret_end 1 (by simp [encV, hlt, hk, valk_mk, valn_mk, valkids_mk])
termination_by sizeV v
decreasing_by all_goals exact sizeV_kid (List.getElem_mem _)

-- splicery/value.small · results ["2"]
def K57 : K :=
 K.seq (K.ops [⟨none, .box (some 1) (.tmp 0)⟩,
 ⟨none, .mov (some 2) (.const (.bool false))⟩])
 (K.seq (K.ops [⟨none, .alloc (some 3) [(.int .i64 0)]⟩,
 ⟨none, .st none (.tmp 3) (.const (.int .i64 256)) 1⟩])
 (K.seq (K.ops [⟨none, .alloc (some 4) [.nilFunc]⟩])
 (K.seq (K.ops [⟨none, .clo (some 5) 77 [] [(.tmp 3), (.tmp 4)]⟩,
 ⟨none, .st none (.tmp 4) (.tmp 5) 1⟩])
 (K.seq (K.ops [⟨none, .ld (some 6) (.tmp 4) 1 false⟩,
 ⟨none, .ld (some 7) (.tmp 1) 3 true⟩,
 ⟨none, .call (some 8) (.tmp 6) [(.tmp 7), (.const (.int .i64 1))]⟩,
 ⟨none, .mov (some 2) (.tmp 8)⟩])
 (K.ret)))))
theorem c57 : compile Try.prog Try.f57.ntmps (Try.f57.body.getD .skip) = some K57.erase := by kernel_rfl
@[simp] theorem cal57 : callable Try.prog 57 = true := by kernel_rfl

-- splicery/value.small$1 · results ["6"]
def K77 : K :=
 K.seq (K.ops [⟨none, .box (some 4) (.tmp 0)⟩,
 ⟨none, .box (some 5) (.tmp 1)⟩,
 ⟨none, .mov (some 6) (.const (.bool false))⟩])
 (K.seq (K.ops [⟨none, .ld (some 7) (.tmp 2) 1 false⟩,
 ⟨none, .bin (some 8) .sub (.tmp 7) (.const (.int .i64 1))⟩,
 ⟨none, .st none (.tmp 2) (.tmp 8) 1⟩])
 (K.seq (K.ops [⟨none, .ld (some 9) (.tmp 2) 1 false⟩,
 ⟨none, .bin (some 10) .geq (.tmp 9) (.const (.int .i64 0))⟩,
 ⟨none, .mov (some 11) (.tmp 10)⟩,
 ⟨some (11, true), .ld (some 12) (.tmp 5) 1 false⟩,
 ⟨some (11, true), .bin (some 13) .leq (.tmp 12) (.const (.int .i64 24))⟩,
 ⟨none, .pick (some 14) (.tmp 11) (.tmp 13) (.const (.bool false))⟩,
 ⟨none, .mov (some 15) (.tmp 14)⟩,
 ⟨some (15, true), .addr (some 16) (.tmp 4) 2⟩,
 ⟨some (15, true), .ld (some 17) (.tmp 16) 1 false⟩,
 ⟨some (15, true), .clo (some 18) 79 [] [(.tmp 3), (.tmp 5)]⟩,
 ⟨some (15, true), .call (some 19) (.func 78) [(.tmp 17), (.tmp 18)]⟩,
 ⟨some (15, true), .not (some 20) (.tmp 19)⟩,
 ⟨none, .pick (some 21) (.tmp 15) (.tmp 20) (.const (.bool false))⟩,
 ⟨none, .mov (some 6) (.tmp 21)⟩])
 (K.ret)))
theorem c77 : compile Try.prog Try.f77.ntmps (Try.f77.body.getD .skip) = some K77.erase := by kernel_rfl
@[simp] theorem cal77 : callable Try.prog 77 = true := by kernel_rfl

-- slices.ContainsFunc[[]splicery/api.Value,splicery/api.Value] · results ["4"]
def K78 : K :=
 K.seq (K.ops [⟨none, .mov (some 4) (.const (.bool false))⟩])
 (K.seq (K.ops [⟨none, .mov (some 5) (.tmp 0)⟩,
 ⟨none, .mov (some 6) (.tmp 1)⟩,
 ⟨none, .call (some 7) (.func 103) [(.tmp 5), (.tmp 6)]⟩,
 ⟨none, .bin (some 8) .geq (.tmp 7) (.const (.int .i64 0))⟩,
 ⟨none, .mov (some 4) (.tmp 8)⟩])
 (K.ret))
theorem c78 : compile Try.prog Try.f78.ntmps (Try.f78.body.getD .skip) = some K78.erase := by kernel_rfl
@[simp] theorem cal78 : callable Try.prog 78 = true := by kernel_rfl

-- splicery/value.small$1$1 · results ["4"]
def K79 : K :=
 K.seq (K.ops [⟨none, .box (some 3) (.tmp 0)⟩,
 ⟨none, .mov (some 4) (.const (.bool false))⟩])
 (K.seq (K.ops [⟨none, .ld (some 5) (.tmp 1) 1 false⟩,
 ⟨none, .ld (some 6) (.tmp 3) 3 true⟩,
 ⟨none, .ld (some 7) (.tmp 2) 1 false⟩,
 ⟨none, .bin (some 8) .add (.tmp 7) (.const (.int .i64 1))⟩,
 ⟨none, .call (some 9) (.tmp 5) [(.tmp 6), (.tmp 8)]⟩,
 ⟨none, .not (some 10) (.tmp 9)⟩,
 ⟨none, .mov (some 4) (.tmp 10)⟩])
 (K.ret))
theorem c79 : compile Try.prog Try.f79.ntmps (Try.f79.body.getD .skip) = some K79.erase := by kernel_rfl
@[simp] theorem cal79 : callable Try.prog 79 = true := by kernel_rfl

-- slices.IndexFunc[[]splicery/api.Value,splicery/api.Value] · results ["4"]
def K103 : K :=
 K.seq (K.ops [⟨none, .mov (some 4) (.const (.int .i64 0))⟩])
 (K.seq (K.seq (K.ops [⟨none, .mov (some 6) (.tmp 0)⟩,
 ⟨none, .len (some 7) false (.tmp 6)⟩,
 ⟨none, .mov (some 8) (.const (.int .i64 0))⟩])
 (K.block 0 (K.loop (K.seq (K.ops [⟨none, .bin (some 9) .lss (.tmp 8) (.tmp 7)⟩])
 (K.seq (K.cond (.tmp 9)
 (K.skip)
 (K.exit 0))
 (K.seq (K.block 1 (K.seq (K.ops [⟨none, .mov (some 10) (.tmp 8)⟩,
 ⟨none, .mov (some 5) (.tmp 10)⟩])
 (K.seq (K.ops [⟨none, .mov (some 11) (.tmp 1)⟩,
 ⟨none, .mov (some 12) (.tmp 0)⟩,
 ⟨none, .mov (some 13) (.tmp 5)⟩,
 ⟨none, .idx (some 14) (.tmp 12) (.tmp 13) 3⟩,
 ⟨none, .ld (some 15) (.tmp 14) 3 true⟩,
 ⟨none, .call (some 16) (.tmp 11) [(.tmp 15)]⟩])
 (K.cond (.tmp 16)
 (K.seq (K.ops [⟨none, .mov (some 17) (.tmp 5)⟩,
 ⟨none, .mov (some 4) (.tmp 17)⟩])
 (K.ret))
 (K.skip)))))
 (K.ops [⟨none, .bin (some 18) .add (.tmp 8) (.const (.int .i64 1))⟩,
 ⟨none, .mov (some 8) (.tmp 18)⟩])))))))
 (K.seq (K.ops [⟨none, .mov (some 4) (.const (.int .i64 (-1)))⟩])
 (K.ret)))
theorem c103 : compile Try.prog Try.f103.ntmps (Try.f103.body.getD .skip) = some K103.erase := by kernel_rfl
@[simp] theorem cal103 : callable Try.prog 103 = true := by kernel_rfl

-- splicery/value.fits$1 · results ["4"]
def K80 : K :=
 K.seq (K.ops [⟨none, .box (some 3) (.tmp 0)⟩,
 ⟨none, .mov (some 4) (.const (.bool false))⟩])
 (K.seq (K.dops [(0, 0, ⟨none, .ld (some 5) (.tmp 1) 2 true⟩),
 (1, 0, ⟨none, .addr (some 6) (.tmp 2) 4⟩),
 (2, 0, ⟨none, .ld (some 7) (.tmp 6) 1 false⟩),
 (3, 0, ⟨none, .idx (some 8) (.tmp 7) (.const (.int .i64 0)) 5⟩),
 (4, 0, ⟨none, .ld (some 9) (.tmp 8) 5 true⟩),
 (5, 0, ⟨none, .ld (some 10) (.tmp 3) 3 true⟩),
 (6, 0, ⟨none, .call (some 11) (.func 58) [(.tmp 5), (.tmp 9), (.tmp 10)]⟩),
 (7, 0, ⟨none, .not (some 12) (.tmp 11)⟩),
 (8, 0, ⟨none, .mov (some 4) (.tmp 12)⟩)])
 (K.ret))
theorem c80 : compile Try.prog Try.f80.ntmps (Try.f80.body.getD .skip) = some K80.erase := by kernel_rfl
@[simp] theorem cal80 : callable Try.prog 80 = true := by kernel_rfl

-- splicery/value.fits · results ["6"]
def K58 : K :=
 K.seq (K.ops [⟨none, .box (some 3) (.tmp 0)⟩,
 ⟨none, .box (some 4) (.tmp 1)⟩,
 ⟨none, .box (some 5) (.tmp 2)⟩,
 ⟨none, .mov (some 6) (.const (.bool false))⟩])
 (K.seq (K.seq (K.ops [⟨none, .ld (some 11) (.tmp 3) 2 true⟩,
 ⟨none, .ld (some 12) (.tmp 4) 5 true⟩,
 ⟨none, .call (some 13) (.func 61) [(.tmp 11), (.tmp 12)]⟩,
 ⟨none, .not (some 14) (.tmp 13)⟩])
 (K.cond (.tmp 14)
 (K.seq (K.ops [⟨none, .mov (some 6) (.const (.bool false))⟩])
 (K.ret))
 (K.skip)))
 (K.seq (K.seq (K.ops [⟨none, .addr (some 15) (.tmp 4) 0⟩,
 ⟨none, .ld (some 16) (.tmp 15) 1 false⟩])
 (K.block 0 (K.seq (K.ops [⟨none, .eqv (some 18) false .i (.tmp 16) (.const (.int .i64 0))⟩,
 ⟨none, .mov (some 17) (.tmp 18)⟩])
 (K.cond (.tmp 17)
 (K.seq (K.ops [⟨none, .addr (some 19) (.tmp 5) 0⟩,
 ⟨none, .ld (some 20) (.tmp 19) 1 false⟩,
 ⟨none, .eqv (some 21) false .i (.tmp 20) (.const (.int .i64 0))⟩,
 ⟨none, .mov (some 22) (.tmp 21)⟩,
 ⟨some (22, true), .addr (some 23) (.tmp 5) 2⟩,
 ⟨some (22, true), .ld (some 24) (.tmp 23) 1 false⟩,
 ⟨some (22, true), .len (some 25) false (.tmp 24)⟩,
 ⟨some (22, true), .eqv (some 26) false .i (.tmp 25) (.const (.int .i64 0))⟩,
 ⟨none, .pick (some 27) (.tmp 22) (.tmp 26) (.const (.bool false))⟩,
 ⟨none, .mov (some 28) (.tmp 27)⟩,
 ⟨some (28, true), .addr (some 29) (.tmp 5) 1⟩,
 ⟨some (28, true), .ld (some 30) (.tmp 29) 1 false⟩,
 ⟨some (28, true), .bin (some 31) .geq (.tmp 30) (.const (.int .i64 (-1099511627776)))⟩,
 ⟨none, .pick (some 32) (.tmp 28) (.tmp 31) (.const (.bool false))⟩,
 ⟨none, .mov (some 33) (.tmp 32)⟩,
 ⟨some (33, true), .addr (some 34) (.tmp 5) 1⟩,
 ⟨some (33, true), .ld (some 35) (.tmp 34) 1 false⟩,
 ⟨some (33, true), .bin (some 36) .leq (.tmp 35) (.const (.int .i64 1099511627776))⟩,
 ⟨none, .pick (some 37) (.tmp 33) (.tmp 36) (.const (.bool false))⟩,
 ⟨none, .mov (some 6) (.tmp 37)⟩])
 (K.ret))
 (K.seq (K.ops [⟨none, .eqv (some 39) false .i (.tmp 16) (.const (.int .i64 1))⟩,
 ⟨none, .mov (some 38) (.tmp 39)⟩])
 (K.cond (.tmp 38)
 (K.seq (K.ops [⟨none, .addr (some 40) (.tmp 5) 0⟩,
 ⟨none, .ld (some 41) (.tmp 40) 1 false⟩,
 ⟨none, .eqv (some 42) false .i (.tmp 41) (.const (.int .i64 1))⟩,
 ⟨none, .mov (some 43) (.tmp 42)⟩,
 ⟨some (43, true), .addr (some 44) (.tmp 5) 2⟩,
 ⟨some (43, true), .ld (some 45) (.tmp 44) 1 false⟩,
 ⟨some (43, true), .len (some 46) false (.tmp 45)⟩,
 ⟨some (43, true), .eqv (some 47) false .i (.tmp 46) (.const (.int .i64 0))⟩,
 ⟨none, .pick (some 48) (.tmp 43) (.tmp 47) (.const (.bool false))⟩,
 ⟨none, .mov (some 49) (.tmp 48)⟩,
 ⟨some (49, true), .addr (some 50) (.tmp 5) 1⟩,
 ⟨some (49, true), .ld (some 51) (.tmp 50) 1 false⟩,
 ⟨some (49, true), .eqv (some 52) false .i (.tmp 51) (.const (.int .i64 0))⟩,
 ⟨some (49, true), .mov (some 53) (.tmp 52)⟩,
 ⟨some (53, false), .addr (some 54) (.tmp 5) 1⟩,
 ⟨some (53, false), .ld (some 55) (.tmp 54) 1 false⟩,
 ⟨some (53, false), .eqv (some 56) false .i (.tmp 55) (.const (.int .i64 1))⟩,
 ⟨some (49, true), .pick (some 57) (.tmp 53) (.const (.bool true)) (.tmp 56)⟩,
 ⟨none, .pick (some 58) (.tmp 49) (.tmp 57) (.const (.bool false))⟩,
 ⟨none, .mov (some 6) (.tmp 58)⟩])
 (K.ret))
 (K.seq (K.ops [⟨none, .eqv (some 60) false .i (.tmp 16) (.const (.int .i64 2))⟩,
 ⟨none, .mov (some 59) (.tmp 60)⟩])
 (K.cond (.tmp 59)
 (K.seq (K.ops [⟨none, .addr (some 61) (.tmp 5) 0⟩,
 ⟨none, .ld (some 62) (.tmp 61) 1 false⟩,
 ⟨none, .eqv (some 63) false .i (.tmp 62) (.const (.int .i64 4))⟩,
 ⟨none, .mov (some 64) (.tmp 63)⟩,
 ⟨some (64, true), .addr (some 65) (.tmp 5) 1⟩,
 ⟨some (64, true), .ld (some 66) (.tmp 65) 1 false⟩,
 ⟨some (64, true), .eqv (some 67) false .i (.tmp 66) (.const (.int .i64 0))⟩,
 ⟨none, .pick (some 68) (.tmp 64) (.tmp 67) (.const (.bool false))⟩,
 ⟨none, .mov (some 69) (.tmp 68)⟩,
 ⟨some (69, true), .addr (some 70) (.tmp 5) 2⟩,
 ⟨some (69, true), .ld (some 71) (.tmp 70) 1 false⟩,
 ⟨some (69, true), .clo (some 72) 80 [] [(.tmp 3), (.tmp 4)]⟩,
 ⟨some (69, true), .call (some 73) (.func 78) [(.tmp 71), (.tmp 72)]⟩,
 ⟨some (69, true), .not (some 74) (.tmp 73)⟩,
 ⟨none, .pick (some 75) (.tmp 69) (.tmp 74) (.const (.bool false))⟩,
 ⟨none, .mov (some 6) (.tmp 75)⟩])
 (K.ret))
 (K.skip)))))))))
 (K.seq (K.ops [⟨none, .ld (some 77) (.tmp 3) 2 true⟩,
 ⟨none, .addr (some 78) (.tmp 4) 1⟩,
 ⟨none, .ld (some 79) (.tmp 78) 3 true⟩,
 ⟨none, .call (some 80) (.func 64) [(.tmp 77), (.tmp 79)]⟩,
 ⟨none, .mov (some 76) (.tmp 80)⟩,
 ⟨none, .ext (some 81) (.tmp 76) 0⟩,
 ⟨none, .ext (some 82) (.tmp 76) 1⟩,
 ⟨none, .alloc (some 7) [(.int .i64 0), (.int .i64 0), (.int .i64 0), (.int .i64 0), (.int .i64 0), (.int .i64 0), (.int .i64 0), (.string ⟨#[]⟩), (.slice none 0 0), (.int .i64 0), (.int .i64 0), (.int .i64 0), (.int .i64 0), (.slice none 0 0), (.int .i64 0), (.int .i64 0), (.int .i64 0), (.int .i64 0), (.int .i64 0), (.int .i64 0), (.int .i64 0), (.int .i64 0), (.int .i64 0), (.int .i64 0), (.int .i64 0), (.int .i64 0), (.slice none 0 0), (.slice none 0 0), (.slice none 0 0), (.int .i64 0), (.slice none 0 0)]⟩,
 ⟨none, .st none (.tmp 7) (.tmp 81) 31⟩,
 ⟨none, .mov (some 8) (.tmp 82)⟩])
 (K.seq (K.seq (K.ops [⟨none, .addr (some 83) (.tmp 7) 3⟩,
 ⟨none, .ld (some 84) (.tmp 83) 1 false⟩,
 ⟨none, .eqv (some 85) false .i (.tmp 84) (.const (.int .i64 1))⟩])
 (K.cond (.tmp 85)
 (K.seq (K.dops [(0, 0, ⟨none, .addr (some 86) (.tmp 5) 0⟩),
 (1, 0, ⟨none, .ld (some 87) (.tmp 86) 1 false⟩),
 (2, 0, ⟨none, .eqv (some 88) false .i (.tmp 87) (.const (.int .i64 3))⟩),
 (3, 0, ⟨none, .mov (some 89) (.tmp 88)⟩),
 (4, 0, ⟨some (89, true), .addr (some 90) (.tmp 5) 1⟩),
 (5, 0, ⟨some (89, true), .ld (some 91) (.tmp 90) 1 false⟩),
 (6, 0, ⟨some (89, true), .bin (some 92) .geq (.tmp 91) (.const (.int .i64 0))⟩),
 (7, 0, ⟨none, .pick (some 93) (.tmp 89) (.tmp 92) (.const (.bool false))⟩),
 (8, 0, ⟨none, .mov (some 94) (.tmp 93)⟩),
 (9, 0, ⟨some (94, true), .addr (some 95) (.tmp 5) 1⟩),
 (10, 0, ⟨some (94, true), .ld (some 96) (.tmp 95) 1 false⟩),
 (11, 0, ⟨some (94, true), .addr (some 97) (.tmp 7) 8⟩),
 (12, 0, ⟨some (94, true), .ld (some 98) (.tmp 97) 1 false⟩),
 (13, 0, ⟨some (94, true), .len (some 99) false (.tmp 98)⟩),
 (14, 0, ⟨some (94, true), .bin (some 100) .lss (.tmp 96) (.tmp 99)⟩),
 (15, 0, ⟨none, .pick (some 101) (.tmp 94) (.tmp 100) (.const (.bool false))⟩),
 (16, 0, ⟨none, .mov (some 102) (.tmp 101)⟩),
 (17, 0, ⟨some (102, true), .addr (some 103) (.tmp 5) 2⟩),
 (18, 0, ⟨some (102, true), .ld (some 104) (.tmp 103) 1 false⟩),
 (19, 0, ⟨some (102, true), .len (some 105) false (.tmp 104)⟩),
 (20, 0, ⟨some (102, true), .eqv (some 106) false .i (.tmp 105) (.const (.int .i64 1))⟩),
 (21, 0, ⟨none, .pick (some 107) (.tmp 102) (.tmp 106) (.const (.bool false))⟩),
 (22, 0, ⟨none, .mov (some 108) (.tmp 107)⟩),
 (23, 0, ⟨some (108, true), .ld (some 109) (.tmp 3) 2 true⟩),
 (24, 0, ⟨some (108, true), .addr (some 110) (.tmp 7) 8⟩),
 (25, 0, ⟨some (108, true), .ld (some 111) (.tmp 110) 1 false⟩),
 (26, 0, ⟨some (108, true), .addr (some 112) (.tmp 5) 1⟩),
 (27, 0, ⟨some (108, true), .ld (some 113) (.tmp 112) 1 false⟩),
 (28, 0, ⟨some (108, true), .idx (some 114) (.tmp 111) (.tmp 113) 11⟩),
 (29, 0, ⟨some (108, true), .addr (some 115) (.tmp 114) 4⟩),
 (30, 0, ⟨some (108, true), .ld (some 116) (.tmp 115) 5 true⟩),
 (31, 0, ⟨some (108, true), .addr (some 117) (.tmp 5) 2⟩),
 (32, 0, ⟨some (108, true), .ld (some 118) (.tmp 117) 1 false⟩),
 (33, 0, ⟨some (108, true), .idx (some 119) (.tmp 118) (.const (.int .i64 0)) 3⟩),
 (34, 0, ⟨some (108, true), .ld (some 120) (.tmp 119) 3 true⟩),
 (35, 0, ⟨some (108, true), .call (some 121) (.func 58) [(.tmp 109), (.tmp 116), (.tmp 120)]⟩),
 (36, 0, ⟨none, .pick (some 122) (.tmp 108) (.tmp 121) (.const (.bool false))⟩),
 (37, 0, ⟨none, .mov (some 6) (.tmp 122)⟩)])
 (K.ret))
 (K.skip)))
 (K.seq (K.seq (K.ops [⟨none, .addr (some 123) (.tmp 5) 0⟩,
 ⟨none, .ld (some 124) (.tmp 123) 1 false⟩,
 ⟨none, .eqv (some 125) true .i (.tmp 124) (.const (.int .i64 2))⟩,
 ⟨none, .mov (some 126) (.tmp 125)⟩,
 ⟨some (126, false), .addr (some 127) (.tmp 5) 1⟩,
 ⟨some (126, false), .ld (some 128) (.tmp 127) 1 false⟩,
 ⟨some (126, false), .eqv (some 129) true .i (.tmp 128) (.const (.int .i64 0))⟩,
 ⟨none, .pick (some 130) (.tmp 126) (.const (.bool true)) (.tmp 129)⟩,
 ⟨none, .mov (some 131) (.tmp 130)⟩,
 ⟨some (131, false), .addr (some 132) (.tmp 5) 2⟩,
 ⟨some (131, false), .ld (some 133) (.tmp 132) 1 false⟩,
 ⟨some (131, false), .len (some 134) false (.tmp 133)⟩,
 ⟨some (131, false), .addr (some 135) (.tmp 7) 8⟩,
 ⟨some (131, false), .ld (some 136) (.tmp 135) 1 false⟩,
 ⟨some (131, false), .len (some 137) false (.tmp 136)⟩,
 ⟨some (131, false), .eqv (some 138) true .i (.tmp 134) (.tmp 137)⟩,
 ⟨none, .pick (some 139) (.tmp 131) (.const (.bool true)) (.tmp 138)⟩])
 (K.cond (.tmp 139)
 (K.seq (K.ops [⟨none, .mov (some 6) (.const (.bool false))⟩])
 (K.ret))
 (K.skip)))
 (K.seq (K.seq (K.ops [⟨none, .addr (some 140) (.tmp 5) 2⟩,
 ⟨none, .ld (some 141) (.tmp 140) 1 false⟩,
 ⟨none, .len (some 142) false (.tmp 141)⟩,
 ⟨none, .mov (some 143) (.const (.int .i64 0))⟩])
 (K.block 1 (K.loop (K.seq (K.ops [⟨none, .bin (some 144) .lss (.tmp 143) (.tmp 142)⟩])
 (K.seq (K.cond (.tmp 144)
 (K.skip)
 (K.exit 1))
 (K.seq (K.block 2 (K.seq (K.ops [⟨none, .mov (some 145) (.tmp 143)⟩,
 ⟨none, .idx (some 146) (.tmp 141) (.tmp 143) 3⟩,
 ⟨none, .ld (some 147) (.tmp 146) 3 true⟩,
 ⟨none, .alloc (some 10) [(.int .i64 0), (.int .i64 0), (.slice none 0 0)]⟩,
 ⟨none, .mov (some 9) (.tmp 145)⟩,
 ⟨none, .st none (.tmp 10) (.tmp 147) 3⟩])
 (K.seq (K.dops [(0, 0, ⟨none, .ld (some 148) (.tmp 3) 2 true⟩),
 (1, 0, ⟨none, .addr (some 149) (.tmp 7) 8⟩),
 (2, 0, ⟨none, .ld (some 150) (.tmp 149) 1 false⟩),
 (3, 0, ⟨none, .mov (some 151) (.tmp 9)⟩),
 (4, 0, ⟨none, .idx (some 152) (.tmp 150) (.tmp 151) 11⟩),
 (5, 0, ⟨none, .addr (some 153) (.tmp 152) 4⟩),
 (6, 0, ⟨none, .ld (some 154) (.tmp 153) 5 true⟩),
 (7, 0, ⟨none, .ld (some 155) (.tmp 10) 3 true⟩),
 (8, 0, ⟨none, .call (some 156) (.func 58) [(.tmp 148), (.tmp 154), (.tmp 155)]⟩),
 (9, 0, ⟨none, .not (some 157) (.tmp 156)⟩)])
 (K.cond (.tmp 157)
 (K.seq (K.ops [⟨none, .mov (some 6) (.const (.bool false))⟩])
 (K.ret))
 (K.skip)))))
 (K.ops [⟨none, .bin (some 158) .add (.tmp 143) (.const (.int .i64 1))⟩,
 ⟨none, .mov (some 143) (.tmp 158)⟩])))))))
 (K.seq (K.ops [⟨none, .mov (some 6) (.const (.bool true))⟩])
 (K.ret))))))))
theorem c58 : compile Try.prog Try.f58.ntmps (Try.f58.body.getD .skip) = some K58.erase := by kernel_rfl
@[simp] theorem cal58 : callable Try.prog 58 = true := by kernel_rfl

-- splicery/value.Valid · results ["6"]
def K29 : K :=
 K.seq (K.ops [⟨none, .box (some 3) (.tmp 0)⟩,
 ⟨none, .box (some 4) (.tmp 1)⟩,
 ⟨none, .box (some 5) (.tmp 2)⟩,
 ⟨none, .mov (some 6) (.const (.bool false))⟩])
 (K.seq (K.ops [⟨none, .ld (some 7) (.tmp 5) 3 true⟩,
 ⟨none, .call (some 8) (.func 57) [(.tmp 7)]⟩,
 ⟨none, .mov (some 9) (.tmp 8)⟩,
 ⟨some (9, true), .ld (some 10) (.tmp 3) 2 true⟩,
 ⟨some (9, true), .ld (some 11) (.tmp 4) 5 true⟩,
 ⟨some (9, true), .ld (some 12) (.tmp 5) 3 true⟩,
 ⟨some (9, true), .call (some 13) (.func 58) [(.tmp 10), (.tmp 11), (.tmp 12)]⟩,
 ⟨none, .pick (some 14) (.tmp 9) (.tmp 13) (.const (.bool false))⟩,
 ⟨none, .mov (some 6) (.tmp 14)⟩])
 (K.ret))
theorem c29 : compile Try.prog Try.f29.ntmps (Try.f29.body.getD .skip) = some K29.erase := by kernel_rfl
@[simp] theorem cal29 : callable Try.prog 29 = true := by kernel_rfl


mutual
def depthV : Val → Nat
  | .mk _ _ l => depthsV l + 1
def depthsV : List Val → Nat
  | [] => 0
  | v :: l => max (depthV v) (depthsV l)
end
theorem depthV_eq (v : Val) : depthV v = depthsV v.kids + 1 := by cases v; simp only [depthV, Val.kids]
theorem sizeV_eq (v : Val) : sizeV v = 1 + sizesV v.kids := by cases v; simp only [sizeV, Val.kids]
theorem depthsV_mem : ∀ {l : List Val} {v : Val}, v ∈ l → depthV v ≤ depthsV l
  | x :: l, v, h => by
    simp only [depthsV]
    rcases List.mem_cons.1 h with rfl | h
    · omega
    · have := depthsV_mem h; omega
theorem sizesV_append : ∀ (a b : List Val), sizesV (a ++ b) = sizesV a + sizesV b
  | [], b => by simp [sizesV]
  | x :: a, b => by simp [sizesV, sizesV_append a b]; omega
theorem sizesV_take {l : List Val} {i : Nat} (h : i < l.length) : sizesV (l.take (i + 1)) = sizesV (l.take i) + sizeV l[i] := by
  rw [List.take_succ_eq_append_getElem h, sizesV_append]; simp [sizesV]
theorem sizesV_split (l : List Val) (i : Nat) : sizesV l = sizesV (l.take i) + sizesV (l.drop i) := by
  conv => lhs; rw [← List.take_append_drop i l]
  exact sizesV_append _ _

def sSelf : A := .clo 77 [] [.ptr 0 0, .ptr 1 0]
def sSt (L : Nat) : St := [.box [int L], .box [sSelf]]
def sSt3 (L : Nat) (d : Int) : St := [.box [int L], .box [sSelf], .box [int d]]
/-- What the recursive closure of 'small' does at a value that is small. -/
def SmallAt (v : Val) (d : Int) : Prop := ∀ L : Nat, sizeV v ≤ L → L ≤ 256 → Ret Try.prog 77 [.agg (encV v), int d, .ptr 0 0, .ptr 1 0] (sSt L) (bl true) (sSt (L - sizeV v))

theorem small1_ok (v : Val) (d : Int) (hd : 0 ≤ d ∧ d ≤ 100) (h : SmallAt v (d + 1)) (L : Nat) (hL : sizeV v ≤ L) (hL2 : L ≤ 256) :
    Ret Try.prog 79 [.agg (encV v), .ptr 1 0, .ptr 2 0] (sSt3 L d) (bl false) (sSt3 (L - sizeV v) d) := by
  refine ret_of_wp Try.func79 rfl c79 (rs := [.slot 4]) (by kernel_rfl) ?_
  unfold K79
  have hw : IntKind.i64.wrap (d + 1) = d + 1 := IntWalk.i64_in _ (by omega)
  simp -implicitDefEqProofs [sSt3, sSelf, hw, encV]
  refine callJ (h L hL hL2) [0, 1] (by simp) (by simp [sSt, sSelf]) (by simp [encV]) ?_
  simp -implicitDefEqProofs [sSt, sSelf]
  exact ret_keep [0, 1, 2] 0 (by decide) (by simp) (by simp [sSelf]) (by simp)

theorem idx1_ok (l : List Val) (d : Int) (hd : 0 ≤ d ∧ d ≤ 100) (h : ∀ x ∈ l, SmallAt x (d + 1)) (L : Nat) (hL : sizesV l ≤ L) (hL2 : L ≤ 256) :
    Ret Try.prog 103 [.sl l.length (cellsV l), .clo 79 [] [.ptr 1 0, .ptr 2 0]] (sSt3 L d) (int (-1)) (sSt3 (L - sizesV l) d) := by
  refine ret_of_wp Try.func103 rfl c103 (rs := [.slot 4]) (by kernel_rfl) ?_
  unfold K103
  simp -implicitDefEqProofs [sSt3, sSelf]
  intro hl
  refine loopS (S := Nat) (fun i => [(0, .sl l.length (cellsV l)), (1, .clo 79 [] [.ptr 1 0, .ptr 2 0]), (6, .sl l.length (cellsV l)), (7, int l.length), (8, int i)]) (fun i => sSt3 (L - sizesV (l.take i)) d) (fun i => i ≤ l.length) (fun i => l.length - i) 0 (by simp)
    (selW [0, 1, 2] 0 (by decide) (by simp) (by simp [sSt3, sSelf, sizesV]) (by simp)) ?_
  intro i hi
  by_cases hil : i < l.length
  · have e1 := sizesV_take hil
    have e2 := sizesV_split l (i + 1)
    simp -implicitDefEqProofs [hil, cellsV_drop hil, sSt3, sSelf]
    refine callJ (small1_ok l[i] d hd (h _ (List.getElem_mem hil)) (L - sizesV (l.take i)) (by omega) (by omega)) [0, 1, 2] (by simp) (by simp [sSt3, sSelf]) (by simp [encV]) ?_
    simp -implicitDefEqProofs [sSt3, sSelf]
    exact roundS (i + 1) hil (by omega) (selW [0, 1, 2] 0 (by decide) (by simp) (by simp [sSt3, sSelf, e1, Nat.sub_sub]) (by simp [wrap_succ hil hl]))
  · have : i = l.length := by omega
    subst this
    simp -implicitDefEqProofs [sSt3, sSelf]
    exact ret_keep [0, 1, 2] 0 (by decide) (by simp) (by simp [sSelf]) (by simp)

theorem con1_ok (l : List Val) (d : Int) (hd : 0 ≤ d ∧ d ≤ 100) (h : ∀ x ∈ l, SmallAt x (d + 1)) (L : Nat) (hL : sizesV l ≤ L) (hL2 : L ≤ 256) :
    Ret Try.prog 78 [.sl l.length (cellsV l), .clo 79 [] [.ptr 1 0, .ptr 2 0]] (sSt3 L d) (bl false) (sSt3 (L - sizesV l) d) := by
  refine ret_of_wp Try.func78 rfl c78 (rs := [.slot 4]) (by kernel_rfl) ?_
  unfold K78
  simp -implicitDefEqProofs [sSt3, sSelf]
  refine callJ (idx1_ok l d hd h L hL hL2) [0, 1, 2] (by simp) (by simp [sSt3, sSelf]) (by simp) ?_
  simp -implicitDefEqProofs [sSt3, sSelf]
  exact ret_keep [0, 1, 2] 0 (by decide) (by simp) (by simp [sSelf]) (by simp)

theorem smallAt_ok (v : Val) (d : Int) (hd : 1 ≤ d ∧ d + depthV v ≤ 25) : SmallAt v d := by
  intro L hL hL2
  refine ret_of_wp Try.func77 rfl c77 (rs := [.slot 6]) (by kernel_rfl) ?_
  unfold K77
  have e1 := sizeV_eq v
  have e2 := depthV_eq v
  have hw : IntKind.i64.wrap ((L : Int) - 1) = ((L - 1 : Nat) : Int) := by rw [IntWalk.i64_in _ (by omega)]; omega
  have hd24 : d ≤ 24 := by omega
  simp -implicitDefEqProofs [sSt, sSelf, hw, hd24, encV]
  refine callJ (con1_ok v.kids d (by omega) (fun x hx => smallAt_ok x (d + 1) (by have := depthsV_mem hx; omega)) (L - 1) (by omega) (by omega)) [0, 1, 3] (by simp) (by simp [sSt3, sSelf]) (by simp) ?_
  simp -implicitDefEqProofs [sSt3, sSelf]
  exact ret_keep [0, 1] 0 (by decide) (by simp) (by simp [sSelf, e1, Nat.sub_sub]) (by simp)
termination_by sizeV v
decreasing_by exact sizeV_kid hx

theorem small_ok (v : Val) (h1 : sizeV v ≤ 256) (h2 : depthV v ≤ 24) : Ret Try.prog 57 [.agg (encV v)] [] (bl true) [] := by
  refine ret_of_wp Try.func57 rfl c57 (rs := [.slot 2]) (by kernel_rfl) ?_
  unfold K57
  simp -implicitDefEqProofs [encV]
  refine callJ (smallAt_ok v 1 (by omega) 256 h1 (by omega)) [1, 2] (by simp) (by simp [sSt, sSelf]) (by simp [encV]) ?_
  simp -implicitDefEqProofs [sSt, sSelf]
  exact ret_end 0 (by simp)

/-- The shape of a value of a type. -/
def Shp (p : Prg) : Nat → Typ → Val → Prop
  | 0, _, _ => False
  | f + 1, t, v => validT p t = true ∧ if t.k = 0 then v.k = 0 ∧ v.kids = [] else if t.k = 1 then v.k = 1 ∧ (v.n = 0 ∨ v.n = 1) ∧ v.kids = [] else if t.k = 2 then v.k = 4 ∧ v.n = 0 ∧ ∀ x ∈ v.kids, Shp p f (t.kids.headD Typ0) x
    else if (dfn p t.id).kind = 0 then v.k = 2 ∧ v.n = 0 ∧ v.kids.length = (dfn p t.id).slots.length ∧ ∀ (i : Nat) (s : Slt) (x : Val), (dfn p t.id).slots[i]? = some s → v.kids[i]? = some x → Shp p f s.typ x
    else (dfn p t.id).kind = 1 ∧ v.k = 3 ∧ ∃ (i : Nat) (s : Slt) (x : Val), (dfn p t.id).slots[i]? = some s ∧ v.n = i ∧ v.kids = [x] ∧ Shp p f s.typ x

def fSt (p : Prg) (t : Typ) : St := [.box (encP p), .box (encT t)]
/-- A value fits a type. -/
def FitsAt (p : Prg) (t : Typ) (v : Val) : Prop := Ret Try.prog 58 [.agg (encP p), .agg (encT t), .agg (encV v)] [] (bl true) []

theorem fits1_ok (p : Prg) (t x : Typ) (hx : t.kids = [x]) (v : Val) (h : FitsAt p x v) : Ret Try.prog 80 [.agg (encV v), .ptr 0 0, .ptr 1 0] (fSt p t) (bl false) (fSt p t) := by
  refine ret_of_wp Try.func80 rfl c80 (rs := [.slot 4]) (by kernel_rfl) ?_
  unfold K80
  simp -implicitDefEqProofs [fSt, encP, encT, encV, hx]
  refine dcall0 h (by simp [encP, encT, encV]) (by simp) ?_
  simp -implicitDefEqProofs
  exact ret_keep [0, 1] 0 (by decide) (by simp) (by simp [encP, encT, hx]) (by simp)

theorem idx2_ok (p : Prg) (t x : Typ) (hx : t.kids = [x]) (l : List Val) (h : ∀ v ∈ l, FitsAt p x v) :
    Ret Try.prog 103 [.sl l.length (cellsV l), .clo 80 [] [.ptr 0 0, .ptr 1 0]] (fSt p t) (int (-1)) (fSt p t) := by
  refine ret_of_wp Try.func103 rfl c103 (rs := [.slot 4]) (by kernel_rfl) ?_
  unfold K103
  simp -implicitDefEqProofs [fSt, encP, encT]
  intro hl
  refine loopS (S := Nat) (fun i => [(0, .sl l.length (cellsV l)), (1, .clo 80 [] [.ptr 0 0, .ptr 1 0]), (6, .sl l.length (cellsV l)), (7, int l.length), (8, int i)]) (fun i => fSt p t) (fun i => i ≤ l.length) (fun i => l.length - i) 0 (by simp)
    (selW [0, 1] 0 (by decide) (by simp) (by simp [fSt, encP, encT]) (by simp)) ?_
  intro i hi
  by_cases hil : i < l.length
  · simp -implicitDefEqProofs [hil, cellsV_drop hil, fSt, encP, encT]
    refine callJ (fits1_ok p t x hx l[i] (h _ (List.getElem_mem hil))) [0, 1] (by simp) (by simp [fSt, encP, encT]) (by simp [encV]) ?_
    simp -implicitDefEqProofs [fSt, encP, encT]
    exact roundS (i + 1) hil (by omega) (selW [0, 1] 0 (by decide) (by simp) (by simp [fSt, encP, encT]) (by simp [wrap_succ hil hl]))
  · have : i = l.length := by omega
    subst this
    simp -implicitDefEqProofs [fSt, encP, encT]
    exact ret_keep [0, 1] 0 (by decide) (by simp) (by simp [encP, encT]) (by simp)

theorem con2_ok (p : Prg) (t x : Typ) (hx : t.kids = [x]) (l : List Val) (h : ∀ v ∈ l, FitsAt p x v) :
    Ret Try.prog 78 [.sl l.length (cellsV l), .clo 80 [] [.ptr 0 0, .ptr 1 0]] (fSt p t) (bl false) (fSt p t) := by
  refine ret_of_wp Try.func78 rfl c78 (rs := [.slot 4]) (by kernel_rfl) ?_
  unfold K78
  simp -implicitDefEqProofs [fSt, encP, encT]
  refine callJ (idx2_ok p t x hx l h) [0, 1] (by simp) (by simp [fSt, encP, encT]) (by simp) ?_
  simp -implicitDefEqProofs [fSt, encP, encT]
  exact ret_keep [0, 1] 0 (by decide) (by simp) (by simp [encP, encT]) (by simp)

theorem fits_ok (p : Prg) (m : Int) (hm : 0 ≤ m ∧ m ≤ 64) : ∀ (f : Nat) (t : Typ) (v : Val), Shp p f t v → withinV m v = true → FitsAt p t v
  | 0, t, v, h, _ => h.elim
  | f + 1, t, v, h, hw => by
    obtain ⟨w1, w2, w3⟩ := (withinV_iff m v).1 hw
    unfold Shp at h
    obtain ⟨hv, h⟩ := h
    refine ret_of_wp Try.func58 rfl c58 (rs := [.slot 6]) (by kernel_rfl) ?_
    unfold K58
    simp -implicitDefEqProofs [encP, encT, encV]
    refine call0 (valid_ok p t) (by simp [encP, encT]) (by simp) ?_
    by_cases h0 : t.k = 0
    · rw [if_pos h0] at h
      obtain ⟨g1, g2⟩ := h
      have w1 := w1 g1
      have r1 : -1099511627776 ≤ v.n := by omega
      have r2 : v.n ≤ 1099511627776 := by omega
      simp -implicitDefEqProofs [hv, h0, g1, g2, r1, r2]
      exact ret_end 0 (by simp)
    by_cases h1 : t.k = 1
    · rw [if_neg h0, if_pos h1] at h
      obtain ⟨g1, g2, g3⟩ := h
      rcases g2 with g2 | g2
      · simp -implicitDefEqProofs [hv, h1, g1, g2, g3]
        exact ret_end 0 (by simp)
      · simp -implicitDefEqProofs [hv, h1, g1, g2, g3]
        exact ret_end 0 (by simp)
    by_cases h2 : t.k = 2
    · rw [if_neg h0, if_neg h1, if_pos h2] at h
      obtain ⟨g1, g2, g3⟩ := h
      obtain ⟨x, hx⟩ := valid_list hv h2
      rw [hx] at g3
      simp -implicitDefEqProofs [hv, h2, g1, g2]
      refine callJ (con2_ok p t x hx v.kids (fun y hy => fits_ok p m hm f x y (g3 y hy) (w3 y hy))) [0, 1] (by simp) (by simp [fSt, encP, encT, h2]) (by simp) ?_
      simp -implicitDefEqProofs [fSt, encP, encT]
      exact ret_end 0 (by simp)
    rw [if_neg h0, if_neg h1, if_neg h2] at h
    simp -implicitDefEqProofs [hv, h0, h1, h2]
    refine call0 (def_ok p t.id) (by simp [encP, encI]) (by simp [defR]) ?_
    have hD : (findD p.defs t.id).getD .zero = dfn p t.id := rfl
    by_cases hk : (dfn p t.id).kind = 0
    · rw [if_pos hk] at h
      obtain ⟨g1, g2, g3, g4⟩ := h
      generalize dfn p t.id = D at hD hk g3 g4
      simp -implicitDefEqProofs [defR, hD, encD, hk, g1, g2, g3]
      intro hl
      refine loopS (S := Nat) (fun i => [(3, .ptr 0 0), (7, .ptr 3 0), (141, .sl v.kids.length (cellsV v.kids)), (142, int v.kids.length), (143, int i)])
        (fun i => [.box (encP p), .box (encT t), .box (encV v), .box (encD D)]) (fun i => i ≤ v.kids.length) (fun i => v.kids.length - i) 0 (by simp)
        (selW [0, 1, 2, 3] 0 (by decide) (by simp) (by simp [encP, encT, encV, encD, hk, g1, g2, g3]) (by simp [g3])) ?_
      intro i hi
      by_cases hil : i < v.kids.length
      · have hiD : i < D.slots.length := by omega
        simp -implicitDefEqProofs [hil, hiD, cellsV_drop hil, cellsS_drop hiD, encP, encD, encS]
        refine dcall0 (fits_ok p m hm f D.slots[i].typ v.kids[i] (g4 i _ _ (List.getElem?_eq_getElem hiD) (List.getElem?_eq_getElem hil)) (w3 _ (List.getElem_mem hil))) (by simp [encP, encT, encV]) (by simp) ?_
        simp -implicitDefEqProofs
        exact roundS (i + 1) hil (by omega) (selW [0, 1, 2, 3] 0 (by decide) (by simp) (by simp [encP, encT, encV, encD]) (by simp [wrap_succ hil (g3 ▸ hl)]))
      · have : i = v.kids.length := by omega
        subst this
        simp -implicitDefEqProofs
        exact ret_end 0 (by simp)
    · rw [if_neg hk] at h
      obtain ⟨hk1, g1, i, s, x, g2, g3, g4, g5⟩ := h
      generalize dfn p t.id = D at hD hk hk1 g2
      obtain ⟨hi, hs⟩ := List.getElem?_eq_some_iff.1 g2
      subst hs
      simp -implicitDefEqProofs [defR, hD, encD, hk1, g1, g3, g4, hi, cellsS_drop hi, encS]
      refine dcall0 (fits_ok p m hm f D.slots[i].typ x g5 (w3 x (by simp [g4]))) (by simp [encP, encT, encV]) (by simp) ?_
      simp -implicitDefEqProofs
      exact ret_end 0 (by simp)

theorem validV_ok (p : Prg) (m : Int) (hm : 0 ≤ m ∧ m ≤ 64) (f : Nat) (t : Typ) (v : Val) (h : Shp p f t v) (hw : withinV m v = true) (h1 : sizeV v ≤ 256) (h2 : depthV v ≤ 24) :
    Ret Try.prog 29 [.agg (encP p), .agg (encT t), .agg (encV v)] [] (bl true) [] := by
  refine ret_of_wp Try.func29 rfl c29 (rs := [.slot 6]) (by kernel_rfl) ?_
  unfold K29
  simp -implicitDefEqProofs [encP, encT, encV]
  refine call0 (small_ok v h1 h2) (by simp [encV]) (by simp) ?_
  simp -implicitDefEqProofs
  refine call0 (fits_ok p m hm f t v h hw) (by simp [encP, encT, encV]) (by simp) ?_
  simp -implicitDefEqProofs
  exact ret_end 0 (by simp)
end Go.Proofs.Ytbkiphnlbadhcaa
