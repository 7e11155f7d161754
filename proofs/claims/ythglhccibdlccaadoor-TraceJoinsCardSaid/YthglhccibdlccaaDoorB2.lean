/-
  Types, definitions and nodes are compared.
-/
import Derived.Test.YthglhccibdlccaaDoorB1
namespace Go.Proofs.YthglhccibdlccaaDoor
open Go.Abs

/-- Two lists are alike, element by element. -/
def allS {α : Type} (same : α → α → Bool) : List α → List α → Bool
  | [], [] => true
  | x :: a, y :: b => same x y && allS same a b
  | _, _ => false
theorem allS_len {α : Type} {same : α → α → Bool} : ∀ {a b : List α}, a.length ≠ b.length → allS same a b = false
  | [], [], h => (h rfl).elim
  | x :: a, y :: b, h => by simp only [allS, allS_len (a := a) (b := b) (by simpa using h), Bool.and_false]
  | [], _ :: _, _ => rfl
  | _ :: _, [], _ => rfl
theorem allS_iff {α : Type} {same : α → α → Bool} : ∀ {a b : List α} (hl : a.length = b.length), allS same a b = true ↔ ∀ (j : Nat) (h : j < a.length), same a[j] (b[j]'(hl ▸ h)) = true
  | [], [], _ => by simp [allS]
  | x :: a, y :: b, hl => by
    simp only [allS, Bool.and_eq_true, allS_iff (a := a) (b := b) (by simpa using hl)]
    constructor
    · rintro ⟨h1, h2⟩ j h
      cases j with
      | zero => exact h1
      | succ j => exact h2 j (by simpa using h)
    · intro h
      exact ⟨h 0 (by simp), fun j hj => h (j + 1) (by simpa using hj)⟩
  | [], _ :: _, hl => by simp at hl
  | _ :: _, [], hl => by simp at hl

-- slices.EqualFunc[[]splicery/api.Type,[]splicery/api.Type,splicery/api.Type,splicery/api.Type] · results ["6"]
def KEqT : K :=
 K.seq (K.ops [⟨none, .mov (some 6) (.const (.bool false))⟩])
 (K.seq (K.seq (K.ops [⟨none, .mov (some 10) (.tmp 0)⟩,
 ⟨none, .len (some 11) false (.tmp 10)⟩,
 ⟨none, .mov (some 12) (.tmp 1)⟩,
 ⟨none, .len (some 13) false (.tmp 12)⟩,
 ⟨none, .eqv (some 14) true .i (.tmp 11) (.tmp 13)⟩])
 (K.cond (.tmp 14)
 (K.seq (K.ops [⟨none, .mov (some 6) (.const (.bool false))⟩])
 (K.ret))
 (K.skip)))
 (K.seq (K.seq (K.ops [⟨none, .mov (some 15) (.tmp 0)⟩,
 ⟨none, .len (some 16) false (.tmp 15)⟩,
 ⟨none, .mov (some 17) (.const (.int .i64 0))⟩])
 (K.block 0 (K.loop (K.seq (K.ops [⟨none, .bin (some 18) .lss (.tmp 17) (.tmp 16)⟩])
 (K.seq (K.cond (.tmp 18)
 (K.skip)
 (K.exit 0))
 (K.seq (K.block 1 (K.seq (K.ops [⟨none, .mov (some 19) (.tmp 17)⟩,
 ⟨none, .idx (some 20) (.tmp 15) (.tmp 17) 5⟩,
 ⟨none, .ld (some 21) (.tmp 20) 5 true⟩,
 ⟨none, .alloc (some 8) [(.int .i64 0), (.int .i64 0), (.int .i64 0), (.int .i64 0), (.slice none 0 0)]⟩,
 ⟨none, .mov (some 7) (.tmp 19)⟩,
 ⟨none, .st none (.tmp 8) (.tmp 21) 5⟩])
 (K.seq (K.ops [⟨none, .mov (some 22) (.tmp 1)⟩,
 ⟨none, .mov (some 23) (.tmp 7)⟩,
 ⟨none, .idx (some 24) (.tmp 22) (.tmp 23) 5⟩,
 ⟨none, .ld (some 25) (.tmp 24) 5 true⟩,
 ⟨none, .alloc (some 9) [(.int .i64 0), (.int .i64 0), (.int .i64 0), (.int .i64 0), (.slice none 0 0)]⟩,
 ⟨none, .st none (.tmp 9) (.tmp 25) 5⟩])
 (K.seq (K.ops [⟨none, .mov (some 26) (.tmp 2)⟩,
 ⟨none, .ld (some 27) (.tmp 8) 5 true⟩,
 ⟨none, .ld (some 28) (.tmp 9) 5 true⟩,
 ⟨none, .call (some 29) (.tmp 26) [(.tmp 27), (.tmp 28)]⟩,
 ⟨none, .not (some 30) (.tmp 29)⟩])
 (K.cond (.tmp 30)
 (K.seq (K.ops [⟨none, .mov (some 6) (.const (.bool false))⟩])
 (K.ret))
 (K.skip))))))
 (K.ops [⟨none, .bin (some 31) .add (.tmp 17) (.const (.int .i64 1))⟩,
 ⟨none, .mov (some 17) (.tmp 31)⟩])))))))
 (K.seq (K.ops [⟨none, .mov (some 6) (.const (.bool true))⟩])
 (K.ret))))
theorem cEqT : compile Tryd.prog Tryd.f79.ntmps (Tryd.f79.body.getD .skip) = some KEqT.erase := by kernel_rfl
@[simp] theorem calEqT : callable Tryd.prog 79 = true := by kernel_rfl
theorem eqFT_ok (g : FuncId) (hcal : callable Tryd.prog g = true) (same : Typ → Typ → Bool) (a b : List Typ) (h : ∀ x ∈ a, ∀ y ∈ b, Ret Tryd.prog g [.agg (encT x), .agg (encT y)] [] (bl (same x y)) []) :
    Ret Tryd.prog 79 [.sl a.length (cellsT a), .sl b.length (cellsT b), .clo g [] []] [] (bl (allS same a b)) [] := by
  refine ret_of_wp Tryd.func79 rfl cEqT (rs := [.slot 6]) (by kernel_rfl) ?_
  unfold KEqT
  by_cases hab : a.length = b.length
  · simp -implicitDefEqProofs [hab]
    intro hlb
    refine loopS (S := Nat) (fun i => [(1, .sl b.length (cellsT b)), (2, .clo g [] []), (15, .sl a.length (cellsT a)), (16, int a.length), (17, int i)]) (fun s => []) (fun i => i ≤ a.length ∧ ∀ (j : Nat) (h : j < a.length), j < i → same a[j] (b[j]'(hab ▸ h)) = true) (fun i => a.length - i) 0 (by simp)
      (selW [] 0 (by simp) (by simp) (by simp) (by simp [hab])) ?_
    rintro i ⟨hi, hn⟩
    by_cases hia : i < a.length
    · have hib : i < b.length := by omega
      have hla : i * 5 < a.length * 5 := by omega
      have hlb' : i * 5 < b.length * 5 := by omega
      simp -implicitDefEqProofs [hia, hib, cellsT_drop hia, cellsT_drop hib, hcal, encT]
      refine call0 (h a[i] (List.getElem_mem hia) b[i] (List.getElem_mem hib)) (by simp [encT]) (by simp) ?_
      cases hs : same a[i] b[i] with
      | true =>
        simp -implicitDefEqProofs
        exact roundS (i + 1) ⟨hia, fun j hj hji => by
          by_cases e : j = i
          · subst e; exact hs
          · exact hn j hj (by omega)⟩ (by omega) (selW [] 0 (by simp) (by simp) (by simp) (by simp [wrap_succ hib hlb]))
      | false =>
        have hf : allS same a b = false := by
          cases hh : allS same a b with
          | false => rfl
          | true => have := (allS_iff hab).1 hh i hia; rw [hs] at this; cases this
        simp -implicitDefEqProofs
        exact ret_end 0 (by simp [hf])
    · have hil : i = a.length := by omega
      subst hil
      have ht : allS same a b = true := (allS_iff hab).2 fun j hj => hn j hj hj
      simp -implicitDefEqProofs
      exact ret_end 0 (by simp [ht])
  · have hab' : ¬ (a.length : Int) = b.length := by omega
    simp -implicitDefEqProofs [hab']
    exact fun _ _ => ret_end 0 (by simp [allS_len hab])

-- slices.EqualFunc[[]splicery/api.Slot,[]splicery/api.Slot,splicery/api.Slot,splicery/api.Slot] · results ["6"]
def KEqS : K :=
 K.seq (K.ops [⟨none, .mov (some 6) (.const (.bool false))⟩])
 (K.seq (K.seq (K.ops [⟨none, .mov (some 10) (.tmp 0)⟩,
 ⟨none, .len (some 11) false (.tmp 10)⟩,
 ⟨none, .mov (some 12) (.tmp 1)⟩,
 ⟨none, .len (some 13) false (.tmp 12)⟩,
 ⟨none, .eqv (some 14) true .i (.tmp 11) (.tmp 13)⟩])
 (K.cond (.tmp 14)
 (K.seq (K.ops [⟨none, .mov (some 6) (.const (.bool false))⟩])
 (K.ret))
 (K.skip)))
 (K.seq (K.seq (K.ops [⟨none, .mov (some 15) (.tmp 0)⟩,
 ⟨none, .len (some 16) false (.tmp 15)⟩,
 ⟨none, .mov (some 17) (.const (.int .i64 0))⟩])
 (K.block 0 (K.loop (K.seq (K.ops [⟨none, .bin (some 18) .lss (.tmp 17) (.tmp 16)⟩])
 (K.seq (K.cond (.tmp 18)
 (K.skip)
 (K.exit 0))
 (K.seq (K.block 1 (K.seq (K.ops [⟨none, .mov (some 19) (.tmp 17)⟩,
 ⟨none, .idx (some 20) (.tmp 15) (.tmp 17) 11⟩,
 ⟨none, .ld (some 21) (.tmp 20) 11 true⟩,
 ⟨none, .alloc (some 8) [(.int .i64 0), (.int .i64 0), (.int .i64 0), (.string ⟨#[]⟩), (.int .i64 0), (.int .i64 0), (.int .i64 0), (.int .i64 0), (.slice none 0 0), (.int .i64 0), (.int .i64 0)]⟩,
 ⟨none, .mov (some 7) (.tmp 19)⟩,
 ⟨none, .st none (.tmp 8) (.tmp 21) 11⟩])
 (K.seq (K.ops [⟨none, .mov (some 22) (.tmp 1)⟩,
 ⟨none, .mov (some 23) (.tmp 7)⟩,
 ⟨none, .idx (some 24) (.tmp 22) (.tmp 23) 11⟩,
 ⟨none, .ld (some 25) (.tmp 24) 11 true⟩,
 ⟨none, .alloc (some 9) [(.int .i64 0), (.int .i64 0), (.int .i64 0), (.string ⟨#[]⟩), (.int .i64 0), (.int .i64 0), (.int .i64 0), (.int .i64 0), (.slice none 0 0), (.int .i64 0), (.int .i64 0)]⟩,
 ⟨none, .st none (.tmp 9) (.tmp 25) 11⟩])
 (K.seq (K.ops [⟨none, .mov (some 26) (.tmp 2)⟩,
 ⟨none, .ld (some 27) (.tmp 8) 11 true⟩,
 ⟨none, .ld (some 28) (.tmp 9) 11 true⟩,
 ⟨none, .call (some 29) (.tmp 26) [(.tmp 27), (.tmp 28)]⟩,
 ⟨none, .not (some 30) (.tmp 29)⟩])
 (K.cond (.tmp 30)
 (K.seq (K.ops [⟨none, .mov (some 6) (.const (.bool false))⟩])
 (K.ret))
 (K.skip))))))
 (K.ops [⟨none, .bin (some 31) .add (.tmp 17) (.const (.int .i64 1))⟩,
 ⟨none, .mov (some 17) (.tmp 31)⟩])))))))
 (K.seq (K.ops [⟨none, .mov (some 6) (.const (.bool true))⟩])
 (K.ret))))
theorem cEqS : compile Tryd.prog Tryd.f57.ntmps (Tryd.f57.body.getD .skip) = some KEqS.erase := by kernel_rfl
@[simp] theorem calEqS : callable Tryd.prog 57 = true := by kernel_rfl
theorem eqFS_ok (g : FuncId) (hcal : callable Tryd.prog g = true) (same : Slt → Slt → Bool) (a b : List Slt) (h : ∀ x ∈ a, ∀ y ∈ b, Ret Tryd.prog g [.agg (encS x), .agg (encS y)] [] (bl (same x y)) []) :
    Ret Tryd.prog 57 [.sl a.length (cellsS a), .sl b.length (cellsS b), .clo g [] []] [] (bl (allS same a b)) [] := by
  refine ret_of_wp Tryd.func57 rfl cEqS (rs := [.slot 6]) (by kernel_rfl) ?_
  unfold KEqS
  by_cases hab : a.length = b.length
  · simp -implicitDefEqProofs [hab]
    intro hlb
    refine loopS (S := Nat) (fun i => [(1, .sl b.length (cellsS b)), (2, .clo g [] []), (15, .sl a.length (cellsS a)), (16, int a.length), (17, int i)]) (fun s => []) (fun i => i ≤ a.length ∧ ∀ (j : Nat) (h : j < a.length), j < i → same a[j] (b[j]'(hab ▸ h)) = true) (fun i => a.length - i) 0 (by simp)
      (selW [] 0 (by simp) (by simp) (by simp) (by simp [hab])) ?_
    rintro i ⟨hi, hn⟩
    by_cases hia : i < a.length
    · have hib : i < b.length := by omega
      have hla : i * 11 < a.length * 11 := by omega
      have hlb' : i * 11 < b.length * 11 := by omega
      simp -implicitDefEqProofs [hia, hib, cellsS_drop hia, cellsS_drop hib, hcal, encS]
      refine call0 (h a[i] (List.getElem_mem hia) b[i] (List.getElem_mem hib)) (by simp [encS]) (by simp) ?_
      cases hs : same a[i] b[i] with
      | true =>
        simp -implicitDefEqProofs
        exact roundS (i + 1) ⟨hia, fun j hj hji => by
          by_cases e : j = i
          · subst e; exact hs
          · exact hn j hj (by omega)⟩ (by omega) (selW [] 0 (by simp) (by simp) (by simp) (by simp [wrap_succ hib hlb]))
      | false =>
        have hf : allS same a b = false := by
          cases hh : allS same a b with
          | false => rfl
          | true => have := (allS_iff hab).1 hh i hia; rw [hs] at this; cases this
        simp -implicitDefEqProofs
        exact ret_end 0 (by simp [hf])
    · have hil : i = a.length := by omega
      subst hil
      have ht : allS same a b = true := (allS_iff hab).2 fun j hj => hn j hj hj
      simp -implicitDefEqProofs
      exact ret_end 0 (by simp [ht])
  · have hab' : ¬ (a.length : Int) = b.length := by omega
    simp -implicitDefEqProofs [hab']
    exact fun _ _ => ret_end 0 (by simp [allS_len hab])

-- slices.EqualFunc[[]splicery/api.Expr,[]splicery/api.Expr,splicery/api.Expr,splicery/api.Expr] · results ["6"]
def KEqE : K :=
 K.seq (K.ops [⟨none, .mov (some 6) (.const (.bool false))⟩])
 (K.seq (K.seq (K.ops [⟨none, .mov (some 10) (.tmp 0)⟩,
 ⟨none, .len (some 11) false (.tmp 10)⟩,
 ⟨none, .mov (some 12) (.tmp 1)⟩,
 ⟨none, .len (some 13) false (.tmp 12)⟩,
 ⟨none, .eqv (some 14) true .i (.tmp 11) (.tmp 13)⟩])
 (K.cond (.tmp 14)
 (K.seq (K.ops [⟨none, .mov (some 6) (.const (.bool false))⟩])
 (K.ret))
 (K.skip)))
 (K.seq (K.seq (K.ops [⟨none, .mov (some 15) (.tmp 0)⟩,
 ⟨none, .len (some 16) false (.tmp 15)⟩,
 ⟨none, .mov (some 17) (.const (.int .i64 0))⟩])
 (K.block 0 (K.loop (K.seq (K.ops [⟨none, .bin (some 18) .lss (.tmp 17) (.tmp 16)⟩])
 (K.seq (K.cond (.tmp 18)
 (K.skip)
 (K.exit 0))
 (K.seq (K.block 1 (K.seq (K.ops [⟨none, .mov (some 19) (.tmp 17)⟩,
 ⟨none, .idx (some 20) (.tmp 15) (.tmp 17) 15⟩,
 ⟨none, .ld (some 21) (.tmp 20) 15 true⟩,
 ⟨none, .alloc (some 8) [(.int .i64 0), (.int .i64 0), (.int .i64 0), (.int .i64 0), (.int .i64 0), (.int .i64 0), (.int .i64 0), (.int .i64 0), (.int .i64 0), (.int .i64 0), (.int .i64 0), (.int .i64 0), (.slice none 0 0), (.slice none 0 0), (.slice none 0 0)]⟩,
 ⟨none, .mov (some 7) (.tmp 19)⟩,
 ⟨none, .st none (.tmp 8) (.tmp 21) 15⟩])
 (K.seq (K.ops [⟨none, .mov (some 22) (.tmp 1)⟩,
 ⟨none, .mov (some 23) (.tmp 7)⟩,
 ⟨none, .idx (some 24) (.tmp 22) (.tmp 23) 15⟩,
 ⟨none, .ld (some 25) (.tmp 24) 15 true⟩,
 ⟨none, .alloc (some 9) [(.int .i64 0), (.int .i64 0), (.int .i64 0), (.int .i64 0), (.int .i64 0), (.int .i64 0), (.int .i64 0), (.int .i64 0), (.int .i64 0), (.int .i64 0), (.int .i64 0), (.int .i64 0), (.slice none 0 0), (.slice none 0 0), (.slice none 0 0)]⟩,
 ⟨none, .st none (.tmp 9) (.tmp 25) 15⟩])
 (K.seq (K.ops [⟨none, .mov (some 26) (.tmp 2)⟩,
 ⟨none, .ld (some 27) (.tmp 8) 15 true⟩,
 ⟨none, .ld (some 28) (.tmp 9) 15 true⟩,
 ⟨none, .call (some 29) (.tmp 26) [(.tmp 27), (.tmp 28)]⟩,
 ⟨none, .not (some 30) (.tmp 29)⟩])
 (K.cond (.tmp 30)
 (K.seq (K.ops [⟨none, .mov (some 6) (.const (.bool false))⟩])
 (K.ret))
 (K.skip))))))
 (K.ops [⟨none, .bin (some 31) .add (.tmp 17) (.const (.int .i64 1))⟩,
 ⟨none, .mov (some 17) (.tmp 31)⟩])))))))
 (K.seq (K.ops [⟨none, .mov (some 6) (.const (.bool true))⟩])
 (K.ret))))
theorem cEqE : compile Tryd.prog Tryd.f59.ntmps (Tryd.f59.body.getD .skip) = some KEqE.erase := by kernel_rfl
@[simp] theorem calEqE : callable Tryd.prog 59 = true := by kernel_rfl
theorem eqFE_ok (g : FuncId) (hcal : callable Tryd.prog g = true) (same : Exp → Exp → Bool) (a b : List Exp) (h : ∀ x ∈ a, ∀ y ∈ b, Ret Tryd.prog g [.agg (encE x), .agg (encE y)] [] (bl (same x y)) []) :
    Ret Tryd.prog 59 [.sl a.length (cellsE a), .sl b.length (cellsE b), .clo g [] []] [] (bl (allS same a b)) [] := by
  refine ret_of_wp Tryd.func59 rfl cEqE (rs := [.slot 6]) (by kernel_rfl) ?_
  unfold KEqE
  by_cases hab : a.length = b.length
  · simp -implicitDefEqProofs [hab]
    intro hlb
    refine loopS (S := Nat) (fun i => [(1, .sl b.length (cellsE b)), (2, .clo g [] []), (15, .sl a.length (cellsE a)), (16, int a.length), (17, int i)]) (fun s => []) (fun i => i ≤ a.length ∧ ∀ (j : Nat) (h : j < a.length), j < i → same a[j] (b[j]'(hab ▸ h)) = true) (fun i => a.length - i) 0 (by simp)
      (selW [] 0 (by simp) (by simp) (by simp) (by simp [hab])) ?_
    rintro i ⟨hi, hn⟩
    by_cases hia : i < a.length
    · have hib : i < b.length := by omega
      have hla : i * 15 < a.length * 15 := by omega
      have hlb' : i * 15 < b.length * 15 := by omega
      simp -implicitDefEqProofs [hia, hib, cellsE_drop hia, cellsE_drop hib, hcal, encE]
      refine call0 (h a[i] (List.getElem_mem hia) b[i] (List.getElem_mem hib)) (by simp [encE]) (by simp) ?_
      cases hs : same a[i] b[i] with
      | true =>
        simp -implicitDefEqProofs
        exact roundS (i + 1) ⟨hia, fun j hj hji => by
          by_cases e : j = i
          · subst e; exact hs
          · exact hn j hj (by omega)⟩ (by omega) (selW [] 0 (by simp) (by simp) (by simp) (by simp [wrap_succ hib hlb]))
      | false =>
        have hf : allS same a b = false := by
          cases hh : allS same a b with
          | false => rfl
          | true => have := (allS_iff hab).1 hh i hia; rw [hs] at this; cases this
        simp -implicitDefEqProofs
        exact ret_end 0 (by simp [hf])
    · have hil : i = a.length := by omega
      subst hil
      have ht : allS same a b = true := (allS_iff hab).2 fun j hj => hn j hj hj
      simp -implicitDefEqProofs
      exact ret_end 0 (by simp [ht])
  · have hab' : ¬ (a.length : Int) = b.length := by omega
    simp -implicitDefEqProofs [hab']
    exact fun _ _ => ret_end 0 (by simp [allS_len hab])

end Go.Proofs.YthglhccibdlccaaDoor
