/-
  domain.Values, Count and Inputs.
-/
import Derived.Test.YtbkiphnlbadhcaaC5
import Derived.Test.YtbkiphnlbadhcaaC8
namespace Go.Proofs.Ytbkiphnlbadhcaa
open Go.Abs

-- splicery/domain.Count · results ["4", "5"]
def K16 : K :=
 K.seq (K.ops [⟨none, .box (some 2) (.tmp 0)⟩,
 ⟨none, .mov (some 4) (.const (.int .i64 0))⟩,
 ⟨none, .mov (some 5) (.const (.int .i64 0))⟩])
 (K.seq (K.ops [⟨none, .mov (some 6) (.const (.int .i64 1))⟩])
 (K.seq (K.seq (K.ops [⟨none, .mov (some 11) (.tmp 1)⟩,
 ⟨none, .len (some 12) false (.tmp 11)⟩,
 ⟨none, .mov (some 13) (.const (.int .i64 0))⟩])
 (K.block 0 (K.loop (K.seq (K.ops [⟨none, .bin (some 14) .lss (.tmp 13) (.tmp 12)⟩])
 (K.seq (K.cond (.tmp 14)
 (K.skip)
 (K.exit 0))
 (K.seq (K.block 1 (K.seq (K.ops [⟨none, .idx (some 15) (.tmp 11) (.tmp 13) 11⟩,
 ⟨none, .ld (some 16) (.tmp 15) 11 true⟩,
 ⟨none, .alloc (some 8) [(.int .i64 0), (.int .i64 0), (.int .i64 0), (.string ⟨#[]⟩), (.int .i64 0), (.int .i64 0), (.int .i64 0), (.int .i64 0), (.slice none 0 0), (.int .i64 0), (.int .i64 0)]⟩,
 ⟨none, .st none (.tmp 8) (.tmp 16) 11⟩])
 (K.seq (K.seq (K.ops [⟨none, .addr (some 17) (.tmp 8) 9⟩,
 ⟨none, .ld (some 18) (.tmp 17) 1 false⟩,
 ⟨none, .bin (some 19) .lss (.tmp 18) (.const (.int .i64 0))⟩,
 ⟨none, .mov (some 20) (.tmp 19)⟩,
 ⟨some (20, false), .addr (some 21) (.tmp 8) 9⟩,
 ⟨some (20, false), .ld (some 22) (.tmp 21) 1 false⟩,
 ⟨some (20, false), .bin (some 23) .gtr (.tmp 22) (.const (.int .i64 64))⟩,
 ⟨none, .pick (some 24) (.tmp 20) (.const (.bool true)) (.tmp 23)⟩])
 (K.cond (.tmp 24)
 (K.seq (K.ops [⟨none, .mov (some 4) (.const (.int .i64 0))⟩,
 ⟨none, .mov (some 5) (.const (.int .i64 1))⟩])
 (K.ret))
 (K.skip)))
 (K.seq (K.ops [⟨none, .ld (some 26) (.tmp 2) 2 true⟩,
 ⟨none, .addr (some 27) (.tmp 8) 4⟩,
 ⟨none, .ld (some 28) (.tmp 27) 5 true⟩,
 ⟨none, .addr (some 29) (.tmp 8) 9⟩,
 ⟨none, .ld (some 30) (.tmp 29) 1 false⟩,
 ⟨none, .call (some 31) (.func 31) [(.tmp 26), (.tmp 28), (.tmp 30)]⟩,
 ⟨none, .mov (some 25) (.tmp 31)⟩,
 ⟨none, .ext (some 32) (.tmp 25) 0⟩,
 ⟨none, .ext (some 33) (.tmp 25) 1⟩,
 ⟨none, .alloc (some 9) [(.int .i64 0), (.int .i64 0)]⟩,
 ⟨none, .st none (.tmp 9) (.tmp 32) 2⟩,
 ⟨none, .mov (some 10) (.tmp 33)⟩])
 (K.seq (K.seq (K.ops [⟨none, .mov (some 34) (.tmp 10)⟩,
 ⟨none, .eqv (some 35) true .i (.tmp 34) (.const (.int .i64 0))⟩])
 (K.cond (.tmp 35)
 (K.seq (K.ops [⟨none, .mov (some 36) (.tmp 10)⟩,
 ⟨none, .mov (some 4) (.const (.int .i64 0))⟩,
 ⟨none, .mov (some 5) (.tmp 36)⟩])
 (K.ret))
 (K.skip)))
 (K.seq (K.ops [⟨none, .mov (some 37) (.tmp 6)⟩,
 ⟨none, .addr (some 38) (.tmp 9) 0⟩,
 ⟨none, .ld (some 39) (.tmp 38) 1 false⟩,
 ⟨none, .bin (some 40) .mul (.tmp 37) (.tmp 39)⟩,
 ⟨none, .mov (some 6) (.tmp 40)⟩])
 (K.seq (K.ops [⟨none, .mov (some 41) (.tmp 6)⟩,
 ⟨none, .bin (some 42) .gtr (.tmp 41) (.const (.int .i64 4096))⟩])
 (K.cond (.tmp 42)
 (K.seq (K.ops [⟨none, .mov (some 4) (.const (.int .i64 0))⟩,
 ⟨none, .mov (some 5) (.const (.int .i64 4))⟩])
 (K.ret))
 (K.skip)))))))))
 (K.ops [⟨none, .bin (some 43) .add (.tmp 13) (.const (.int .i64 1))⟩,
 ⟨none, .mov (some 13) (.tmp 43)⟩])))))))
 (K.seq (K.ops [⟨none, .mov (some 44) (.tmp 6)⟩,
 ⟨none, .mov (some 4) (.tmp 44)⟩,
 ⟨none, .mov (some 5) (.const (.int .i64 0))⟩])
 (K.ret))))
theorem c16 : compile Try.prog Try.f16.ntmps (Try.f16.body.getD .skip) = some K16.erase := by kernel_rfl
@[simp] theorem cal16 : callable Try.prog 16 = true := by kernel_rfl

-- splicery/domain.Values · results ["6", "7"]
def K12 : K :=
 K.seq (K.ops [⟨none, .box (some 3) (.tmp 0)⟩,
 ⟨none, .box (some 4) (.tmp 1)⟩,
 ⟨none, .mov (some 6) (.const (.slice none 0 0))⟩,
 ⟨none, .mov (some 7) (.const (.int .i64 0))⟩])
 (K.seq (K.seq (K.ops [⟨none, .mov (some 11) (.tmp 2)⟩,
 ⟨none, .bin (some 12) .lss (.tmp 11) (.const (.int .i64 0))⟩,
 ⟨none, .mov (some 13) (.tmp 12)⟩,
 ⟨some (13, false), .mov (some 14) (.tmp 2)⟩,
 ⟨some (13, false), .bin (some 15) .gtr (.tmp 14) (.const (.int .i64 64))⟩,
 ⟨none, .pick (some 16) (.tmp 13) (.const (.bool true)) (.tmp 15)⟩])
 (K.cond (.tmp 16)
 (K.seq (K.ops [⟨none, .mov (some 6) (.const (.slice none 0 0))⟩,
 ⟨none, .mov (some 7) (.const (.int .i64 1))⟩])
 (K.ret))
 (K.skip)))
 (K.seq (K.seq (K.ops [⟨none, .ld (some 18) (.tmp 3) 2 true⟩,
 ⟨none, .ld (some 19) (.tmp 4) 5 true⟩,
 ⟨none, .mov (some 20) (.tmp 2)⟩,
 ⟨none, .call (some 21) (.func 31) [(.tmp 18), (.tmp 19), (.tmp 20)]⟩,
 ⟨none, .mov (some 17) (.tmp 21)⟩,
 ⟨none, .ext (some 22) (.tmp 17) 0⟩,
 ⟨none, .ext (some 23) (.tmp 17) 1⟩,
 ⟨none, .alloc (some 8) [(.int .i64 0), (.int .i64 0)]⟩,
 ⟨none, .st none (.tmp 8) (.tmp 22) 2⟩,
 ⟨none, .mov (some 9) (.tmp 23)⟩])
 (K.seq (K.ops [⟨none, .mov (some 24) (.tmp 9)⟩,
 ⟨none, .eqv (some 25) true .i (.tmp 24) (.const (.int .i64 0))⟩])
 (K.cond (.tmp 25)
 (K.seq (K.ops [⟨none, .mov (some 26) (.tmp 9)⟩,
 ⟨none, .mov (some 6) (.const (.slice none 0 0))⟩,
 ⟨none, .mov (some 7) (.tmp 26)⟩])
 (K.ret))
 (K.skip))))
 (K.seq (K.ops [⟨none, .ld (some 27) (.tmp 3) 2 true⟩,
 ⟨none, .ld (some 28) (.tmp 4) 5 true⟩,
 ⟨none, .mov (some 29) (.tmp 2)⟩,
 ⟨none, .call (some 30) (.func 32) [(.tmp 27), (.tmp 28), (.tmp 29)]⟩,
 ⟨none, .mov (some 10) (.tmp 30)⟩])
 (K.seq (K.ops [⟨none, .mov (some 31) (.tmp 10)⟩,
 ⟨none, .call (some 32) (.func 33) [(.tmp 31), (.func 34)]⟩])
 (K.seq (K.ops [⟨none, .mov (some 33) (.tmp 10)⟩,
 ⟨none, .mov (some 6) (.tmp 33)⟩,
 ⟨none, .mov (some 7) (.const (.int .i64 0))⟩])
 (K.ret))))))
theorem c12 : compile Try.prog Try.f12.ntmps (Try.f12.body.getD .skip) = some K12.erase := by kernel_rfl
@[simp] theorem cal12 : callable Try.prog 12 = true := by kernel_rfl

-- splicery/domain.Inputs · results ["4", "5"]
def K18 : K :=
 K.seq (K.ops [⟨none, .box (some 2) (.tmp 0)⟩,
 ⟨none, .mov (some 4) (.const (.slice none 0 0))⟩,
 ⟨none, .mov (some 5) (.const (.int .i64 0))⟩])
 (K.seq (K.seq (K.ops [⟨none, .ld (some 13) (.tmp 2) 2 true⟩,
 ⟨none, .mov (some 14) (.tmp 1)⟩,
 ⟨none, .call (some 15) (.func 16) [(.tmp 13), (.tmp 14)]⟩,
 ⟨none, .mov (some 12) (.tmp 15)⟩,
 ⟨none, .ext (some 16) (.tmp 12) 0⟩,
 ⟨none, .ext (some 17) (.tmp 12) 1⟩,
 ⟨none, .mov (some 6) (.tmp 16)⟩,
 ⟨none, .mov (some 7) (.tmp 17)⟩])
 (K.seq (K.ops [⟨none, .mov (some 18) (.tmp 7)⟩,
 ⟨none, .eqv (some 19) true .i (.tmp 18) (.const (.int .i64 0))⟩])
 (K.cond (.tmp 19)
 (K.seq (K.ops [⟨none, .mov (some 20) (.tmp 7)⟩,
 ⟨none, .mov (some 4) (.const (.slice none 0 0))⟩,
 ⟨none, .mov (some 5) (.tmp 20)⟩])
 (K.ret))
 (K.skip))))
 (K.seq (K.ops [⟨none, .mov (some 8) (.const (.slice none 0 0))⟩])
 (K.seq (K.seq (K.ops [⟨none, .mov (some 21) (.tmp 1)⟩,
 ⟨none, .len (some 22) false (.tmp 21)⟩,
 ⟨none, .mov (some 23) (.const (.int .i64 0))⟩])
 (K.block 0 (K.loop (K.seq (K.ops [⟨none, .bin (some 24) .lss (.tmp 23) (.tmp 22)⟩])
 (K.seq (K.cond (.tmp 24)
 (K.skip)
 (K.exit 0))
 (K.seq (K.block 1 (K.seq (K.ops [⟨none, .idx (some 25) (.tmp 21) (.tmp 23) 11⟩,
 ⟨none, .ld (some 26) (.tmp 25) 11 true⟩,
 ⟨none, .alloc (some 10) [(.int .i64 0), (.int .i64 0), (.int .i64 0), (.string ⟨#[]⟩), (.int .i64 0), (.int .i64 0), (.int .i64 0), (.int .i64 0), (.slice none 0 0), (.int .i64 0), (.int .i64 0)]⟩,
 ⟨none, .st none (.tmp 10) (.tmp 26) 11⟩])
 (K.ops [⟨none, .mov (some 27) (.tmp 8)⟩,
 ⟨none, .ld (some 28) (.tmp 2) 2 true⟩,
 ⟨none, .addr (some 29) (.tmp 10) 4⟩,
 ⟨none, .ld (some 30) (.tmp 29) 5 true⟩,
 ⟨none, .addr (some 31) (.tmp 10) 9⟩,
 ⟨none, .ld (some 32) (.tmp 31) 1 false⟩,
 ⟨none, .call (some 33) (.func 32) [(.tmp 28), (.tmp 30), (.tmp 32)]⟩,
 ⟨none, .bslice (some 34) 36 1 1 [(.slice none 0 0)] [(0, 1, (.tmp 33))]⟩,
 ⟨none, .app (some 35) 36 1 24 (.tmp 27) (.tmp 34)⟩,
 ⟨none, .mov (some 8) (.tmp 35)⟩])))
 (K.ops [⟨none, .bin (some 36) .add (.tmp 23) (.const (.int .i64 1))⟩,
 ⟨none, .mov (some 23) (.tmp 36)⟩])))))))
 (K.wk (K.seq (K.ops [⟨none, .mov (some 37) (.tmp 8)⟩,
 ⟨none, .call (some 38) (.func 46) [(.tmp 37)]⟩,
 ⟨none, .call (some 39) (.func 45) [(.tmp 38)]⟩,
 ⟨none, .mov (some 11) (.tmp 39)⟩])
 (K.seq (K.ops [⟨none, .mov (some 40) (.tmp 11)⟩,
 ⟨none, .call (some 41) (.func 47) [(.tmp 40), (.func 48)]⟩])
 (K.seq (K.ops [⟨none, .mov (some 42) (.tmp 11)⟩,
 ⟨none, .mov (some 4) (.tmp 42)⟩,
 ⟨none, .mov (some 5) (.const (.int .i64 0))⟩])
 (K.ret))))))))
theorem c18 : compile Try.prog Try.f18.ntmps (Try.f18.body.getD .skip) = some K18.erase := by kernel_rfl
@[simp] theorem cal18 : callable Try.prog 18 = true := by kernel_rfl


@[simp] theorem cal33 : callable Try.prog 33 = true := by kernel_rfl
@[simp] theorem cal47 : callable Try.prog 47 = true := by kernel_rfl

def valuesV (p : Prg) (t : Typ) (m : Int) : List Val × Int := if m < 0 ∨ 64 < m then ([], 1) else if (size p m t).e ≠ 0 then ([], (size p m t).e) else (sortL cmpW (allV p m 24 t), 0)
def countF (p : Prg) : Int → List Slt → Int × Int
  | n, [] => (n, 0)
  | n, s :: l => if s.most < 0 ∨ 64 < s.most then (0, 1) else if (size p s.most s.typ).e ≠ 0 then (0, (size p s.most s.typ).e) else if n * (size p s.most s.typ).a > 4096 then (0, 4) else countF p (n * (size p s.most s.typ).a) l
def partsV (p : Prg) (l : List Slt) : List (List Val) := l.map fun s => allV p s.most 24 s.typ
def inputsV (p : Prg) (l : List Slt) : List (List Val) × Int := if (countF p 1 l).2 ≠ 0 then ([], (countF p 1 l).2) else (sortL orderV (prodT (partsV p l)), 0)

theorem values_ok (p : Prg) (hs : Sml p) (t : Typ) (m : Int) : Ret Try.prog 12 [.agg (encP p), .agg (encT t), int m] [] (.tup [.sl (valuesV p t m).1.length (cellsV (valuesV p t m).1), int (valuesV p t m).2]) [] := by
  refine ret_of_wp Try.func12 rfl c12 (rs := [.slot 6, .slot 7]) (by kernel_rfl) ?_
  unfold K12
  by_cases h1 : m < 0
  · have e : valuesV p t m = ([], 1) := by simp [valuesV, h1]
    simp -implicitDefEqProofs [h1, e]
    exact ret_end 1 (by simp)
  by_cases h2 : 64 < m
  · have e : valuesV p t m = ([], 1) := by simp [valuesV, h2]
    simp -implicitDefEqProofs [h1, h2, e]
    exact ret_end 1 (by simp)
  simp -implicitDefEqProofs [h1, h2, encP, encT]
  refine call0 (measure_ok p hs m (by omega) t) (by simp [encP, encT]) (by simp [szR]) ?_
  by_cases h3 : (size p m t).e = 0
  · have e : valuesV p t m = (sortL cmpW (allV p m 24 t), 0) := by simp [valuesV, h1, h2, h3]
    simp -implicitDefEqProofs [szR, h3, e]
    refine callJ (all_ok p hs m (by omega) 24 t h3) [] (by simp) (by simp) (by simp [encP, encT]) ?_
    simp -implicitDefEqProofs
    have hl := size_len p m (by omega) 24 t h3
    have hle := sizeN_ok p m (by omega) 24 t h3
    refine callJ (sortVals_ok (allV p m 24 t) (by omega)) [3] (by simp) (by simp) (by simp) ?_
    simp -implicitDefEqProofs
    exact ret_end 1 (by simp [sortL])
  · have e : valuesV p t m = ([], (size p m t).e) := by simp [valuesV, h1, h2, h3]
    simp -implicitDefEqProofs [szR, h3, e]
    exact ret_end 1 (by simp)
theorem countF_ok (p : Prg) : ∀ (l : List Slt) (n : Int), 0 ≤ n → n ≤ 4096 → 0 ≤ (countF p n l).1 ∧ (countF p n l).1 ≤ 4096
  | [], n, h0, h1 => ⟨h0, h1⟩
  | s :: l, n, h0, h1 => by
    unfold countF
    split
    · simp
    split
    · simp
    split
    · simp
    · rename_i g1 g2 g3
      have := sizeN_ok p s.most (by omega) 24 s.typ (by simpa [size] using g2)
      exact countF_ok p l _ (Int.mul_nonneg h0 this.1) (by omega)
theorem countF_len (p : Prg) : ∀ (l : List Slt) (n : Int), (countF p n l).2 = 0 → (countF p n l).1 = n * (((partsV p l).map List.length).foldl (· * ·) 1 : Nat) ∧ ∀ s ∈ l, 0 ≤ s.most ∧ s.most ≤ 64 ∧ (size p s.most s.typ).e = 0
  | [], n, h => by simp [countF, partsV]
  | s :: l, n, h => by
    unfold countF at h ⊢
    split at h
    · simp at h
    split at h
    · simp at h; contradiction
    split at h
    · simp at h
    · rename_i g1 g2 g3
      rw [if_neg g1, if_neg g2, if_neg g3]
      have g2 : (size p s.most s.typ).e = 0 := by simpa using g2
      obtain ⟨k1, k2⟩ := countF_len p l _ h
      have hl := size_len p s.most (by omega) 24 s.typ g2
      have hh : ∀ (l : List Nat) (x y : Nat), l.foldl (· * ·) (x * y) = x * l.foldl (· * ·) y := by
        intro l
        induction l with
        | nil => intro x y; rfl
        | cons a l ih => intro x y; simp only [List.foldl_cons, Nat.mul_assoc, ih]
      refine ⟨?_, fun x hx => ?_⟩
      · rw [k1]
        simp only [partsV, List.map_cons, List.foldl_cons, Nat.one_mul]
        have := hh ((l.map fun s => allV p s.most 24 s.typ).map List.length) (allV p s.most 24 s.typ).length 1
        rw [Nat.mul_one] at this
        rw [this, Int.natCast_mul, ← Int.mul_assoc]
        unfold size
        rw [hl]
      · rcases List.mem_cons.1 hx with rfl | hx
        · exact ⟨by omega, by omega, g2⟩
        · exact k2 x hx

theorem count_ok (p : Prg) (hs : Sml p) (l : List Slt) : Ret Try.prog 16 [.agg (encP p), .sl l.length (cellsS l)] [] (.tup [int (countF p 1 l).1, int (countF p 1 l).2]) [] := by
  refine ret_of_wp Try.func16 rfl c16 (rs := [.slot 4, .slot 5]) (by kernel_rfl) ?_
  unfold K16
  simp -implicitDefEqProofs [encP]
  intro hl
  refine loopS (S := Nat × Int) (fun s => [(2, .ptr 0 0), (6, int s.2), (11, .sl l.length (cellsS l)), (12, int l.length), (13, int s.1)])
    (fun s => [.box (encP p)]) (fun s => s.1 ≤ l.length ∧ 0 ≤ s.2 ∧ s.2 ≤ 4096 ∧ countF p 1 l = countF p s.2 (l.drop s.1)) (fun s => l.length - s.1) (0, 1) (by simp)
    (selW [0] 0 (by simp) (by simp) (by simp [encP]) (by simp)) ?_
  rintro ⟨i, n⟩ ⟨hi, hn0, hn1, ho⟩
  simp only at hi hn0 hn1 ho
  by_cases h : i < l.length
  · have hd : l.drop i = l[i] :: l.drop (i + 1) := List.drop_eq_getElem_cons h
    rw [hd, countF] at ho
    by_cases h1 : l[i].most < 0
    · simp -implicitDefEqProofs [h, cellsS_drop h, encS, h1]
      exact ret_end 0 (by simp [ho, h1])
    by_cases h2 : 64 < l[i].most
    · simp -implicitDefEqProofs [h, cellsS_drop h, encS, h1, h2]
      exact ret_end 0 (by simp [ho, h2])
    rw [if_neg (by omega)] at ho
    simp -implicitDefEqProofs [h, cellsS_drop h, encS, h1, h2, encP]
    refine call0 (measure_ok p hs l[i].most (by omega) l[i].typ) (by simp [encP, encT]) (by simp [szR]) ?_
    have hok := sizeN_ok p l[i].most (by omega) 24 l[i].typ
    by_cases h3 : (size p l[i].most l[i].typ).e = 0
    · rw [if_neg (by simp [h3])] at ho
      have hok := hok h3
      change 0 ≤ (size p l[i].most l[i].typ).a ∧ (size p l[i].most l[i].typ).a ≤ 4096 ∧ _ at hok
      have hab0 : 0 ≤ n * (size p l[i].most l[i].typ).a := Int.mul_nonneg hn0 hok.1
      have hab1 : n * (size p l[i].most l[i].typ).a ≤ 4096 * 4096 := Int.mul_le_mul hn1 hok.2.1 hok.1 (by decide)
      have hw : IntKind.i64.wrap (n * (size p l[i].most l[i].typ).a) = n * (size p l[i].most l[i].typ).a := IntWalk.i64_in _ (by omega)
      by_cases h4 : 4096 < n * (size p l[i].most l[i].typ).a
      · rw [if_pos h4] at ho
        simp -implicitDefEqProofs [szR, h3, hw, h4]
        exact ret_end 0 (by simp [ho])
      · rw [if_neg h4] at ho
        simp -implicitDefEqProofs [szR, h3, hw, h4]
        exact roundS (i + 1, n * (size p l[i].most l[i].typ).a) ⟨h, hab0, by simp only; omega, ho⟩ (by simp only; omega) (selW [0] 0 (by simp) (by simp) (by simp [encP]) (by simp [wrap_succ h hl]))
    · rw [if_pos h3] at ho
      simp -implicitDefEqProofs [szR, h3]
      exact ret_end 0 (by simp [ho])
  · have hi : i = l.length := by omega
    subst hi
    rw [List.drop_length, countF] at ho
    simp -implicitDefEqProofs
    exact ret_end 0 (by simp [ho])

theorem inputs_ok (p : Prg) (hs : Sml p) (l : List Slt) (hl6 : l.length ≤ 1000000) : Ret Try.prog 18 [.agg (encP p), .sl l.length (cellsS l)] [] (.tup [.sl (inputsV p l).1.length (cellsW (inputsV p l).1), int (inputsV p l).2]) [] := by
  refine ret_of_wp Try.func18 rfl c18 (rs := [.slot 4, .slot 5]) (by kernel_rfl) ?_
  unfold K18
  simp -implicitDefEqProofs [encP]
  refine call0 (count_ok p hs l) (by simp [encP]) (by simp) ?_
  by_cases h : (countF p 1 l).2 = 0
  · have e : inputsV p l = (sortL orderV (prodT (partsV p l)), 0) := by simp [inputsV, h]
    obtain ⟨hk, hall⟩ := countF_len p l 1 h
    have hle := countF_ok p l 1 (by decide) (by decide)
    have hPl : (prodT (partsV p l)).length ≤ 4096 := by
      rw [prodT, prodT_length]
      simp only [List.length_cons, List.length_nil]
      omega
    have hpl : (partsV p l).length = l.length := by simp [partsV]
    have hpg : ∀ i (h : i < l.length), (partsV p l)[i]? = some (allV p l[i].most 24 l[i].typ) := fun i h => by simp [partsV, h]
    rw [e]
    generalize partsV p l = L at hPl hpl hpg
    simp -implicitDefEqProofs [h]
    intro hl
    refine loopS (S := Nat) (fun i => [(2, .ptr 0 0), (8, .row 1 i), (21, .sl l.length (cellsS l)), (22, int l.length), (23, int i)])
      (fun i => [.box (encP p), .row false 36 1 i (cellsW (L.take i))]) (fun i => i ≤ l.length) (fun i => l.length - i) 0 (by simp)
      ((weak_nilslot (t := 8) (by simp) 36 1).trans (selW [0, 1] 0 (by simp) (by simp) (by simp [encP]) (by simp))) ?_
    intro i hi
    by_cases hil : i < l.length
    · have hiL : i < L.length := by omega
      obtain ⟨q1, q2, q3⟩ := hall l[i] (List.getElem_mem hil)
      have hc := all_ok p hs l[i].most ⟨q1, q2⟩ 24 l[i].typ q3
      have hLi := hpg i hil
      rw [List.getElem?_eq_getElem hiL] at hLi
      rw [← Option.some.inj hLi] at hc
      have htL : cellsW (L.take (i + 1)) = cellsW (L.take i) ++ [.sl L[i].length (cellsV L[i])] := by rw [List.take_succ_eq_append_getElem hiL, cellsW_append]; rfl
      simp -implicitDefEqProofs [hil, cellsS_drop hil, encS, encP]
      refine callJ hc [] (by simp) (by simp) (by simp [encP, encT]) ?_
      simp -implicitDefEqProofs [lenP]
      refine ⟨⟨by simp [maxLen]; omega, by omega⟩, ?_⟩
      exact roundS (i + 1) hil (by omega) (selW [0, 1] 1 (by simp) (by simp) (by simp [encP, htL]) (by simp [wrap_succ hil hl]))
    · have hi : i = l.length := by omega
      subst hi
      have htk : L.take l.length = L := List.take_of_length_le (by omega)
      simp -implicitDefEqProofs [htk]
      refine ⟨mkEnv [(8, .sl L.length (cellsW L))], [], selW [] 1 (by simp) (by simp) (by simp) (by simp [hpl]), ?_⟩
      simp -implicitDefEqProofs
      refine call0 (tuples_ok L) (by simp) (by simp) ?_
      simp -implicitDefEqProofs
      refine callJ (collect_ok 72 [] [.rptr [.sl L.length (cellsW L)]] cal72 (by simp) (by simp) (prodT L) (iter_ok _ _ rfl (by omega)) (by simp [maxLen]; omega) (by omega)) [] (by simp) (by simp) (by simp) ?_
      simp -implicitDefEqProofs
      refine callJ (sortLists_ok (prodT L) (by omega)) [0] (by simp) (by simp) (by simp) ?_
      simp -implicitDefEqProofs
      exact ret_end 1 (by simp [sortL])
  · have e : inputsV p l = ([], (countF p 1 l).2) := by simp [inputsV, h]
    simp -implicitDefEqProofs [h, e]
    exact ret_end 1 (by simp)
end Go.Proofs.Ytbkiphnlbadhcaa
