/-
  The small functions of cmp and value: their code, and what they compute.
-/
import Derived.Test.YtbkiphnlbadhcaaE20
import Derived.Test.YtbkiphnlbadhcaaRows
import Derived.IntWalk
namespace Go.Proofs.Ytbkiphnlbadhcaa
open Go.Abs

-- cmp.isNaN[int] · results ["2"]
def K67 : K :=
 K.seq (K.ops [⟨none, .mov (some 2) (.const (.bool false))⟩])
 (K.seq (K.ops [⟨none, .mov (some 3) (.tmp 0)⟩,
 ⟨none, .mov (some 4) (.tmp 0)⟩,
 ⟨none, .eqv (some 5) true .i (.tmp 3) (.tmp 4)⟩,
 ⟨none, .mov (some 2) (.tmp 5)⟩])
 (K.ret))
theorem c67 : compile Try.prog Try.f67.ntmps (Try.f67.body.getD .skip) = some K67.erase := by kernel_rfl
@[simp] theorem cal67 : callable Try.prog 67 = true := by kernel_rfl

-- cmp.Compare[int] · results ["4"]
def K36 : K :=
 K.seq (K.ops [⟨none, .mov (some 4) (.const (.int .i64 0))⟩])
 (K.seq (K.ops [⟨none, .mov (some 7) (.tmp 0)⟩,
 ⟨none, .call (some 8) (.func 67) [(.tmp 7)]⟩,
 ⟨none, .mov (some 5) (.tmp 8)⟩])
 (K.seq (K.ops [⟨none, .mov (some 9) (.tmp 1)⟩,
 ⟨none, .call (some 10) (.func 67) [(.tmp 9)]⟩,
 ⟨none, .mov (some 6) (.tmp 10)⟩])
 (K.seq (K.seq (K.ops [⟨none, .mov (some 11) (.tmp 5)⟩])
 (K.cond (.tmp 11)
 (K.seq (K.seq (K.ops [⟨none, .mov (some 12) (.tmp 6)⟩])
 (K.cond (.tmp 12)
 (K.seq (K.ops [⟨none, .mov (some 4) (.const (.int .i64 0))⟩])
 (K.ret))
 (K.skip)))
 (K.seq (K.ops [⟨none, .mov (some 4) (.const (.int .i64 (-1)))⟩])
 (K.ret)))
 (K.skip)))
 (K.seq (K.seq (K.ops [⟨none, .mov (some 13) (.tmp 6)⟩])
 (K.cond (.tmp 13)
 (K.seq (K.ops [⟨none, .mov (some 4) (.const (.int .i64 1))⟩])
 (K.ret))
 (K.skip)))
 (K.seq (K.seq (K.ops [⟨none, .mov (some 14) (.tmp 0)⟩,
 ⟨none, .mov (some 15) (.tmp 1)⟩,
 ⟨none, .bin (some 16) .lss (.tmp 14) (.tmp 15)⟩])
 (K.cond (.tmp 16)
 (K.seq (K.ops [⟨none, .mov (some 4) (.const (.int .i64 (-1)))⟩])
 (K.ret))
 (K.skip)))
 (K.seq (K.seq (K.ops [⟨none, .mov (some 17) (.tmp 0)⟩,
 ⟨none, .mov (some 18) (.tmp 1)⟩,
 ⟨none, .bin (some 19) .gtr (.tmp 17) (.tmp 18)⟩])
 (K.cond (.tmp 19)
 (K.seq (K.ops [⟨none, .mov (some 4) (.const (.int .i64 1))⟩])
 (K.ret))
 (K.skip)))
 (K.seq (K.ops [⟨none, .mov (some 4) (.const (.int .i64 0))⟩])
 (K.ret))))))))
theorem c36 : compile Try.prog Try.f36.ntmps (Try.f36.body.getD .skip) = some K36.erase := by kernel_rfl
@[simp] theorem cal36 : callable Try.prog 36 = true := by kernel_rfl

-- cmp.Or[int] · results ["2"]
def K35 : K :=
 K.seq (K.ops [⟨none, .mov (some 2) (.const (.int .i64 0))⟩])
 (K.seq (K.ops [⟨none, .mov (some 3) (.const (.int .i64 0))⟩])
 (K.seq (K.seq (K.ops [⟨none, .mov (some 6) (.tmp 0)⟩,
 ⟨none, .len (some 7) false (.tmp 6)⟩,
 ⟨none, .mov (some 8) (.const (.int .i64 0))⟩])
 (K.block 0 (K.loop (K.seq (K.ops [⟨none, .bin (some 9) .lss (.tmp 8) (.tmp 7)⟩])
 (K.seq (K.cond (.tmp 9)
 (K.skip)
 (K.exit 0))
 (K.seq (K.block 1 (K.seq (K.ops [⟨none, .idx (some 10) (.tmp 6) (.tmp 8) 1⟩,
 ⟨none, .ld (some 11) (.tmp 10) 1 false⟩,
 ⟨none, .mov (some 5) (.tmp 11)⟩])
 (K.seq (K.ops [⟨none, .mov (some 12) (.tmp 5)⟩,
 ⟨none, .mov (some 13) (.tmp 3)⟩,
 ⟨none, .eqv (some 14) true .i (.tmp 12) (.tmp 13)⟩])
 (K.cond (.tmp 14)
 (K.seq (K.ops [⟨none, .mov (some 15) (.tmp 5)⟩,
 ⟨none, .mov (some 2) (.tmp 15)⟩])
 (K.ret))
 (K.skip)))))
 (K.ops [⟨none, .bin (some 16) .add (.tmp 8) (.const (.int .i64 1))⟩,
 ⟨none, .mov (some 8) (.tmp 16)⟩])))))))
 (K.seq (K.ops [⟨none, .mov (some 17) (.tmp 3)⟩,
 ⟨none, .mov (some 2) (.tmp 17)⟩])
 (K.ret))))
theorem c35 : compile Try.prog Try.f35.ntmps (Try.f35.body.getD .skip) = some K35.erase := by kernel_rfl
@[simp] theorem cal35 : callable Try.prog 35 = true := by kernel_rfl

-- splicery/value.weights · results ["2"]
def K59 : K :=
 K.seq (K.ops [⟨none, .box (some 1) (.tmp 0)⟩,
 ⟨none, .mov (some 2) (.const (.int .i64 0))⟩])
 (K.seq (K.ops [⟨none, .addr (some 4) (.tmp 1) 1⟩,
 ⟨none, .ld (some 5) (.tmp 4) 1 false⟩,
 ⟨none, .addr (some 6) (.tmp 1) 1⟩,
 ⟨none, .ld (some 7) (.tmp 6) 1 false⟩,
 ⟨none, .addr (some 8) (.tmp 1) 1⟩,
 ⟨none, .ld (some 9) (.tmp 8) 1 false⟩,
 ⟨none, .addr (some 10) (.tmp 1) 2⟩,
 ⟨none, .ld (some 11) (.tmp 10) 1 false⟩,
 ⟨none, .len (some 12) false (.tmp 11)⟩,
 ⟨none, .build (some 13) [(.int .i64 0), (.int .i64 0), (.int .i64 0), (.int .i64 0), (.int .i64 0)] [(0, 1, (.tmp 5)), (1, 1, (.tmp 7)), (2, 1, (.const (.int .i64 0))), (3, 1, (.tmp 9)), (4, 1, (.tmp 12))]⟩,
 ⟨none, .alloc (some 3) [(.int .i64 0), (.int .i64 0), (.int .i64 0), (.int .i64 0), (.int .i64 0)]⟩,
 ⟨none, .st none (.tmp 3) (.tmp 13) 5⟩])
 (K.seq (K.seq (K.ops [⟨none, .addr (some 14) (.tmp 1) 0⟩,
 ⟨none, .ld (some 15) (.tmp 14) 1 false⟩,
 ⟨none, .eqv (some 16) false .i (.tmp 15) (.const (.int .i64 0))⟩,
 ⟨none, .mov (some 17) (.tmp 16)⟩,
 ⟨some (17, true), .addr (some 18) (.tmp 1) 1⟩,
 ⟨some (17, true), .ld (some 19) (.tmp 18) 1 false⟩,
 ⟨some (17, true), .bin (some 20) .lss (.tmp 19) (.const (.int .i64 0))⟩,
 ⟨none, .pick (some 21) (.tmp 17) (.tmp 20) (.const (.bool false))⟩])
 (K.cond (.tmp 21)
 (K.seq (K.ops [⟨none, .addr (some 22) (.tmp 1) 1⟩,
 ⟨none, .ld (some 23) (.tmp 22) 1 false⟩,
 ⟨none, .neg (some 24) (.tmp 23)⟩,
 ⟨none, .mov (some 2) (.tmp 24)⟩])
 (K.ret))
 (K.skip)))
 (K.seq (K.ops [⟨none, .addr (some 25) (.tmp 1) 0⟩,
 ⟨none, .ld (some 26) (.tmp 25) 1 false⟩,
 ⟨none, .idxarr (some 27) (.tmp 3) (.tmp 26) 5 1⟩,
 ⟨none, .ld (some 28) (.tmp 27) 1 false⟩,
 ⟨none, .mov (some 2) (.tmp 28)⟩])
 (K.ret))))
theorem c59 : compile Try.prog Try.f59.ntmps (Try.f59.body.getD .skip) = some K59.erase := by kernel_rfl
@[simp] theorem cal59 : callable Try.prog 59 = true := by kernel_rfl

-- splicery/value.Weight · results ["2"]
def K30 : K :=
 K.seq (K.ops [⟨none, .box (some 1) (.tmp 0)⟩,
 ⟨none, .mov (some 2) (.const (.int .i64 0))⟩])
 (K.seq (K.seq (K.ops [⟨none, .addr (some 6) (.tmp 1) 0⟩,
 ⟨none, .ld (some 7) (.tmp 6) 1 false⟩,
 ⟨none, .bin (some 8) .lss (.tmp 7) (.const (.int .i64 0))⟩,
 ⟨none, .mov (some 9) (.tmp 8)⟩,
 ⟨some (9, false), .addr (some 10) (.tmp 1) 0⟩,
 ⟨some (9, false), .ld (some 11) (.tmp 10) 1 false⟩,
 ⟨some (9, false), .bin (some 12) .gtr (.tmp 11) (.const (.int .i64 4))⟩,
 ⟨none, .pick (some 13) (.tmp 9) (.const (.bool true)) (.tmp 12)⟩])
 (K.cond (.tmp 13)
 (K.seq (K.ops [⟨none, .mov (some 2) (.const (.int .i64 0))⟩])
 (K.ret))
 (K.skip)))
 (K.seq (K.ops [⟨none, .ld (some 14) (.tmp 1) 3 true⟩,
 ⟨none, .call (some 15) (.func 59) [(.tmp 14)]⟩,
 ⟨none, .mov (some 3) (.tmp 15)⟩])
 (K.seq (K.seq (K.ops [⟨none, .addr (some 16) (.tmp 1) 0⟩,
 ⟨none, .ld (some 17) (.tmp 16) 1 false⟩,
 ⟨none, .eqv (some 18) false .i (.tmp 17) (.const (.int .i64 0))⟩,
 ⟨none, .mov (some 19) (.tmp 18)⟩,
 ⟨some (19, false), .addr (some 20) (.tmp 1) 0⟩,
 ⟨some (19, false), .ld (some 21) (.tmp 20) 1 false⟩,
 ⟨some (19, false), .eqv (some 22) false .i (.tmp 21) (.const (.int .i64 1))⟩,
 ⟨none, .pick (some 23) (.tmp 19) (.const (.bool true)) (.tmp 22)⟩])
 (K.cond (.tmp 23)
 (K.seq (K.ops [⟨none, .mov (some 24) (.tmp 3)⟩,
 ⟨none, .mov (some 2) (.tmp 24)⟩])
 (K.ret))
 (K.skip)))
 (K.seq (K.seq (K.ops [⟨none, .addr (some 25) (.tmp 1) 2⟩,
 ⟨none, .ld (some 26) (.tmp 25) 1 false⟩,
 ⟨none, .len (some 27) false (.tmp 26)⟩,
 ⟨none, .mov (some 28) (.const (.int .i64 0))⟩])
 (K.block 0 (K.loop (K.seq (K.ops [⟨none, .bin (some 29) .lss (.tmp 28) (.tmp 27)⟩])
 (K.seq (K.cond (.tmp 29)
 (K.skip)
 (K.exit 0))
 (K.seq (K.block 1 (K.seq (K.ops [⟨none, .idx (some 30) (.tmp 26) (.tmp 28) 3⟩,
 ⟨none, .ld (some 31) (.tmp 30) 3 true⟩,
 ⟨none, .alloc (some 5) [(.int .i64 0), (.int .i64 0), (.slice none 0 0)]⟩,
 ⟨none, .st none (.tmp 5) (.tmp 31) 3⟩])
 (K.ops [⟨none, .mov (some 32) (.tmp 3)⟩,
 ⟨none, .ld (some 33) (.tmp 5) 3 true⟩,
 ⟨none, .call (some 34) (.func 30) [(.tmp 33)]⟩,
 ⟨none, .bin (some 35) .add (.tmp 32) (.tmp 34)⟩,
 ⟨none, .mov (some 3) (.tmp 35)⟩])))
 (K.ops [⟨none, .bin (some 36) .add (.tmp 28) (.const (.int .i64 1))⟩,
 ⟨none, .mov (some 28) (.tmp 36)⟩])))))))
 (K.seq (K.ops [⟨none, .mov (some 37) (.tmp 3)⟩,
 ⟨none, .mov (some 2) (.tmp 37)⟩])
 (K.ret))))))
theorem c30 : compile Try.prog Try.f30.ntmps (Try.f30.body.getD .skip) = some K30.erase := by kernel_rfl
@[simp] theorem cal30 : callable Try.prog 30 = true := by kernel_rfl


theorem isNaN_ok (n : Int) : Ret Try.prog 67 [int n] [] (bl false) [] := by
  refine ret_of_wp Try.func67 rfl c67 (rs := [.slot 2]) (by kernel_rfl) ?_
  unfold K67
  simp -implicitDefEqProofs
  exact ret_end 0 (by simp)

def cmpI (a b : Int) : Int := if a < b then -1 else if b < a then 1 else 0

theorem compare_ok (a b : Int) : Ret Try.prog 36 [int a, int b] [] (int (cmpI a b)) [] := by
  refine ret_of_wp Try.func36 rfl c36 (rs := [.slot 4]) (by kernel_rfl) ?_
  unfold K36
  simp -implicitDefEqProofs
  refine call0 (isNaN_ok a) (by simp) (by simp) ?_
  simp -implicitDefEqProofs
  refine call0 (isNaN_ok b) (by simp) (by simp) ?_
  simp -implicitDefEqProofs
  refine condP_intro (fun h => ?_) (fun h => ?_) <;> simp at h <;> simp -implicitDefEqProofs
  · exact ret_end 0 (by simp [cmpI, h])
  refine condP_intro (fun h' => ?_) (fun h' => ?_) <;> simp at h' <;> simp -implicitDefEqProofs
  · exact ret_end 0 (by simp [cmpI, h', Int.not_lt.2 h])
  · exact ret_end 0 (by simp [cmpI, Int.not_lt.2 h, Int.not_lt.2 h'])

/-- The first that is not 0. -/
def orI : List Int → Int
  | [] => 0
  | a :: l => if a = 0 then orI l else a

def ints (l : List Int) : List A := l.map int
theorem ints_plain : ∀ (l : List Int), Plain (ints l)
  | [] => Plain.nil
  | _ :: l => Plain.lit (ints_plain l)
@[simp] theorem ints_len (l : List Int) : (ints l).length = l.length := by simp [ints]
@[simp] theorem nrm0_ints (l : List Int) : nrm0L (ints l) = ints l := (ints_plain l).1
@[simp] theorem vw_ints {rf g} (l : List Int) : vwL rf g (ints l) = ints l := (ints_plain l).2 _ _
@[simp] theorem ints_nil : ints [] = [] := rfl
@[simp] theorem ints_cons (n : Int) (l : List Int) : ints (n :: l) = .lit (.int .i64 n) :: ints l := rfl
@[simp] theorem ints_append (a b : List Int) : ints (a ++ b) = ints a ++ ints b := by simp [ints]
theorem ints_drop {l : List Int} {i : Nat} (h : i < l.length) : (ints l).drop i = .lit (.int .i64 l[i]) :: ints (l.drop (i + 1)) := by
  rw [ints, ← List.map_drop, List.drop_eq_getElem_cons h]; rfl

theorem wrap_len {n : Nat} (h : n ≤ maxLen) : IntKind.i64.wrap (n : Int) = n := IntWalk.i64_in _ (by simp [maxLen] at h; omega)

theorem wrap_succ {i n : Nat} (h : i < n) (hn : n ≤ maxLen) : IntKind.i64.wrap ((i : Int) + 1) = (i : Int) + 1 := IntWalk.i64_in _ (by simp [maxLen] at hn; omega)

theorem or_ok (l : List Int) : Ret Try.prog 35 [.sl l.length (ints l)] [] (int (orI l)) [] := by
  refine ret_of_wp Try.func35 rfl c35 (rs := [.slot 2]) (by kernel_rfl) ?_
  unfold K35
  simp -implicitDefEqProofs
  intro hl
  refine loopS (S := Nat) (fun i => [(3, int 0), (6, .sl l.length (ints l)), (7, int l.length), (8, int i)]) (fun s => []) (fun i => i ≤ l.length ∧ orI l = orI (l.drop i)) (fun i => l.length - i) 0 (by simp)
    (selW [] 0 (by simp) (by simp) (by simp) (by simp)) ?_
  rintro i ⟨hi, ho⟩
  simp -implicitDefEqProofs
  refine condP_intro (fun h => ?_) (fun h => ?_) <;> simp at h
  · simp -implicitDefEqProofs [h, ints_drop h]
    have hd : l.drop i = l[i] :: l.drop (i + 1) := List.drop_eq_getElem_cons h
    refine condP_intro (fun h' => ?_) (fun h' => ?_) <;> simp at h' <;> simp -implicitDefEqProofs
    · exact ret_end 0 (by rw [ho, hd]; simp [orI, h'])
    · refine roundS (i + 1) ⟨h, by rw [ho, hd]; simp [orI, h']⟩ (by omega) (selW [] 0 (by simp) (by simp) (by simp) (by simp [wrap_succ h hl]))
  · simp -implicitDefEqProofs
    have : i = l.length := by omega
    exact ret_end 0 (by rw [ho, this]; simp [orI])

/-! ### values -/

inductive Val where
  | mk (k n : Int) (kids : List Val)

def Val.k : Val → Int | .mk k _ _ => k
def Val.n : Val → Int | .mk _ n _ => n
def Val.kids : Val → List Val | .mk _ _ l => l

mutual
def cellV : Val → A
  | .mk _ _ l => .sl l.length (cellsV l)
def cellsV : List Val → List A
  | [] => []
  | v :: l => .lit (.int .i64 v.k) :: .lit (.int .i64 v.n) :: cellV v :: cellsV l
end
/-- The three cells of a value. -/
def encV (v : Val) : List A := [.lit (.int .i64 v.k), .lit (.int .i64 v.n), .sl v.kids.length (cellsV v.kids)]
theorem cellV_eq (v : Val) : cellV v = .sl v.kids.length (cellsV v.kids) := by cases v; simp only [cellV, Val.kids]
@[simp] theorem cellsV_nil : cellsV [] = [] := by simp only [cellsV]
@[simp] theorem cellsV_cons (v : Val) (l : List Val) : cellsV (v :: l) = .lit (.int .i64 v.k) :: .lit (.int .i64 v.n) :: .sl v.kids.length (cellsV v.kids) :: cellsV l := by simp only [cellsV, cellV_eq]
@[simp] theorem cellsV_len : ∀ l : List Val, (cellsV l).length = l.length * 3
  | [] => by simp
  | v :: l => by simp [cellsV_len l]; omega
mutual
theorem cellV_plain : ∀ v : Val, nrm0 (cellV v) = cellV v ∧ ∀ rf g, vw rf g (cellV v) = cellV v
  | .mk k n l => by
    have h := cellsV_plain l
    simp only [cellV]
    exact ⟨by simp [h.1], fun rf g => by simp [h.2]⟩
theorem cellsV_plain : ∀ l : List Val, Plain (cellsV l)
  | [] => by simp only [cellsV]; exact Plain.nil
  | v :: l => by
    have h := cellV_plain v
    have h' := cellsV_plain l
    simp only [cellsV]
    exact ⟨by simp [h.1, h'.1], fun rf g => by simp [h.2, h'.2]⟩
end
@[simp] theorem nrm0_cellsV (l : List Val) : nrm0L (cellsV l) = cellsV l := (cellsV_plain l).1
@[simp] theorem vw_cellsV {rf g} (l : List Val) : vwL rf g (cellsV l) = cellsV l := (cellsV_plain l).2 _ _
theorem cellsV_drop : ∀ {l : List Val} {i : Nat} (h : i < l.length), (cellsV l).drop (i * 3) = .lit (.int .i64 l[i].k) :: .lit (.int .i64 l[i].n) :: .sl l[i].kids.length (cellsV l[i].kids) :: cellsV (l.drop (i + 1))
  | v :: l, 0, h => by simp
  | v :: l, i + 1, h => by
    have e : (i + 1) * 3 = i * 3 + 3 := by omega
    rw [e, cellsV_cons]
    simpa using cellsV_drop (l := l) (i := i) (by simpa using h)

mutual
def sizeV : Val → Nat
  | .mk _ _ l => 1 + sizesV l
def sizesV : List Val → Nat
  | [] => 0
  | v :: l => sizeV v + sizesV l
end
theorem sizeV_mem : ∀ {l : List Val} {v : Val}, v ∈ l → sizeV v ≤ sizesV l
  | x :: l, v, h => by
    simp only [sizesV]
    rcases List.mem_cons.1 h with rfl | h
    · omega
    · have := sizeV_mem h; omega
theorem sizeV_kid {v x : Val} (h : x ∈ v.kids) : sizeV x < sizeV v := by
  cases v with
  | mk k n l => have := sizeV_mem (l := l) h; simp only [sizeV]; omega

def w64 (n : Int) : Int := IntKind.i64.wrap n

/-- What a node itself adds. -/
def ownW (v : Val) : Int := if v.k = 0 ∧ v.n < 0 then w64 (0 - v.n) else if v.k = 0 ∨ v.k = 1 ∨ v.k = 3 then v.n else if v.k = 4 then v.kids.length else 0

theorem weights_ok (v : Val) (h0 : 0 ≤ v.k) (h4 : v.k ≤ 4) : Ret Try.prog 59 [.agg (encV v)] [] (int (ownW v)) [] := by
  refine ret_of_wp Try.func59 rfl c59 (rs := [.slot 2]) (by kernel_rfl) ?_
  unfold K59
  by_cases hk : v.k = 0
  · by_cases hn : v.n < 0
    · simp -implicitDefEqProofs [encV, hk, hn]
      exact fun _ => ret_end 0 (by simp [ownW, hk, hn, w64])
    · simp -implicitDefEqProofs [encV, hk, hn]
      exact fun _ => ret_end 0 (by simp [ownW, hk, hn])
  · simp -implicitDefEqProofs [encV, hk]
    intro hl
    have hc : v.k = 1 ∨ v.k = 2 ∨ v.k = 3 ∨ v.k = 4 := by omega
    rcases hc with h | h | h | h <;> simp -implicitDefEqProofs [h] <;> exact ret_end 0 (by simp [ownW, h])

/-- The weight of a value, as the program computes it. -/
def weightV : Val → Int
  | .mk k n l => if k < 0 ∨ 4 < k then 0 else if k = 0 ∨ k = 1 then ownW (.mk k n l) else l.attach.foldl (fun s x => w64 (s + weightV x.1)) (ownW (.mk k n l))
termination_by v => sizeV v
decreasing_by
  have := sizeV_mem x.2
  simp only [sizeV]; omega

def sumW (s : Int) (l : List Val) : Int := l.foldl (fun s x => w64 (s + weightV x)) s
theorem weightV_eq (v : Val) : weightV v = if v.k < 0 ∨ 4 < v.k then 0 else if v.k = 0 ∨ v.k = 1 then ownW v else sumW (ownW v) v.kids := by
  cases v with
  | mk k n l =>
    rw [weightV]
    simp only [Val.k, Val.kids, sumW]
    congr 2
    rw [List.foldl_attach (f := fun s x => w64 (s + weightV x))]

theorem sumW_take {s : Int} {l : List Val} {i : Nat} (h : i < l.length) : sumW s (l.take (i + 1)) = IntKind.i64.wrap (sumW s (l.take i) + weightV l[i]) := by
  rw [sumW, List.take_succ_eq_append_getElem h, List.foldl_append]
  rfl

theorem weight_ok (v : Val) : Ret Try.prog 30 [.agg (encV v)] [] (int (weightV v)) [] := by
  refine ret_of_wp Try.func30 rfl c30 (rs := [.slot 2]) (by kernel_rfl) ?_
  unfold K30
  by_cases hk : v.k < 0
  · simp -implicitDefEqProofs [encV, hk]
    exact ret_end 0 (by simp [weightV_eq v, hk])
  by_cases hk' : 4 < v.k
  · simp -implicitDefEqProofs [encV, hk, hk']
    exact ret_end 0 (by simp [weightV_eq v, hk'])
  simp -implicitDefEqProofs [encV, hk, hk']
  refine call0 (weights_ok v (by omega) (by omega)) (by simp [encV]) (by simp) ?_
  by_cases h0 : v.k = 0
  · simp -implicitDefEqProofs [h0]
    exact ret_end 0 (by simp [weightV_eq v, h0])
  by_cases h1 : v.k = 1
  · simp -implicitDefEqProofs [h1]
    exact ret_end 0 (by simp [weightV_eq v, h1])
  simp -implicitDefEqProofs [h0, h1]
  intro hl
  refine loopS (S := Nat) (fun i => [(3, int (sumW (ownW v) (v.kids.take i))), (26, .sl v.kids.length (cellsV v.kids)), (27, int v.kids.length), (28, int i)]) (fun s => []) (fun i => i ≤ v.kids.length) (fun i => v.kids.length - i) 0 (by simp)
    (selW [] 0 (by simp) (by simp) (by simp) (by simp [sumW])) ?_
  intro i hi
  simp -implicitDefEqProofs
  refine condP_intro (fun h => ?_) (fun h => ?_) <;> simp at h
  · simp -implicitDefEqProofs [h, cellsV_drop h]
    refine call0 (weight_ok v.kids[i]) (by simp [encV]) (by simp) ?_
    simp -implicitDefEqProofs
    refine roundS (i + 1) h (by omega) (selW [] 0 (by simp) (by simp) (by simp) (by simp [wrap_succ h hl, sumW_take h]))
  · have : i = v.kids.length := by omega
    subst this
    simp -implicitDefEqProofs
    exact ret_end 0 (by simp [weightV_eq v, hk, hk', h0, h1])
termination_by sizeV v
decreasing_by exact sizeV_kid (List.getElem_mem _)
end Go.Proofs.Ytbkiphnlbadhcaa
