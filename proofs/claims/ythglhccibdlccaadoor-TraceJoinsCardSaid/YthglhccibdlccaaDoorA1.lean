/-
  IDs: how they are compared, and lists of them.
-/
import Derived.Test.YthglhccibdlccaaDoorM3
import Derived.Test.YthglhccibdlccaaDoorE21
import Derived.Test.YthglhccibdlccaaDoorE22
import Derived.Test.YthglhccibdlccaaDoorRows
import Derived.IntWalk
namespace Go.Proofs.YthglhccibdlccaaDoor
open Go.Abs

-- cmp.isNaN[int] · results ["2"]
def K70 : K :=
 K.seq (K.ops [⟨none, .mov (some 2) (.const (.bool false))⟩])
 (K.seq (K.ops [⟨none, .mov (some 3) (.tmp 0)⟩,
 ⟨none, .mov (some 4) (.tmp 0)⟩,
 ⟨none, .eqv (some 5) true .i (.tmp 3) (.tmp 4)⟩,
 ⟨none, .mov (some 2) (.tmp 5)⟩])
 (K.ret))
theorem c70 : compile Tryd.prog Tryd.f70.ntmps (Tryd.f70.body.getD .skip) = some K70.erase := by kernel_rfl
@[simp] theorem cal70 : callable Tryd.prog 70 = true := by kernel_rfl

-- cmp.Compare[int] · results ["4"]
def K47 : K :=
 K.seq (K.ops [⟨none, .mov (some 4) (.const (.int .i64 0))⟩])
 (K.seq (K.ops [⟨none, .mov (some 7) (.tmp 0)⟩,
 ⟨none, .call (some 8) (.func 70) [(.tmp 7)]⟩,
 ⟨none, .mov (some 5) (.tmp 8)⟩])
 (K.seq (K.ops [⟨none, .mov (some 9) (.tmp 1)⟩,
 ⟨none, .call (some 10) (.func 70) [(.tmp 9)]⟩,
 ⟨none, .mov (some 6) (.tmp 10)⟩])
 (K.seq (K.seq (K.ops [⟨none, .mov (some 11) (.tmp 5)⟩])
 (K.cond (.tmp 11)
 (K.seq (K.seq (K.ops [⟨none, .mov (some 12) (.tmp 6)⟩])
 (K.cond (.tmp 12)
 (K.seq (K.ops [⟨none, .mov (some 4) (.const (.int .i64 0))⟩])
 (K.ret))
 (K.skip)))
 (K.seq (K.ops [⟨none, .mov (some 4) (.const (.int .i64 (-1)))⟩])
 (K.ret)))
 (K.skip)))
 (K.seq (K.seq (K.ops [⟨none, .mov (some 13) (.tmp 6)⟩])
 (K.cond (.tmp 13)
 (K.seq (K.ops [⟨none, .mov (some 4) (.const (.int .i64 1))⟩])
 (K.ret))
 (K.skip)))
 (K.seq (K.seq (K.ops [⟨none, .mov (some 14) (.tmp 0)⟩,
 ⟨none, .mov (some 15) (.tmp 1)⟩,
 ⟨none, .bin (some 16) .lss (.tmp 14) (.tmp 15)⟩])
 (K.cond (.tmp 16)
 (K.seq (K.ops [⟨none, .mov (some 4) (.const (.int .i64 (-1)))⟩])
 (K.ret))
 (K.skip)))
 (K.seq (K.seq (K.ops [⟨none, .mov (some 17) (.tmp 0)⟩,
 ⟨none, .mov (some 18) (.tmp 1)⟩,
 ⟨none, .bin (some 19) .gtr (.tmp 17) (.tmp 18)⟩])
 (K.cond (.tmp 19)
 (K.seq (K.ops [⟨none, .mov (some 4) (.const (.int .i64 1))⟩])
 (K.ret))
 (K.skip)))
 (K.seq (K.ops [⟨none, .mov (some 4) (.const (.int .i64 0))⟩])
 (K.ret))))))))
theorem c47 : compile Tryd.prog Tryd.f47.ntmps (Tryd.f47.body.getD .skip) = some K47.erase := by kernel_rfl
@[simp] theorem cal47 : callable Tryd.prog 47 = true := by kernel_rfl

-- cmp.Or[int] · results ["2"]
def K46 : K :=
 K.seq (K.ops [⟨none, .mov (some 2) (.const (.int .i64 0))⟩])
 (K.seq (K.ops [⟨none, .mov (some 3) (.const (.int .i64 0))⟩])
 (K.seq (K.seq (K.ops [⟨none, .mov (some 6) (.tmp 0)⟩,
 ⟨none, .len (some 7) false (.tmp 6)⟩,
 ⟨none, .mov (some 8) (.const (.int .i64 0))⟩])
 (K.block 0 (K.loop (K.seq (K.ops [⟨none, .bin (some 9) .lss (.tmp 8) (.tmp 7)⟩])
 (K.seq (K.cond (.tmp 9)
 (K.skip)
 (K.exit 0))
 (K.seq (K.block 1 (K.seq (K.ops [⟨none, .idx (some 10) (.tmp 6) (.tmp 8) 1⟩,
 ⟨none, .ld (some 11) (.tmp 10) 1 false⟩,
 ⟨none, .mov (some 5) (.tmp 11)⟩])
 (K.seq (K.ops [⟨none, .mov (some 12) (.tmp 5)⟩,
 ⟨none, .mov (some 13) (.tmp 3)⟩,
 ⟨none, .eqv (some 14) true .i (.tmp 12) (.tmp 13)⟩])
 (K.cond (.tmp 14)
 (K.seq (K.ops [⟨none, .mov (some 15) (.tmp 5)⟩,
 ⟨none, .mov (some 2) (.tmp 15)⟩])
 (K.ret))
 (K.skip)))))
 (K.ops [⟨none, .bin (some 16) .add (.tmp 8) (.const (.int .i64 1))⟩,
 ⟨none, .mov (some 8) (.tmp 16)⟩])))))))
 (K.seq (K.ops [⟨none, .mov (some 17) (.tmp 3)⟩,
 ⟨none, .mov (some 2) (.tmp 17)⟩])
 (K.ret))))
theorem c46 : compile Tryd.prog Tryd.f46.ntmps (Tryd.f46.body.getD .skip) = some K46.erase := by kernel_rfl
@[simp] theorem cal46 : callable Tryd.prog 46 = true := by kernel_rfl

-- splicery/trace.order · results ["4"]
def K27 : K :=
 K.seq (K.ops [⟨none, .box (some 2) (.tmp 0)⟩,
 ⟨none, .box (some 3) (.tmp 1)⟩,
 ⟨none, .mov (some 4) (.const (.int .i64 0))⟩])
 (K.seq (K.dops [(0, 0, ⟨none, .addr (some 5) (.tmp 2) 0⟩),
 (1, 0, ⟨none, .ld (some 6) (.tmp 5) 1 false⟩),
 (2, 0, ⟨none, .addr (some 7) (.tmp 3) 0⟩),
 (3, 0, ⟨none, .ld (some 8) (.tmp 7) 1 false⟩),
 (4, 0, ⟨none, .call (some 9) (.func 47) [(.tmp 6), (.tmp 8)]⟩),
 (5, 0, ⟨none, .addr (some 10) (.tmp 2) 1⟩),
 (6, 0, ⟨none, .ld (some 11) (.tmp 10) 1 false⟩),
 (7, 0, ⟨none, .addr (some 12) (.tmp 3) 1⟩),
 (8, 0, ⟨none, .ld (some 13) (.tmp 12) 1 false⟩),
 (9, 0, ⟨none, .call (some 14) (.func 47) [(.tmp 11), (.tmp 13)]⟩),
 (10, 0, ⟨none, .addr (some 15) (.tmp 2) 2⟩),
 (11, 0, ⟨none, .ld (some 16) (.tmp 15) 1 false⟩),
 (12, 0, ⟨none, .addr (some 17) (.tmp 3) 2⟩),
 (13, 0, ⟨none, .ld (some 18) (.tmp 17) 1 false⟩),
 (14, 0, ⟨none, .call (some 19) (.func 47) [(.tmp 16), (.tmp 18)]⟩),
 (15, 0, ⟨none, .bslice (some 20) 3 1 3 [(.int .i64 0), (.int .i64 0), (.int .i64 0)] [(0, 1, (.tmp 9)), (1, 1, (.tmp 14)), (2, 1, (.tmp 19))]⟩),
 (16, 0, ⟨none, .call (some 21) (.func 46) [(.tmp 20)]⟩),
 (17, 0, ⟨none, .mov (some 4) (.tmp 21)⟩)])
 (K.ret))
theorem c27 : compile Tryd.prog Tryd.f27.ntmps (Tryd.f27.body.getD .skip) = some K27.erase := by kernel_rfl
@[simp] theorem cal27 : callable Tryd.prog 27 = true := by kernel_rfl

-- splicery/spliceryref12.Less · results ["4"]
def K48 : K :=
 K.seq (K.ops [⟨none, .box (some 2) (.tmp 0)⟩,
 ⟨none, .box (some 3) (.tmp 1)⟩,
 ⟨none, .mov (some 4) (.const (.bool false))⟩])
 (K.seq (K.seq (K.ops [⟨none, .addr (some 5) (.tmp 2) 0⟩,
 ⟨none, .ld (some 6) (.tmp 5) 1 false⟩,
 ⟨none, .addr (some 7) (.tmp 3) 0⟩,
 ⟨none, .ld (some 8) (.tmp 7) 1 false⟩,
 ⟨none, .eqv (some 9) true .i (.tmp 6) (.tmp 8)⟩])
 (K.cond (.tmp 9)
 (K.seq (K.ops [⟨none, .addr (some 10) (.tmp 2) 0⟩,
 ⟨none, .ld (some 11) (.tmp 10) 1 false⟩,
 ⟨none, .addr (some 12) (.tmp 3) 0⟩,
 ⟨none, .ld (some 13) (.tmp 12) 1 false⟩,
 ⟨none, .bin (some 14) .lss (.tmp 11) (.tmp 13)⟩,
 ⟨none, .mov (some 4) (.tmp 14)⟩])
 (K.ret))
 (K.skip)))
 (K.seq (K.seq (K.ops [⟨none, .addr (some 15) (.tmp 2) 1⟩,
 ⟨none, .ld (some 16) (.tmp 15) 1 false⟩,
 ⟨none, .addr (some 17) (.tmp 3) 1⟩,
 ⟨none, .ld (some 18) (.tmp 17) 1 false⟩,
 ⟨none, .eqv (some 19) true .i (.tmp 16) (.tmp 18)⟩])
 (K.cond (.tmp 19)
 (K.seq (K.ops [⟨none, .addr (some 20) (.tmp 2) 1⟩,
 ⟨none, .ld (some 21) (.tmp 20) 1 false⟩,
 ⟨none, .addr (some 22) (.tmp 3) 1⟩,
 ⟨none, .ld (some 23) (.tmp 22) 1 false⟩,
 ⟨none, .bin (some 24) .lss (.tmp 21) (.tmp 23)⟩,
 ⟨none, .mov (some 4) (.tmp 24)⟩])
 (K.ret))
 (K.skip)))
 (K.seq (K.ops [⟨none, .addr (some 25) (.tmp 2) 2⟩,
 ⟨none, .ld (some 26) (.tmp 25) 1 false⟩,
 ⟨none, .addr (some 27) (.tmp 3) 2⟩,
 ⟨none, .ld (some 28) (.tmp 27) 1 false⟩,
 ⟨none, .bin (some 29) .lss (.tmp 26) (.tmp 28)⟩,
 ⟨none, .mov (some 4) (.tmp 29)⟩])
 (K.ret))))
theorem c48 : compile Tryd.prog Tryd.f48.ntmps (Tryd.f48.body.getD .skip) = some K48.erase := by kernel_rfl
@[simp] theorem cal48 : callable Tryd.prog 48 = true := by kernel_rfl

-- splicery/spliceryref12.Has · results ["4"]
def K19 : K :=
 K.seq (K.ops [⟨none, .box (some 3) (.tmp 1)⟩,
 ⟨none, .mov (some 4) (.const (.bool false))⟩])
 (K.seq (K.seq (K.ops [⟨none, .mov (some 5) (.const (.int .i64 0))⟩])
 (K.block 0 (K.loop (K.seq (K.seq (K.ops [⟨none, .mov (some 6) (.tmp 5)⟩,
 ⟨none, .mov (some 7) (.tmp 0)⟩,
 ⟨none, .len (some 8) false (.tmp 7)⟩,
 ⟨none, .bin (some 9) .lss (.tmp 6) (.tmp 8)⟩])
 (K.cond (.tmp 9)
 (K.skip)
 (K.exit 0)))
 (K.seq (K.block 1 (K.seq (K.dops [(0, 0, ⟨none, .mov (some 12) (.tmp 0)⟩),
 (1, 0, ⟨none, .mov (some 13) (.tmp 5)⟩),
 (2, 0, ⟨none, .idx (some 14) (.tmp 12) (.tmp 13) 3⟩),
 (3, 0, ⟨none, .ld (some 15) (.tmp 14) 3 true⟩),
 (4, 0, ⟨none, .ld (some 16) (.tmp 3) 3 true⟩),
 (5, 0, ⟨none, .eqs (some 17) false [.i, .i, .i] (.tmp 15) (.tmp 16)⟩)])
 (K.cond (.tmp 17)
 (K.seq (K.ops [⟨none, .mov (some 4) (.const (.bool true))⟩])
 (K.ret))
 (K.skip))))
 (K.ops [⟨none, .mov (some 10) (.tmp 5)⟩,
 ⟨none, .bin (some 11) .add (.tmp 10) (.const (.int .i64 1))⟩,
 ⟨none, .mov (some 5) (.tmp 11)⟩]))))))
 (K.seq (K.ops [⟨none, .mov (some 4) (.const (.bool false))⟩])
 (K.ret)))
theorem c19 : compile Tryd.prog Tryd.f19.ntmps (Tryd.f19.body.getD .skip) = some K19.erase := by kernel_rfl
@[simp] theorem cal19 : callable Tryd.prog 19 = true := by kernel_rfl

-- splicery/spliceryref12.SameIDs · results ["4"]
def K13 : K :=
 K.seq (K.ops [⟨none, .mov (some 4) (.const (.bool false))⟩])
 (K.seq (K.seq (K.ops [⟨none, .mov (some 6) (.tmp 0)⟩,
 ⟨none, .len (some 7) false (.tmp 6)⟩,
 ⟨none, .mov (some 8) (.tmp 1)⟩,
 ⟨none, .len (some 9) false (.tmp 8)⟩,
 ⟨none, .eqv (some 10) true .i (.tmp 7) (.tmp 9)⟩])
 (K.cond (.tmp 10)
 (K.seq (K.ops [⟨none, .mov (some 4) (.const (.bool false))⟩])
 (K.ret))
 (K.skip)))
 (K.seq (K.seq (K.ops [⟨none, .mov (some 5) (.const (.int .i64 0))⟩])
 (K.block 0 (K.loop (K.seq (K.seq (K.ops [⟨none, .mov (some 11) (.tmp 5)⟩,
 ⟨none, .mov (some 12) (.tmp 0)⟩,
 ⟨none, .len (some 13) false (.tmp 12)⟩,
 ⟨none, .bin (some 14) .lss (.tmp 11) (.tmp 13)⟩])
 (K.cond (.tmp 14)
 (K.skip)
 (K.exit 0)))
 (K.seq (K.block 1 (K.seq (K.dops [(0, 0, ⟨none, .mov (some 17) (.tmp 0)⟩),
 (1, 0, ⟨none, .mov (some 18) (.tmp 5)⟩),
 (2, 0, ⟨none, .idx (some 19) (.tmp 17) (.tmp 18) 3⟩),
 (3, 0, ⟨none, .ld (some 20) (.tmp 19) 3 true⟩),
 (4, 0, ⟨none, .mov (some 21) (.tmp 1)⟩),
 (5, 0, ⟨none, .mov (some 22) (.tmp 5)⟩),
 (6, 0, ⟨none, .idx (some 23) (.tmp 21) (.tmp 22) 3⟩),
 (7, 0, ⟨none, .ld (some 24) (.tmp 23) 3 true⟩),
 (8, 0, ⟨none, .eqs (some 25) true [.i, .i, .i] (.tmp 20) (.tmp 24)⟩)])
 (K.cond (.tmp 25)
 (K.seq (K.ops [⟨none, .mov (some 4) (.const (.bool false))⟩])
 (K.ret))
 (K.skip))))
 (K.ops [⟨none, .mov (some 15) (.tmp 5)⟩,
 ⟨none, .bin (some 16) .add (.tmp 15) (.const (.int .i64 1))⟩,
 ⟨none, .mov (some 5) (.tmp 16)⟩]))))))
 (K.seq (K.ops [⟨none, .mov (some 4) (.const (.bool true))⟩])
 (K.ret))))
theorem c13 : compile Tryd.prog Tryd.f13.ntmps (Tryd.f13.body.getD .skip) = some K13.erase := by kernel_rfl
@[simp] theorem cal13 : callable Tryd.prog 13 = true := by kernel_rfl

theorem isNaN_ok (n : Int) : Ret Tryd.prog 70 [int n] [] (bl false) [] := by
  refine ret_of_wp Tryd.func70 rfl c70 (rs := [.slot 2]) (by kernel_rfl) ?_
  unfold K70
  simp -implicitDefEqProofs
  exact ret_end 0 (by simp)

def cmpI (a b : Int) : Int := if a < b then -1 else if b < a then 1 else 0

theorem compare_ok (a b : Int) : Ret Tryd.prog 47 [int a, int b] [] (int (cmpI a b)) [] := by
  refine ret_of_wp Tryd.func47 rfl c47 (rs := [.slot 4]) (by kernel_rfl) ?_
  unfold K47
  simp -implicitDefEqProofs
  refine call0 (isNaN_ok a) (by simp) (by simp) ?_
  simp -implicitDefEqProofs
  refine call0 (isNaN_ok b) (by simp) (by simp) ?_
  simp -implicitDefEqProofs
  refine condP_intro (fun h => ?_) (fun h => ?_) <;> simp at h <;> simp -implicitDefEqProofs
  · exact ret_end 0 (by simp [cmpI, h])
  refine condP_intro (fun h' => ?_) (fun h' => ?_) <;> simp at h' <;> simp -implicitDefEqProofs
  · exact ret_end 0 (by simp [cmpI, h', Int.not_lt.2 h])
  · exact ret_end 0 (by simp [cmpI, Int.not_lt.2 h, Int.not_lt.2 h'])

/-- The first that is not 0. -/
def orI : List Int → Int
  | [] => 0
  | a :: l => if a = 0 then orI l else a

def ints (l : List Int) : List A := l.map int
theorem ints_plain : ∀ (l : List Int), Plain (ints l)
  | [] => Plain.nil
  | _ :: l => Plain.lit (ints_plain l)
@[simp] theorem ints_len (l : List Int) : (ints l).length = l.length := by simp [ints]
@[simp] theorem nrm0_ints (l : List Int) : nrm0L (ints l) = ints l := (ints_plain l).1
@[simp] theorem vw_ints {rf g} (l : List Int) : vwL rf g (ints l) = ints l := (ints_plain l).2 _ _
@[simp] theorem ints_nil : ints [] = [] := rfl
@[simp] theorem ints_cons (n : Int) (l : List Int) : ints (n :: l) = .lit (.int .i64 n) :: ints l := rfl
@[simp] theorem ints_append (a b : List Int) : ints (a ++ b) = ints a ++ ints b := by simp [ints]
theorem ints_drop {l : List Int} {i : Nat} (h : i < l.length) : (ints l).drop i = .lit (.int .i64 l[i]) :: ints (l.drop (i + 1)) := by
  rw [ints, ← List.map_drop, List.drop_eq_getElem_cons h]; rfl

theorem wrap_len {n : Nat} (h : n ≤ maxLen) : IntKind.i64.wrap (n : Int) = n := IntWalk.i64_in _ (by simp [maxLen] at h; omega)

theorem wrap_succ {i n : Nat} (h : i < n) (hn : n ≤ maxLen) : IntKind.i64.wrap ((i : Int) + 1) = (i : Int) + 1 := IntWalk.i64_in _ (by simp [maxLen] at hn; omega)

theorem or_ok (l : List Int) : Ret Tryd.prog 46 [.sl l.length (ints l)] [] (int (orI l)) [] := by
  refine ret_of_wp Tryd.func46 rfl c46 (rs := [.slot 2]) (by kernel_rfl) ?_
  unfold K46
  simp -implicitDefEqProofs
  intro hl
  refine loopS (S := Nat) (fun i => [(3, int 0), (6, .sl l.length (ints l)), (7, int l.length), (8, int i)]) (fun s => []) (fun i => i ≤ l.length ∧ orI l = orI (l.drop i)) (fun i => l.length - i) 0 (by simp)
    (selW [] 0 (by simp) (by simp) (by simp) (by simp)) ?_
  rintro i ⟨hi, ho⟩
  simp -implicitDefEqProofs
  refine condP_intro (fun h => ?_) (fun h => ?_) <;> simp at h
  · simp -implicitDefEqProofs [h, ints_drop h]
    have hd : l.drop i = l[i] :: l.drop (i + 1) := List.drop_eq_getElem_cons h
    refine condP_intro (fun h' => ?_) (fun h' => ?_) <;> simp at h' <;> simp -implicitDefEqProofs
    · exact ret_end 0 (by rw [ho, hd]; simp [orI, h'])
    · refine roundS (i + 1) ⟨h, by rw [ho, hd]; simp [orI, h']⟩ (by omega) (selW [] 0 (by simp) (by simp) (by simp) (by simp [wrap_succ h hl]))
  · simp -implicitDefEqProofs
    have : i = l.length := by omega
    exact ret_end 0 (by rw [ho, this]; simp [orI])


/-! ### IDs -/
structure Id where
  a : Int
  b : Int
  c : Int
  deriving DecidableEq
theorem Id.eq_iff {x y : Id} : x = y ↔ x.a = y.a ∧ x.b = y.b ∧ x.c = y.c := by cases x; cases y; simp
def encI (d : Id) : List A := [.lit (.int .i64 d.a), .lit (.int .i64 d.b), .lit (.int .i64 d.c)]
def keyI (d : Id) : List Int := [d.a, d.b, d.c]
def cellsI : List Id → List A
  | [] => []
  | d :: l => .lit (.int .i64 d.a) :: .lit (.int .i64 d.b) :: .lit (.int .i64 d.c) :: cellsI l
@[simp] theorem cellsI_nil : cellsI [] = [] := rfl
@[simp] theorem cellsI_cons (d : Id) (l : List Id) : cellsI (d :: l) = .lit (.int .i64 d.a) :: .lit (.int .i64 d.b) :: .lit (.int .i64 d.c) :: cellsI l := rfl
@[simp] theorem cellsI_len : ∀ l : List Id, (cellsI l).length = l.length * 3
  | [] => rfl
  | d :: l => by simp [cellsI_len l]; omega
theorem cellsI_append : ∀ (a b : List Id), cellsI (a ++ b) = cellsI a ++ cellsI b
  | [], b => rfl
  | d :: a, b => by simp [cellsI_append a b]
theorem cellsI_plain : ∀ (l : List Id), Plain (cellsI l)
  | [] => Plain.nil
  | _ :: l => Plain.lit (Plain.lit (Plain.lit (cellsI_plain l)))
@[simp] theorem nrm0_cellsI (l : List Id) : nrm0L (cellsI l) = cellsI l := (cellsI_plain l).1
@[simp] theorem vw_cellsI {rf g} (l : List Id) : vwL rf g (cellsI l) = cellsI l := (cellsI_plain l).2 _ _
theorem cellsI_drop : ∀ {l : List Id} {i : Nat} (h : i < l.length), (cellsI l).drop (i * 3) = .lit (.int .i64 l[i].a) :: .lit (.int .i64 l[i].b) :: .lit (.int .i64 l[i].c) :: cellsI (l.drop (i + 1))
  | v :: l, 0, h => by simp
  | v :: l, i + 1, h => by
    have e : (i + 1) * 3 = i * 3 + 3 := by omega
    rw [e, cellsI_cons]
    simpa using cellsI_drop (l := l) (i := i) (by simpa using h)
theorem cellsI_take : ∀ (l : List Id) (i : Nat), (cellsI l).take (i * 3) = cellsI (l.take i)
  | [], i => by simp
  | v :: l, 0 => by simp
  | v :: l, i + 1 => by
    have e : (i + 1) * 3 = i * 3 + 3 := by omega
    rw [e, cellsI_cons]
    simpa using cellsI_take l i
theorem cellsI_dropW : ∀ (l : List Id) (i : Nat), (cellsI l).drop (i * 3) = cellsI (l.drop i)
  | [], i => by simp
  | v :: l, 0 => by simp
  | v :: l, i + 1 => by
    have e : (i + 1) * 3 = i * 3 + 3 := by omega
    rw [e, cellsI_cons]
    simpa using cellsI_dropW l i
theorem cellsI_take_succ {l : List Id} {i : Nat} (h : i < l.length) : cellsI (l.take (i + 1)) = cellsI (l.take i) ++ encI l[i] := by
  rw [List.take_succ_eq_append_getElem h, cellsI_append]; rfl

/-- The order of IDs. -/
def cmpD (x y : Id) : Int := orI [cmpI x.a y.a, cmpI x.b y.b, cmpI x.c y.c]
def lessD (x y : Id) : Bool := if x.a ≠ y.a then decide (x.a < y.a) else if x.b ≠ y.b then decide (x.b < y.b) else decide (x.c < y.c)
theorem order_ok (x y : Id) : Ret Tryd.prog 27 [.agg (encI x), .agg (encI y)] [] (int (cmpD x y)) [] := by
  refine ret_of_wp Tryd.func27 rfl c27 (rs := [.slot 4]) (by kernel_rfl) ?_
  unfold K27
  simp -implicitDefEqProofs [encI]
  refine dcall0 (compare_ok x.a y.a) (by simp) (by simp) ?_
  simp -implicitDefEqProofs
  refine dcall0 (compare_ok x.b y.b) (by simp) (by simp) ?_
  simp -implicitDefEqProofs
  refine dcall0 (compare_ok x.c y.c) (by simp) (by simp) ?_
  simp -implicitDefEqProofs
  refine dcall0 (or_ok [cmpI x.a y.a, cmpI x.b y.b, cmpI x.c y.c]) (by simp) (by simp) ?_
  simp -implicitDefEqProofs
  exact ret_end 0 (by simp [cmpD])
theorem less_ok (x y : Id) : Ret Tryd.prog 48 [.agg (encI x), .agg (encI y)] [] (bl (lessD x y)) [] := by
  refine ret_of_wp Tryd.func48 rfl c48 (rs := [.slot 4]) (by kernel_rfl) ?_
  unfold K48
  by_cases h1 : x.a = y.a
  · by_cases h2 : x.b = y.b
    · simp -implicitDefEqProofs [encI, h1, h2]
      exact ret_end 0 (by simp [lessD, h1, h2])
    · simp -implicitDefEqProofs [encI, h1, h2]
      exact ret_end 0 (by simp [lessD, h1, h2])
  · simp -implicitDefEqProofs [encI, h1]
    exact ret_end 0 (by simp [lessD, h1])
theorem has_ok (l : List Id) (x : Id) : Ret Tryd.prog 19 [.sl l.length (cellsI l), .agg (encI x)] [] (bl (decide (x ∈ l))) [] := by
  refine ret_of_wp Tryd.func19 rfl c19 (rs := [.slot 4]) (by kernel_rfl) ?_
  unfold K19
  simp -implicitDefEqProofs [encI]
  refine loopS (S := Nat) (fun i => [(0, .sl l.length (cellsI l)), (3, .ptr 0 0), (5, int i)]) (fun s => [.box (encI x)]) (fun i => i ≤ l.length ∧ x ∉ l.take i) (fun i => l.length - i) 0 (by simp)
    (selW [0] 0 (by simp) (by simp) (by simp [encI]) (by simp)) ?_
  rintro i ⟨hi, hn⟩
  by_cases h : i < l.length
  · simp -implicitDefEqProofs [h, cellsI_drop h, encI]
    intro hl
    refine condP_intro (fun h' => ?_) (fun h' => ?_) <;> simp at h' <;> simp -implicitDefEqProofs
    · have hx : l[i] = x := Id.eq_iff.2 h'
      exact ret_end 0 (by simp [← hx])
    · have hx : l[i] ≠ x := fun e => h' (by rw [← e]) (by rw [← e]) (by rw [← e])
      refine roundS (i + 1) ⟨h, ?_⟩ (by omega) (selW [0] 0 (by simp) (by simp) (by simp [encI]) (by simp [wrap_succ h hl]))
      rw [List.take_succ_eq_append_getElem h]
      simp only [List.mem_append, List.mem_singleton, not_or]
      exact ⟨hn, fun e => hx e.symm⟩
  · have : i = l.length := by omega
    subst this
    simp -implicitDefEqProofs
    rw [List.take_length] at hn
    exact fun _ => ret_end 0 (by simp [hn])
theorem sameIDs_ok (a b : List Id) : Ret Tryd.prog 13 [.sl a.length (cellsI a), .sl b.length (cellsI b)] [] (bl (decide (a = b))) [] := by
  refine ret_of_wp Tryd.func13 rfl c13 (rs := [.slot 4]) (by kernel_rfl) ?_
  unfold K13
  by_cases hab : a.length = b.length
  · have hab' : (a.length : Int) = b.length := by omega
    simp -implicitDefEqProofs [hab]
    intro hlb
    refine loopS (S := Nat) (fun i => [(0, .sl a.length (cellsI a)), (1, .sl b.length (cellsI b)), (5, int i)]) (fun s => []) (fun i => i ≤ a.length ∧ a.take i = b.take i) (fun i => a.length - i) 0 (by simp)
      (selW [] 0 (by simp) (by simp) (by simp) (by simp [hab])) ?_
    rintro i ⟨hi, hn⟩
    by_cases h : i < a.length
    · have hb : i < b.length := by omega
      simp -implicitDefEqProofs [h, hb, cellsI_drop h, cellsI_drop hb]
      intro hl
      refine condP_intro (fun h' => ?_) (fun h' => ?_) <;> simp at h' <;> simp -implicitDefEqProofs
      · have hx : a[i] ≠ b[i] := fun e => by rw [e] at h'; simp at h'
        have hne : a ≠ b := fun e => hx (by subst e; rfl)
        exact ret_end 0 (by simp [hne])
      · have hx : a[i] = b[i] := Id.eq_iff.2 h'
        refine roundS (i + 1) ⟨h, ?_⟩ (by omega) (selW [] 0 (by simp) (by simp) (by simp) (by simp [wrap_succ h hl]))
        rw [List.take_succ_eq_append_getElem h, List.take_succ_eq_append_getElem hb, hn, hx]
    · have : i = a.length := by omega
      subst this
      simp -implicitDefEqProofs
      have : a = b := by rw [List.take_length, hab, List.take_length] at hn; exact hn
      exact fun _ => ret_end 0 (by simp [this])
  · have hne : a ≠ b := fun e => hab (by rw [e])
    have hab' : ¬ (a.length : Int) = b.length := by omega
    simp -implicitDefEqProofs [hab']
    exact fun _ _ => ret_end 0 (by simp [hne])
end Go.Proofs.YthglhccibdlccaaDoor
