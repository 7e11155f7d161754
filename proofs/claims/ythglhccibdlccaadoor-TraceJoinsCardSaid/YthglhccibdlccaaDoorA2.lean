/-
  The reference's sets of IDs, and the law's lists of IDs.
-/
import Derived.Test.YthglhccibdlccaaDoorA1
namespace Go.Proofs.YthglhccibdlccaaDoor
open Go.Abs

def w64 (n : Int) : Int := IntKind.i64.wrap n
def same3 (a b c a' b' c' : Int) : Bool := decide (Id.mk a b c = Id.mk a' b' c')
@[simp] theorem same3_id {x y : Id} : same3 x.a x.b x.c y.a y.b y.c = decide (x = y) := rfl
def Id.zero : Id := ⟨0, 0, 0⟩
@[simp] theorem same3_zero {x : Id} : same3 x.a x.b x.c 0 0 0 = decide (x = Id.zero) := rfl
@[simp] theorem Id.zero_a : Id.zero.a = 0 := rfl
@[simp] theorem Id.zero_b : Id.zero.b = 0 := rfl
@[simp] theorem Id.zero_c : Id.zero.c = 0 := rfl
@[simp] theorem same3_00 : same3 0 0 0 0 0 0 = true := rfl
@[simp] theorem eqsA_id {a b c a' b' c' : Int} : eqsA [.i, .i, .i] false (.agg [.lit (.int .i64 a), .lit (.int .i64 b), .lit (.int .i64 c)]) (.agg [.lit (.int .i64 a'), .lit (.int .i64 b'), .lit (.int .i64 c')]) =
    some (.lit (.bool (same3 a b c a' b' c'))) := by simp [eqsA, eqCells, eqCell, truthOf, same3]
@[simp] theorem eqsA_idn {a b c a' b' c' : Int} : eqsA [.i, .i, .i] true (.agg [.lit (.int .i64 a), .lit (.int .i64 b), .lit (.int .i64 c)]) (.agg [.lit (.int .i64 a'), .lit (.int .i64 b'), .lit (.int .i64 c')]) =
    some (.lit (.bool (!same3 a b c a' b' c'))) := by simp [eqsA, eqCells, eqCell, truthOf, same3]
-- splicery/spliceryref01.Around · results ["4"]
def K12 : K :=
 K.seq (K.ops [⟨none, .mov (some 4) (.const (.int .i64 0))⟩])
 (K.seq (K.seq (K.ops [⟨none, .mov (some 5) (.tmp 0)⟩,
 ⟨none, .bin (some 6) .lss (.tmp 5) (.const (.int .i64 0))⟩])
 (K.cond (.tmp 6)
 (K.ops [⟨none, .mov (some 7) (.tmp 0)⟩,
 ⟨none, .bin (some 8) .add (.tmp 7) (.const (.int .i64 1))⟩,
 ⟨none, .neg (some 9) (.tmp 8)⟩,
 ⟨none, .mov (some 0) (.tmp 9)⟩])
 (K.skip)))
 (K.seq (K.ops [⟨none, .mov (some 10) (.tmp 0)⟩,
 ⟨none, .mov (some 11) (.tmp 1)⟩,
 ⟨none, .bin (some 12) .rem (.tmp 10) (.tmp 11)⟩,
 ⟨none, .mov (some 4) (.tmp 12)⟩])
 (K.ret)))
theorem c12 : compile Tryd.prog Tryd.f12.ntmps (Tryd.f12.body.getD .skip) = some K12.erase := by kernel_rfl
@[simp] theorem cal12 : callable Tryd.prog 12 = true := by kernel_rfl

-- splicery/spliceryref12.Same · results ["4"]
def K5 : K :=
 K.seq (K.ops [⟨none, .box (some 2) (.tmp 0)⟩,
 ⟨none, .box (some 3) (.tmp 1)⟩,
 ⟨none, .mov (some 4) (.const (.bool false))⟩])
 (K.seq (K.ops [⟨none, .addr (some 5) (.tmp 2) 0⟩,
 ⟨none, .ld (some 6) (.tmp 5) 1 false⟩,
 ⟨none, .addr (some 7) (.tmp 3) 0⟩,
 ⟨none, .ld (some 8) (.tmp 7) 1 false⟩,
 ⟨none, .call (some 9) (.func 13) [(.tmp 6), (.tmp 8)]⟩,
 ⟨none, .mov (some 10) (.tmp 9)⟩,
 ⟨some (10, true), .addr (some 11) (.tmp 2) 1⟩,
 ⟨some (10, true), .ld (some 12) (.tmp 11) 1 false⟩,
 ⟨some (10, true), .addr (some 13) (.tmp 3) 1⟩,
 ⟨some (10, true), .ld (some 14) (.tmp 13) 1 false⟩,
 ⟨some (10, true), .call (some 15) (.func 13) [(.tmp 12), (.tmp 14)]⟩,
 ⟨none, .pick (some 16) (.tmp 10) (.tmp 15) (.const (.bool false))⟩,
 ⟨none, .mov (some 4) (.tmp 16)⟩])
 (K.ret))
theorem c5 : compile Tryd.prog Tryd.f5.ntmps (Tryd.f5.body.getD .skip) = some K5.erase := by kernel_rfl
@[simp] theorem cal5 : callable Tryd.prog 5 = true := by kernel_rfl

-- splicery/splicerylaw12.plain · results ["cell 2"]
def K6 : K :=
 K.seq (K.ops [⟨none, .box (some 1) (.tmp 0)⟩,
 ⟨none, .alloc (some 2) [(.slice none 0 0), (.slice none 0 0)]⟩])
 (K.seq (K.ops [⟨none, .addr (some 3) (.tmp 1) 0⟩,
 ⟨none, .ld (some 4) (.tmp 3) 1 false⟩,
 ⟨none, .addr (some 5) (.tmp 1) 1⟩,
 ⟨none, .ld (some 6) (.tmp 5) 1 false⟩,
 ⟨none, .build (some 7) [(.slice none 0 0), (.slice none 0 0)] [(0, 1, (.tmp 4)), (1, 1, (.tmp 6))]⟩,
 ⟨none, .st none (.tmp 2) (.tmp 7) 2⟩])
 (K.ret))
theorem c6 : compile Tryd.prog Tryd.f6.ntmps (Tryd.f6.body.getD .skip) = some K6.erase := by kernel_rfl
@[simp] theorem cal6 : callable Tryd.prog 6 = true := by kernel_rfl

-- splicery/splicerylaw12.some · results ["2"]
def K4 : K :=
 K.seq (K.ops [⟨none, .mov (some 2) (.const (.slice none 0 0))⟩])
 (K.seq (K.ops [⟨none, .mov (some 3) (.const (.slice none 0 0))⟩])
 (K.seq (K.seq (K.ops [⟨none, .mov (some 4) (.const (.int .i64 0))⟩])
 (K.block 0 (K.loop (K.seq (K.seq (K.ops [⟨none, .mov (some 5) (.tmp 4)⟩,
 ⟨none, .mov (some 6) (.tmp 0)⟩,
 ⟨none, .len (some 7) false (.tmp 6)⟩,
 ⟨none, .bin (some 8) .lss (.tmp 5) (.tmp 7)⟩,
 ⟨none, .mov (some 9) (.tmp 8)⟩,
 ⟨some (9, true), .mov (some 10) (.tmp 4)⟩,
 ⟨some (9, true), .bin (some 11) .lss (.tmp 10) (.const (.int .i64 20))⟩,
 ⟨none, .pick (some 12) (.tmp 9) (.tmp 11) (.const (.bool false))⟩])
 (K.cond (.tmp 12)
 (K.skip)
 (K.exit 0)))
 (K.seq (K.block 1 (K.dops [(0, 0, ⟨none, .mov (some 15) (.tmp 3)⟩),
 (1, 0, ⟨none, .mov (some 16) (.tmp 0)⟩),
 (2, 0, ⟨none, .mov (some 17) (.tmp 4)⟩),
 (3, 0, ⟨none, .idx (some 18) (.tmp 16) (.tmp 17) 1⟩),
 (4, 0, ⟨none, .ld (some 19) (.tmp 18) 1 false⟩),
 (5, 0, ⟨none, .call (some 20) (.func 12) [(.tmp 19), (.const (.int .i64 2))]⟩),
 (6, 0, ⟨none, .mov (some 21) (.tmp 0)⟩),
 (7, 0, ⟨none, .mov (some 22) (.tmp 4)⟩),
 (8, 0, ⟨none, .idx (some 23) (.tmp 21) (.tmp 22) 1⟩),
 (9, 0, ⟨none, .ld (some 24) (.tmp 23) 1 false⟩),
 (10, 0, ⟨none, .bin (some 25) .quo (.tmp 24) (.const (.int .i64 2))⟩),
 (11, 0, ⟨none, .call (some 26) (.func 12) [(.tmp 25), (.const (.int .i64 3))]⟩),
 (12, 0, ⟨none, .mov (some 27) (.tmp 0)⟩),
 (13, 0, ⟨none, .mov (some 28) (.tmp 4)⟩),
 (14, 0, ⟨none, .idx (some 29) (.tmp 27) (.tmp 28) 1⟩),
 (15, 0, ⟨none, .ld (some 30) (.tmp 29) 1 false⟩),
 (16, 0, ⟨none, .bin (some 31) .quo (.tmp 30) (.const (.int .i64 6))⟩),
 (17, 0, ⟨none, .call (some 32) (.func 12) [(.tmp 31), (.const (.int .i64 4))]⟩),
 (18, 0, ⟨none, .bin (some 33) .sub (.tmp 32) (.const (.int .i64 1))⟩),
 (19, 0, ⟨none, .build (some 34) [(.int .i64 0), (.int .i64 0), (.int .i64 0)] [(0, 1, (.tmp 20)), (1, 1, (.tmp 26)), (2, 1, (.tmp 33))]⟩),
 (20, 0, ⟨none, .bslice (some 35) 39 3 1 [(.int .i64 0), (.int .i64 0), (.int .i64 0)] [(0, 3, (.tmp 34))]⟩),
 (21, 0, ⟨none, .app (some 36) 39 3 24 (.tmp 15) (.tmp 35)⟩),
 (22, 0, ⟨none, .mov (some 3) (.tmp 36)⟩)]))
 (K.ops [⟨none, .mov (some 13) (.tmp 4)⟩,
 ⟨none, .bin (some 14) .add (.tmp 13) (.const (.int .i64 1))⟩,
 ⟨none, .mov (some 4) (.tmp 14)⟩]))))))
 (K.seq (K.ops [⟨none, .mov (some 37) (.tmp 3)⟩,
 ⟨none, .mov (some 2) (.tmp 37)⟩])
 (K.ret))))
theorem c4 : compile Tryd.prog Tryd.f4.ntmps (Tryd.f4.body.getD .skip) = some K4.erase := by kernel_rfl
@[simp] theorem cal4 : callable Tryd.prog 4 = true := by kernel_rfl

-- splicery/spliceryref12.Insert · results ["4"]
def K30 : K :=
 K.seq (K.ops [⟨none, .box (some 3) (.tmp 1)⟩,
 ⟨none, .mov (some 4) (.const (.slice none 0 0))⟩])
 (K.seq (K.ops [⟨none, .mov (some 5) (.const (.int .i64 0))⟩])
 (K.seq (K.block 0 (K.loop (K.seq (K.seq (K.dops [(0, 0, ⟨none, .mov (some 7) (.tmp 5)⟩),
 (1, 0, ⟨none, .mov (some 8) (.tmp 0)⟩),
 (2, 0, ⟨none, .len (some 9) false (.tmp 8)⟩),
 (3, 0, ⟨none, .bin (some 10) .lss (.tmp 7) (.tmp 9)⟩),
 (4, 0, ⟨none, .mov (some 11) (.tmp 10)⟩),
 (5, 0, ⟨some (11, true), .mov (some 12) (.tmp 0)⟩),
 (6, 0, ⟨some (11, true), .mov (some 13) (.tmp 5)⟩),
 (7, 0, ⟨some (11, true), .idx (some 14) (.tmp 12) (.tmp 13) 3⟩),
 (8, 0, ⟨some (11, true), .ld (some 15) (.tmp 14) 3 true⟩),
 (9, 0, ⟨some (11, true), .ld (some 16) (.tmp 3) 3 true⟩),
 (10, 0, ⟨some (11, true), .call (some 17) (.func 48) [(.tmp 15), (.tmp 16)]⟩),
 (11, 0, ⟨none, .pick (some 18) (.tmp 11) (.tmp 17) (.const (.bool false))⟩)])
 (K.cond (.tmp 18)
 (K.skip)
 (K.exit 0)))
 (K.block 1 (K.ops [⟨none, .mov (some 19) (.tmp 5)⟩,
 ⟨none, .bin (some 20) .add (.tmp 19) (.const (.int .i64 1))⟩,
 ⟨none, .mov (some 5) (.tmp 20)⟩])))))
 (K.seq (K.seq (K.dops [(0, 0, ⟨none, .mov (some 21) (.tmp 5)⟩),
 (1, 0, ⟨none, .mov (some 22) (.tmp 0)⟩),
 (2, 0, ⟨none, .len (some 23) false (.tmp 22)⟩),
 (3, 0, ⟨none, .bin (some 24) .lss (.tmp 21) (.tmp 23)⟩),
 (4, 0, ⟨none, .mov (some 25) (.tmp 24)⟩),
 (5, 0, ⟨some (25, true), .mov (some 26) (.tmp 0)⟩),
 (6, 0, ⟨some (25, true), .mov (some 27) (.tmp 5)⟩),
 (7, 0, ⟨some (25, true), .idx (some 28) (.tmp 26) (.tmp 27) 3⟩),
 (8, 0, ⟨some (25, true), .ld (some 29) (.tmp 28) 3 true⟩),
 (9, 0, ⟨some (25, true), .ld (some 30) (.tmp 3) 3 true⟩),
 (10, 0, ⟨some (25, true), .eqs (some 31) false [.i, .i, .i] (.tmp 29) (.tmp 30)⟩),
 (11, 0, ⟨none, .pick (some 32) (.tmp 25) (.tmp 31) (.const (.bool false))⟩)])
 (K.cond (.tmp 32)
 (K.seq (K.ops [⟨none, .mov (some 33) (.tmp 0)⟩,
 ⟨none, .mov (some 4) (.tmp 33)⟩])
 (K.ret))
 (K.skip)))
 (K.seq (K.ops [⟨none, .bslice (some 34) 39 3 0 [] []⟩,
 ⟨none, .mov (some 35) (.tmp 0)⟩,
 ⟨none, .mov (some 36) (.tmp 5)⟩,
 ⟨none, .slc (some 37) (.tmp 35) 3 none (some (.tmp 36)) none⟩,
 ⟨none, .app (some 38) 39 3 24 (.tmp 34) (.tmp 37)⟩,
 ⟨none, .mov (some 6) (.tmp 38)⟩])
 (K.seq (K.ops [⟨none, .mov (some 39) (.tmp 6)⟩,
 ⟨none, .ld (some 40) (.tmp 3) 3 true⟩,
 ⟨none, .bslice (some 41) 39 3 1 [(.int .i64 0), (.int .i64 0), (.int .i64 0)] [(0, 3, (.tmp 40))]⟩,
 ⟨none, .app (some 42) 39 3 24 (.tmp 39) (.tmp 41)⟩,
 ⟨none, .mov (some 6) (.tmp 42)⟩])
 (K.seq (K.ops [⟨none, .mov (some 43) (.tmp 6)⟩,
 ⟨none, .mov (some 44) (.tmp 0)⟩,
 ⟨none, .mov (some 45) (.tmp 5)⟩,
 ⟨none, .slc (some 46) (.tmp 44) 3 (some (.tmp 45)) none none⟩,
 ⟨none, .app (some 47) 39 3 24 (.tmp 43) (.tmp 46)⟩,
 ⟨none, .mov (some 4) (.tmp 47)⟩])
 (K.ret)))))))
theorem c30 : compile Tryd.prog Tryd.f30.ntmps (Tryd.f30.body.getD .skip) = some K30.erase := by kernel_rfl
@[simp] theorem cal30 : callable Tryd.prog 30 = true := by kernel_rfl

-- splicery/spliceryref12.All · results ["4"]
def K16 : K :=
 K.seq (K.ops [⟨none, .mov (some 4) (.const (.slice none 0 0))⟩])
 (K.seq (K.ops [⟨none, .mov (some 5) (.const (.slice none 0 0))⟩])
 (K.seq (K.seq (K.ops [⟨none, .mov (some 6) (.const (.int .i64 0))⟩])
 (K.block 0 (K.loop (K.seq (K.seq (K.ops [⟨none, .mov (some 8) (.tmp 6)⟩,
 ⟨none, .mov (some 9) (.tmp 0)⟩,
 ⟨none, .len (some 10) false (.tmp 9)⟩,
 ⟨none, .bin (some 11) .lss (.tmp 8) (.tmp 10)⟩])
 (K.cond (.tmp 11)
 (K.skip)
 (K.exit 0)))
 (K.seq (K.block 1 (K.ops [⟨none, .mov (some 14) (.tmp 5)⟩,
 ⟨none, .mov (some 15) (.tmp 0)⟩,
 ⟨none, .mov (some 16) (.tmp 6)⟩,
 ⟨none, .idx (some 17) (.tmp 15) (.tmp 16) 3⟩,
 ⟨none, .ld (some 18) (.tmp 17) 3 true⟩,
 ⟨none, .call (some 19) (.func 30) [(.tmp 14), (.tmp 18)]⟩,
 ⟨none, .mov (some 5) (.tmp 19)⟩]))
 (K.ops [⟨none, .mov (some 12) (.tmp 6)⟩,
 ⟨none, .bin (some 13) .add (.tmp 12) (.const (.int .i64 1))⟩,
 ⟨none, .mov (some 6) (.tmp 13)⟩]))))))
 (K.seq (K.seq (K.ops [⟨none, .mov (some 7) (.const (.int .i64 0))⟩])
 (K.block 2 (K.loop (K.seq (K.seq (K.ops [⟨none, .mov (some 20) (.tmp 7)⟩,
 ⟨none, .mov (some 21) (.tmp 1)⟩,
 ⟨none, .len (some 22) false (.tmp 21)⟩,
 ⟨none, .bin (some 23) .lss (.tmp 20) (.tmp 22)⟩])
 (K.cond (.tmp 23)
 (K.skip)
 (K.exit 2)))
 (K.seq (K.block 3 (K.ops [⟨none, .mov (some 26) (.tmp 5)⟩,
 ⟨none, .mov (some 27) (.tmp 1)⟩,
 ⟨none, .mov (some 28) (.tmp 7)⟩,
 ⟨none, .idx (some 29) (.tmp 27) (.tmp 28) 3⟩,
 ⟨none, .ld (some 30) (.tmp 29) 3 true⟩,
 ⟨none, .call (some 31) (.func 30) [(.tmp 26), (.tmp 30)]⟩,
 ⟨none, .mov (some 5) (.tmp 31)⟩]))
 (K.ops [⟨none, .mov (some 24) (.tmp 7)⟩,
 ⟨none, .bin (some 25) .add (.tmp 24) (.const (.int .i64 1))⟩,
 ⟨none, .mov (some 7) (.tmp 25)⟩]))))))
 (K.seq (K.ops [⟨none, .mov (some 32) (.tmp 5)⟩,
 ⟨none, .mov (some 4) (.tmp 32)⟩])
 (K.ret)))))
theorem c16 : compile Tryd.prog Tryd.f16.ntmps (Tryd.f16.body.getD .skip) = some K16.erase := by kernel_rfl
@[simp] theorem cal16 : callable Tryd.prog 16 = true := by kernel_rfl

-- splicery/spliceryref12.Join · results ["cell 4"]
def K8 : K :=
 K.seq (K.ops [⟨none, .box (some 2) (.tmp 0)⟩,
 ⟨none, .box (some 3) (.tmp 1)⟩,
 ⟨none, .alloc (some 4) [(.slice none 0 0), (.slice none 0 0)]⟩])
 (K.seq (K.dops [(0, 0, ⟨none, .addr (some 5) (.tmp 2) 0⟩),
 (1, 0, ⟨none, .ld (some 6) (.tmp 5) 1 false⟩),
 (2, 0, ⟨none, .addr (some 7) (.tmp 3) 0⟩),
 (3, 0, ⟨none, .ld (some 8) (.tmp 7) 1 false⟩),
 (4, 0, ⟨none, .call (some 9) (.func 16) [(.tmp 6), (.tmp 8)]⟩),
 (5, 0, ⟨none, .addr (some 10) (.tmp 2) 1⟩),
 (6, 0, ⟨none, .ld (some 11) (.tmp 10) 1 false⟩),
 (7, 0, ⟨none, .addr (some 12) (.tmp 3) 1⟩),
 (8, 0, ⟨none, .ld (some 13) (.tmp 12) 1 false⟩),
 (9, 0, ⟨none, .call (some 14) (.func 16) [(.tmp 11), (.tmp 13)]⟩),
 (10, 0, ⟨none, .build (some 15) [(.slice none 0 0), (.slice none 0 0)] [(0, 1, (.tmp 9)), (1, 1, (.tmp 14))]⟩),
 (11, 0, ⟨none, .st none (.tmp 4) (.tmp 15) 2⟩)])
 (K.ret))
theorem c8 : compile Tryd.prog Tryd.f8.ntmps (Tryd.f8.body.getD .skip) = some K8.erase := by kernel_rfl
@[simp] theorem cal8 : callable Tryd.prog 8 = true := by kernel_rfl

-- splicery/spliceryref12.Asks · results ["4"]
def K10 : K :=
 K.seq (K.ops [⟨none, .box (some 2) (.tmp 0)⟩,
 ⟨none, .mov (some 4) (.const (.bool false))⟩])
 (K.seq (K.seq (K.ops [⟨none, .mov (some 5) (.const (.int .i64 0))⟩])
 (K.block 0 (K.loop (K.seq (K.seq (K.ops [⟨none, .mov (some 6) (.tmp 5)⟩,
 ⟨none, .mov (some 7) (.tmp 1)⟩,
 ⟨none, .len (some 8) false (.tmp 7)⟩,
 ⟨none, .bin (some 9) .lss (.tmp 6) (.tmp 8)⟩])
 (K.cond (.tmp 9)
 (K.skip)
 (K.exit 0)))
 (K.seq (K.block 1 (K.seq (K.dops [(0, 0, ⟨none, .addr (some 12) (.tmp 2) 0⟩),
 (1, 0, ⟨none, .ld (some 13) (.tmp 12) 1 false⟩),
 (2, 0, ⟨none, .mov (some 14) (.tmp 1)⟩),
 (3, 0, ⟨none, .mov (some 15) (.tmp 5)⟩),
 (4, 0, ⟨none, .idx (some 16) (.tmp 14) (.tmp 15) 3⟩),
 (5, 0, ⟨none, .ld (some 17) (.tmp 16) 3 true⟩),
 (6, 0, ⟨none, .call (some 18) (.func 19) [(.tmp 13), (.tmp 17)]⟩),
 (7, 0, ⟨none, .mov (some 19) (.tmp 18)⟩),
 (8, 0, ⟨some (19, false), .addr (some 20) (.tmp 2) 1⟩),
 (9, 0, ⟨some (19, false), .ld (some 21) (.tmp 20) 1 false⟩),
 (10, 0, ⟨some (19, false), .mov (some 22) (.tmp 1)⟩),
 (11, 0, ⟨some (19, false), .mov (some 23) (.tmp 5)⟩),
 (12, 0, ⟨some (19, false), .idx (some 24) (.tmp 22) (.tmp 23) 3⟩),
 (13, 0, ⟨some (19, false), .ld (some 25) (.tmp 24) 3 true⟩),
 (14, 0, ⟨some (19, false), .call (some 26) (.func 19) [(.tmp 21), (.tmp 25)]⟩),
 (15, 0, ⟨none, .pick (some 27) (.tmp 19) (.const (.bool true)) (.tmp 26)⟩)])
 (K.cond (.tmp 27)
 (K.seq (K.ops [⟨none, .mov (some 4) (.const (.bool true))⟩])
 (K.ret))
 (K.skip))))
 (K.ops [⟨none, .mov (some 10) (.tmp 5)⟩,
 ⟨none, .bin (some 11) .add (.tmp 10) (.const (.int .i64 1))⟩,
 ⟨none, .mov (some 5) (.tmp 11)⟩]))))))
 (K.seq (K.ops [⟨none, .mov (some 4) (.const (.bool false))⟩])
 (K.ret)))
theorem c10 : compile Tryd.prog Tryd.f10.ntmps (Tryd.f10.body.getD .skip) = some K10.erase := by kernel_rfl
@[simp] theorem cal10 : callable Tryd.prog 10 = true := by kernel_rfl

-- splicery/splicerylaw12.id · results ["cell 2"]
def K22 : K :=
 K.seq (K.ops [⟨none, .alloc (some 2) [(.int .i64 0), (.int .i64 0), (.int .i64 0)]⟩])
 (K.seq (K.ops [⟨none, .mov (some 3) (.tmp 0)⟩,
 ⟨none, .build (some 4) [(.int .i64 0), (.int .i64 0), (.int .i64 0)] [(1, 1, (.const (.int .i64 1))), (2, 1, (.tmp 3))]⟩,
 ⟨none, .st none (.tmp 2) (.tmp 4) 3⟩])
 (K.ret))
theorem c22 : compile Tryd.prog Tryd.f22.ntmps (Tryd.f22.body.getD .skip) = some K22.erase := by kernel_rfl
@[simp] theorem cal22 : callable Tryd.prog 22 = true := by kernel_rfl

-- splicery/splicerylaw12.ids · results ["2"]
def K24 : K :=
 K.seq (K.ops [⟨none, .mov (some 2) (.const (.slice none 0 0))⟩])
 (K.seq (K.ops [⟨none, .mov (some 3) (.const (.slice none 0 0))⟩])
 (K.seq (K.seq (K.ops [⟨none, .mov (some 4) (.const (.int .i64 0))⟩])
 (K.block 0 (K.loop (K.seq (K.seq (K.ops [⟨none, .mov (some 5) (.tmp 4)⟩,
 ⟨none, .mov (some 6) (.tmp 0)⟩,
 ⟨none, .len (some 7) false (.tmp 6)⟩,
 ⟨none, .bin (some 8) .lss (.tmp 5) (.tmp 7)⟩])
 (K.cond (.tmp 8)
 (K.skip)
 (K.exit 0)))
 (K.seq (K.block 1 (K.ops [⟨none, .mov (some 11) (.tmp 3)⟩,
 ⟨none, .mov (some 12) (.tmp 0)⟩,
 ⟨none, .mov (some 13) (.tmp 4)⟩,
 ⟨none, .idx (some 14) (.tmp 12) (.tmp 13) 1⟩,
 ⟨none, .ld (some 15) (.tmp 14) 1 false⟩,
 ⟨none, .call (some 16) (.func 22) [(.tmp 15)]⟩,
 ⟨none, .bslice (some 17) 39 3 1 [(.int .i64 0), (.int .i64 0), (.int .i64 0)] [(0, 3, (.tmp 16))]⟩,
 ⟨none, .app (some 18) 39 3 24 (.tmp 11) (.tmp 17)⟩,
 ⟨none, .mov (some 3) (.tmp 18)⟩]))
 (K.ops [⟨none, .mov (some 9) (.tmp 4)⟩,
 ⟨none, .bin (some 10) .add (.tmp 9) (.const (.int .i64 1))⟩,
 ⟨none, .mov (some 4) (.tmp 10)⟩]))))))
 (K.seq (K.ops [⟨none, .mov (some 19) (.tmp 3)⟩,
 ⟨none, .mov (some 2) (.tmp 19)⟩])
 (K.ret))))
theorem c24 : compile Tryd.prog Tryd.f24.ntmps (Tryd.f24.body.getD .skip) = some K24.erase := by kernel_rfl
@[simp] theorem cal24 : callable Tryd.prog 24 = true := by kernel_rfl

def aroundV (n k : Int) : Int := (if n < 0 then w64 (0 - w64 (n + 1)) else n).tmod k
theorem around_ok (n k : Int) (hk : 0 < k) : Ret Tryd.prog 12 [int n, int k] [] (int (aroundV n k)) [] := by
  refine ret_of_wp Tryd.func12 rfl c12 (rs := [.slot 4]) (by kernel_rfl) ?_
  unfold K12
  have h0 : ¬ k = 0 := by omega
  by_cases h : n < 0
  · simp -implicitDefEqProofs [h, h0]
    exact ret_end 0 (by simp [aroundV, h, w64])
  · simp -implicitDefEqProofs [h, h0]
    exact ret_end 0 (by simp [aroundV, h])
theorem around_range {n k : Int} (hn : w64 n = n) (hk : 0 < k) : 0 ≤ aroundV n k ∧ aroundV n k < k := by
  unfold aroundV
  have h : 0 ≤ (if n < 0 then w64 (0 - w64 (n + 1)) else n) := by
    simp only [w64, IntKind.wrap_i64] at hn ⊢
    split <;> omega
  exact ⟨Int.tmod_nonneg _ h, Int.tmod_lt_of_pos _ hk⟩


/-! ### sets -/
def insD : List Id → Id → List Id
  | [], x => [x]
  | y :: l, x => if lessD y x = true then y :: insD l x else if y = x then y :: l else x :: y :: l
def posD : List Id → Id → Nat
  | [], _ => 0
  | y :: l, x => if lessD y x = true then posD l x + 1 else 0
theorem posD_le : ∀ (l : List Id) (x : Id), posD l x ≤ l.length
  | [], x => by simp [posD]
  | y :: l, x => by
    have := posD_le l x
    simp only [posD, List.length_cons]
    split <;> omega
theorem insD_pos : ∀ (l : List Id) (x : Id), insD l x = if l[posD l x]? = some x then l else l.take (posD l x) ++ x :: l.drop (posD l x)
  | [], x => by simp [insD, posD]
  | y :: l, x => by
    simp only [insD, posD]
    by_cases h : lessD y x = true
    · simp only [h, if_true, List.getElem?_cons_succ, insD_pos l x, List.take_succ_cons, List.drop_succ_cons]
      split <;> simp
    · simp only [h]
      by_cases hy : y = x <;> simp [hy]
/-- How far the loop has come. -/
theorem posD_step {l : List Id} {x : Id} {i : Nat} (hi : i ≤ posD l x) : (i < l.length ∧ lessD (l.getD i ⟨0, 0, 0⟩) x = true → i + 1 ≤ posD l x) ∧ (¬ (i < l.length ∧ lessD (l.getD i ⟨0, 0, 0⟩) x = true) → i = posD l x) := by
  induction l generalizing i with
  | nil => simp [posD] at hi ⊢; omega
  | cons y l ih =>
    simp only [posD] at hi ⊢
    cases i with
    | zero =>
      by_cases h : lessD y x = true
      · simp [h]
      · simp [h]
    | succ i =>
      by_cases h : lessD y x = true
      · simp only [h, if_true] at hi ⊢
        obtain ⟨h1, h2⟩ := ih (i := i) (by omega)
        constructor
        · intro hh
          have := h1 (by simpa using hh)
          omega
        · intro hh
          have := h2 (by simpa using hh)
          omega
      · simp only [h] at hi
        simp at hi
theorem insD_len (l : List Id) (x : Id) : (insD l x).length ≤ l.length + 1 := by
  rw [insD_pos]
  have := posD_le l x
  split
  · omega
  · simp; omega

theorem ins_end {l : List Id} {x : Id} {i : Nat} (hl6 : l.length ≤ 1000000) (hi : i ≤ l.length) (hins : insD l x = l.take i ++ x :: l.drop i) :
    i ≤ l.length ∧ min i l.length * 3 = i * 3 ∧
      (i = 0 → 1 ≤ maxLen ∧ i ≤ l.length ∧ min ((l.length - i) * 3) (l.length * 3 - i * 3) = (l.length - i) * 3 ∧ (1 + (l.length - i) ≤ maxLen ∧ (1 + (l.length - i)) * 24 ≤ 140737488355328) ∧
        RetQ 0 (A.sl (insD l x).length (cellsI (insD l x))) [] (Out.ret (A.row 1 (1 + (l.length - i)))) [AObj.box [A.lit (Value.int IntKind.i64 x.a), A.lit (Value.int IntKind.i64 x.b), A.lit (Value.int IntKind.i64 x.c)],
          AObj.row false 39 3 (1 + (l.length - i)) (A.lit (Value.int IntKind.i64 x.a) :: A.lit (Value.int IntKind.i64 x.b) :: A.lit (Value.int IntKind.i64 x.c) :: List.take ((l.length - i) * 3) (List.drop (i * 3) (cellsI l)))]) ∧
      (¬i = 0 → (i ≤ maxLen ∧ i * 24 ≤ 140737488355328) ∧ (i + 1 ≤ maxLen ∧ (i + 1) * 24 ≤ 140737488355328) ∧ i ≤ l.length ∧ min ((l.length - i) * 3) (l.length * 3 - i * 3) = (l.length - i) * 3 ∧ (i + 1 + (l.length - i) ≤ maxLen ∧ (i + 1 + (l.length - i)) * 24 ≤ 140737488355328) ∧
        RetQ 0 (A.sl (insD l x).length (cellsI (insD l x))) [] (Out.ret (A.row 1 (i + 1 + (l.length - i)))) [AObj.box [A.lit (Value.int IntKind.i64 x.a), A.lit (Value.int IntKind.i64 x.b), A.lit (Value.int IntKind.i64 x.c)],
          AObj.row false 39 3 (i + 1 + (l.length - i)) (List.take (i * 3) (cellsI l) ++ A.lit (Value.int IntKind.i64 x.a) :: A.lit (Value.int IntKind.i64 x.b) :: A.lit (Value.int IntKind.i64 x.c) :: List.take ((l.length - i) * 3) (List.drop (i * 3) (cellsI l)))]) := by
  have hcl : (insD l x).length = l.length + 1 := by rw [hins]; simp; omega
  have htd : List.take ((l.length - i) * 3) (List.drop (i * 3) (cellsI l)) = cellsI (l.drop i) := by rw [cellsI_dropW, List.take_of_length_le (by simp)]
  have hcc : cellsI (insD l x) = cellsI (l.take i) ++ (A.lit (Value.int IntKind.i64 x.a) :: A.lit (Value.int IntKind.i64 x.b) :: A.lit (Value.int IntKind.i64 x.c) :: cellsI (l.drop i)) := by rw [hins, cellsI_append]; rfl
  refine ⟨hi, by omega, fun h0 => ⟨by simp [maxLen], hi, by omega, ⟨by simp [maxLen]; omega, by omega⟩, ?_⟩, fun h0 => ⟨⟨by simp [maxLen]; omega, by omega⟩, ⟨by simp [maxLen]; omega, by omega⟩, hi, by omega, ⟨by simp [maxLen]; omega, by omega⟩, ?_⟩⟩
  · have e1 : 1 + (l.length - i) = l.length + 1 := by omega
    rw [htd, e1, hcc, hcl, h0]
    exact ret_end 1 (by simp)
  · have e1 : i + 1 + (l.length - i) = l.length + 1 := by omega
    rw [htd, e1, hcc, hcl, cellsI_take]
    exact ret_end 1 (by simp)
theorem insert_ok (l : List Id) (x : Id) (hl6 : l.length ≤ 1000000) : Ret Tryd.prog 30 [.sl l.length (cellsI l), .agg (encI x)] [] (.sl (insD l x).length (cellsI (insD l x))) [] := by
  refine ret_of_wp Tryd.func30 rfl c30 (rs := [.slot 4]) (by kernel_rfl) ?_
  unfold K30
  simp -implicitDefEqProofs [encI]
  refine loopS (S := Nat) (fun i => [(0, .sl l.length (cellsI l)), (3, .ptr 0 0), (5, int i)]) (fun s => [.box (encI x)]) (fun i => i ≤ posD l x) (fun i => l.length - i) 0 (by simp)
    (selW [0] 0 (by simp) (by simp) (by simp [encI]) (by simp)) ?_
  intro i hi
  obtain ⟨p1, p2⟩ := posD_step hi
  have hple := posD_le l x
  have hl : l.length ≤ maxLen := by simp [maxLen]; omega
  by_cases hgo : i < l.length ∧ lessD (l.getD i ⟨0, 0, 0⟩) x = true
  · obtain ⟨h, hls⟩ := hgo
    have hls' : lessD l[i] x = true := by simpa [List.getD_eq_getElem?_getD, h] using hls
    simp -implicitDefEqProofs [h, cellsI_drop h, encI]
    refine dcall0 (less_ok l[i] x) (by simp [encI]) (by simp) ?_
    simp -implicitDefEqProofs [hls']
    exact roundS (i + 1) (p1 ⟨h, hls⟩) (by omega) (selW [0] 0 (by simp) (by simp) (by simp [encI]) (by simp [wrap_succ h hl]))
  · have hip := p2 hgo
    have hins := insD_pos l x
    rw [← hip] at hins
    by_cases h : i < l.length
    · have hls' : lessD l[i] x = false := by
        have : ¬ lessD (l.getD i ⟨0, 0, 0⟩) x = true := fun e => hgo ⟨h, e⟩
        simpa [List.getD_eq_getElem?_getD, h] using this
      simp -implicitDefEqProofs [h, cellsI_drop h, encI]
      refine dcall0 (less_ok l[i] x) (by simp [encI]) (by simp) ?_
      simp -implicitDefEqProofs [hls', h, cellsI_drop h, encI]
      by_cases hx : l[i] = x
      · have h3 : l[i].a = x.a ∧ l[i].b = x.b ∧ l[i].c = x.c := Id.eq_iff.1 hx
        rw [if_pos (by rw [List.getElem?_eq_getElem h, hx])] at hins
        simp -implicitDefEqProofs [same3_id, hx]
        exact ret_end 0 (by simp [hins])
      · have h3 : ¬ (l[i].a = x.a ∧ l[i].b = x.b ∧ l[i].c = x.c) := fun e => hx (Id.eq_iff.2 e)
        rw [if_neg (by rw [List.getElem?_eq_getElem h]; simpa using hx)] at hins
        simp -implicitDefEqProofs [same3_id, hx]
        exact ins_end hl6 (by omega) hins
    · have hil : i = l.length := by omega
      rw [if_neg (by rw [hil]; simp)] at hins
      have hI : ¬ (i : Int) < l.length := by omega
      simp -implicitDefEqProofs [h, hI, encI]
      exact ins_end hl6 (by omega) hins

theorem all_fold {l : List Id} {acc : List Id} {i : Nat} (h : i < l.length) : (l.take (i + 1)).foldl insD acc = insD ((l.take i).foldl insD acc) l[i] := by
  rw [List.take_succ_eq_append_getElem h, List.foldl_append]; rfl
theorem all_len : ∀ (l acc : List Id), (l.foldl insD acc).length ≤ acc.length + l.length
  | [], acc => by simp
  | x :: l, acc => by
    have h1 := all_len l (insD acc x)
    have h2 := insD_len acc x
    simp only [List.foldl_cons, List.length_cons]
    omega
/-- What All makes of two lists. -/
def allD (a b : List Id) : List Id := b.foldl insD (a.foldl insD [])
theorem allR_ok (a b : List Id) (ha : a.length ≤ 1000) (hb : b.length ≤ 1000) : Ret Tryd.prog 16 [.sl a.length (cellsI a), .sl b.length (cellsI b)] [] (.sl (allD a b).length (cellsI (allD a b))) [] := by
  refine ret_of_wp Tryd.func16 rfl c16 (rs := [.slot 4]) (by kernel_rfl) ?_
  unfold K16
  simp -implicitDefEqProofs
  refine loopS (S := Nat) (fun i => [(0, .sl a.length (cellsI a)), (1, .sl b.length (cellsI b)), (5, .sl ((a.take i).foldl insD []).length (cellsI ((a.take i).foldl insD []))), (6, int i)]) (fun s => []) (fun i => i ≤ a.length) (fun i => a.length - i) 0 (by simp)
    (selW [] 0 (by simp) (by simp) (by simp) (by simp)) ?_
  intro i hi
  by_cases h : i < a.length
  · have hls := all_len (a.take i) []
    have htl : (a.take i).length = i := by simp; omega
    have hf := all_fold (acc := []) h
    generalize (a.take i).foldl insD [] = X at hls hf
    simp only [List.length_nil, Nat.zero_add] at hls
    simp -implicitDefEqProofs [h, cellsI_drop h]
    intro hl
    refine call0 (insert_ok X a[i] (by omega)) (by simp [encI]) (by simp) ?_
    simp -implicitDefEqProofs
    exact roundS (i + 1) h (by omega) (selW [] 0 (by simp) (by simp) (by simp) (by simp [wrap_succ h hl, hf]))
  · have : i = a.length := by omega
    subst this
    rw [List.take_length]
    have hls := all_len a []
    generalize hX : a.foldl insD [] = X at hls
    simp only [List.length_nil, Nat.zero_add] at hls
    simp -implicitDefEqProofs
    intro _
    refine loopS (S := Nat) (fun i => [(1, .sl b.length (cellsI b)), (5, .sl ((b.take i).foldl insD X).length (cellsI ((b.take i).foldl insD X))), (7, int i)]) (fun s => []) (fun i => i ≤ b.length) (fun i => b.length - i) 0 (by simp)
      (selW [] 0 (by simp) (by simp) (by simp) (by simp)) ?_
    intro i hi
    by_cases h : i < b.length
    · have hls2 := all_len (b.take i) X
      have htl : (b.take i).length = i := by simp; omega
      have hf := all_fold (acc := X) h
      generalize (b.take i).foldl insD X = Y at hls2 hf
      simp -implicitDefEqProofs [h, cellsI_drop h]
      intro hl
      refine call0 (insert_ok Y b[i] (by omega)) (by simp [encI]) (by simp) ?_
      simp -implicitDefEqProofs
      exact roundS (i + 1) h (by omega) (selW [] 0 (by simp) (by simp) (by simp) (by simp [wrap_succ h hl, hf]))
    · have : i = b.length := by omega
      subst this
      rw [List.take_length]
      simp -implicitDefEqProofs
      exact fun _ => ret_end 0 (by simp [allD, hX])

/-- A trace: its definitions and its nodes. -/
structure Trc where
  defs : List Id
  nodes : List Id
  deriving DecidableEq
def encTr (t : Trc) : List A := [.sl t.defs.length (cellsI t.defs), .sl t.nodes.length (cellsI t.nodes)]
theorem plain_ok (t : Trc) : Ret Tryd.prog 6 [.agg (encTr t)] [] (.agg (encTr t)) [] := by
  refine ret_of_wp Tryd.func6 rfl c6 (rs := [.cell 2 2 true]) (by kernel_rfl) ?_
  unfold K6
  simp -implicitDefEqProofs [encTr]
  exact ret_end 0 (by simp)
theorem same_ok (a b : Trc) : Ret Tryd.prog 5 [.agg (encTr a), .agg (encTr b)] [] (bl (decide (a = b))) [] := by
  refine ret_of_wp Tryd.func5 rfl c5 (rs := [.slot 4]) (by kernel_rfl) ?_
  unfold K5
  have hab : a = b ↔ a.defs = b.defs ∧ a.nodes = b.nodes := by cases a; cases b; simp
  simp -implicitDefEqProofs [encTr]
  refine call0 (sameIDs_ok a.defs b.defs) (by simp) (by simp) ?_
  by_cases h : a.defs = b.defs
  · simp -implicitDefEqProofs [h]
    refine call0 (sameIDs_ok a.nodes b.nodes) (by simp) (by simp) ?_
    simp -implicitDefEqProofs
    exact ret_end 0 (by simp [hab, h])
  · simp -implicitDefEqProofs [h]
    exact ret_end 0 (by simp [hab, h])
theorem refJoin_ok (a b : Trc) (h1 : a.defs.length ≤ 1000) (h2 : b.defs.length ≤ 1000) (h3 : a.nodes.length ≤ 1000) (h4 : b.nodes.length ≤ 1000) :
    Ret Tryd.prog 8 [.agg (encTr a), .agg (encTr b)] [] (.agg (encTr ⟨allD a.defs b.defs, allD a.nodes b.nodes⟩)) [] := by
  refine ret_of_wp Tryd.func8 rfl c8 (rs := [.cell 4 2 true]) (by kernel_rfl) ?_
  unfold K8
  simp -implicitDefEqProofs [encTr]
  refine dcall0 (allR_ok a.defs b.defs h1 h2) (by simp) (by simp) ?_
  simp -implicitDefEqProofs
  refine dcall0 (allR_ok a.nodes b.nodes h3 h4) (by simp) (by simp) ?_
  simp -implicitDefEqProofs
  exact ret_end 0 (by simp)
def asksD (t : Trc) (l : List Id) : Bool := l.any fun x => decide (x ∈ t.defs) || decide (x ∈ t.nodes)
theorem refAsks_ok (t : Trc) (l : List Id) : Ret Tryd.prog 10 [.agg (encTr t), .sl l.length (cellsI l)] [] (bl (asksD t l)) [] := by
  refine ret_of_wp Tryd.func10 rfl c10 (rs := [.slot 4]) (by kernel_rfl) ?_
  unfold K10
  simp -implicitDefEqProofs [encTr]
  refine loopS (S := Nat) (fun i => [(1, .sl l.length (cellsI l)), (2, .ptr 0 0), (5, int i)]) (fun s => [.box (encTr t)]) (fun i => i ≤ l.length ∧ asksD t (l.take i) = false) (fun i => l.length - i) 0 (by simp [asksD])
    (selW [0] 0 (by simp) (by simp) (by simp [encTr]) (by simp)) ?_
  rintro i ⟨hi, hn⟩
  by_cases h : i < l.length
  · have hst : asksD t (l.take (i + 1)) = (decide (l[i] ∈ t.defs) || decide (l[i] ∈ t.nodes)) := by
      rw [asksD, List.take_succ_eq_append_getElem h, List.any_append]
      rw [asksD] at hn
      simp [hn]
    have hyes : (decide (l[i] ∈ t.defs) || decide (l[i] ∈ t.nodes)) = true → asksD t l = true := fun hh => by
      rw [asksD, List.any_eq_true]
      exact ⟨l[i], List.getElem_mem h, hh⟩
    simp -implicitDefEqProofs [h, cellsI_drop h, encTr]
    intro hl
    refine dcall0 (has_ok t.defs l[i]) (by simp [encI]) (by simp) ?_
    by_cases h1 : l[i] ∈ t.defs
    · simp -implicitDefEqProofs [h1]
      exact ret_end 0 (by rw [hyes (by simp [h1])]; simp)
    · simp -implicitDefEqProofs [h1, h, cellsI_drop h]
      refine dcall0 (has_ok t.nodes l[i]) (by simp [encI]) (by simp) ?_
      by_cases h2 : l[i] ∈ t.nodes
      · simp -implicitDefEqProofs [h2]
        exact ret_end 0 (by rw [hyes (by simp [h2])]; simp)
      · simp -implicitDefEqProofs [h2]
        exact roundS (i + 1) ⟨h, by rw [hst]; simp [h1, h2]⟩ (by omega) (selW [0] 0 (by simp) (by simp) (by simp [encTr]) (by simp [wrap_succ h hl]))
  · have : i = l.length := by omega
    subst this
    rw [List.take_length] at hn
    simp -implicitDefEqProofs
    exact fun _ => ret_end 0 (by simp [hn])
end Go.Proofs.YthglhccibdlccaaDoor
