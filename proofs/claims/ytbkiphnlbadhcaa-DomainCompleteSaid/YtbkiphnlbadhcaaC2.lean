/-
  Comparing and weighing values and inputs, in the program and in the reference.
-/
import Derived.Test.YtbkiphnlbadhcaaC1
namespace Go.Proofs.Ytbkiphnlbadhcaa
open Go.Abs

-- splicery/value.Compare · results ["4"]
def K25 : K :=
 K.seq (K.ops [⟨none, .box (some 2) (.tmp 0)⟩,
 ⟨none, .box (some 3) (.tmp 1)⟩,
 ⟨none, .mov (some 4) (.const (.int .i64 0))⟩])
 (K.seq (K.seq (K.dops [(0, 0, ⟨none, .addr (some 6) (.tmp 2) 0⟩),
 (1, 0, ⟨none, .ld (some 7) (.tmp 6) 1 false⟩),
 (2, 0, ⟨none, .addr (some 8) (.tmp 3) 0⟩),
 (3, 0, ⟨none, .ld (some 9) (.tmp 8) 1 false⟩),
 (4, 0, ⟨none, .call (some 10) (.func 36) [(.tmp 7), (.tmp 9)]⟩),
 (5, 0, ⟨none, .addr (some 11) (.tmp 2) 1⟩),
 (6, 0, ⟨none, .ld (some 12) (.tmp 11) 1 false⟩),
 (7, 0, ⟨none, .addr (some 13) (.tmp 3) 1⟩),
 (8, 0, ⟨none, .ld (some 14) (.tmp 13) 1 false⟩),
 (9, 0, ⟨none, .call (some 15) (.func 36) [(.tmp 12), (.tmp 14)]⟩),
 (10, 0, ⟨none, .addr (some 16) (.tmp 2) 2⟩),
 (11, 0, ⟨none, .ld (some 17) (.tmp 16) 1 false⟩),
 (12, 0, ⟨none, .len (some 18) false (.tmp 17)⟩),
 (13, 0, ⟨none, .addr (some 19) (.tmp 3) 2⟩),
 (14, 0, ⟨none, .ld (some 20) (.tmp 19) 1 false⟩),
 (15, 0, ⟨none, .len (some 21) false (.tmp 20)⟩),
 (16, 0, ⟨none, .call (some 22) (.func 36) [(.tmp 18), (.tmp 21)]⟩),
 (17, 0, ⟨none, .bslice (some 23) 3 1 3 [(.int .i64 0), (.int .i64 0), (.int .i64 0)] [(0, 1, (.tmp 10)), (1, 1, (.tmp 15)), (2, 1, (.tmp 22))]⟩),
 (18, 0, ⟨none, .call (some 24) (.func 35) [(.tmp 23)]⟩),
 (19, 0, ⟨none, .mov (some 5) (.tmp 24)⟩)])
 (K.seq (K.ops [⟨none, .mov (some 25) (.tmp 5)⟩,
 ⟨none, .eqv (some 26) true .i (.tmp 25) (.const (.int .i64 0))⟩])
 (K.cond (.tmp 26)
 (K.seq (K.ops [⟨none, .mov (some 27) (.tmp 5)⟩,
 ⟨none, .mov (some 4) (.tmp 27)⟩])
 (K.ret))
 (K.skip))))
 (K.seq (K.ops [⟨none, .addr (some 28) (.tmp 2) 2⟩,
 ⟨none, .ld (some 29) (.tmp 28) 1 false⟩,
 ⟨none, .addr (some 30) (.tmp 3) 2⟩,
 ⟨none, .ld (some 31) (.tmp 30) 1 false⟩,
 ⟨none, .call (some 32) (.func 52) [(.tmp 29), (.tmp 31), (.func 25)]⟩,
 ⟨none, .mov (some 4) (.tmp 32)⟩])
 (K.ret)))
theorem c25 : compile Try.prog Try.f25.ntmps (Try.f25.body.getD .skip) = some K25.erase := by kernel_rfl
@[simp] theorem cal25 : callable Try.prog 25 = true := by kernel_rfl

-- slices.CompareFunc[[]splicery/api.Value,[]splicery/api.Value,splicery/api.Value,splicery/api.Value] · results ["6"]
def K52 : K :=
 K.seq (K.ops [⟨none, .mov (some 6) (.const (.int .i64 0))⟩])
 (K.seq (K.seq (K.ops [⟨none, .mov (some 11) (.tmp 0)⟩,
 ⟨none, .len (some 12) false (.tmp 11)⟩,
 ⟨none, .mov (some 13) (.const (.int .i64 0))⟩])
 (K.block 0 (K.loop (K.seq (K.ops [⟨none, .bin (some 14) .lss (.tmp 13) (.tmp 12)⟩])
 (K.seq (K.cond (.tmp 14)
 (K.skip)
 (K.exit 0))
 (K.seq (K.block 1 (K.seq (K.ops [⟨none, .mov (some 15) (.tmp 13)⟩,
 ⟨none, .idx (some 16) (.tmp 11) (.tmp 13) 3⟩,
 ⟨none, .ld (some 17) (.tmp 16) 3 true⟩,
 ⟨none, .alloc (some 8) [(.int .i64 0), (.int .i64 0), (.slice none 0 0)]⟩,
 ⟨none, .mov (some 7) (.tmp 15)⟩,
 ⟨none, .st none (.tmp 8) (.tmp 17) 3⟩])
 (K.seq (K.seq (K.ops [⟨none, .mov (some 18) (.tmp 7)⟩,
 ⟨none, .mov (some 19) (.tmp 1)⟩,
 ⟨none, .len (some 20) false (.tmp 19)⟩,
 ⟨none, .bin (some 21) .geq (.tmp 18) (.tmp 20)⟩])
 (K.cond (.tmp 21)
 (K.seq (K.ops [⟨none, .mov (some 6) (.const (.int .i64 1))⟩])
 (K.ret))
 (K.skip)))
 (K.seq (K.ops [⟨none, .mov (some 22) (.tmp 1)⟩,
 ⟨none, .mov (some 23) (.tmp 7)⟩,
 ⟨none, .idx (some 24) (.tmp 22) (.tmp 23) 3⟩,
 ⟨none, .ld (some 25) (.tmp 24) 3 true⟩,
 ⟨none, .alloc (some 9) [(.int .i64 0), (.int .i64 0), (.slice none 0 0)]⟩,
 ⟨none, .st none (.tmp 9) (.tmp 25) 3⟩])
 (K.seq (K.ops [⟨none, .mov (some 26) (.tmp 2)⟩,
 ⟨none, .ld (some 27) (.tmp 8) 3 true⟩,
 ⟨none, .ld (some 28) (.tmp 9) 3 true⟩,
 ⟨none, .call (some 29) (.tmp 26) [(.tmp 27), (.tmp 28)]⟩,
 ⟨none, .mov (some 10) (.tmp 29)⟩])
 (K.seq (K.ops [⟨none, .mov (some 30) (.tmp 10)⟩,
 ⟨none, .eqv (some 31) true .i (.tmp 30) (.const (.int .i64 0))⟩])
 (K.cond (.tmp 31)
 (K.seq (K.ops [⟨none, .mov (some 32) (.tmp 10)⟩,
 ⟨none, .mov (some 6) (.tmp 32)⟩])
 (K.ret))
 (K.skip))))))))
 (K.ops [⟨none, .bin (some 33) .add (.tmp 13) (.const (.int .i64 1))⟩,
 ⟨none, .mov (some 13) (.tmp 33)⟩])))))))
 (K.seq (K.seq (K.ops [⟨none, .mov (some 34) (.tmp 0)⟩,
 ⟨none, .len (some 35) false (.tmp 34)⟩,
 ⟨none, .mov (some 36) (.tmp 1)⟩,
 ⟨none, .len (some 37) false (.tmp 36)⟩,
 ⟨none, .bin (some 38) .lss (.tmp 35) (.tmp 37)⟩])
 (K.cond (.tmp 38)
 (K.seq (K.ops [⟨none, .mov (some 6) (.const (.int .i64 (-1)))⟩])
 (K.ret))
 (K.skip)))
 (K.seq (K.ops [⟨none, .mov (some 6) (.const (.int .i64 0))⟩])
 (K.ret))))
theorem c52 : compile Try.prog Try.f52.ntmps (Try.f52.body.getD .skip) = some K52.erase := by kernel_rfl
@[simp] theorem cal52 : callable Try.prog 52 = true := by kernel_rfl

-- splicery/spliceryref04.Compare · results ["4"]
def K40 : K :=
 K.seq (K.ops [⟨none, .box (some 2) (.tmp 0)⟩,
 ⟨none, .box (some 3) (.tmp 1)⟩,
 ⟨none, .mov (some 4) (.const (.int .i64 0))⟩])
 (K.seq (K.ops [⟨none, .addr (some 10) (.tmp 2) 0⟩,
 ⟨none, .ld (some 11) (.tmp 10) 1 false⟩,
 ⟨none, .addr (some 12) (.tmp 2) 1⟩,
 ⟨none, .ld (some 13) (.tmp 12) 1 false⟩,
 ⟨none, .addr (some 14) (.tmp 2) 2⟩,
 ⟨none, .ld (some 15) (.tmp 14) 1 false⟩,
 ⟨none, .len (some 16) false (.tmp 15)⟩,
 ⟨none, .bslice (some 17) 3 1 3 [(.int .i64 0), (.int .i64 0), (.int .i64 0)] [(0, 1, (.tmp 11)), (1, 1, (.tmp 13)), (2, 1, (.tmp 16))]⟩,
 ⟨none, .mov (some 5) (.tmp 17)⟩])
 (K.seq (K.ops [⟨none, .addr (some 18) (.tmp 3) 0⟩,
 ⟨none, .ld (some 19) (.tmp 18) 1 false⟩,
 ⟨none, .addr (some 20) (.tmp 3) 1⟩,
 ⟨none, .ld (some 21) (.tmp 20) 1 false⟩,
 ⟨none, .addr (some 22) (.tmp 3) 2⟩,
 ⟨none, .ld (some 23) (.tmp 22) 1 false⟩,
 ⟨none, .len (some 24) false (.tmp 23)⟩,
 ⟨none, .bslice (some 25) 3 1 3 [(.int .i64 0), (.int .i64 0), (.int .i64 0)] [(0, 1, (.tmp 19)), (1, 1, (.tmp 21)), (2, 1, (.tmp 24))]⟩,
 ⟨none, .mov (some 6) (.tmp 25)⟩])
 (K.seq (K.seq (K.ops [⟨none, .mov (some 7) (.const (.int .i64 0))⟩])
 (K.block 0 (K.loop (K.seq (K.seq (K.ops [⟨none, .mov (some 26) (.tmp 7)⟩,
 ⟨none, .bin (some 27) .lss (.tmp 26) (.const (.int .i64 3))⟩])
 (K.cond (.tmp 27)
 (K.skip)
 (K.exit 0)))
 (K.seq (K.block 1 (K.seq (K.seq (K.dops [(0, 0, ⟨none, .mov (some 30) (.tmp 5)⟩),
 (1, 0, ⟨none, .mov (some 31) (.tmp 7)⟩),
 (2, 0, ⟨none, .idx (some 32) (.tmp 30) (.tmp 31) 1⟩),
 (3, 0, ⟨none, .ld (some 33) (.tmp 32) 1 false⟩),
 (4, 0, ⟨none, .mov (some 34) (.tmp 6)⟩),
 (5, 0, ⟨none, .mov (some 35) (.tmp 7)⟩),
 (6, 0, ⟨none, .idx (some 36) (.tmp 34) (.tmp 35) 1⟩),
 (7, 0, ⟨none, .ld (some 37) (.tmp 36) 1 false⟩),
 (8, 0, ⟨none, .bin (some 38) .lss (.tmp 33) (.tmp 37)⟩)])
 (K.cond (.tmp 38)
 (K.seq (K.ops [⟨none, .mov (some 4) (.const (.int .i64 (-1)))⟩])
 (K.ret))
 (K.skip)))
 (K.seq (K.dops [(0, 0, ⟨none, .mov (some 39) (.tmp 5)⟩),
 (1, 0, ⟨none, .mov (some 40) (.tmp 7)⟩),
 (2, 0, ⟨none, .idx (some 41) (.tmp 39) (.tmp 40) 1⟩),
 (3, 0, ⟨none, .ld (some 42) (.tmp 41) 1 false⟩),
 (4, 0, ⟨none, .mov (some 43) (.tmp 6)⟩),
 (5, 0, ⟨none, .mov (some 44) (.tmp 7)⟩),
 (6, 0, ⟨none, .idx (some 45) (.tmp 43) (.tmp 44) 1⟩),
 (7, 0, ⟨none, .ld (some 46) (.tmp 45) 1 false⟩),
 (8, 0, ⟨none, .bin (some 47) .gtr (.tmp 42) (.tmp 46)⟩)])
 (K.cond (.tmp 47)
 (K.seq (K.ops [⟨none, .mov (some 4) (.const (.int .i64 1))⟩])
 (K.ret))
 (K.skip)))))
 (K.ops [⟨none, .mov (some 28) (.tmp 7)⟩,
 ⟨none, .bin (some 29) .add (.tmp 28) (.const (.int .i64 1))⟩,
 ⟨none, .mov (some 7) (.tmp 29)⟩]))))))
 (K.seq (K.seq (K.ops [⟨none, .mov (some 8) (.const (.int .i64 0))⟩])
 (K.block 2 (K.loop (K.seq (K.seq (K.ops [⟨none, .mov (some 48) (.tmp 8)⟩,
 ⟨none, .addr (some 49) (.tmp 2) 2⟩,
 ⟨none, .ld (some 50) (.tmp 49) 1 false⟩,
 ⟨none, .len (some 51) false (.tmp 50)⟩,
 ⟨none, .bin (some 52) .lss (.tmp 48) (.tmp 51)⟩])
 (K.cond (.tmp 52)
 (K.skip)
 (K.exit 2)))
 (K.seq (K.block 3 (K.seq (K.dops [(0, 0, ⟨none, .addr (some 55) (.tmp 2) 2⟩),
 (1, 0, ⟨none, .ld (some 56) (.tmp 55) 1 false⟩),
 (2, 0, ⟨none, .mov (some 57) (.tmp 8)⟩),
 (3, 0, ⟨none, .idx (some 58) (.tmp 56) (.tmp 57) 3⟩),
 (4, 0, ⟨none, .ld (some 59) (.tmp 58) 3 true⟩),
 (5, 0, ⟨none, .addr (some 60) (.tmp 3) 2⟩),
 (6, 0, ⟨none, .ld (some 61) (.tmp 60) 1 false⟩),
 (7, 0, ⟨none, .mov (some 62) (.tmp 8)⟩),
 (8, 0, ⟨none, .idx (some 63) (.tmp 61) (.tmp 62) 3⟩),
 (9, 0, ⟨none, .ld (some 64) (.tmp 63) 3 true⟩),
 (10, 0, ⟨none, .call (some 65) (.func 40) [(.tmp 59), (.tmp 64)]⟩),
 (11, 0, ⟨none, .mov (some 9) (.tmp 65)⟩)])
 (K.seq (K.ops [⟨none, .mov (some 66) (.tmp 9)⟩,
 ⟨none, .eqv (some 67) true .i (.tmp 66) (.const (.int .i64 0))⟩])
 (K.cond (.tmp 67)
 (K.seq (K.ops [⟨none, .mov (some 68) (.tmp 9)⟩,
 ⟨none, .mov (some 4) (.tmp 68)⟩])
 (K.ret))
 (K.skip)))))
 (K.ops [⟨none, .mov (some 53) (.tmp 8)⟩,
 ⟨none, .bin (some 54) .add (.tmp 53) (.const (.int .i64 1))⟩,
 ⟨none, .mov (some 8) (.tmp 54)⟩]))))))
 (K.seq (K.ops [⟨none, .mov (some 4) (.const (.int .i64 0))⟩])
 (K.ret))))))
theorem c40 : compile Try.prog Try.f40.ntmps (Try.f40.body.getD .skip) = some K40.erase := by kernel_rfl
@[simp] theorem cal40 : callable Try.prog 40 = true := by kernel_rfl

-- splicery/spliceryref04.Weight · results ["2"]
def K50 : K :=
 K.seq (K.ops [⟨none, .box (some 1) (.tmp 0)⟩,
 ⟨none, .mov (some 2) (.const (.int .i64 0))⟩])
 (K.seq (K.ops [⟨none, .mov (some 3) (.const (.int .i64 0))⟩])
 (K.seq (K.seq (K.ops [⟨none, .mov (some 4) (.const (.int .i64 0))⟩])
 (K.block 0 (K.loop (K.seq (K.seq (K.ops [⟨none, .mov (some 5) (.tmp 4)⟩,
 ⟨none, .addr (some 6) (.tmp 1) 2⟩,
 ⟨none, .ld (some 7) (.tmp 6) 1 false⟩,
 ⟨none, .len (some 8) false (.tmp 7)⟩,
 ⟨none, .bin (some 9) .lss (.tmp 5) (.tmp 8)⟩])
 (K.cond (.tmp 9)
 (K.skip)
 (K.exit 0)))
 (K.seq (K.block 1 (K.ops [⟨none, .mov (some 12) (.tmp 3)⟩,
 ⟨none, .addr (some 13) (.tmp 1) 2⟩,
 ⟨none, .ld (some 14) (.tmp 13) 1 false⟩,
 ⟨none, .mov (some 15) (.tmp 4)⟩,
 ⟨none, .idx (some 16) (.tmp 14) (.tmp 15) 3⟩,
 ⟨none, .ld (some 17) (.tmp 16) 3 true⟩,
 ⟨none, .call (some 18) (.func 50) [(.tmp 17)]⟩,
 ⟨none, .bin (some 19) .add (.tmp 12) (.tmp 18)⟩,
 ⟨none, .mov (some 3) (.tmp 19)⟩]))
 (K.ops [⟨none, .mov (some 10) (.tmp 4)⟩,
 ⟨none, .bin (some 11) .add (.tmp 10) (.const (.int .i64 1))⟩,
 ⟨none, .mov (some 4) (.tmp 11)⟩]))))))
 (K.seq (K.seq (K.ops [⟨none, .addr (some 20) (.tmp 1) 0⟩,
 ⟨none, .ld (some 21) (.tmp 20) 1 false⟩,
 ⟨none, .eqv (some 22) false .i (.tmp 21) (.const (.int .i64 0))⟩])
 (K.cond (.tmp 22)
 (K.seq (K.seq (K.ops [⟨none, .addr (some 23) (.tmp 1) 1⟩,
 ⟨none, .ld (some 24) (.tmp 23) 1 false⟩,
 ⟨none, .bin (some 25) .lss (.tmp 24) (.const (.int .i64 0))⟩])
 (K.cond (.tmp 25)
 (K.seq (K.ops [⟨none, .addr (some 26) (.tmp 1) 1⟩,
 ⟨none, .ld (some 27) (.tmp 26) 1 false⟩,
 ⟨none, .neg (some 28) (.tmp 27)⟩,
 ⟨none, .mov (some 2) (.tmp 28)⟩])
 (K.ret))
 (K.skip)))
 (K.seq (K.ops [⟨none, .addr (some 29) (.tmp 1) 1⟩,
 ⟨none, .ld (some 30) (.tmp 29) 1 false⟩,
 ⟨none, .mov (some 2) (.tmp 30)⟩])
 (K.ret)))
 (K.skip)))
 (K.seq (K.seq (K.ops [⟨none, .addr (some 31) (.tmp 1) 0⟩,
 ⟨none, .ld (some 32) (.tmp 31) 1 false⟩,
 ⟨none, .eqv (some 33) false .i (.tmp 32) (.const (.int .i64 1))⟩])
 (K.cond (.tmp 33)
 (K.seq (K.ops [⟨none, .addr (some 34) (.tmp 1) 1⟩,
 ⟨none, .ld (some 35) (.tmp 34) 1 false⟩,
 ⟨none, .mov (some 2) (.tmp 35)⟩])
 (K.ret))
 (K.skip)))
 (K.seq (K.seq (K.ops [⟨none, .addr (some 36) (.tmp 1) 0⟩,
 ⟨none, .ld (some 37) (.tmp 36) 1 false⟩,
 ⟨none, .eqv (some 38) false .i (.tmp 37) (.const (.int .i64 2))⟩])
 (K.cond (.tmp 38)
 (K.seq (K.ops [⟨none, .mov (some 39) (.tmp 3)⟩,
 ⟨none, .mov (some 2) (.tmp 39)⟩])
 (K.ret))
 (K.skip)))
 (K.seq (K.seq (K.ops [⟨none, .addr (some 40) (.tmp 1) 0⟩,
 ⟨none, .ld (some 41) (.tmp 40) 1 false⟩,
 ⟨none, .eqv (some 42) false .i (.tmp 41) (.const (.int .i64 3))⟩])
 (K.cond (.tmp 42)
 (K.seq (K.ops [⟨none, .addr (some 43) (.tmp 1) 1⟩,
 ⟨none, .ld (some 44) (.tmp 43) 1 false⟩,
 ⟨none, .mov (some 45) (.tmp 3)⟩,
 ⟨none, .bin (some 46) .add (.tmp 44) (.tmp 45)⟩,
 ⟨none, .mov (some 2) (.tmp 46)⟩])
 (K.ret))
 (K.skip)))
 (K.seq (K.seq (K.ops [⟨none, .addr (some 47) (.tmp 1) 0⟩,
 ⟨none, .ld (some 48) (.tmp 47) 1 false⟩,
 ⟨none, .eqv (some 49) false .i (.tmp 48) (.const (.int .i64 4))⟩])
 (K.cond (.tmp 49)
 (K.seq (K.ops [⟨none, .addr (some 50) (.tmp 1) 2⟩,
 ⟨none, .ld (some 51) (.tmp 50) 1 false⟩,
 ⟨none, .len (some 52) false (.tmp 51)⟩,
 ⟨none, .mov (some 53) (.tmp 3)⟩,
 ⟨none, .bin (some 54) .add (.tmp 52) (.tmp 53)⟩,
 ⟨none, .mov (some 2) (.tmp 54)⟩])
 (K.ret))
 (K.skip)))
 (K.seq (K.ops [⟨none, .mov (some 2) (.const (.int .i64 0))⟩])
 (K.ret)))))))))
theorem c50 : compile Try.prog Try.f50.ntmps (Try.f50.body.getD .skip) = some K50.erase := by kernel_rfl
@[simp] theorem cal50 : callable Try.prog 50 = true := by kernel_rfl

-- splicery/domain.order$1 · results ["2"]
def K75 : K :=
 K.seq (K.ops [⟨none, .mov (some 2) (.const (.int .i64 0))⟩])
 (K.seq (K.ops [⟨none, .mov (some 3) (.const (.int .i64 0))⟩])
 (K.seq (K.seq (K.ops [⟨none, .mov (some 6) (.tmp 0)⟩,
 ⟨none, .len (some 7) false (.tmp 6)⟩,
 ⟨none, .mov (some 8) (.const (.int .i64 0))⟩])
 (K.block 0 (K.loop (K.seq (K.ops [⟨none, .bin (some 9) .lss (.tmp 8) (.tmp 7)⟩])
 (K.seq (K.cond (.tmp 9)
 (K.skip)
 (K.exit 0))
 (K.seq (K.block 1 (K.seq (K.ops [⟨none, .idx (some 10) (.tmp 6) (.tmp 8) 3⟩,
 ⟨none, .ld (some 11) (.tmp 10) 3 true⟩,
 ⟨none, .alloc (some 5) [(.int .i64 0), (.int .i64 0), (.slice none 0 0)]⟩,
 ⟨none, .st none (.tmp 5) (.tmp 11) 3⟩])
 (K.ops [⟨none, .mov (some 12) (.tmp 3)⟩,
 ⟨none, .ld (some 13) (.tmp 5) 3 true⟩,
 ⟨none, .call (some 14) (.func 30) [(.tmp 13)]⟩,
 ⟨none, .bin (some 15) .add (.tmp 12) (.tmp 14)⟩,
 ⟨none, .mov (some 3) (.tmp 15)⟩])))
 (K.ops [⟨none, .bin (some 16) .add (.tmp 8) (.const (.int .i64 1))⟩,
 ⟨none, .mov (some 8) (.tmp 16)⟩])))))))
 (K.seq (K.ops [⟨none, .mov (some 17) (.tmp 3)⟩,
 ⟨none, .mov (some 2) (.tmp 17)⟩])
 (K.ret))))
theorem c75 : compile Try.prog Try.f75.ntmps (Try.f75.body.getD .skip) = some K75.erase := by kernel_rfl
@[simp] theorem cal75 : callable Try.prog 75 = true := by kernel_rfl

-- splicery/domain.order · results ["4"]
def K48 : K :=
 K.seq (K.ops [⟨none, .mov (some 4) (.const (.int .i64 0))⟩])
 (K.seq (K.ops [⟨none, .mov (some 5) (.func 75)⟩])
 (K.seq (K.ops [⟨none, .mov (some 6) (.tmp 5)⟩,
 ⟨none, .mov (some 7) (.tmp 0)⟩,
 ⟨none, .call (some 8) (.tmp 6) [(.tmp 7)]⟩,
 ⟨none, .mov (some 9) (.tmp 5)⟩,
 ⟨none, .mov (some 10) (.tmp 1)⟩,
 ⟨none, .call (some 11) (.tmp 9) [(.tmp 10)]⟩,
 ⟨none, .call (some 12) (.func 36) [(.tmp 8), (.tmp 11)]⟩,
 ⟨none, .mov (some 13) (.tmp 0)⟩,
 ⟨none, .mov (some 14) (.tmp 1)⟩,
 ⟨none, .call (some 15) (.func 52) [(.tmp 13), (.tmp 14), (.func 25)]⟩,
 ⟨none, .bslice (some 16) 3 1 2 [(.int .i64 0), (.int .i64 0)] [(0, 1, (.tmp 12)), (1, 1, (.tmp 15))]⟩,
 ⟨none, .call (some 17) (.func 35) [(.tmp 16)]⟩,
 ⟨none, .mov (some 4) (.tmp 17)⟩])
 (K.ret)))
theorem c48 : compile Try.prog Try.f48.ntmps (Try.f48.body.getD .skip) = some K48.erase := by kernel_rfl
@[simp] theorem cal48 : callable Try.prog 48 = true := by kernel_rfl

-- splicery/spliceryref13.Order · results ["4"]
def K22 : K :=
 K.seq (K.ops [⟨none, .mov (some 4) (.const (.int .i64 0))⟩])
 (K.seq (K.ops [⟨none, .mov (some 5) (.const (.int .i64 0))⟩])
 (K.seq (K.seq (K.ops [⟨none, .mov (some 6) (.const (.int .i64 0))⟩])
 (K.block 0 (K.loop (K.seq (K.seq (K.ops [⟨none, .mov (some 11) (.tmp 6)⟩,
 ⟨none, .mov (some 12) (.tmp 0)⟩,
 ⟨none, .len (some 13) false (.tmp 12)⟩,
 ⟨none, .bin (some 14) .lss (.tmp 11) (.tmp 13)⟩])
 (K.cond (.tmp 14)
 (K.skip)
 (K.exit 0)))
 (K.seq (K.block 1 (K.ops [⟨none, .mov (some 17) (.tmp 5)⟩,
 ⟨none, .mov (some 18) (.tmp 0)⟩,
 ⟨none, .mov (some 19) (.tmp 6)⟩,
 ⟨none, .idx (some 20) (.tmp 18) (.tmp 19) 3⟩,
 ⟨none, .ld (some 21) (.tmp 20) 3 true⟩,
 ⟨none, .call (some 22) (.func 50) [(.tmp 21)]⟩,
 ⟨none, .bin (some 23) .add (.tmp 17) (.tmp 22)⟩,
 ⟨none, .mov (some 5) (.tmp 23)⟩]))
 (K.ops [⟨none, .mov (some 15) (.tmp 6)⟩,
 ⟨none, .bin (some 16) .add (.tmp 15) (.const (.int .i64 1))⟩,
 ⟨none, .mov (some 6) (.tmp 16)⟩]))))))
 (K.seq (K.ops [⟨none, .mov (some 7) (.const (.int .i64 0))⟩])
 (K.seq (K.seq (K.ops [⟨none, .mov (some 8) (.const (.int .i64 0))⟩])
 (K.block 2 (K.loop (K.seq (K.seq (K.ops [⟨none, .mov (some 24) (.tmp 8)⟩,
 ⟨none, .mov (some 25) (.tmp 1)⟩,
 ⟨none, .len (some 26) false (.tmp 25)⟩,
 ⟨none, .bin (some 27) .lss (.tmp 24) (.tmp 26)⟩])
 (K.cond (.tmp 27)
 (K.skip)
 (K.exit 2)))
 (K.seq (K.block 3 (K.ops [⟨none, .mov (some 30) (.tmp 7)⟩,
 ⟨none, .mov (some 31) (.tmp 1)⟩,
 ⟨none, .mov (some 32) (.tmp 8)⟩,
 ⟨none, .idx (some 33) (.tmp 31) (.tmp 32) 3⟩,
 ⟨none, .ld (some 34) (.tmp 33) 3 true⟩,
 ⟨none, .call (some 35) (.func 50) [(.tmp 34)]⟩,
 ⟨none, .bin (some 36) .add (.tmp 30) (.tmp 35)⟩,
 ⟨none, .mov (some 7) (.tmp 36)⟩]))
 (K.ops [⟨none, .mov (some 28) (.tmp 8)⟩,
 ⟨none, .bin (some 29) .add (.tmp 28) (.const (.int .i64 1))⟩,
 ⟨none, .mov (some 8) (.tmp 29)⟩]))))))
 (K.seq (K.seq (K.ops [⟨none, .mov (some 37) (.tmp 5)⟩,
 ⟨none, .mov (some 38) (.tmp 7)⟩,
 ⟨none, .eqv (some 39) true .i (.tmp 37) (.tmp 38)⟩])
 (K.cond (.tmp 39)
 (K.seq (K.seq (K.ops [⟨none, .mov (some 40) (.tmp 5)⟩,
 ⟨none, .mov (some 41) (.tmp 7)⟩,
 ⟨none, .bin (some 42) .lss (.tmp 40) (.tmp 41)⟩])
 (K.cond (.tmp 42)
 (K.seq (K.ops [⟨none, .mov (some 4) (.const (.int .i64 (-1)))⟩])
 (K.ret))
 (K.skip)))
 (K.seq (K.ops [⟨none, .mov (some 4) (.const (.int .i64 1))⟩])
 (K.ret)))
 (K.skip)))
 (K.seq (K.seq (K.ops [⟨none, .mov (some 9) (.const (.int .i64 0))⟩])
 (K.block 4 (K.loop (K.seq (K.seq (K.ops [⟨none, .mov (some 43) (.tmp 9)⟩,
 ⟨none, .mov (some 44) (.tmp 0)⟩,
 ⟨none, .len (some 45) false (.tmp 44)⟩,
 ⟨none, .bin (some 46) .lss (.tmp 43) (.tmp 45)⟩,
 ⟨none, .mov (some 47) (.tmp 46)⟩,
 ⟨some (47, true), .mov (some 48) (.tmp 9)⟩,
 ⟨some (47, true), .mov (some 49) (.tmp 1)⟩,
 ⟨some (47, true), .len (some 50) false (.tmp 49)⟩,
 ⟨some (47, true), .bin (some 51) .lss (.tmp 48) (.tmp 50)⟩,
 ⟨none, .pick (some 52) (.tmp 47) (.tmp 51) (.const (.bool false))⟩])
 (K.cond (.tmp 52)
 (K.skip)
 (K.exit 4)))
 (K.seq (K.block 5 (K.seq (K.dops [(0, 0, ⟨none, .mov (some 55) (.tmp 0)⟩),
 (1, 0, ⟨none, .mov (some 56) (.tmp 9)⟩),
 (2, 0, ⟨none, .idx (some 57) (.tmp 55) (.tmp 56) 3⟩),
 (3, 0, ⟨none, .ld (some 58) (.tmp 57) 3 true⟩),
 (4, 0, ⟨none, .mov (some 59) (.tmp 1)⟩),
 (5, 0, ⟨none, .mov (some 60) (.tmp 9)⟩),
 (6, 0, ⟨none, .idx (some 61) (.tmp 59) (.tmp 60) 3⟩),
 (7, 0, ⟨none, .ld (some 62) (.tmp 61) 3 true⟩),
 (8, 0, ⟨none, .call (some 63) (.func 40) [(.tmp 58), (.tmp 62)]⟩),
 (9, 0, ⟨none, .mov (some 10) (.tmp 63)⟩)])
 (K.seq (K.ops [⟨none, .mov (some 64) (.tmp 10)⟩,
 ⟨none, .eqv (some 65) true .i (.tmp 64) (.const (.int .i64 0))⟩])
 (K.cond (.tmp 65)
 (K.seq (K.ops [⟨none, .mov (some 66) (.tmp 10)⟩,
 ⟨none, .mov (some 4) (.tmp 66)⟩])
 (K.ret))
 (K.skip)))))
 (K.ops [⟨none, .mov (some 53) (.tmp 9)⟩,
 ⟨none, .bin (some 54) .add (.tmp 53) (.const (.int .i64 1))⟩,
 ⟨none, .mov (some 9) (.tmp 54)⟩]))))))
 (K.seq (K.seq (K.ops [⟨none, .mov (some 67) (.tmp 0)⟩,
 ⟨none, .len (some 68) false (.tmp 67)⟩,
 ⟨none, .mov (some 69) (.tmp 1)⟩,
 ⟨none, .len (some 70) false (.tmp 69)⟩,
 ⟨none, .bin (some 71) .lss (.tmp 68) (.tmp 70)⟩])
 (K.cond (.tmp 71)
 (K.seq (K.ops [⟨none, .mov (some 4) (.const (.int .i64 (-1)))⟩])
 (K.ret))
 (K.skip)))
 (K.seq (K.seq (K.ops [⟨none, .mov (some 72) (.tmp 0)⟩,
 ⟨none, .len (some 73) false (.tmp 72)⟩,
 ⟨none, .mov (some 74) (.tmp 1)⟩,
 ⟨none, .len (some 75) false (.tmp 74)⟩,
 ⟨none, .bin (some 76) .gtr (.tmp 73) (.tmp 75)⟩])
 (K.cond (.tmp 76)
 (K.seq (K.ops [⟨none, .mov (some 4) (.const (.int .i64 1))⟩])
 (K.ret))
 (K.skip)))
 (K.seq (K.ops [⟨none, .mov (some 4) (.const (.int .i64 0))⟩])
 (K.ret))))))))))
theorem c22 : compile Try.prog Try.f22.ntmps (Try.f22.body.getD .skip) = some K22.erase := by kernel_rfl
@[simp] theorem cal22 : callable Try.prog 22 = true := by kernel_rfl

-- splicery/domain.Before · results ["4"]
def K21 : K :=
 K.seq (K.ops [⟨none, .mov (some 4) (.const (.bool false))⟩])
 (K.seq (K.ops [⟨none, .mov (some 5) (.tmp 0)⟩,
 ⟨none, .mov (some 6) (.tmp 1)⟩,
 ⟨none, .call (some 7) (.func 48) [(.tmp 5), (.tmp 6)]⟩,
 ⟨none, .bin (some 8) .lss (.tmp 7) (.const (.int .i64 0))⟩,
 ⟨none, .mov (some 4) (.tmp 8)⟩])
 (K.ret))
theorem c21 : compile Try.prog Try.f21.ntmps (Try.f21.body.getD .skip) = some K21.erase := by kernel_rfl
@[simp] theorem cal21 : callable Try.prog 21 = true := by kernel_rfl


mutual
def cmpV : Val → Val → Int
  | .mk k n l, .mk k' n' l' => if orI [cmpI k k', cmpI n n', cmpI l.length l'.length] ≠ 0 then orI [cmpI k k', cmpI n n', cmpI l.length l'.length] else cmpVs l l'
def cmpVs : List Val → List Val → Int
  | [], [] => 0
  | [], _ :: _ => -1
  | _ :: _, [] => 1
  | a :: l, b :: l' => if cmpV a b ≠ 0 then cmpV a b else cmpVs l l'
end
def headI (a b : Val) : Int := orI [cmpI a.k b.k, cmpI a.n b.n, cmpI a.kids.length b.kids.length]
theorem cmpV_eq (a b : Val) : cmpV a b = if headI a b ≠ 0 then headI a b else cmpVs a.kids b.kids := by
  cases a; cases b; rw [cmpV]; rfl

theorem compareFunc_ok (xs ys : List Val) (h : ∀ a ∈ xs, ∀ b ∈ ys, Ret Try.prog 25 [.agg (encV a), .agg (encV b)] [] (int (cmpV a b)) []) :
    Ret Try.prog 52 [.sl xs.length (cellsV xs), .sl ys.length (cellsV ys), .clo 25 [] []] [] (int (cmpVs xs ys)) [] := by
  refine ret_of_wp Try.func52 rfl c52 (rs := [.slot 6]) (by kernel_rfl) ?_
  unfold K52
  simp -implicitDefEqProofs
  intro hl
  refine loopS (S := Nat) (fun i => [(0, .sl xs.length (cellsV xs)), (1, .sl ys.length (cellsV ys)), (2, .clo 25 [] []), (11, .sl xs.length (cellsV xs)), (12, int xs.length), (13, int i)]) (fun s => [])
    (fun i => i ≤ xs.length ∧ i ≤ ys.length ∧ cmpVs xs ys = cmpVs (xs.drop i) (ys.drop i)) (fun i => xs.length - i) 0 (by simp)
    (selW [] 0 (by simp) (by simp) (by simp) (by simp)) ?_
  rintro i ⟨hi, hi', ho⟩
  simp -implicitDefEqProofs
  refine condP_intro (fun h1 => ?_) (fun h1 => ?_) <;> simp at h1
  · have hd : xs.drop i = xs[i] :: xs.drop (i + 1) := List.drop_eq_getElem_cons h1
    simp -implicitDefEqProofs [h1, cellsV_drop h1]
    intro hl'
    refine condP_intro (fun h2 => ?_) (fun h2 => ?_) <;> simp at h2
    · simp -implicitDefEqProofs
      have hn : ys.drop i = [] := List.drop_eq_nil_of_le h2
      exact ret_end 0 (by rw [ho, hd, hn]; simp [cmpVs])
    · have hd' : ys.drop i = ys[i] :: ys.drop (i + 1) := List.drop_eq_getElem_cons h2
      simp -implicitDefEqProofs [h2, cellsV_drop h2]
      refine call0 (h xs[i] (List.getElem_mem _) ys[i] (List.getElem_mem _)) (by simp [encV]) (by simp) ?_
      simp -implicitDefEqProofs
      refine condP_intro (fun h3 => ?_) (fun h3 => ?_) <;> simp at h3
      · simp -implicitDefEqProofs
        exact ret_end 0 (by rw [ho, hd, hd']; simp [cmpVs, h3])
      · simp -implicitDefEqProofs
        refine roundS (i + 1) ⟨h1, h2, by rw [ho, hd, hd']; simp [cmpVs, h3]⟩ (by omega) (selW [] 0 (by simp) (by simp) (by simp) (by simp [wrap_succ h1 hl]))
  · have : i = xs.length := by omega
    subst this
    simp -implicitDefEqProofs
    have hn : xs.drop xs.length = [] := by simp
    intro _ hl'
    refine condP_intro (fun h2 => ?_) (fun h2 => ?_) <;> simp at h2
    · have hd' : ys.drop xs.length = ys[xs.length] :: ys.drop (xs.length + 1) := List.drop_eq_getElem_cons h2
      simp -implicitDefEqProofs
      exact ret_end 0 (by rw [ho, hn, hd']; simp [cmpVs])
    · have hn' : ys.drop xs.length = [] := List.drop_eq_nil_of_le h2
      simp -implicitDefEqProofs
      exact ret_end 0 (by rw [ho, hn, hn']; simp [cmpVs])

theorem cmpV_ok (a b : Val) : Ret Try.prog 25 [.agg (encV a), .agg (encV b)] [] (int (cmpV a b)) [] := by
  refine ret_of_wp Try.func25 rfl c25 (rs := [.slot 4]) (by kernel_rfl) ?_
  unfold K25
  simp -implicitDefEqProofs [encV]
  refine dcall0 (compare_ok a.k b.k) (by simp) (by simp) ?_
  simp -implicitDefEqProofs
  refine dcall0 (compare_ok a.n b.n) (by simp) (by simp) ?_
  simp -implicitDefEqProofs
  refine dcall0 (compare_ok a.kids.length b.kids.length) (by simp) (by simp) ?_
  simp -implicitDefEqProofs
  refine dcall0 (or_ok [cmpI a.k b.k, cmpI a.n b.n, cmpI a.kids.length b.kids.length]) (by simp) (by simp) ?_
  simp -implicitDefEqProofs
  refine condP_intro (fun h => ?_) (fun h => ?_) <;> simp at h
  · simp -implicitDefEqProofs
    exact ret_end 0 (by rw [cmpV_eq]; simp [headI, h])
  · simp -implicitDefEqProofs
    refine call0 (compareFunc_ok a.kids b.kids fun x hx y hy => cmpV_ok x y) (by simp) (by simp) ?_
    simp -implicitDefEqProofs
    exact ret_end 0 (by rw [cmpV_eq]; simp [headI, h])
termination_by sizeV a
decreasing_by exact sizeV_kid hx

theorem cmpI_lt {a b : Int} (h : a < b) : cmpI a b = -1 := by simp [cmpI, h]
theorem cmpI_gt {a b : Int} (h : b < a) : cmpI a b = 1 := by simp [cmpI, h, Int.not_lt.2 (Int.le_of_lt h)]
theorem cmpI_eq {a b : Int} (h : b ≤ a) (h' : a ≤ b) : cmpI a b = 0 := by simp [cmpI, Int.not_lt.2 h, Int.not_lt.2 h']

theorem refCompare_ok (a b : Val) : Ret Try.prog 40 [.agg (encV a), .agg (encV b)] [] (int (cmpV a b)) [] := by
  refine ret_of_wp Try.func40 rfl c40 (rs := [.slot 4]) (by kernel_rfl) ?_
  unfold K40
  simp -implicitDefEqProofs [encV]
  intro hl hl'
  refine loopS (S := Nat) (fun i => [(2, .ptr 0 0), (3, .ptr 1 0), (5, .sl 3 [int a.k, int a.n, int a.kids.length]), (6, .sl 3 [int b.k, int b.n, int b.kids.length]), (7, int i)])
    (fun s => [.box [int a.k, int a.n, .sl a.kids.length (cellsV a.kids)], .box [int b.k, int b.n, .sl b.kids.length (cellsV b.kids)]])
    (fun i => i ≤ 3 ∧ headI a b = orI (([cmpI a.k b.k, cmpI a.n b.n, cmpI a.kids.length b.kids.length]).drop i)) (fun i => 3 - i) 0 (by simp [headI])
    (selW [0, 1] 0 (by simp) (by simp) (by simp) (by simp)) ?_
  rintro i ⟨hi, ho⟩
  rcases (by omega : i = 0 ∨ i = 1 ∨ i = 2 ∨ i = 3) with rfl | rfl | rfl | rfl
  · simp -implicitDefEqProofs
    refine condP_intro (fun h1 => ?_) (fun h1 => ?_) <;> simp at h1
    · simp -implicitDefEqProofs
      exact ret_end 0 (by rw [cmpV_eq, ho]; simp [orI, cmpI_lt h1])
    simp -implicitDefEqProofs
    refine condP_intro (fun h2 => ?_) (fun h2 => ?_) <;> simp at h2
    · simp -implicitDefEqProofs
      exact ret_end 0 (by rw [cmpV_eq, ho]; simp [orI, cmpI_gt h2])
    simp -implicitDefEqProofs
    exact roundS 1 ⟨by omega, by rw [ho]; simp [orI, cmpI_eq h1 h2]⟩ (by omega) (selW [0, 1] 0 (by simp) (by simp) (by simp) (by simp; rfl))
  · simp -implicitDefEqProofs
    refine condP_intro (fun h1 => ?_) (fun h1 => ?_) <;> simp at h1
    · simp -implicitDefEqProofs
      exact ret_end 0 (by rw [cmpV_eq, ho]; simp [orI, cmpI_lt h1])
    simp -implicitDefEqProofs
    refine condP_intro (fun h2 => ?_) (fun h2 => ?_) <;> simp at h2
    · simp -implicitDefEqProofs
      exact ret_end 0 (by rw [cmpV_eq, ho]; simp [orI, cmpI_gt h2])
    simp -implicitDefEqProofs
    exact roundS 2 ⟨by omega, by rw [ho]; simp [orI, cmpI_eq h1 h2]⟩ (by omega) (selW [0, 1] 0 (by simp) (by simp) (by simp) (by simp; rfl))
  · simp -implicitDefEqProofs
    refine condP_intro (fun h1 => ?_) (fun h1 => ?_) <;> simp at h1
    · simp -implicitDefEqProofs
      exact ret_end 0 (by rw [cmpV_eq, ho]; simp [orI, cmpI_lt (Int.ofNat_lt.2 h1)])
    simp -implicitDefEqProofs
    refine condP_intro (fun h2 => ?_) (fun h2 => ?_) <;> simp at h2
    · simp -implicitDefEqProofs
      exact ret_end 0 (by rw [cmpV_eq, ho]; simp [orI, cmpI_gt (Int.ofNat_lt.2 h2)])
    simp -implicitDefEqProofs
    exact roundS 3 ⟨by omega, by rw [ho]; simp [orI, cmpI_eq (Int.ofNat_le.2 h1) (Int.ofNat_le.2 h2)]⟩ (by omega) (selW [0, 1] 0 (by simp) (by simp) (by simp) (by simp; rfl))
  have hlen : a.kids.length = b.kids.length := by
    have h0 : headI a b = 0 := by rw [ho]; rfl
    simp only [headI, orI] at h0
    split at h0 <;> try contradiction
    split at h0 <;> try contradiction
    split at h0 <;> try contradiction
    rename_i _ _ h
    simp only [cmpI] at h
    split at h
    · cases h
    · split at h
      · cases h
      · omega
  simp -implicitDefEqProofs
  refine loopS (S := Nat) (fun i => [(2, .ptr 0 0), (3, .ptr 1 0), (8, int i)])
    (fun s => [.box [int a.k, int a.n, .sl a.kids.length (cellsV a.kids)], .box [int b.k, int b.n, .sl b.kids.length (cellsV b.kids)]])
    (fun i => i ≤ a.kids.length ∧ cmpV a b = cmpVs (a.kids.drop i) (b.kids.drop i)) (fun i => a.kids.length - i) 0 ⟨by omega, by rw [cmpV_eq, ho]; simp [orI]⟩
    (selW [0, 1] 0 (by simp) (by simp) (by simp) (by simp)) ?_
  rintro i ⟨hi, ho⟩
  simp -implicitDefEqProofs
  intro _
  refine condP_intro (fun h1 => ?_) (fun h1 => ?_) <;> simp at h1
  · have h2 : i < b.kids.length := by omega
    have hd : a.kids.drop i = a.kids[i] :: a.kids.drop (i + 1) := List.drop_eq_getElem_cons h1
    have hd' : b.kids.drop i = b.kids[i] :: b.kids.drop (i + 1) := List.drop_eq_getElem_cons h2
    simp -implicitDefEqProofs [h1, h2, cellsV_drop h1, cellsV_drop h2]
    refine dcall0 (refCompare_ok a.kids[i] b.kids[i]) (by simp [encV]) (by simp) ?_
    simp -implicitDefEqProofs
    refine condP_intro (fun h3 => ?_) (fun h3 => ?_) <;> simp at h3
    · simp -implicitDefEqProofs
      exact ret_end 0 (by rw [ho, hd, hd']; simp [cmpVs, h3])
    · simp -implicitDefEqProofs
      exact roundS (i + 1) ⟨h1, by rw [ho, hd, hd']; simp [cmpVs, h3]⟩ (by omega) (selW [0, 1] 0 (by simp) (by simp) (by simp) (by simp [wrap_succ h1 hl]))
  · simp -implicitDefEqProofs
    have e1 : a.kids.drop i = [] := List.drop_eq_nil_of_le h1
    have e2 : b.kids.drop i = [] := List.drop_eq_nil_of_le (by omega)
    exact ret_end 0 (by rw [ho, e1, e2]; simp [cmpVs])
termination_by sizeV a
decreasing_by exact sizeV_kid (List.getElem_mem _)

/-! ### weights in the reference, and the order of inputs -/

def refOwn (v : Val) (sum : Int) : Int := if v.k = 0 then (if v.n < 0 then w64 (0 - v.n) else v.n) else if v.k = 1 then v.n else if v.k = 2 then sum else if v.k = 3 then w64 (v.n + sum) else if v.k = 4 then w64 (v.kids.length + sum) else 0
def refWeightV : Val → Int
  | .mk k n l => refOwn (.mk k n l) (l.attach.foldl (fun s x => w64 (s + refWeightV x.1)) 0)
termination_by v => sizeV v
decreasing_by
  have := sizeV_mem x.2
  simp only [sizeV]; omega
def refSum (s : Int) (l : List Val) : Int := l.foldl (fun s x => w64 (s + refWeightV x)) s
theorem refWeightV_eq (v : Val) : refWeightV v = refOwn v (refSum 0 v.kids) := by
  cases v with
  | mk k n l =>
    rw [refWeightV]
    simp only [Val.kids, refSum]
    rw [List.foldl_attach (f := fun s x => w64 (s + refWeightV x))]
theorem refSum_take {s : Int} {l : List Val} {i : Nat} (h : i < l.length) : refSum s (l.take (i + 1)) = IntKind.i64.wrap (refSum s (l.take i) + refWeightV l[i]) := by
  rw [refSum, List.take_succ_eq_append_getElem h, List.foldl_append]
  rfl

theorem refWeight_ok (v : Val) : Ret Try.prog 50 [.agg (encV v)] [] (int (refWeightV v)) [] := by
  refine ret_of_wp Try.func50 rfl c50 (rs := [.slot 2]) (by kernel_rfl) ?_
  unfold K50
  simp -implicitDefEqProofs [encV]
  refine loopS (S := Nat) (fun i => [(1, .ptr 0 0), (3, int (refSum 0 (v.kids.take i))), (4, int i)]) (fun s => [.box [int v.k, int v.n, .sl v.kids.length (cellsV v.kids)]]) (fun i => i ≤ v.kids.length) (fun i => v.kids.length - i) 0 (by simp)
    (selW [0] 0 (by simp) (by simp) (by simp) (by simp [refSum])) ?_
  intro i hi
  simp -implicitDefEqProofs
  intro hl
  refine condP_intro (fun h => ?_) (fun h => ?_) <;> simp at h
  · simp -implicitDefEqProofs [h, cellsV_drop h]
    refine call0 (refWeight_ok v.kids[i]) (by simp [encV]) (by simp) ?_
    simp -implicitDefEqProofs
    refine roundS (i + 1) h (by omega) (selW [0] 0 (by simp) (by simp) (by simp) (by simp [wrap_succ h hl, refSum_take h]))
  · have hi : i = v.kids.length := by omega
    subst hi
    by_cases h0 : v.k = 0
    · by_cases hn : v.n < 0 <;> simp -implicitDefEqProofs [h0, hn] <;> exact ret_end 0 (by simp [refWeightV_eq v, refOwn, h0, hn, w64])
    by_cases h1 : v.k = 1
    · simp -implicitDefEqProofs [h1]; exact ret_end 0 (by simp [refWeightV_eq v, refOwn, h1])
    by_cases h2 : v.k = 2
    · simp -implicitDefEqProofs [h2]; exact ret_end 0 (by simp [refWeightV_eq v, refOwn, h2])
    by_cases h3 : v.k = 3
    · simp -implicitDefEqProofs [h3]; exact ret_end 0 (by simp [refWeightV_eq v, refOwn, h3, w64])
    by_cases h4 : v.k = 4
    · simp -implicitDefEqProofs [h4, hl]; exact ret_end 0 (by simp [refWeightV_eq v, refOwn, h4, w64])
    simp -implicitDefEqProofs [h0, h1, h2, h3, h4]
    exact ret_end 0 (by simp [refWeightV_eq v, refOwn, h0, h1, h2, h3, h4])
termination_by sizeV v
decreasing_by exact sizeV_kid (List.getElem_mem _)

theorem sum_ok (l : List Val) : Ret Try.prog 75 [.sl l.length (cellsV l)] [] (int (sumW 0 l)) [] := by
  refine ret_of_wp Try.func75 rfl c75 (rs := [.slot 2]) (by kernel_rfl) ?_
  unfold K75
  simp -implicitDefEqProofs
  intro hl
  refine loopS (S := Nat) (fun i => [(3, int (sumW 0 (l.take i))), (6, .sl l.length (cellsV l)), (7, int l.length), (8, int i)]) (fun s => []) (fun i => i ≤ l.length) (fun i => l.length - i) 0 (by simp)
    (selW [] 0 (by simp) (by simp) (by simp) (by simp [sumW])) ?_
  intro i hi
  simp -implicitDefEqProofs
  refine condP_intro (fun h => ?_) (fun h => ?_) <;> simp at h
  · simp -implicitDefEqProofs [h, cellsV_drop h]
    refine call0 (weight_ok l[i]) (by simp [encV]) (by simp) ?_
    simp -implicitDefEqProofs
    refine roundS (i + 1) h (by omega) (selW [] 0 (by simp) (by simp) (by simp) (by simp [wrap_succ h hl, sumW_take h]))
  · have : i = l.length := by omega
    subst this
    simp -implicitDefEqProofs
    exact ret_end 0 (by simp)

def orderV (a b : List Val) : Int := orI [cmpI (sumW 0 a) (sumW 0 b), cmpVs a b]

theorem order_ok (a b : List Val) : Ret Try.prog 48 [.sl a.length (cellsV a), .sl b.length (cellsV b)] [] (int (orderV a b)) [] := by
  refine ret_of_wp Try.func48 rfl c48 (rs := [.slot 4]) (by kernel_rfl) ?_
  unfold K48
  simp -implicitDefEqProofs
  refine call0 (sum_ok a) (by simp) (by simp) ?_
  simp -implicitDefEqProofs
  refine call0 (sum_ok b) (by simp) (by simp) ?_
  simp -implicitDefEqProofs
  refine call0 (compare_ok (sumW 0 a) (sumW 0 b)) (by simp) (by simp) ?_
  simp -implicitDefEqProofs
  refine call0 (compareFunc_ok a b fun x _ y _ => cmpV_ok x y) (by simp) (by simp) ?_
  simp -implicitDefEqProofs
  refine call0 (or_ok [cmpI (sumW 0 a) (sumW 0 b), cmpVs a b]) (by simp) (by simp) ?_
  simp -implicitDefEqProofs
  exact ret_end 0 (by simp [orderV])

theorem before_ok (a b : List Val) : Ret Try.prog 21 [.sl a.length (cellsV a), .sl b.length (cellsV b)] [] (bl (decide (orderV a b < 0))) [] := by
  refine ret_of_wp Try.func21 rfl c21 (rs := [.slot 4]) (by kernel_rfl) ?_
  unfold K21
  simp -implicitDefEqProofs
  refine call0 (order_ok a b) (by simp) (by simp) ?_
  simp -implicitDefEqProofs
  exact ret_end 0 (by simp)
end Go.Proofs.Ytbkiphnlbadhcaa
