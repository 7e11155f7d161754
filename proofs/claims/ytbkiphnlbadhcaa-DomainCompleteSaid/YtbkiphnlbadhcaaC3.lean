/-
  The order of inputs in the reference; types, definitions and programs; Def and ValidType.
-/
import Derived.Test.YtbkiphnlbadhcaaC2
namespace Go.Proofs.Ytbkiphnlbadhcaa
open Go.Abs

-- splicery/value.Def$1 · results ["3"]
def K83 : K :=
 K.seq (K.ops [⟨none, .box (some 2) (.tmp 0)⟩,
 ⟨none, .mov (some 3) (.const (.bool false))⟩])
 (K.seq (K.ops [⟨none, .addr (some 4) (.tmp 2) 0⟩,
 ⟨none, .ld (some 5) (.tmp 4) 3 true⟩,
 ⟨none, .ld (some 6) (.tmp 1) 3 true⟩,
 ⟨none, .eqs (some 7) false [.i, .i, .i] (.tmp 5) (.tmp 6)⟩,
 ⟨none, .mov (some 3) (.tmp 7)⟩])
 (K.ret))
theorem c83 : compile Try.prog Try.f83.ntmps (Try.f83.body.getD .skip) = some K83.erase := by kernel_rfl
@[simp] theorem cal83 : callable Try.prog 83 = true := by kernel_rfl

-- slices.IndexFunc[[]splicery/api.Def,splicery/api.Def] · results ["4"]
def K82 : K :=
 K.seq (K.ops [⟨none, .mov (some 4) (.const (.int .i64 0))⟩])
 (K.seq (K.seq (K.ops [⟨none, .mov (some 6) (.tmp 0)⟩,
 ⟨none, .len (some 7) false (.tmp 6)⟩,
 ⟨none, .mov (some 8) (.const (.int .i64 0))⟩])
 (K.block 0 (K.loop (K.seq (K.ops [⟨none, .bin (some 9) .lss (.tmp 8) (.tmp 7)⟩])
 (K.seq (K.cond (.tmp 9)
 (K.skip)
 (K.exit 0))
 (K.seq (K.block 1 (K.seq (K.ops [⟨none, .mov (some 10) (.tmp 8)⟩,
 ⟨none, .mov (some 5) (.tmp 10)⟩])
 (K.seq (K.ops [⟨none, .mov (some 11) (.tmp 1)⟩,
 ⟨none, .mov (some 12) (.tmp 0)⟩,
 ⟨none, .mov (some 13) (.tmp 5)⟩,
 ⟨none, .idx (some 14) (.tmp 12) (.tmp 13) 31⟩,
 ⟨none, .ld (some 15) (.tmp 14) 31 true⟩,
 ⟨none, .call (some 16) (.tmp 11) [(.tmp 15)]⟩])
 (K.cond (.tmp 16)
 (K.seq (K.ops [⟨none, .mov (some 17) (.tmp 5)⟩,
 ⟨none, .mov (some 4) (.tmp 17)⟩])
 (K.ret))
 (K.skip)))))
 (K.ops [⟨none, .bin (some 18) .add (.tmp 8) (.const (.int .i64 1))⟩,
 ⟨none, .mov (some 8) (.tmp 18)⟩])))))))
 (K.seq (K.ops [⟨none, .mov (some 4) (.const (.int .i64 (-1)))⟩])
 (K.ret)))
theorem c82 : compile Try.prog Try.f82.ntmps (Try.f82.body.getD .skip) = some K82.erase := by kernel_rfl
@[simp] theorem cal82 : callable Try.prog 82 = true := by kernel_rfl

-- splicery/value.Def · results ["cell 4", "5"]
def K64 : K :=
 K.seq (K.ops [⟨none, .box (some 2) (.tmp 0)⟩,
 ⟨none, .box (some 3) (.tmp 1)⟩,
 ⟨none, .alloc (some 4) [(.int .i64 0), (.int .i64 0), (.int .i64 0), (.int .i64 0), (.int .i64 0), (.int .i64 0), (.int .i64 0), (.string ⟨#[]⟩), (.slice none 0 0), (.int .i64 0), (.int .i64 0), (.int .i64 0), (.int .i64 0), (.slice none 0 0), (.int .i64 0), (.int .i64 0), (.int .i64 0), (.int .i64 0), (.int .i64 0), (.int .i64 0), (.int .i64 0), (.int .i64 0), (.int .i64 0), (.int .i64 0), (.int .i64 0), (.int .i64 0), (.slice none 0 0), (.slice none 0 0), (.slice none 0 0), (.int .i64 0), (.slice none 0 0)]⟩,
 ⟨none, .mov (some 5) (.const (.bool false))⟩])
 (K.seq (K.ops [⟨none, .addr (some 7) (.tmp 2) 1⟩,
 ⟨none, .ld (some 8) (.tmp 7) 1 false⟩,
 ⟨none, .clo (some 9) 83 [] [(.tmp 3)]⟩,
 ⟨none, .call (some 10) (.func 82) [(.tmp 8), (.tmp 9)]⟩,
 ⟨none, .mov (some 6) (.tmp 10)⟩])
 (K.seq (K.seq (K.ops [⟨none, .mov (some 11) (.tmp 6)⟩,
 ⟨none, .bin (some 12) .lss (.tmp 11) (.const (.int .i64 0))⟩])
 (K.cond (.tmp 12)
 (K.seq (K.ops [⟨none, .build (some 13) [(.int .i64 0), (.int .i64 0), (.int .i64 0), (.int .i64 0), (.int .i64 0), (.int .i64 0), (.int .i64 0), (.string ⟨#[]⟩), (.slice none 0 0), (.int .i64 0), (.int .i64 0), (.int .i64 0), (.int .i64 0), (.slice none 0 0), (.int .i64 0), (.int .i64 0), (.int .i64 0), (.int .i64 0), (.int .i64 0), (.int .i64 0), (.int .i64 0), (.int .i64 0), (.int .i64 0), (.int .i64 0), (.int .i64 0), (.int .i64 0), (.slice none 0 0), (.slice none 0 0), (.slice none 0 0), (.int .i64 0), (.slice none 0 0)] []⟩,
 ⟨none, .st none (.tmp 4) (.tmp 13) 31⟩,
 ⟨none, .mov (some 5) (.const (.bool false))⟩])
 (K.ret))
 (K.skip)))
 (K.seq (K.ops [⟨none, .addr (some 14) (.tmp 2) 1⟩,
 ⟨none, .ld (some 15) (.tmp 14) 1 false⟩,
 ⟨none, .mov (some 16) (.tmp 6)⟩,
 ⟨none, .idx (some 17) (.tmp 15) (.tmp 16) 31⟩,
 ⟨none, .ld (some 18) (.tmp 17) 31 true⟩,
 ⟨none, .st none (.tmp 4) (.tmp 18) 31⟩,
 ⟨none, .mov (some 5) (.const (.bool true))⟩])
 (K.ret))))
theorem c64 : compile Try.prog Try.f64.ntmps (Try.f64.body.getD .skip) = some K64.erase := by kernel_rfl
@[simp] theorem cal64 : callable Try.prog 64 = true := by kernel_rfl

-- splicery/value.ValidType · results ["4"]
def K61 : K :=
 K.seq (K.ops [⟨none, .box (some 2) (.tmp 0)⟩,
 ⟨none, .box (some 3) (.tmp 1)⟩,
 ⟨none, .mov (some 4) (.const (.bool false))⟩])
 (K.seq (K.seq (K.ops [⟨none, .mov (some 5) (.const (.int .i64 1))⟩])
 (K.block 0 (K.loop (K.seq (K.seq (K.ops [⟨none, .mov (some 8) (.tmp 5)⟩,
 ⟨none, .bin (some 9) .leq (.tmp 8) (.const (.int .i64 24))⟩])
 (K.cond (.tmp 9)
 (K.skip)
 (K.exit 0)))
 (K.seq (K.block 1 (K.seq (K.ops [⟨none, .addr (some 12) (.tmp 3) 0⟩,
 ⟨none, .ld (some 13) (.tmp 12) 1 false⟩])
 (K.block 2 (K.seq (K.seq (K.ops [⟨none, .eqv (some 15) false .i (.tmp 13) (.const (.int .i64 0))⟩,
 ⟨none, .mov (some 14) (.tmp 15)⟩])
 (K.cond (.tmp 14)
 (K.skip)
 (K.ops [⟨none, .eqv (some 16) false .i (.tmp 13) (.const (.int .i64 1))⟩,
 ⟨none, .mov (some 14) (.tmp 16)⟩])))
 (K.cond (.tmp 14)
 (K.seq (K.ops [⟨none, .addr (some 17) (.tmp 3) 1⟩,
 ⟨none, .ld (some 18) (.tmp 17) 3 true⟩,
 ⟨none, .build (some 19) [(.int .i64 0), (.int .i64 0), (.int .i64 0)] []⟩,
 ⟨none, .eqs (some 20) false [.i, .i, .i] (.tmp 18) (.tmp 19)⟩,
 ⟨none, .mov (some 21) (.tmp 20)⟩,
 ⟨some (21, true), .addr (some 22) (.tmp 3) 4⟩,
 ⟨some (21, true), .ld (some 23) (.tmp 22) 1 false⟩,
 ⟨some (21, true), .len (some 24) false (.tmp 23)⟩,
 ⟨some (21, true), .eqv (some 25) false .i (.tmp 24) (.const (.int .i64 0))⟩,
 ⟨none, .pick (some 26) (.tmp 21) (.tmp 25) (.const (.bool false))⟩,
 ⟨none, .mov (some 4) (.tmp 26)⟩])
 (K.ret))
 (K.seq (K.ops [⟨none, .eqv (some 28) false .i (.tmp 13) (.const (.int .i64 3))⟩,
 ⟨none, .mov (some 27) (.tmp 28)⟩])
 (K.cond (.tmp 27)
 (K.seq (K.ops [⟨none, .ld (some 30) (.tmp 2) 2 true⟩,
 ⟨none, .addr (some 31) (.tmp 3) 1⟩,
 ⟨none, .ld (some 32) (.tmp 31) 3 true⟩,
 ⟨none, .call (some 33) (.func 64) [(.tmp 30), (.tmp 32)]⟩,
 ⟨none, .mov (some 29) (.tmp 33)⟩,
 ⟨none, .ext (some 34) (.tmp 29) 0⟩,
 ⟨none, .ext (some 35) (.tmp 29) 1⟩,
 ⟨none, .alloc (some 6) [(.int .i64 0), (.int .i64 0), (.int .i64 0), (.int .i64 0), (.int .i64 0), (.int .i64 0), (.int .i64 0), (.string ⟨#[]⟩), (.slice none 0 0), (.int .i64 0), (.int .i64 0), (.int .i64 0), (.int .i64 0), (.slice none 0 0), (.int .i64 0), (.int .i64 0), (.int .i64 0), (.int .i64 0), (.int .i64 0), (.int .i64 0), (.int .i64 0), (.int .i64 0), (.int .i64 0), (.int .i64 0), (.int .i64 0), (.int .i64 0), (.slice none 0 0), (.slice none 0 0), (.slice none 0 0), (.int .i64 0), (.slice none 0 0)]⟩,
 ⟨none, .st none (.tmp 6) (.tmp 34) 31⟩,
 ⟨none, .mov (some 7) (.tmp 35)⟩])
 (K.seq (K.ops [⟨none, .mov (some 36) (.tmp 7)⟩,
 ⟨none, .mov (some 37) (.tmp 36)⟩,
 ⟨some (37, true), .addr (some 38) (.tmp 6) 3⟩,
 ⟨some (37, true), .ld (some 39) (.tmp 38) 1 false⟩,
 ⟨some (37, true), .eqv (some 40) false .i (.tmp 39) (.const (.int .i64 0))⟩,
 ⟨some (37, true), .mov (some 41) (.tmp 40)⟩,
 ⟨some (41, false), .addr (some 42) (.tmp 6) 3⟩,
 ⟨some (41, false), .ld (some 43) (.tmp 42) 1 false⟩,
 ⟨some (41, false), .eqv (some 44) false .i (.tmp 43) (.const (.int .i64 1))⟩,
 ⟨some (37, true), .pick (some 45) (.tmp 41) (.const (.bool true)) (.tmp 44)⟩,
 ⟨none, .pick (some 46) (.tmp 37) (.tmp 45) (.const (.bool false))⟩,
 ⟨none, .mov (some 47) (.tmp 46)⟩,
 ⟨some (47, true), .addr (some 48) (.tmp 3) 4⟩,
 ⟨some (47, true), .ld (some 49) (.tmp 48) 1 false⟩,
 ⟨some (47, true), .len (some 50) false (.tmp 49)⟩,
 ⟨some (47, true), .eqv (some 51) false .i (.tmp 50) (.const (.int .i64 0))⟩,
 ⟨none, .pick (some 52) (.tmp 47) (.tmp 51) (.const (.bool false))⟩,
 ⟨none, .mov (some 4) (.tmp 52)⟩])
 (K.ret)))
 (K.seq (K.ops [⟨none, .eqv (some 54) false .i (.tmp 13) (.const (.int .i64 2))⟩,
 ⟨none, .mov (some 53) (.tmp 54)⟩])
 (K.cond (.tmp 53)
 (K.seq (K.seq (K.ops [⟨none, .addr (some 55) (.tmp 3) 1⟩,
 ⟨none, .ld (some 56) (.tmp 55) 3 true⟩,
 ⟨none, .build (some 57) [(.int .i64 0), (.int .i64 0), (.int .i64 0)] []⟩,
 ⟨none, .eqs (some 58) true [.i, .i, .i] (.tmp 56) (.tmp 57)⟩,
 ⟨none, .mov (some 59) (.tmp 58)⟩,
 ⟨some (59, false), .addr (some 60) (.tmp 3) 4⟩,
 ⟨some (59, false), .ld (some 61) (.tmp 60) 1 false⟩,
 ⟨some (59, false), .len (some 62) false (.tmp 61)⟩,
 ⟨some (59, false), .eqv (some 63) true .i (.tmp 62) (.const (.int .i64 1))⟩,
 ⟨none, .pick (some 64) (.tmp 59) (.const (.bool true)) (.tmp 63)⟩])
 (K.cond (.tmp 64)
 (K.seq (K.ops [⟨none, .mov (some 4) (.const (.bool false))⟩])
 (K.ret))
 (K.skip)))
 (K.ops [⟨none, .addr (some 65) (.tmp 3) 4⟩,
 ⟨none, .ld (some 66) (.tmp 65) 1 false⟩,
 ⟨none, .idx (some 67) (.tmp 66) (.const (.int .i64 0)) 5⟩,
 ⟨none, .ld (some 68) (.tmp 67) 5 true⟩,
 ⟨none, .st none (.tmp 3) (.tmp 68) 5⟩]))
 (K.seq (K.ops [⟨none, .mov (some 4) (.const (.bool false))⟩])
 (K.ret)))))))))))
 (K.ops [⟨none, .mov (some 10) (.tmp 5)⟩,
 ⟨none, .bin (some 11) .add (.tmp 10) (.const (.int .i64 1))⟩,
 ⟨none, .mov (some 5) (.tmp 11)⟩]))))))
 (K.seq (K.ops [⟨none, .mov (some 4) (.const (.bool false))⟩])
 (K.ret)))
theorem c61 : compile Try.prog Try.f61.ntmps (Try.f61.body.getD .skip) = some K61.erase := by kernel_rfl
@[simp] theorem cal61 : callable Try.prog 61 = true := by kernel_rfl

-- splicery/spliceryref04.Def · results ["cell 4", "5"]
def K69 : K :=
 K.seq (K.ops [⟨none, .box (some 2) (.tmp 0)⟩,
 ⟨none, .box (some 3) (.tmp 1)⟩,
 ⟨none, .alloc (some 4) [(.int .i64 0), (.int .i64 0), (.int .i64 0), (.int .i64 0), (.int .i64 0), (.int .i64 0), (.int .i64 0), (.string ⟨#[]⟩), (.slice none 0 0), (.int .i64 0), (.int .i64 0), (.int .i64 0), (.int .i64 0), (.slice none 0 0), (.int .i64 0), (.int .i64 0), (.int .i64 0), (.int .i64 0), (.int .i64 0), (.int .i64 0), (.int .i64 0), (.int .i64 0), (.int .i64 0), (.int .i64 0), (.int .i64 0), (.int .i64 0), (.slice none 0 0), (.slice none 0 0), (.slice none 0 0), (.int .i64 0), (.slice none 0 0)]⟩,
 ⟨none, .mov (some 5) (.const (.bool false))⟩])
 (K.seq (K.seq (K.ops [⟨none, .mov (some 6) (.const (.int .i64 0))⟩])
 (K.block 0 (K.loop (K.seq (K.seq (K.ops [⟨none, .mov (some 7) (.tmp 6)⟩,
 ⟨none, .addr (some 8) (.tmp 2) 1⟩,
 ⟨none, .ld (some 9) (.tmp 8) 1 false⟩,
 ⟨none, .len (some 10) false (.tmp 9)⟩,
 ⟨none, .bin (some 11) .lss (.tmp 7) (.tmp 10)⟩])
 (K.cond (.tmp 11)
 (K.skip)
 (K.exit 0)))
 (K.seq (K.block 1 (K.seq (K.dops [(0, 0, ⟨none, .addr (some 14) (.tmp 2) 1⟩),
 (1, 0, ⟨none, .ld (some 15) (.tmp 14) 1 false⟩),
 (2, 0, ⟨none, .mov (some 16) (.tmp 6)⟩),
 (3, 0, ⟨none, .idx (some 17) (.tmp 15) (.tmp 16) 31⟩),
 (4, 0, ⟨none, .addr (some 18) (.tmp 17) 0⟩),
 (5, 0, ⟨none, .ld (some 19) (.tmp 18) 3 true⟩),
 (6, 0, ⟨none, .ld (some 20) (.tmp 3) 3 true⟩),
 (7, 0, ⟨none, .eqs (some 21) false [.i, .i, .i] (.tmp 19) (.tmp 20)⟩)])
 (K.cond (.tmp 21)
 (K.seq (K.ops [⟨none, .addr (some 22) (.tmp 2) 1⟩,
 ⟨none, .ld (some 23) (.tmp 22) 1 false⟩,
 ⟨none, .mov (some 24) (.tmp 6)⟩,
 ⟨none, .idx (some 25) (.tmp 23) (.tmp 24) 31⟩,
 ⟨none, .ld (some 26) (.tmp 25) 31 true⟩,
 ⟨none, .st none (.tmp 4) (.tmp 26) 31⟩,
 ⟨none, .mov (some 5) (.const (.bool true))⟩])
 (K.ret))
 (K.skip))))
 (K.ops [⟨none, .mov (some 12) (.tmp 6)⟩,
 ⟨none, .bin (some 13) .add (.tmp 12) (.const (.int .i64 1))⟩,
 ⟨none, .mov (some 6) (.tmp 13)⟩]))))))
 (K.seq (K.ops [⟨none, .build (some 27) [(.int .i64 0), (.int .i64 0), (.int .i64 0), (.int .i64 0), (.int .i64 0), (.int .i64 0), (.int .i64 0), (.string ⟨#[]⟩), (.slice none 0 0), (.int .i64 0), (.int .i64 0), (.int .i64 0), (.int .i64 0), (.slice none 0 0), (.int .i64 0), (.int .i64 0), (.int .i64 0), (.int .i64 0), (.int .i64 0), (.int .i64 0), (.int .i64 0), (.int .i64 0), (.int .i64 0), (.int .i64 0), (.int .i64 0), (.int .i64 0), (.slice none 0 0), (.slice none 0 0), (.slice none 0 0), (.int .i64 0), (.slice none 0 0)] []⟩,
 ⟨none, .st none (.tmp 4) (.tmp 27) 31⟩,
 ⟨none, .mov (some 5) (.const (.bool false))⟩])
 (K.ret)))
theorem c69 : compile Try.prog Try.f69.ntmps (Try.f69.body.getD .skip) = some K69.erase := by kernel_rfl
@[simp] theorem cal69 : callable Try.prog 69 = true := by kernel_rfl

-- splicery/spliceryref04.validType · results ["6"]
def K94 : K :=
 K.seq (K.ops [⟨none, .box (some 3) (.tmp 0)⟩,
 ⟨none, .box (some 4) (.tmp 1)⟩,
 ⟨none, .mov (some 6) (.const (.bool false))⟩])
 (K.seq (K.seq (K.ops [⟨none, .mov (some 9) (.tmp 2)⟩,
 ⟨none, .bin (some 10) .gtr (.tmp 9) (.const (.int .i64 24))⟩])
 (K.cond (.tmp 10)
 (K.seq (K.ops [⟨none, .mov (some 6) (.const (.bool false))⟩])
 (K.ret))
 (K.skip)))
 (K.seq (K.seq (K.ops [⟨none, .addr (some 11) (.tmp 4) 0⟩,
 ⟨none, .ld (some 12) (.tmp 11) 1 false⟩,
 ⟨none, .eqv (some 13) false .i (.tmp 12) (.const (.int .i64 2))⟩])
 (K.cond (.tmp 13)
 (K.seq (K.dops [(0, 0, ⟨none, .addr (some 14) (.tmp 4) 1⟩),
 (1, 0, ⟨none, .ld (some 15) (.tmp 14) 3 true⟩),
 (2, 0, ⟨none, .build (some 16) [(.int .i64 0), (.int .i64 0), (.int .i64 0)] []⟩),
 (3, 0, ⟨none, .eqs (some 17) false [.i, .i, .i] (.tmp 15) (.tmp 16)⟩),
 (4, 0, ⟨none, .mov (some 18) (.tmp 17)⟩),
 (5, 0, ⟨some (18, true), .addr (some 19) (.tmp 4) 4⟩),
 (6, 0, ⟨some (18, true), .ld (some 20) (.tmp 19) 1 false⟩),
 (7, 0, ⟨some (18, true), .len (some 21) false (.tmp 20)⟩),
 (8, 0, ⟨some (18, true), .eqv (some 22) false .i (.tmp 21) (.const (.int .i64 1))⟩),
 (9, 0, ⟨none, .pick (some 23) (.tmp 18) (.tmp 22) (.const (.bool false))⟩),
 (10, 0, ⟨none, .mov (some 24) (.tmp 23)⟩),
 (11, 0, ⟨some (24, true), .ld (some 25) (.tmp 3) 2 true⟩),
 (12, 0, ⟨some (24, true), .addr (some 26) (.tmp 4) 4⟩),
 (13, 0, ⟨some (24, true), .ld (some 27) (.tmp 26) 1 false⟩),
 (14, 0, ⟨some (24, true), .idx (some 28) (.tmp 27) (.const (.int .i64 0)) 5⟩),
 (15, 0, ⟨some (24, true), .ld (some 29) (.tmp 28) 5 true⟩),
 (16, 0, ⟨some (24, true), .mov (some 30) (.tmp 2)⟩),
 (17, 0, ⟨some (24, true), .bin (some 31) .add (.tmp 30) (.const (.int .i64 1))⟩),
 (18, 0, ⟨some (24, true), .call (some 32) (.func 94) [(.tmp 25), (.tmp 29), (.tmp 31)]⟩),
 (19, 0, ⟨none, .pick (some 33) (.tmp 24) (.tmp 32) (.const (.bool false))⟩),
 (20, 0, ⟨none, .mov (some 6) (.tmp 33)⟩)])
 (K.ret))
 (K.skip)))
 (K.seq (K.seq (K.ops [⟨none, .addr (some 34) (.tmp 4) 4⟩,
 ⟨none, .ld (some 35) (.tmp 34) 1 false⟩,
 ⟨none, .len (some 36) false (.tmp 35)⟩,
 ⟨none, .bin (some 37) .gtr (.tmp 36) (.const (.int .i64 0))⟩])
 (K.cond (.tmp 37)
 (K.seq (K.ops [⟨none, .mov (some 6) (.const (.bool false))⟩])
 (K.ret))
 (K.skip)))
 (K.seq (K.seq (K.ops [⟨none, .addr (some 38) (.tmp 4) 0⟩,
 ⟨none, .ld (some 39) (.tmp 38) 1 false⟩,
 ⟨none, .eqv (some 40) false .i (.tmp 39) (.const (.int .i64 3))⟩])
 (K.cond (.tmp 40)
 (K.seq (K.ops [⟨none, .ld (some 42) (.tmp 3) 2 true⟩,
 ⟨none, .addr (some 43) (.tmp 4) 1⟩,
 ⟨none, .ld (some 44) (.tmp 43) 3 true⟩,
 ⟨none, .call (some 45) (.func 69) [(.tmp 42), (.tmp 44)]⟩,
 ⟨none, .mov (some 41) (.tmp 45)⟩,
 ⟨none, .ext (some 46) (.tmp 41) 0⟩,
 ⟨none, .ext (some 47) (.tmp 41) 1⟩,
 ⟨none, .alloc (some 7) [(.int .i64 0), (.int .i64 0), (.int .i64 0), (.int .i64 0), (.int .i64 0), (.int .i64 0), (.int .i64 0), (.string ⟨#[]⟩), (.slice none 0 0), (.int .i64 0), (.int .i64 0), (.int .i64 0), (.int .i64 0), (.slice none 0 0), (.int .i64 0), (.int .i64 0), (.int .i64 0), (.int .i64 0), (.int .i64 0), (.int .i64 0), (.int .i64 0), (.int .i64 0), (.int .i64 0), (.int .i64 0), (.int .i64 0), (.int .i64 0), (.slice none 0 0), (.slice none 0 0), (.slice none 0 0), (.int .i64 0), (.slice none 0 0)]⟩,
 ⟨none, .st none (.tmp 7) (.tmp 46) 31⟩,
 ⟨none, .mov (some 8) (.tmp 47)⟩])
 (K.seq (K.ops [⟨none, .mov (some 48) (.tmp 8)⟩,
 ⟨none, .mov (some 49) (.tmp 48)⟩,
 ⟨some (49, true), .addr (some 50) (.tmp 7) 3⟩,
 ⟨some (49, true), .ld (some 51) (.tmp 50) 1 false⟩,
 ⟨some (49, true), .eqv (some 52) false .i (.tmp 51) (.const (.int .i64 0))⟩,
 ⟨some (49, true), .mov (some 53) (.tmp 52)⟩,
 ⟨some (53, false), .addr (some 54) (.tmp 7) 3⟩,
 ⟨some (53, false), .ld (some 55) (.tmp 54) 1 false⟩,
 ⟨some (53, false), .eqv (some 56) false .i (.tmp 55) (.const (.int .i64 1))⟩,
 ⟨some (49, true), .pick (some 57) (.tmp 53) (.const (.bool true)) (.tmp 56)⟩,
 ⟨none, .pick (some 58) (.tmp 49) (.tmp 57) (.const (.bool false))⟩,
 ⟨none, .mov (some 6) (.tmp 58)⟩])
 (K.ret)))
 (K.skip)))
 (K.seq (K.ops [⟨none, .addr (some 59) (.tmp 4) 1⟩,
 ⟨none, .ld (some 60) (.tmp 59) 3 true⟩,
 ⟨none, .build (some 61) [(.int .i64 0), (.int .i64 0), (.int .i64 0)] []⟩,
 ⟨none, .eqs (some 62) false [.i, .i, .i] (.tmp 60) (.tmp 61)⟩,
 ⟨none, .mov (some 63) (.tmp 62)⟩,
 ⟨some (63, true), .addr (some 64) (.tmp 4) 0⟩,
 ⟨some (63, true), .ld (some 65) (.tmp 64) 1 false⟩,
 ⟨some (63, true), .eqv (some 66) false .i (.tmp 65) (.const (.int .i64 0))⟩,
 ⟨some (63, true), .mov (some 67) (.tmp 66)⟩,
 ⟨some (67, false), .addr (some 68) (.tmp 4) 0⟩,
 ⟨some (67, false), .ld (some 69) (.tmp 68) 1 false⟩,
 ⟨some (67, false), .eqv (some 70) false .i (.tmp 69) (.const (.int .i64 1))⟩,
 ⟨some (63, true), .pick (some 71) (.tmp 67) (.const (.bool true)) (.tmp 70)⟩,
 ⟨none, .pick (some 72) (.tmp 63) (.tmp 71) (.const (.bool false))⟩,
 ⟨none, .mov (some 6) (.tmp 72)⟩])
 (K.ret))))))
theorem c94 : compile Try.prog Try.f94.ntmps (Try.f94.body.getD .skip) = some K94.erase := by kernel_rfl
@[simp] theorem cal94 : callable Try.prog 94 = true := by kernel_rfl

-- splicery/spliceryref04.ValidType · results ["4"]
def K68 : K :=
 K.seq (K.ops [⟨none, .box (some 2) (.tmp 0)⟩,
 ⟨none, .box (some 3) (.tmp 1)⟩,
 ⟨none, .mov (some 4) (.const (.bool false))⟩])
 (K.seq (K.ops [⟨none, .ld (some 5) (.tmp 2) 2 true⟩,
 ⟨none, .ld (some 6) (.tmp 3) 5 true⟩,
 ⟨none, .call (some 7) (.func 94) [(.tmp 5), (.tmp 6), (.const (.int .i64 1))]⟩,
 ⟨none, .mov (some 4) (.tmp 7)⟩])
 (K.ret))
theorem c68 : compile Try.prog Try.f68.ntmps (Try.f68.body.getD .skip) = some K68.erase := by kernel_rfl
@[simp] theorem cal68 : callable Try.prog 68 = true := by kernel_rfl


def refOrder (a b : List Val) : Int :=
  if refSum 0 a < refSum 0 b then -1 else if refSum 0 b < refSum 0 a then 1 else cmpVs a b

theorem refOrder_ok (a b : List Val) : Ret Try.prog 22 [.sl a.length (cellsV a), .sl b.length (cellsV b)] [] (int (refOrder a b)) [] := by
  refine ret_of_wp Try.func22 rfl c22 (rs := [.slot 4]) (by kernel_rfl) ?_
  unfold K22
  simp -implicitDefEqProofs
  refine loopS (S := Nat) (fun i => [(0, .sl a.length (cellsV a)), (1, .sl b.length (cellsV b)), (5, int (refSum 0 (a.take i))), (6, int i)]) (fun s => []) (fun i => i ≤ a.length) (fun i => a.length - i) 0 (by simp)
    (selW [] 0 (by simp) (by simp) (by simp) (by simp [refSum])) ?_
  intro i hi
  simp -implicitDefEqProofs
  intro hl
  refine condP_intro (fun h => ?_) (fun h => ?_) <;> simp at h
  · simp -implicitDefEqProofs [h, cellsV_drop h]
    refine call0 (refWeight_ok a[i]) (by simp [encV]) (by simp) ?_
    simp -implicitDefEqProofs
    exact roundS (i + 1) h (by omega) (selW [] 0 (by simp) (by simp) (by simp) (by simp [wrap_succ h hl, refSum_take h]))
  have : i = a.length := by omega
  subst this
  clear h hi
  simp -implicitDefEqProofs
  refine loopS (S := Nat) (fun i => [(0, .sl a.length (cellsV a)), (1, .sl b.length (cellsV b)), (5, int (refSum 0 a)), (7, int (refSum 0 (b.take i))), (8, int i)]) (fun s => []) (fun i => i ≤ b.length) (fun i => b.length - i) 0 (by simp)
    (selW [] 0 (by simp) (by simp) (by simp) (by simp [refSum])) ?_
  intro i hi
  simp -implicitDefEqProofs
  intro hl'
  refine condP_intro (fun h => ?_) (fun h => ?_) <;> simp at h
  · simp -implicitDefEqProofs [h, cellsV_drop h]
    refine call0 (refWeight_ok b[i]) (by simp [encV]) (by simp) ?_
    simp -implicitDefEqProofs
    exact roundS (i + 1) h (by omega) (selW [] 0 (by simp) (by simp) (by simp) (by simp [wrap_succ h hl', refSum_take h]))
  have : i = b.length := by omega
  subst this
  clear h hi
  by_cases e1 : refSum 0 a < refSum 0 b
  · have e2 : refSum 0 a ≠ refSum 0 b := by omega
    simp -implicitDefEqProofs [e1, e2]
    exact ret_end 0 (by simp [refOrder, e1])
  by_cases e2 : refSum 0 b < refSum 0 a
  · have e3 : refSum 0 a ≠ refSum 0 b := by omega
    simp -implicitDefEqProofs [e1, e3]
    exact ret_end 0 (by simp [refOrder, e1, e2])
  have e3 : refSum 0 a = refSum 0 b := by omega
  have e4 : refOrder a b = cmpVs a b := by simp [refOrder, e1, e2]
  simp -implicitDefEqProofs [e3]
  refine loopS (S := Nat) (fun i => [(0, .sl a.length (cellsV a)), (1, .sl b.length (cellsV b)), (9, int i)]) (fun s => []) (fun i => i ≤ a.length ∧ i ≤ b.length ∧ cmpVs a b = cmpVs (a.drop i) (b.drop i)) (fun i => a.length - i) 0 (by simp)
    (selW [] 0 (by simp) (by simp) (by simp) (by simp)) ?_
  rintro i ⟨h1, h2, ho⟩
  by_cases g1 : i < a.length
  · have hd : a.drop i = a[i] :: a.drop (i + 1) := List.drop_eq_getElem_cons g1
    by_cases g2 : i < b.length
    · have hd' : b.drop i = b[i] :: b.drop (i + 1) := List.drop_eq_getElem_cons g2
      simp -implicitDefEqProofs [g1, g2, hl, hl', cellsV_drop g1, cellsV_drop g2]
      refine dcall0 (refCompare_ok a[i] b[i]) (by simp [encV]) (by simp) ?_
      simp -implicitDefEqProofs
      refine condP_intro (fun h3 => ?_) (fun h3 => ?_) <;> simp at h3
      · simp -implicitDefEqProofs
        exact ret_end 0 (by rw [e4, ho, hd, hd']; simp [cmpVs, h3])
      · simp -implicitDefEqProofs
        exact roundS (i + 1) ⟨g1, g2, by rw [ho, hd, hd']; simp [cmpVs, h3]⟩ (by omega) (selW [] 0 (by simp) (by simp) (by simp) (by simp [wrap_succ g1 hl]))
    · have hi : i = b.length := by omega
      subst hi
      have hn : b.drop b.length = [] := by simp
      simp -implicitDefEqProofs [g1, hl, hl', show ¬ a.length < b.length by omega]
      exact ret_end 0 (by rw [e4, ho, hd, hn]; simp [cmpVs])
  · have hi : i = a.length := by omega
    subst hi
    have hn : a.drop a.length = [] := by simp
    by_cases g2 : a.length < b.length
    · have hd' : b.drop a.length = b[a.length] :: b.drop (a.length + 1) := List.drop_eq_getElem_cons g2
      simp -implicitDefEqProofs [g2, hl, hl']
      exact ret_end 0 (by rw [e4, ho, hn, hd']; simp [cmpVs])
    · have hn' : b.drop a.length = [] := List.drop_eq_nil_of_le (by omega)
      simp -implicitDefEqProofs [g2, hl, hl', show ¬ b.length < a.length by omega]
      exact ret_end 0 (by rw [e4, ho, hn, hn']; simp [cmpVs])

/-! ### types, slots, definitions, programs -/

structure Id where
  a : Int
  b : Int
  c : Int
  deriving DecidableEq
inductive Typ where
  | mk (k : Int) (id : Id) (kids : List Typ)
def Typ.k : Typ → Int | .mk k _ _ => k
def Typ.id : Typ → Id | .mk _ d _ => d
def Typ.kids : Typ → List Typ | .mk _ _ l => l
@[simp] theorem Typ.k_mk {k : Int} {i : Id} {l : List Typ} : (Typ.mk k i l).k = k := rfl
@[simp] theorem Typ.id_mk {k : Int} {i : Id} {l : List Typ} : (Typ.mk k i l).id = i := rfl
@[simp] theorem Typ.kids_mk {k : Int} {i : Id} {l : List Typ} : (Typ.mk k i l).kids = l := rfl
structure Slt where
  id : Id
  name : ByteArray
  typ : Typ
  most : Int
  place : Int
structure Dfn where
  id : Id
  kind : Int
  mod : Id
  name : ByteArray
  slots : List Slt
structure Prg where
  mods : A
  plain : nrm0 mods = mods ∧ (∀ rf g, vw rf g mods = mods) ∧ cellsOf mods = some [mods]
  defs : List Dfn

theorem Id.eq_iff {x y : Id} : x = y ↔ x.a = y.a ∧ x.b = y.b ∧ x.c = y.c := by cases x; cases y; simp
def encI (d : Id) : List A := [.lit (.int .i64 d.a), .lit (.int .i64 d.b), .lit (.int .i64 d.c)]
mutual
def cellT : Typ → A
  | .mk _ _ l => .sl l.length (cellsT l)
def cellsT : List Typ → List A
  | [] => []
  | t :: l => .lit (.int .i64 t.k) :: .lit (.int .i64 t.id.a) :: .lit (.int .i64 t.id.b) :: .lit (.int .i64 t.id.c) :: cellT t :: cellsT l
end
theorem cellT_eq (t : Typ) : cellT t = .sl t.kids.length (cellsT t.kids) := by cases t; simp only [cellT, Typ.kids]
/-- The five cells of a type. -/
def encT (t : Typ) : List A := [.lit (.int .i64 t.k), .lit (.int .i64 t.id.a), .lit (.int .i64 t.id.b), .lit (.int .i64 t.id.c), .sl t.kids.length (cellsT t.kids)]
@[simp] theorem cellsT_nil : cellsT [] = [] := by simp only [cellsT]
@[simp] theorem cellsT_cons (t : Typ) (l : List Typ) : cellsT (t :: l) = .lit (.int .i64 t.k) :: .lit (.int .i64 t.id.a) :: .lit (.int .i64 t.id.b) :: .lit (.int .i64 t.id.c) :: .sl t.kids.length (cellsT t.kids) :: cellsT l := by simp only [cellsT, cellT_eq]
@[simp] theorem cellsT_len : ∀ l : List Typ, (cellsT l).length = l.length * 5
  | [] => by simp
  | v :: l => by simp [cellsT_len l]; omega
mutual
theorem cellT_plain : ∀ t : Typ, nrm0 (cellT t) = cellT t ∧ ∀ rf g, vw rf g (cellT t) = cellT t
  | .mk k n l => by
    have h := cellsT_plain l
    simp only [cellT]
    exact ⟨by simp [h.1], fun rf g => by simp [h.2]⟩
theorem cellsT_plain : ∀ l : List Typ, Plain (cellsT l)
  | [] => by simp only [cellsT]; exact Plain.nil
  | v :: l => by
    have h := cellT_plain v
    have h' := cellsT_plain l
    simp only [cellsT]
    exact ⟨by simp [h.1, h'.1], fun rf g => by simp [h.2, h'.2]⟩
end
@[simp] theorem nrm0_cellsT (l : List Typ) : nrm0L (cellsT l) = cellsT l := (cellsT_plain l).1
@[simp] theorem vw_cellsT {rf g} (l : List Typ) : vwL rf g (cellsT l) = cellsT l := (cellsT_plain l).2 _ _

def encS (s : Slt) : List A := [.lit (.int .i64 s.id.a), .lit (.int .i64 s.id.b), .lit (.int .i64 s.id.c), .lit (.string s.name), .lit (.int .i64 s.typ.k), .lit (.int .i64 s.typ.id.a), .lit (.int .i64 s.typ.id.b), .lit (.int .i64 s.typ.id.c), .sl s.typ.kids.length (cellsT s.typ.kids), .lit (.int .i64 s.most), .lit (.int .i64 s.place)]
def cellsS : List Slt → List A
  | [] => []
  | s :: l => encS s ++ cellsS l
@[simp] theorem cellsS_nil : cellsS [] = [] := rfl
@[simp] theorem cellsS_len : ∀ l : List Slt, (cellsS l).length = l.length * 11
  | [] => rfl
  | s :: l => by simp [cellsS, encS, cellsS_len l]; omega
theorem cellsS_plain : ∀ l : List Slt, Plain (cellsS l)
  | [] => Plain.nil
  | s :: l => by
    have h := cellsS_plain l
    exact ⟨by simp [cellsS, encS, h.1], fun rf g => by simp [cellsS, encS, h.2]⟩
@[simp] theorem nrm0_cellsS (l : List Slt) : nrm0L (cellsS l) = cellsS l := (cellsS_plain l).1
@[simp] theorem vw_cellsS {rf g} (l : List Slt) : vwL rf g (cellsS l) = cellsS l := (cellsS_plain l).2 _ _
theorem cellsS_drop : ∀ {l : List Slt} {i : Nat} (h : i < l.length), (cellsS l).drop (i * 11) = encS l[i] ++ cellsS (l.drop (i + 1))
  | v :: l, 0, h => by simp [cellsS]
  | v :: l, i + 1, h => by
    have e : (i + 1) * 11 = i * 11 + 11 := by omega
    rw [e, cellsS]
    simpa [encS] using cellsS_drop (l := l) (i := i) (by simpa using h)

/-- What a definition of a type has behind its slots. -/
def restD : List A := [int 0, int 0, int 0, int 0, .sl 0 [], int 0, int 0, int 0, int 0, int 0, int 0, int 0, int 0, int 0, int 0, int 0, int 0, .sl 0 [], .sl 0 [], .sl 0 [], int 0, .sl 0 []]
def encD (d : Dfn) : List A := [.lit (.int .i64 d.id.a), .lit (.int .i64 d.id.b), .lit (.int .i64 d.id.c), .lit (.int .i64 d.kind), .lit (.int .i64 d.mod.a), .lit (.int .i64 d.mod.b), .lit (.int .i64 d.mod.c), .lit (.string d.name), .sl d.slots.length (cellsS d.slots)] ++ restD
def cellsD : List Dfn → List A
  | [] => []
  | s :: l => encD s ++ cellsD l
@[simp] theorem cellsD_nil : cellsD [] = [] := rfl
@[simp] theorem cellsD_len : ∀ l : List Dfn, (cellsD l).length = l.length * 31
  | [] => rfl
  | s :: l => by simp [cellsD, encD, restD, cellsD_len l]; omega
theorem cellsD_plain : ∀ l : List Dfn, Plain (cellsD l)
  | [] => Plain.nil
  | s :: l => by
    have h := cellsD_plain l
    exact ⟨by simp [cellsD, encD, restD, h.1], fun rf g => by simp [cellsD, encD, restD, h.2]⟩
@[simp] theorem nrm0_cellsD (l : List Dfn) : nrm0L (cellsD l) = cellsD l := (cellsD_plain l).1
@[simp] theorem vw_cellsD {rf g} (l : List Dfn) : vwL rf g (cellsD l) = cellsD l := (cellsD_plain l).2 _ _
theorem cellsD_drop : ∀ {l : List Dfn} {i : Nat} (h : i < l.length), (cellsD l).drop (i * 31) = encD l[i] ++ cellsD (l.drop (i + 1))
  | v :: l, 0, h => by simp [cellsD]
  | v :: l, i + 1, h => by
    have e : (i + 1) * 31 = i * 31 + 31 := by omega
    rw [e, cellsD]
    simpa [encD, restD] using cellsD_drop (l := l) (i := i) (by simpa using h)
@[simp] theorem encD_len (d : Dfn) : (encD d).length = 31 := rfl
@[simp] theorem encD_take (d : Dfn) (l : List A) : (encD d ++ l).take 31 = encD d := by rw [List.take_append_of_le_length (by simp)]; exact List.take_of_length_le (by simp)
@[simp] theorem nrm0_encD (d : Dfn) : nrm0L (encD d) = encD d := by simp [encD, restD]
@[simp] theorem vw_encD (d : Dfn) {rf g} : vwL rf g (encD d) = encD d := by simp [encD, restD]
theorem encD_id (d : Dfn) (l : List A) : (encD d ++ l).take 3 = [.lit (.int .i64 d.id.a), .lit (.int .i64 d.id.b), .lit (.int .i64 d.id.c)] := rfl
@[simp] theorem encD_all (d : Dfn) : (encD d).take 31 = encD d := List.take_of_length_le (Nat.le_refl _)
@[simp] theorem encS_all (d : Slt) : (encS d).take 11 = encS d := List.take_of_length_le (Nat.le_refl _)
@[simp] theorem encI_all (d : Id) : (encI d).take 3 = encI d := List.take_of_length_le (Nat.le_refl _)
@[simp] theorem encI_len (d : Id) : (encI d).length = 3 := rfl
@[simp] theorem nrm0_encI (d : Id) : nrm0L (encI d) = encI d := by simp [encI]
@[simp] theorem vw_encI (d : Id) {rf g} : vwL rf g (encI d) = encI d := by simp [encI]
@[simp] theorem encS_len (d : Slt) : (encS d).length = 11 := rfl
@[simp] theorem encS_take (d : Slt) (l : List A) : (encS d ++ l).take 11 = encS d := by rw [List.take_append_of_le_length (by simp)]; exact List.take_of_length_le (by simp)
@[simp] theorem nrm0_encS (d : Slt) : nrm0L (encS d) = encS d := by simp [encS]
@[simp] theorem vw_encS (d : Slt) {rf g} : vwL rf g (encS d) = encS d := by simp [encS]
@[simp] theorem encT_len (d : Typ) : (encT d).length = 5 := rfl
@[simp] theorem encT_take (d : Typ) (l : List A) : (encT d ++ l).take 5 = encT d := by rw [List.take_append_of_le_length (by simp)]; exact List.take_of_length_le (by simp)
@[simp] theorem nrm0_encT (d : Typ) : nrm0L (encT d) = encT d := by simp [encT]
@[simp] theorem vw_encT (d : Typ) {rf g} : vwL rf g (encT d) = encT d := by simp [encT]
def encP (p : Prg) : List A := [p.mods, .sl p.defs.length (cellsD p.defs)]
@[simp] theorem Prg.nrm (p : Prg) : nrm0 p.mods = p.mods := p.plain.1
@[simp] theorem Prg.vw (p : Prg) {rf g} : Abs.vw rf g p.mods = p.mods := p.plain.2.1 _ _
@[simp] theorem Prg.cell (p : Prg) : cellsOf p.mods = some [p.mods] := p.plain.2.2

def Dfn.zero : Dfn := ⟨⟨0, 0, 0⟩, 0, ⟨0, 0, 0⟩, ⟨#[]⟩, []⟩

/-- Whether two IDs are one. -/
def same3 (a b c a' b' c' : Int) : Bool := decide (Id.mk a b c = Id.mk a' b' c')
@[simp] theorem same3_id {x y : Id} : same3 x.a x.b x.c y.a y.b y.c = decide (x = y) := rfl
def Id.zero : Id := ⟨0, 0, 0⟩
@[simp] theorem same3_zero {x : Id} : same3 x.a x.b x.c 0 0 0 = decide (x = Id.zero) := rfl
@[simp] theorem Id.zero_a : Id.zero.a = 0 := rfl
@[simp] theorem Id.zero_b : Id.zero.b = 0 := rfl
@[simp] theorem Id.zero_c : Id.zero.c = 0 := rfl
@[simp] theorem same3_00 : same3 0 0 0 0 0 0 = true := rfl
@[simp] theorem eqsA_id {a b c a' b' c' : Int} : eqsA [.i, .i, .i] false (.agg [.lit (.int .i64 a), .lit (.int .i64 b), .lit (.int .i64 c)]) (.agg [.lit (.int .i64 a'), .lit (.int .i64 b'), .lit (.int .i64 c')]) =
    some (.lit (.bool (same3 a b c a' b' c'))) := by simp [eqsA, eqCells, eqCell, truthOf, same3]
@[simp] theorem eqsA_idn {a b c a' b' c' : Int} : eqsA [.i, .i, .i] true (.agg [.lit (.int .i64 a), .lit (.int .i64 b), .lit (.int .i64 c)]) (.agg [.lit (.int .i64 a'), .lit (.int .i64 b'), .lit (.int .i64 c')]) =
    some (.lit (.bool (!same3 a b c a' b' c'))) := by simp [eqsA, eqCells, eqCell, truthOf, same3]

theorem def1_ok (d : Dfn) (id : Id) : Ret Try.prog 83 [.agg (encD d), .ptr 0 0] [.box (encI id)] (bl (decide (d.id = id))) [.box (encI id)] := by
  refine ret_of_wp Try.func83 rfl c83 (rs := [.slot 3]) (by kernel_rfl) ?_
  unfold K83
  simp -implicitDefEqProofs [encD, encI, restD, eqsA_id]
  exact ret_keep [0] 0 (by simp) (by simp) (by simp) (by simp)

def idxD : List Dfn → Id → Nat → Int
  | [], _, _ => -1
  | d :: l, id, n => if d.id = id then n else idxD l id (n + 1)
def findD : List Dfn → Id → Option Dfn
  | [], _ => none
  | d :: l, id => if d.id = id then some d else findD l id
theorem idxD_find : ∀ (l : List Dfn) (id : Id) (n : Nat), (findD l id = none ∧ idxD l id n = -1) ∨ ∃ (i : Nat) (h : i < l.length), idxD l id n = (n + i : Nat) ∧ findD l id = some l[i]
  | [], id, n => .inl ⟨rfl, rfl⟩
  | d :: l, id, n => by
    simp only [findD, idxD]
    by_cases hd : d.id = id
    · exact .inr ⟨0, by simp, by simp [hd], by simp [hd]⟩
    · simp only [hd, if_false]
      rcases idxD_find l id (n + 1) with h | ⟨i, hi, h1, h2⟩
      · exact .inl h
      · exact .inr ⟨i + 1, by simpa using hi, by rw [h1]; congr 1; omega, by simpa using h2⟩

theorem indexFunc_ok (l : List Dfn) (id : Id) : Ret Try.prog 82 [.sl l.length (cellsD l), .clo 83 [] [.ptr 0 0]] [.box (encI id)] (int (idxD l id 0)) [.box (encI id)] := by
  refine ret_of_wp Try.func82 rfl c82 (rs := [.slot 4]) (by kernel_rfl) ?_
  unfold K82
  simp -implicitDefEqProofs
  intro hl
  refine loopS (S := Nat) (fun i => [(0, .sl l.length (cellsD l)), (1, .clo 83 [] [.ptr 0 0]), (6, .sl l.length (cellsD l)), (7, int l.length), (8, int i)]) (fun s => [.box (encI id)]) (fun i => i ≤ l.length ∧ idxD l id 0 = idxD (l.drop i) id i) (fun i => l.length - i) 0 (by simp)
    (selW [0] 0 (by simp) (by simp) (by simp [encI]) (by simp)) ?_
  rintro i ⟨hi, ho⟩
  by_cases h : i < l.length
  · have hd : l.drop i = l[i] :: l.drop (i + 1) := List.drop_eq_getElem_cons h
    simp -implicitDefEqProofs [h, cellsD_drop h]
    refine callJ (def1_ok l[i] id) [0] (by simp) (by simp) (by simp) ?_
    simp -implicitDefEqProofs
    refine condP_intro (fun h' => ?_) (fun h' => ?_) <;> simp at h'
    · simp -implicitDefEqProofs
      exact ret_keep [0] 0 (by simp) (by simp) (by simp) (by rw [ho, hd]; simp [idxD, h'])
    · simp -implicitDefEqProofs
      exact roundS (i + 1) ⟨h, by rw [ho, hd]; simp [idxD, h']⟩ (by omega) (selW [0] 0 (by simp) (by simp) (by simp) (by simp [wrap_succ h hl]))
  · have hi : i = l.length := by omega
    subst hi
    simp -implicitDefEqProofs
    exact ret_keep [0] 0 (by simp) (by simp) (by simp) (by rw [ho]; simp [idxD])

def Typ0 : Typ := .mk 0 ⟨0, 0, 0⟩ []
theorem zeroD : encD .zero = [int 0, int 0, int 0, int 0, int 0, int 0, int 0, .lit (.string ⟨#[]⟩), .sl 0 []] ++ restD := by simp [encD, Dfn.zero]

/-- What Def returns. -/
def defR (p : Prg) (id : Id) : A := .tup [.agg (encD ((findD p.defs id).getD .zero)), bl (findD p.defs id).isSome]

theorem def_ok (p : Prg) (id : Id) : Ret Try.prog 64 [.agg (encP p), .agg (encI id)] [] (defR p id) [] := by
  refine ret_of_wp Try.func64 rfl c64 (rs := [.cell 4 31 true, .slot 5]) (by kernel_rfl) ?_
  unfold K64
  simp -implicitDefEqProofs [encP]
  refine callJ (indexFunc_ok p.defs id) [1] (by simp) (by simp) (by simp) ?_
  simp -implicitDefEqProofs
  rcases idxD_find p.defs id 0 with ⟨h1, h2⟩ | ⟨i, hi, h1, h2⟩
  · simp -implicitDefEqProofs [h2]
    exact ret_end 0 (by simp [defR, h1, zeroD, restD])
  · have hn : ¬ ((i : Int) < 0) := by omega
    simp -implicitDefEqProofs [h1, hn, hi, cellsD_drop hi]
    exact ret_end 0 (by simp [defR, h2])

theorem refDef_ok (p : Prg) (id : Id) : Ret Try.prog 69 [.agg (encP p), .agg (encI id)] [] (defR p id) [] := by
  refine ret_of_wp Try.func69 rfl c69 (rs := [.cell 4 31 true, .slot 5]) (by kernel_rfl) ?_
  unfold K69
  simp -implicitDefEqProofs [encP]
  refine loopS (S := Nat) (fun i => [(2, .ptr 0 0), (3, .ptr 1 0), (4, .ptr 2 0), (5, bl false), (6, int i)]) (fun s => [.box (encP p), .box (encI id), .box (encD .zero)]) (fun i => i ≤ p.defs.length ∧ findD p.defs id = findD (p.defs.drop i) id) (fun i => p.defs.length - i) 0 (by simp)
    (selW [0, 1, 2] 0 (by simp) (by simp) (by simp [encP, zeroD, restD]) (by simp)) ?_
  rintro i ⟨hi, ho⟩
  by_cases h : i < p.defs.length
  · have hd : p.defs.drop i = p.defs[i] :: p.defs.drop (i + 1) := List.drop_eq_getElem_cons h
    by_cases h' : p.defs[i].id = id
    · have e : defR p id = .tup [.agg (encD p.defs[i]), bl true] := by rw [defR, ho, hd]; simp [findD, h']
      simp -implicitDefEqProofs [encP, h, cellsD_drop h, encI, encD_id, h', e]
      intro hl
      exact ret_end 0 (by simp)
    · simp -implicitDefEqProofs [encP, h, cellsD_drop h, encI, encD_id, h']
      intro hl
      exact roundS (i + 1) ⟨h, by rw [ho, hd]; simp [findD, h']⟩ (by omega) (selW [0, 1, 2] 0 (by simp) (by simp) (by simp) (by simp [wrap_succ h hl]))
  · have hi : i = p.defs.length := by omega
    subst hi
    have e : defR p id = .tup [.agg (encD .zero), bl false] := by rw [defR, ho]; simp [findD]
    simp -implicitDefEqProofs [encP, e]
    intro hl
    exact ret_end 0 (by simp [zeroD, restD])

def kindOk : Option Dfn → Bool
  | some d => decide (d.kind = 0 ∨ d.kind = 1)
  | none => false
/-- Whether a type is valid, of at most n levels. -/
def validN (p : Prg) : Nat → Typ → Bool
  | 0, _ => false
  | n + 1, t => if t.k = 2 then (match t.kids with
      | [x] => decide (t.id = Id.zero) && validN p n x
      | _ => false) else if t.kids ≠ [] then false else if t.k = 3 then kindOk (findD p.defs t.id) else decide (t.id = Id.zero) && decide (t.k = 0 ∨ t.k = 1)
def validT (p : Prg) (t : Typ) : Bool := validN p 24 t

theorem refValidN_ok (p : Prg) : ∀ (n : Nat) (d : Int) (t : Typ), d = 25 - (n : Int) → n ≤ 24 → Ret Try.prog 94 [.agg (encP p), .agg (encT t), int d] [] (bl (validN p n t)) []
  | 0, d, t, hd, _ => by
    refine ret_of_wp Try.func94 rfl c94 (rs := [.slot 6]) (by kernel_rfl) ?_
    unfold K94
    subst hd
    simp -implicitDefEqProofs [encT, encP]
    exact ret_end 0 (by simp [validN])
  | n + 1, d, t, hd, hn => by
    refine ret_of_wp Try.func94 rfl c94 (rs := [.slot 6]) (by kernel_rfl) ?_
    unfold K94
    have h24 : ¬ (24 < d) := by omega
    cases t with
    | mk k id kids =>
    by_cases hk : k = 2
    · subst hk
      by_cases hid : id = Id.zero
      · subst hid
        rcases kids with _ | ⟨x, _ | ⟨y, l⟩⟩
        · simp -implicitDefEqProofs [encT, encP, h24]
          exact ret_end 0 (by simp [validN])
        · have hw : IntKind.i64.wrap (d + 1) = d + 1 := IntWalk.i64_in _ (by omega)
          simp -implicitDefEqProofs [encT, encP, h24]
          refine dcall0 (refValidN_ok p n (d + 1) x (by omega) (by omega)) (by simp [encP, encT, hw]) (by simp) ?_
          simp -implicitDefEqProofs
          exact ret_end 0 (by simp [validN, Id.zero])
        · have h1 : ¬ ((l.length : Int) + 1 + 1 = 1) := by omega
          simp -implicitDefEqProofs [encT, encP, h24, h1]
          exact ret_end 0 (by simp [validN])
      · have hv : validN p (n + 1) (.mk 2 id kids) = false := by
          simp only [validN, Typ.k_mk, Typ.id_mk, Typ.kids_mk, if_true]
          split <;> simp [hid]
        simp -implicitDefEqProofs [encT, encP, h24, hid, hv]
        exact ret_end 0 (by simp)
    · rcases kids with _ | ⟨x, l⟩
      · by_cases h3 : k = 3
        · subst h3
          simp -implicitDefEqProofs [encT, encP, h24]
          refine call0 (refDef_ok p id) (by simp [encP, encI]) (by simp [defR]) ?_
          cases hf : findD p.defs id with
          | none =>
            simp -implicitDefEqProofs [defR, hf, zeroD, restD]
            exact ret_end 0 (by simp [validN, hf, kindOk])
          | some f =>
            by_cases h0 : f.kind = 0
            · simp -implicitDefEqProofs [defR, hf, encD, restD, h0]
              exact ret_end 0 (by simp [validN, hf, kindOk, h0])
            · simp -implicitDefEqProofs [defR, hf, encD, restD, h0]
              exact ret_end 0 (by simp [validN, hf, kindOk, h0])
        · by_cases hid : id = Id.zero
          · subst hid
            by_cases h0 : k = 0
            · subst h0
              simp -implicitDefEqProofs [encT, encP, h24]
              exact ret_end 0 (by simp [validN, Id.zero])
            · simp -implicitDefEqProofs [encT, encP, h24, hk, h3, h0]
              exact ret_end 0 (by simp [validN, Id.zero, hk, h3, h0])
          · simp -implicitDefEqProofs [encT, encP, h24, hk, h3, hid]
            have hv : validN p (n + 1) (.mk k id []) = false := by
              simp only [validN, Typ.k_mk, Typ.id_mk, Typ.kids_mk, hk, h3, if_false]
              simp [hid]
            exact ret_end 0 (by rw [hv]; simp)
      · have hl : (0 : Int) < (l.length : Int) + 1 := by omega
        simp -implicitDefEqProofs [encT, encP, h24, hk, hl]
        have hv : validN p (n + 1) (.mk k id (x :: l)) = false := by
          simp only [validN, Typ.k_mk, Typ.id_mk, Typ.kids_mk, hk, if_false]
          rfl
        exact fun _ => ret_end 0 (by rw [hv]; simp)

theorem refValid_ok (p : Prg) (t : Typ) : Ret Try.prog 68 [.agg (encP p), .agg (encT t)] [] (bl (validT p t)) [] := by
  refine ret_of_wp Try.func68 rfl c68 (rs := [.slot 4]) (by kernel_rfl) ?_
  unfold K68
  simp -implicitDefEqProofs [encP, encT]
  refine call0 (refValidN_ok p 24 1 t (by omega) (by omega)) (by simp [encP, encT]) (by simp) ?_
  simp -implicitDefEqProofs
  exact ret_end 0 (by simp [validT])

theorem valid_ok (p : Prg) (t0 : Typ) : Ret Try.prog 61 [.agg (encP p), .agg (encT t0)] [] (bl (validT p t0)) [] := by
  refine ret_of_wp Try.func61 rfl c61 (rs := [.slot 4]) (by kernel_rfl) ?_
  unfold K61
  simp -implicitDefEqProofs [encP]
  refine loopS (S := Nat × Typ) (fun s => [(2, .ptr 0 0), (3, .ptr 1 0), (5, int s.1)]) (fun s => [.box (encP p), .box (encT s.2)]) (fun s => 1 ≤ s.1 ∧ s.1 ≤ 25 ∧ validT p t0 = validN p (25 - s.1) s.2) (fun s => 25 - s.1) (1, t0) (by simp [validT])
    (selW [0, 1] 0 (by simp) (by simp) (by simp [encP]) (by simp)) ?_
  rintro ⟨i, t⟩ ⟨hi0, hi, ho⟩
  simp only at hi0 hi ho
  by_cases h : i ≤ 24
  · have hi24 : (i : Int) ≤ 24 := by omega
    obtain ⟨n, hn⟩ : ∃ n, 25 - i = n + 1 := ⟨24 - i, by omega⟩
    have hn' : 25 - (i + 1) = n := by omega
    have hw : IntKind.i64.wrap ((i : Int) + 1) = (i : Int) + 1 := IntWalk.i64_in _ (by omega)
    rw [hn] at ho
    cases t with
    | mk k id kids =>
    by_cases h2 : k = 2
    · subst h2
      by_cases hid : id = Id.zero
      · subst hid
        rcases kids with _ | ⟨x, _ | ⟨y, l⟩⟩
        · simp -implicitDefEqProofs [encT, encP, hi24]
          exact ret_end 0 (by rw [ho]; simp [validN])
        · simp -implicitDefEqProofs [encT, encP, hi24]
          intro _
          refine roundS (i + 1, x) ⟨by simp, by simp only; omega, ?_⟩ (by simp only; omega) (selW [0, 1] 0 (by simp) (by simp) (by simp [encP, encT]) (by simp [hw]))
          simp only
          rw [ho, hn']
          simp [validN]
        · have h1 : ¬ ((l.length : Int) + 1 + 1 = 1) := by omega
          simp -implicitDefEqProofs [encT, encP, hi24, h1]
          exact fun _ => ret_end 0 (by rw [ho]; simp [validN])
      · have hv : validN p (n + 1) (.mk 2 id kids) = false := by
          simp only [validN, Typ.k_mk, Typ.id_mk, Typ.kids_mk, if_true]
          split <;> simp [hid]
        simp -implicitDefEqProofs [encT, encP, hi24, hid]
        exact ret_end 0 (by rw [ho, hv]; simp)
    by_cases h3 : k = 3
    · subst h3
      simp -implicitDefEqProofs [encT, encP, hi24]
      refine call0 (def_ok p id) (by simp [encP, encI]) (by simp [defR]) ?_
      cases hf : findD p.defs id with
      | none =>
        have hv : validN p (n + 1) (.mk 3 id kids) = false := by cases kids <;> simp [validN, hf, kindOk]
        simp -implicitDefEqProofs [defR, hf, zeroD, restD]
        exact ret_end 0 (by rw [ho, hv]; simp)
      | some f =>
        by_cases h0 : f.kind = 0 ∨ f.kind = 1
        · have hv : validN p (n + 1) (.mk 3 id kids) = decide (kids.length = 0) := by cases kids <;> simp [validN, hf, kindOk, h0]
          rcases h0 with h0 | h0
          · simp -implicitDefEqProofs [defR, hf, encD, restD, h0]
            exact fun _ => ret_end 0 (by rw [ho, hv]; simp)
          · simp -implicitDefEqProofs [defR, hf, encD, restD, h0]
            exact fun _ => ret_end 0 (by rw [ho, hv]; simp)
        · have hv : validN p (n + 1) (.mk 3 id kids) = false := by cases kids <;> simp [validN, hf, kindOk, h0]
          have g0 : f.kind ≠ 0 := fun e => h0 (.inl e)
          have g1 : f.kind ≠ 1 := fun e => h0 (.inr e)
          simp -implicitDefEqProofs [defR, hf, encD, restD, g0, g1]
          exact ret_end 0 (by rw [ho, hv]; simp)
    · by_cases h0 : k = 0 ∨ k = 1
      · by_cases hid : id = Id.zero
        · subst hid
          have hv : validN p (n + 1) (.mk k Id.zero kids) = decide (kids.length = 0) := by cases kids <;> simp [validN, h2, h3, h0]
          rcases h0 with rfl | rfl
          · simp -implicitDefEqProofs [encT, encP, hi24]
            exact fun _ => ret_end 0 (by rw [ho, hv]; simp)
          · simp -implicitDefEqProofs [encT, encP, hi24]
            exact fun _ => ret_end 0 (by rw [ho, hv]; simp)
        · have hv : validN p (n + 1) (.mk k id kids) = false := by
            simp only [validN, Typ.k_mk, Typ.id_mk, Typ.kids_mk, h2, h3, if_false]
            simp [hid]
          rcases h0 with rfl | rfl
          · simp -implicitDefEqProofs [encT, encP, hi24, hid]
            exact ret_end 0 (by rw [ho, hv]; simp)
          · simp -implicitDefEqProofs [encT, encP, hi24, hid]
            exact ret_end 0 (by rw [ho, hv]; simp)
      · have hv : validN p (n + 1) (.mk k id kids) = false := by
          simp only [validN, Typ.k_mk, Typ.id_mk, Typ.kids_mk, h2, h3, if_false]
          simp [h0]
        have g0 : k ≠ 0 := fun e => h0 (.inl e)
        have g1 : k ≠ 1 := fun e => h0 (.inr e)
        simp -implicitDefEqProofs [encT, encP, hi24, g0, g1, h2, h3]
        exact ret_end 0 (by rw [ho, hv]; simp)
  · have : i = 25 := by omega
    subst this
    simp -implicitDefEqProofs
    exact ret_end 0 (by rw [ho]; simp [validN])
end Go.Proofs.Ytbkiphnlbadhcaa
