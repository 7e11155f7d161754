/-
  domain.measure: the size of a domain.
-/
import Derived.Test.YtbkiphnlbadhcaaC4
namespace Go.Proofs.Ytbkiphnlbadhcaa
open Go.Abs

-- splicery/domain.measure$1 · results ["cell 7", "8"]
def K60 : K :=
 K.seq (K.ops [⟨none, .box (some 5) (.tmp 0)⟩,
 ⟨none, .alloc (some 7) [(.int .i64 0), (.int .i64 0)]⟩,
 ⟨none, .mov (some 8) (.const (.int .i64 0))⟩])
 (K.seq (K.block 0 (K.seq (K.ops [⟨none, .ld (some 15) (.tmp 2) 2 true⟩,
 ⟨none, .ld (some 16) (.tmp 5) 5 true⟩,
 ⟨none, .call (some 17) (.func 61) [(.tmp 15), (.tmp 16)]⟩,
 ⟨none, .not (some 18) (.tmp 17)⟩,
 ⟨none, .mov (some 14) (.tmp 18)⟩])
 (K.cond (.tmp 14)
 (K.seq (K.ops [⟨none, .build (some 19) [(.int .i64 0), (.int .i64 0)] []⟩,
 ⟨none, .st none (.tmp 7) (.tmp 19) 2⟩,
 ⟨none, .mov (some 8) (.const (.int .i64 1))⟩])
 (K.ret))
 (K.seq (K.ops [⟨none, .mov (some 21) (.tmp 1)⟩,
 ⟨none, .bin (some 22) .gtr (.tmp 21) (.const (.int .i64 24))⟩,
 ⟨none, .mov (some 20) (.tmp 22)⟩])
 (K.cond (.tmp 20)
 (K.seq (K.ops [⟨none, .build (some 23) [(.int .i64 0), (.int .i64 0)] []⟩,
 ⟨none, .st none (.tmp 7) (.tmp 23) 2⟩,
 ⟨none, .mov (some 8) (.const (.int .i64 4))⟩])
 (K.ret))
 (K.seq (K.ops [⟨none, .addr (some 25) (.tmp 5) 0⟩,
 ⟨none, .ld (some 26) (.tmp 25) 1 false⟩,
 ⟨none, .eqv (some 27) false .i (.tmp 26) (.const (.int .i64 0))⟩,
 ⟨none, .mov (some 24) (.tmp 27)⟩])
 (K.cond (.tmp 24)
 (K.seq (K.ops [⟨none, .ld (some 28) (.tmp 3) 1 false⟩,
 ⟨none, .bin (some 29) .mul (.const (.int .i64 2)) (.tmp 28)⟩,
 ⟨none, .bin (some 30) .add (.tmp 29) (.const (.int .i64 1))⟩,
 ⟨none, .build (some 31) [(.int .i64 0), (.int .i64 0)] [(0, 1, (.tmp 30)), (1, 1, (.const (.int .i64 1)))]⟩,
 ⟨none, .st none (.tmp 7) (.tmp 31) 2⟩,
 ⟨none, .mov (some 8) (.const (.int .i64 0))⟩])
 (K.ret))
 (K.seq (K.ops [⟨none, .addr (some 33) (.tmp 5) 0⟩,
 ⟨none, .ld (some 34) (.tmp 33) 1 false⟩,
 ⟨none, .eqv (some 35) false .i (.tmp 34) (.const (.int .i64 1))⟩,
 ⟨none, .mov (some 32) (.tmp 35)⟩])
 (K.cond (.tmp 32)
 (K.seq (K.ops [⟨none, .build (some 36) [(.int .i64 0), (.int .i64 0)] [(0, 1, (.const (.int .i64 2))), (1, 1, (.const (.int .i64 1)))]⟩,
 ⟨none, .st none (.tmp 7) (.tmp 36) 2⟩,
 ⟨none, .mov (some 8) (.const (.int .i64 0))⟩])
 (K.ret))
 (K.skip))))))))))
 (K.seq (K.ops [⟨none, .build (some 37) [(.int .i64 0), (.int .i64 0)] [(0, 1, (.const (.int .i64 1))), (1, 1, (.const (.int .i64 1)))]⟩,
 ⟨none, .alloc (some 9) [(.int .i64 0), (.int .i64 0)]⟩,
 ⟨none, .st none (.tmp 9) (.tmp 37) 2⟩])
 (K.seq (K.seq (K.ops [⟨none, .addr (some 38) (.tmp 5) 0⟩,
 ⟨none, .ld (some 39) (.tmp 38) 1 false⟩,
 ⟨none, .eqv (some 40) false .i (.tmp 39) (.const (.int .i64 2))⟩])
 (K.cond (.tmp 40)
 (K.seq (K.dops [(0, 1, ⟨none, .ld (some 42) (.tmp 4) 1 false⟩),
 (1, 1, ⟨none, .addr (some 43) (.tmp 5) 4⟩),
 (2, 1, ⟨none, .ld (some 44) (.tmp 43) 1 false⟩),
 (3, 1, ⟨none, .idx (some 45) (.tmp 44) (.const (.int .i64 0)) 5⟩),
 (4, 1, ⟨none, .ld (some 46) (.tmp 45) 5 true⟩),
 (5, 0, ⟨none, .mov (some 47) (.tmp 1)⟩),
 (6, 0, ⟨none, .bin (some 48) .add (.tmp 47) (.const (.int .i64 1))⟩),
 (7, 1, ⟨none, .call (some 49) (.tmp 42) [(.tmp 46), (.tmp 48)]⟩),
 (8, 0, ⟨none, .mov (some 41) (.tmp 49)⟩),
 (9, 0, ⟨none, .ext (some 50) (.tmp 41) 0⟩),
 (10, 0, ⟨none, .ext (some 51) (.tmp 41) 1⟩),
 (11, 0, ⟨none, .alloc (some 10) [(.int .i64 0), (.int .i64 0)]⟩),
 (12, 0, ⟨none, .st none (.tmp 10) (.tmp 50) 2⟩),
 (13, 0, ⟨none, .mov (some 11) (.tmp 51)⟩)])
 (K.seq (K.seq (K.ops [⟨none, .mov (some 52) (.tmp 11)⟩,
 ⟨none, .eqv (some 53) true .i (.tmp 52) (.const (.int .i64 0))⟩])
 (K.cond (.tmp 53)
 (K.seq (K.ops [⟨none, .build (some 54) [(.int .i64 0), (.int .i64 0)] []⟩,
 ⟨none, .mov (some 55) (.tmp 11)⟩,
 ⟨none, .st none (.tmp 7) (.tmp 54) 2⟩,
 ⟨none, .mov (some 8) (.tmp 55)⟩])
 (K.ret))
 (K.skip)))
 (K.seq (K.ops [⟨none, .mov (some 12) (.const (.int .i64 1))⟩])
 (K.seq (K.ops [⟨none, .ld (some 56) (.tmp 3) 1 false⟩,
 ⟨none, .mm (some 57) false [(.tmp 56), (.const (.int .i64 2))]⟩,
 ⟨none, .mov (some 58) (.const (.int .i64 0))⟩])
 (K.block 1 (K.loop (K.seq (K.ops [⟨none, .bin (some 59) .lss (.tmp 58) (.tmp 57)⟩])
 (K.seq (K.cond (.tmp 59)
 (K.skip)
 (K.exit 1))
 (K.seq (K.block 2 (K.seq (K.ops [⟨none, .mov (some 60) (.tmp 12)⟩,
 ⟨none, .addr (some 61) (.tmp 10) 0⟩,
 ⟨none, .ld (some 62) (.tmp 61) 1 false⟩,
 ⟨none, .bin (some 63) .mul (.tmp 60) (.tmp 62)⟩,
 ⟨none, .mov (some 12) (.tmp 63)⟩])
 (K.seq (K.ops [⟨none, .addr (some 64) (.tmp 9) 0⟩,
 ⟨none, .ld (some 65) (.tmp 64) 1 false⟩,
 ⟨none, .mov (some 66) (.tmp 12)⟩,
 ⟨none, .bin (some 67) .add (.tmp 65) (.tmp 66)⟩,
 ⟨none, .addr (some 68) (.tmp 9) 0⟩,
 ⟨none, .st none (.tmp 68) (.tmp 67) 1⟩])
 (K.ops [⟨none, .addr (some 69) (.tmp 9) 1⟩,
 ⟨none, .ld (some 70) (.tmp 69) 1 false⟩,
 ⟨none, .addr (some 71) (.tmp 10) 1⟩,
 ⟨none, .ld (some 72) (.tmp 71) 1 false⟩,
 ⟨none, .bin (some 73) .add (.tmp 70) (.tmp 72)⟩,
 ⟨none, .addr (some 74) (.tmp 9) 1⟩,
 ⟨none, .st none (.tmp 74) (.tmp 73) 1⟩]))))
 (K.ops [⟨none, .bin (some 75) .add (.tmp 58) (.const (.int .i64 1))⟩,
 ⟨none, .mov (some 58) (.tmp 75)⟩]))))))))))
 (K.seq (K.ops [⟨none, .mov (some 13) (.const (.int .i64 0))⟩])
 (K.seq (K.ops [⟨none, .ld (some 77) (.tmp 2) 2 true⟩,
 ⟨none, .ld (some 78) (.tmp 5) 5 true⟩,
 ⟨none, .mov (some 79) (.tmp 1)⟩,
 ⟨none, .ld (some 80) (.tmp 4) 1 false⟩,
 ⟨none, .call (some 81) (.func 62) [(.tmp 77), (.tmp 78), (.tmp 79), (.tmp 80)]⟩,
 ⟨none, .mov (some 76) (.tmp 81)⟩,
 ⟨none, .ext (some 82) (.tmp 76) 0⟩,
 ⟨none, .ext (some 83) (.tmp 76) 1⟩,
 ⟨none, .st none (.tmp 9) (.tmp 82) 2⟩,
 ⟨none, .mov (some 13) (.tmp 83)⟩])
 (K.seq (K.ops [⟨none, .mov (some 84) (.tmp 13)⟩,
 ⟨none, .eqv (some 85) true .i (.tmp 84) (.const (.int .i64 0))⟩])
 (K.cond (.tmp 85)
 (K.seq (K.ops [⟨none, .build (some 86) [(.int .i64 0), (.int .i64 0)] []⟩,
 ⟨none, .mov (some 87) (.tmp 13)⟩,
 ⟨none, .st none (.tmp 7) (.tmp 86) 2⟩,
 ⟨none, .mov (some 8) (.tmp 87)⟩])
 (K.ret))
 (K.skip)))))))
 (K.seq (K.seq (K.ops [⟨none, .addr (some 88) (.tmp 9) 0⟩,
 ⟨none, .ld (some 89) (.tmp 88) 1 false⟩,
 ⟨none, .bin (some 90) .gtr (.tmp 89) (.const (.int .i64 4096))⟩,
 ⟨none, .mov (some 91) (.tmp 90)⟩,
 ⟨some (91, false), .addr (some 92) (.tmp 9) 1⟩,
 ⟨some (91, false), .ld (some 93) (.tmp 92) 1 false⟩,
 ⟨some (91, false), .bin (some 94) .gtr (.tmp 93) (.const (.int .i64 256))⟩,
 ⟨none, .pick (some 95) (.tmp 91) (.const (.bool true)) (.tmp 94)⟩])
 (K.cond (.tmp 95)
 (K.seq (K.ops [⟨none, .build (some 96) [(.int .i64 0), (.int .i64 0)] []⟩,
 ⟨none, .st none (.tmp 7) (.tmp 96) 2⟩,
 ⟨none, .mov (some 8) (.const (.int .i64 4))⟩])
 (K.ret))
 (K.skip)))
 (K.seq (K.seq (K.ops [⟨none, .addr (some 97) (.tmp 9) 0⟩,
 ⟨none, .ld (some 98) (.tmp 97) 1 false⟩,
 ⟨none, .eqv (some 99) false .i (.tmp 98) (.const (.int .i64 0))⟩])
 (K.cond (.tmp 99)
 (K.ops [⟨none, .addr (some 100) (.tmp 9) 1⟩,
 ⟨none, .st none (.tmp 100) (.const (.int .i64 0)) 1⟩])
 (K.skip)))
 (K.seq (K.ops [⟨none, .ld (some 101) (.tmp 9) 2 true⟩,
 ⟨none, .st none (.tmp 7) (.tmp 101) 2⟩,
 ⟨none, .mov (some 8) (.const (.int .i64 0))⟩])
 (K.ret)))))))
theorem c60 : compile Try.prog Try.f60.ntmps (Try.f60.body.getD .skip) = some K60.erase := by kernel_rfl
@[simp] theorem cal60 : callable Try.prog 60 = true := by kernel_rfl

-- splicery/domain.slots · results ["cell 8", "9"]
def K62 : K :=
 K.seq (K.ops [⟨none, .box (some 4) (.tmp 0)⟩,
 ⟨none, .box (some 5) (.tmp 1)⟩,
 ⟨none, .alloc (some 8) [(.int .i64 0), (.int .i64 0)]⟩,
 ⟨none, .mov (some 9) (.const (.int .i64 0))⟩])
 (K.seq (K.ops [⟨none, .ld (some 22) (.tmp 4) 2 true⟩,
 ⟨none, .addr (some 23) (.tmp 5) 1⟩,
 ⟨none, .ld (some 24) (.tmp 23) 3 true⟩,
 ⟨none, .call (some 25) (.func 64) [(.tmp 22), (.tmp 24)]⟩,
 ⟨none, .mov (some 21) (.tmp 25)⟩,
 ⟨none, .ext (some 26) (.tmp 21) 0⟩,
 ⟨none, .ext (some 27) (.tmp 21) 1⟩,
 ⟨none, .alloc (some 10) [(.int .i64 0), (.int .i64 0), (.int .i64 0), (.int .i64 0), (.int .i64 0), (.int .i64 0), (.int .i64 0), (.string ⟨#[]⟩), (.slice none 0 0), (.int .i64 0), (.int .i64 0), (.int .i64 0), (.int .i64 0), (.slice none 0 0), (.int .i64 0), (.int .i64 0), (.int .i64 0), (.int .i64 0), (.int .i64 0), (.int .i64 0), (.int .i64 0), (.int .i64 0), (.int .i64 0), (.int .i64 0), (.int .i64 0), (.int .i64 0), (.slice none 0 0), (.slice none 0 0), (.slice none 0 0), (.int .i64 0), (.slice none 0 0)]⟩,
 ⟨none, .st none (.tmp 10) (.tmp 26) 31⟩,
 ⟨none, .mov (some 11) (.tmp 27)⟩])
 (K.seq (K.ops [⟨none, .addr (some 28) (.tmp 10) 3⟩,
 ⟨none, .ld (some 29) (.tmp 28) 1 false⟩,
 ⟨none, .eqv (some 30) false .i (.tmp 29) (.const (.int .i64 0))⟩,
 ⟨none, .mov (some 12) (.tmp 30)⟩])
 (K.seq (K.ops [⟨none, .brow (some 31) 75 2 0 [] []⟩,
 ⟨none, .mov (some 13) (.tmp 31)⟩])
 (K.seq (K.seq (K.ops [⟨none, .addr (some 32) (.tmp 10) 8⟩,
 ⟨none, .ld (some 33) (.tmp 32) 1 false⟩,
 ⟨none, .len (some 34) false (.tmp 33)⟩,
 ⟨none, .mov (some 35) (.const (.int .i64 0))⟩])
 (K.block 0 (K.loop (K.seq (K.ops [⟨none, .bin (some 36) .lss (.tmp 35) (.tmp 34)⟩])
 (K.seq (K.cond (.tmp 36)
 (K.skip)
 (K.exit 0))
 (K.seq (K.block 1 (K.seq (K.ops [⟨none, .idx (some 37) (.tmp 33) (.tmp 35) 11⟩,
 ⟨none, .ld (some 38) (.tmp 37) 11 true⟩,
 ⟨none, .alloc (some 15) [(.int .i64 0), (.int .i64 0), (.int .i64 0), (.string ⟨#[]⟩), (.int .i64 0), (.int .i64 0), (.int .i64 0), (.int .i64 0), (.slice none 0 0), (.int .i64 0), (.int .i64 0)]⟩,
 ⟨none, .st none (.tmp 15) (.tmp 38) 11⟩])
 (K.seq (K.ops [⟨none, .mov (some 40) (.tmp 3)⟩,
 ⟨none, .addr (some 41) (.tmp 15) 4⟩,
 ⟨none, .ld (some 42) (.tmp 41) 5 true⟩,
 ⟨none, .mov (some 43) (.tmp 2)⟩,
 ⟨none, .bin (some 44) .add (.tmp 43) (.const (.int .i64 1))⟩,
 ⟨none, .call (some 45) (.tmp 40) [(.tmp 42), (.tmp 44)]⟩,
 ⟨none, .mov (some 39) (.tmp 45)⟩,
 ⟨none, .ext (some 46) (.tmp 39) 0⟩,
 ⟨none, .ext (some 47) (.tmp 39) 1⟩,
 ⟨none, .alloc (some 16) [(.int .i64 0), (.int .i64 0)]⟩,
 ⟨none, .st none (.tmp 16) (.tmp 46) 2⟩,
 ⟨none, .mov (some 17) (.tmp 47)⟩])
 (K.seq (K.seq (K.ops [⟨none, .mov (some 48) (.tmp 17)⟩,
 ⟨none, .eqv (some 49) true .i (.tmp 48) (.const (.int .i64 0))⟩])
 (K.cond (.tmp 49)
 (K.seq (K.ops [⟨none, .build (some 50) [(.int .i64 0), (.int .i64 0)] []⟩,
 ⟨none, .mov (some 51) (.tmp 17)⟩,
 ⟨none, .st none (.tmp 8) (.tmp 50) 2⟩,
 ⟨none, .mov (some 9) (.tmp 51)⟩])
 (K.ret))
 (K.skip)))
 (K.ops [⟨none, .mov (some 52) (.tmp 13)⟩,
 ⟨none, .ld (some 53) (.tmp 16) 2 true⟩,
 ⟨none, .bslice (some 54) 75 2 1 [(.int .i64 0), (.int .i64 0)] [(0, 2, (.tmp 53))]⟩,
 ⟨none, .app (some 55) 75 2 16 (.tmp 52) (.tmp 54)⟩,
 ⟨none, .mov (some 13) (.tmp 55)⟩])))))
 (K.ops [⟨none, .bin (some 56) .add (.tmp 35) (.const (.int .i64 1))⟩,
 ⟨none, .mov (some 35) (.tmp 56)⟩])))))))
 (K.seq (K.ops [⟨none, .build (some 57) [(.int .i64 0), (.int .i64 0)] [(0, 1, (.const (.int .i64 0))), (1, 1, (.const (.int .i64 1)))]⟩,
 ⟨none, .alloc (some 18) [(.int .i64 0), (.int .i64 0)]⟩,
 ⟨none, .st none (.tmp 18) (.tmp 57) 2⟩])
 (K.seq (K.seq (K.ops [⟨none, .mov (some 58) (.tmp 12)⟩])
 (K.cond (.tmp 58)
 (K.ops [⟨none, .addr (some 59) (.tmp 18) 0⟩,
 ⟨none, .st none (.tmp 59) (.const (.int .i64 1)) 1⟩])
 (K.skip)))
 (K.seq (K.seq (K.ops [⟨none, .mov (some 60) (.tmp 13)⟩,
 ⟨none, .len (some 61) false (.tmp 60)⟩,
 ⟨none, .mov (some 62) (.const (.int .i64 0))⟩])
 (K.block 2 (K.loop (K.seq (K.ops [⟨none, .bin (some 63) .lss (.tmp 62) (.tmp 61)⟩])
 (K.seq (K.cond (.tmp 63)
 (K.skip)
 (K.exit 2))
 (K.seq (K.block 3 (K.seq (K.ops [⟨none, .idx (some 64) (.tmp 60) (.tmp 62) 2⟩,
 ⟨none, .ld (some 65) (.tmp 64) 2 true⟩,
 ⟨none, .alloc (some 20) [(.int .i64 0), (.int .i64 0)]⟩,
 ⟨none, .st none (.tmp 20) (.tmp 65) 2⟩])
 (K.seq (K.seq (K.ops [⟨none, .mov (some 66) (.tmp 12)⟩])
 (K.cond (.tmp 66)
 (K.seq (K.ops [⟨none, .addr (some 67) (.tmp 18) 0⟩,
 ⟨none, .ld (some 68) (.tmp 67) 1 false⟩,
 ⟨none, .addr (some 69) (.tmp 20) 0⟩,
 ⟨none, .ld (some 70) (.tmp 69) 1 false⟩,
 ⟨none, .bin (some 71) .mul (.tmp 68) (.tmp 70)⟩,
 ⟨none, .addr (some 72) (.tmp 18) 0⟩,
 ⟨none, .st none (.tmp 72) (.tmp 71) 1⟩])
 (K.ops [⟨none, .addr (some 73) (.tmp 18) 1⟩,
 ⟨none, .ld (some 74) (.tmp 73) 1 false⟩,
 ⟨none, .addr (some 75) (.tmp 20) 1⟩,
 ⟨none, .ld (some 76) (.tmp 75) 1 false⟩,
 ⟨none, .bin (some 77) .add (.tmp 74) (.tmp 76)⟩,
 ⟨none, .addr (some 78) (.tmp 18) 1⟩,
 ⟨none, .st none (.tmp 78) (.tmp 77) 1⟩]))
 (K.seq (K.ops [⟨none, .addr (some 79) (.tmp 18) 0⟩,
 ⟨none, .ld (some 80) (.tmp 79) 1 false⟩,
 ⟨none, .addr (some 81) (.tmp 20) 0⟩,
 ⟨none, .ld (some 82) (.tmp 81) 1 false⟩,
 ⟨none, .bin (some 83) .add (.tmp 80) (.tmp 82)⟩,
 ⟨none, .addr (some 84) (.tmp 18) 0⟩,
 ⟨none, .st none (.tmp 84) (.tmp 83) 1⟩])
 (K.ops [⟨none, .addr (some 85) (.tmp 18) 1⟩,
 ⟨none, .ld (some 86) (.tmp 85) 1 false⟩,
 ⟨none, .addr (some 87) (.tmp 20) 1⟩,
 ⟨none, .ld (some 88) (.tmp 87) 1 false⟩,
 ⟨none, .bin (some 89) .add (.const (.int .i64 1)) (.tmp 88)⟩,
 ⟨none, .mm (some 90) true [(.tmp 86), (.tmp 89)]⟩,
 ⟨none, .addr (some 91) (.tmp 18) 1⟩,
 ⟨none, .st none (.tmp 91) (.tmp 90) 1⟩]))))
 (K.seq (K.ops [⟨none, .mov (some 92) (.tmp 12)⟩,
 ⟨none, .mov (some 93) (.tmp 92)⟩,
 ⟨some (93, true), .addr (some 94) (.tmp 18) 0⟩,
 ⟨some (93, true), .ld (some 95) (.tmp 94) 1 false⟩,
 ⟨some (93, true), .bin (some 96) .gtr (.tmp 95) (.const (.int .i64 4096))⟩,
 ⟨none, .pick (some 97) (.tmp 93) (.tmp 96) (.const (.bool false))⟩])
 (K.cond (.tmp 97)
 (K.seq (K.ops [⟨none, .build (some 98) [(.int .i64 0), (.int .i64 0)] []⟩,
 ⟨none, .st none (.tmp 8) (.tmp 98) 2⟩,
 ⟨none, .mov (some 9) (.const (.int .i64 4))⟩])
 (K.ret))
 (K.skip))))))
 (K.ops [⟨none, .bin (some 99) .add (.tmp 62) (.const (.int .i64 1))⟩,
 ⟨none, .mov (some 62) (.tmp 99)⟩])))))))
 (K.seq (K.ops [⟨none, .ld (some 100) (.tmp 18) 2 true⟩,
 ⟨none, .st none (.tmp 8) (.tmp 100) 2⟩,
 ⟨none, .mov (some 9) (.const (.int .i64 0))⟩])
 (K.ret)))))))))
theorem c62 : compile Try.prog Try.f62.ntmps (Try.f62.body.getD .skip) = some K62.erase := by kernel_rfl
@[simp] theorem cal62 : callable Try.prog 62 = true := by kernel_rfl

-- splicery/domain.measure · results ["cell 6", "7"]
def K31 : K :=
 K.seq (K.ops [⟨none, .box (some 3) (.tmp 0)⟩,
 ⟨none, .box (some 4) (.tmp 1)⟩,
 ⟨none, .box (some 5) (.tmp 2)⟩,
 ⟨none, .alloc (some 6) [(.int .i64 0), (.int .i64 0)]⟩,
 ⟨none, .mov (some 7) (.const (.int .i64 0))⟩])
 (K.seq (K.ops [⟨none, .alloc (some 8) [.nilFunc]⟩])
 (K.seq (K.ops [⟨none, .clo (some 9) 60 [] [(.tmp 3), (.tmp 5), (.tmp 8)]⟩,
 ⟨none, .st none (.tmp 8) (.tmp 9) 1⟩])
 (K.seq (K.ops [⟨none, .ld (some 10) (.tmp 8) 1 false⟩,
 ⟨none, .ld (some 11) (.tmp 4) 5 true⟩,
 ⟨none, .call (some 12) (.tmp 10) [(.tmp 11), (.const (.int .i64 1))]⟩,
 ⟨none, .ext (some 13) (.tmp 12) 0⟩,
 ⟨none, .ext (some 14) (.tmp 12) 1⟩,
 ⟨none, .st none (.tmp 6) (.tmp 13) 2⟩,
 ⟨none, .mov (some 7) (.tmp 14)⟩])
 (K.ret))))
theorem c31 : compile Try.prog Try.f31.ntmps (Try.f31.body.getD .skip) = some K31.erase := by kernel_rfl
@[simp] theorem cal31 : callable Try.prog 31 = true := by kernel_rfl


/-- How many values, how many nodes, and the error. -/
structure Sz where
  a : Int
  b : Int
  e : Int
def recF : Int → Int → List Sz → Sz
  | a, b, [] => ⟨a, b, 0⟩
  | a, b, k :: l => if a * k.a > 4096 then ⟨0, 0, 4⟩ else recF (a * k.a) (b + k.b) l
def caseF : Int → Int → List Sz → Sz
  | a, b, [] => ⟨a, b, 0⟩
  | a, b, k :: l => caseF (a + k.a) (max b (1 + k.b)) l
def errF : List Sz → Int
  | [] => 0
  | k :: l => if k.e ≠ 0 then k.e else errF l
def slotsSz (rec : Bool) (l : List Sz) : Sz := if errF l ≠ 0 then ⟨0, 0, errF l⟩ else if rec then recF 1 1 l else caseF 0 1 l
def listSz (m : Int) (k : Sz) : Sz := if k.e ≠ 0 then ⟨0, 0, k.e⟩ else if m ≤ 0 then ⟨1, 1, 0⟩ else if m ≤ 1 then ⟨1 + k.a, 1 + k.b, 0⟩ else ⟨1 + k.a + k.a * k.a, 1 + k.b + k.b, 0⟩
def finSz (k : Sz) : Sz := if k.e ≠ 0 then ⟨0, 0, k.e⟩ else if k.a > 4096 ∨ k.b > 256 then ⟨0, 0, 4⟩ else ⟨k.a, if k.a = 0 then 0 else k.b, 0⟩
def dfn (p : Prg) (id : Id) : Dfn := (findD p.defs id).getD .zero
def sizeN (p : Prg) (m : Int) : Nat → Typ → Sz
  | 0, t => if validT p t = false then ⟨0, 0, 1⟩ else ⟨0, 0, 4⟩
  | n + 1, t => if validT p t = false then ⟨0, 0, 1⟩ else if t.k = 0 then ⟨2 * m + 1, 1, 0⟩ else if t.k = 1 then ⟨2, 1, 0⟩ else
    if t.k = 2 then finSz (listSz m (sizeN p m n (t.kids.headD Typ0))) else finSz (slotsSz (decide ((dfn p t.id).kind = 0)) ((dfn p t.id).slots.map fun s => sizeN p m n s.typ))
def Sz.Ok (k : Sz) : Prop := k.e = 0 → 0 ≤ k.a ∧ k.a ≤ 4096 ∧ 0 ≤ k.b ∧ k.b ≤ 256
def szR (k : Sz) : A := .tup [.agg [int k.a, int k.b], int k.e]
def cellsZ (l : List Sz) : List A := l.flatMap fun k => [int k.a, int k.b]
@[simp] theorem cellsZ_nil : cellsZ [] = [] := rfl
@[simp] theorem cellsZ_cons (k : Sz) (l : List Sz) : cellsZ (k :: l) = int k.a :: int k.b :: cellsZ l := rfl
@[simp] theorem cellsZ_append (k l : List Sz) : cellsZ (k ++ l) = cellsZ k ++ cellsZ l := by simp [cellsZ]
@[simp] theorem cellsZ_len (l : List Sz) : (cellsZ l).length = l.length * 2 := by
  induction l with
  | nil => rfl
  | cons k l ih => simp [ih]; omega
theorem cellsZ_plain : ∀ l : List Sz, Plain (cellsZ l)
  | [] => Plain.nil
  | k :: l => by
    have h := cellsZ_plain l
    exact ⟨by simp [h.1], fun rf g => by simp [h.2]⟩
@[simp] theorem nrm0_cellsZ (l : List Sz) : nrm0L (cellsZ l) = cellsZ l := (cellsZ_plain l).1
@[simp] theorem vw_cellsZ {rf g} (l : List Sz) : vwL rf g (cellsZ l) = cellsZ l := (cellsZ_plain l).2 _ _
theorem cellsZ_drop : ∀ {l : List Sz} {i : Nat} (h : i < l.length), (cellsZ l).drop (i * 2) = int l[i].a :: int l[i].b :: cellsZ (l.drop (i + 1))
  | k :: l, 0, _ => by simp
  | k :: l, i + 1, h => by
    have := cellsZ_drop (l := l) (i := i) (by simpa using h)
    rw [show (i + 1) * 2 = i * 2 + 2 by omega]
    simpa using this

@[simp] theorem restD_len : restD.length = 22 := rfl
@[simp] theorem nrm0_restD : nrm0L restD = restD := rfl
@[simp] theorem vw_restD {rf g} : vwL rf g restD = restD := rfl

def mSelf : A := .clo 60 [] [.ptr 0 0, .ptr 1 0, .ptr 2 0]
def mSt (p : Prg) (m : Int) : St := [.box (encP p), .box [int m], .box [mSelf]]

theorem errF_zero : ∀ {l : List Sz}, errF l = 0 → ∀ k ∈ l, k.e = 0
  | [], _, k, hk => by simp at hk
  | x :: l, h, k, hk => by
    simp only [errF] at h
    split at h
    · contradiction
    · rename_i hx
      rcases List.mem_cons.1 hk with rfl | hk
      · simpa using hx
      · exact errF_zero h k hk

theorem slots_ok (p : Prg) (m : Int) (id : Id) (k : Int) (kids : List Typ) (d : Int) (hd : 0 ≤ d ∧ d ≤ 24) (D : Dfn) (hD : dfn p id = D) (g : Typ → Sz) (hg : ∀ s ∈ D.slots, (g s.typ).Ok ∧ Ret Try.prog 60 [.agg (encT s.typ), int (d + 1), .ptr 0 0, .ptr 1 0, .ptr 2 0] (mSt p m) (szR (g s.typ)) (mSt p m)) (hs : D.slots.length ≤ 1000000) :
    Ret Try.prog 62 [.agg (encP p), .agg (encT (.mk k id kids)), int d, mSelf] (mSt p m) (szR (slotsSz (decide (D.kind = 0)) (D.slots.map fun s => g s.typ))) (mSt p m) := by
  refine ret_of_wp Try.func62 rfl c62 (rs := [.cell 8 2 true, .slot 9]) (by kernel_rfl) ?_
  unfold K62
  simp -implicitDefEqProofs [encP, encT, mSt, mSelf]
  refine call0 (def_ok p id) (by simp [encP, encI]) (by simp [defR]) ?_
  rw [dfn] at hD
  have hwd : IntKind.i64.wrap (d + 1) = d + 1 := IntWalk.i64_in _ (by omega)
  simp -implicitDefEqProofs [defR, hD, encD]
  intro hl
  refine loopS (S := Nat) (fun i => [(2, int d), (3, mSelf), (4, .ptr 3 0), (5, .ptr 4 0), (8, .ptr 5 0), (9, int 0), (10, .ptr 6 0), (12, bl (decide (D.kind = 0))), (13, .row 7 i), (33, .sl D.slots.length (cellsS D.slots)), (34, int D.slots.length), (35, int i)])
    (fun i => mSt p m ++ [.box (encP p), .box (encT (.mk k id kids)), .box [int 0, int 0], .box (encD D), .row false 75 2 i (cellsZ ((D.slots.map fun s => g s.typ).take i))])
    (fun i => i ≤ D.slots.length ∧ errF (D.slots.map fun s => g s.typ) = errF ((D.slots.map fun s => g s.typ).drop i)) (fun i => D.slots.length - i) 0 (by simp)
    (selW [0, 1, 2, 3, 4, 5, 6, 7] 0 (by decide) (by simp) (by simp [mSt, encP, encT, encD, mSelf]) (by simp [mSelf])) ?_
  rintro i ⟨hi, ho⟩
  by_cases h : i < D.slots.length
  · have hm : (D.slots.map fun s => g s.typ).drop i = g D.slots[i].typ :: (D.slots.map fun s => g s.typ).drop (i + 1) := by
      rw [List.drop_eq_getElem_cons (by simpa using h)]; simp
    have htk : (D.slots.map fun s => g s.typ).take (i + 1) = (D.slots.map fun s => g s.typ).take i ++ [g D.slots[i].typ] := by
      rw [List.take_succ_eq_append_getElem (by simpa using h)]; simp
    obtain ⟨hok, hret⟩ := hg D.slots[i] (List.getElem_mem h)
    simp -implicitDefEqProofs [h, cellsS_drop h, encS, mSelf, mSt, hwd, encP]
    refine callJ hret [0, 1, 2] (by simp) (by simp [mSt, mSelf, encP]) (by simp [encT]) ?_
    simp -implicitDefEqProofs [szR, mSt, mSelf, encP]
    refine condP_intro (fun h' => ?_) (fun h' => ?_) <;> simp at h'
    · simp -implicitDefEqProofs
      exact ret_keep [0, 1, 2] 0 (by decide) (by simp) (by simp [mSt, mSelf, encP]) (by simp [slotsSz, ho, hm, errF, h'])
    · simp -implicitDefEqProofs
      refine ⟨⟨by simp [maxLen]; omega, by omega⟩, ?_⟩
      exact roundS (i + 1) ⟨h, by rw [ho, hm]; simp [errF, h']⟩ (by omega) (selW [0, 1, 2, 3, 4, 5, 6, 7] 0 (by decide) (by simp) (by simp [mSt, encP, encT, encD, mSelf, htk]) (by simp [mSelf, wrap_succ h hl]))
  · have hi : i = D.slots.length := by omega
    subst hi
    have htk : (D.slots.map fun s => g s.typ).take D.slots.length = D.slots.map fun s => g s.typ := List.take_of_length_le (by simp)
    have hoks : ∀ k ∈ D.slots.map fun s => g s.typ, k.Ok := fun k hk => by
      obtain ⟨s, hs, rfl⟩ := List.mem_map.1 hk
      exact (hg s hs).1
    have hln : (D.slots.map fun s => g s.typ).length = D.slots.length := by simp
    generalize (D.slots.map fun s => g s.typ) = Z at ho htk hoks hln ⊢
    have ho' : errF Z = 0 := by rw [ho, ← hln]; simp [errF]
    clear ho
    have hn6 : Z.length ≤ 1000000 := by omega
    rw [← hln] at hl htk
    have hzk : ∀ k ∈ Z, k.e = 0 ∧ 0 ≤ k.a ∧ k.a ≤ 4096 ∧ 0 ≤ k.b ∧ k.b ≤ 256 := fun k hk => ⟨errF_zero ho' k hk, hoks k hk (errF_zero ho' k hk)⟩
    simp -implicitDefEqProofs [mSt, mSelf, htk, ← hln]
    refine condP_intro (fun h' => ?_) (fun h' => ?_) <;> simp at h'
    · simp -implicitDefEqProofs [h', lenP]
      refine loopS (S := Nat × Int × Int) (fun s => [(8, .ptr 5 0), (9, int 0), (12, bl true), (18, .ptr 8 0), (60, .row 7 Z.length), (61, int Z.length), (62, int s.1)])
        (fun s => mSt p m ++ [.box (encP p), .box (encT (.mk k id kids)), .box [int 0, int 0], .box (encD D), .row false 75 2 Z.length (cellsZ Z), .box [int s.2.1, int s.2.2]])
        (fun s => s.1 ≤ Z.length ∧ recF 1 1 Z = recF s.2.1 s.2.2 (Z.drop s.1) ∧ 0 ≤ s.2.1 ∧ s.2.1 ≤ 4096 ∧ 0 ≤ s.2.2 ∧ s.2.2 ≤ 1 + 256 * s.1) (fun s => Z.length - s.1) (0, 1, 1) (by simp)
        (selW [0, 1, 2, 3, 4, 5, 6, 7, 8] 0 (by decide) (by simp) (by simp [mSt, encP, encT, encD, mSelf]) (by simp [mSelf, h'])) ?_
      rintro ⟨j, a, b⟩ ⟨hj, hr, ha0, ha, hb0, hb⟩
      simp only at hj hr ha0 ha hb0 hb
      by_cases hjl : j < Z.length
      · obtain ⟨_, g1, g2, g3, g4⟩ := hzk Z[j] (List.getElem_mem hjl)
        have hd : Z.drop j = Z[j] :: Z.drop (j + 1) := List.drop_eq_getElem_cons hjl
        have hab0 : 0 ≤ a * Z[j].a := Int.mul_nonneg ha0 g1
        have hab1 : a * Z[j].a ≤ 4096 * 4096 := Int.mul_le_mul ha g2 g1 (by decide)
        have hw1 : IntKind.i64.wrap (a * Z[j].a) = a * Z[j].a := IntWalk.i64_in _ (by omega)
        have hw2 : IntKind.i64.wrap (b + Z[j].b) = b + Z[j].b := IntWalk.i64_in _ (by omega)
        have hw3 : IntKind.i64.wrap ((j : Int) + 1) = (j : Int) + 1 := IntWalk.i64_in _ (by omega)
        have hj2 : j * 2 + 2 ≤ Z.length * 2 := by omega
        simp -implicitDefEqProofs [hjl, idxP, cellsZ_drop hjl, mSt, mSelf, hw1, hw2, hw3, hj2]
        refine condP_intro (fun h4 => ?_) (fun h4 => ?_) <;> simp at h4
        · simp -implicitDefEqProofs
          have e : recF 1 1 Z = ⟨0, 0, 4⟩ := by rw [hr, hd, recF, if_pos h4]
          exact ret_keep [0, 1, 2] 0 (by decide) (by simp) (by simp [mSt, mSelf, encP]) (by simp [slotsSz, ho', e, h', szR])
        · simp -implicitDefEqProofs
          exact roundS (j + 1, a * Z[j].a, b + Z[j].b) ⟨hjl, by rw [hr, hd, recF, if_neg (by omega)], hab0, h4, by simp only; omega, by simp only; omega⟩ (by simp only; omega) (selW [0, 1, 2, 3, 4, 5, 6, 7, 8] 0 (by decide) (by simp) (by simp [mSt, encP, encT, encD, mSelf]) (by simp [mSelf, hw3]))
      · have hjl' : j = Z.length := by omega
        subst hjl'
        simp -implicitDefEqProofs [mSt, mSelf]
        exact ret_keep [0, 1, 2] 0 (by decide) (by simp) (by simp [mSt, mSelf, encP]) (by simp [slotsSz, ho', hr, h', recF, szR])
    · simp -implicitDefEqProofs [h', lenP]
      refine loopS (S := Nat × Int × Int) (fun s => [(8, .ptr 5 0), (9, int 0), (12, bl false), (18, .ptr 8 0), (60, .row 7 Z.length), (61, int Z.length), (62, int s.1)])
        (fun s => mSt p m ++ [.box (encP p), .box (encT (.mk k id kids)), .box [int 0, int 0], .box (encD D), .row false 75 2 Z.length (cellsZ Z), .box [int s.2.1, int s.2.2]])
        (fun s => s.1 ≤ Z.length ∧ caseF 0 1 Z = caseF s.2.1 s.2.2 (Z.drop s.1) ∧ 0 ≤ s.2.1 ∧ s.2.1 ≤ 4096 * s.1 ∧ 0 ≤ s.2.2 ∧ s.2.2 ≤ 257) (fun s => Z.length - s.1) (0, 0, 1) (by simp)
        (selW [0, 1, 2, 3, 4, 5, 6, 7, 8] 0 (by decide) (by simp) (by simp [mSt, encP, encT, encD, mSelf]) (by simp [mSelf, h'])) ?_
      rintro ⟨j, a, b⟩ ⟨hj, hr, ha0, ha, hb0, hb⟩
      simp only at hj hr ha0 ha hb0 hb
      by_cases hjl : j < Z.length
      · obtain ⟨_, g1, g2, g3, g4⟩ := hzk Z[j] (List.getElem_mem hjl)
        have hd : Z.drop j = Z[j] :: Z.drop (j + 1) := List.drop_eq_getElem_cons hjl
        have hw1 : IntKind.i64.wrap (a + Z[j].a) = a + Z[j].a := IntWalk.i64_in _ (by omega)
        have hw2 : IntKind.i64.wrap (1 + Z[j].b) = 1 + Z[j].b := IntWalk.i64_in _ (by omega)
        have hw3 : IntKind.i64.wrap ((j : Int) + 1) = (j : Int) + 1 := IntWalk.i64_in _ (by omega)
        have hj2 : j * 2 + 2 ≤ Z.length * 2 := by omega
        have hmx : max b (1 + Z[j].b) = if b < 1 + Z[j].b then 1 + Z[j].b else b := by rw [Int.max_def]; split <;> split <;> omega
        simp -implicitDefEqProofs [hjl, idxP, cellsZ_drop hjl, mSt, mSelf, hw1, hw2, hw3, hj2]
        exact roundS (j + 1, a + Z[j].a, max b (1 + Z[j].b)) ⟨hjl, by rw [hr, hd]; simp [caseF], by simp only; omega, by simp only; omega, by simp only; omega, by simp only; omega⟩ (by simp only; omega) (selW [0, 1, 2, 3, 4, 5, 6, 7, 8] 0 (by decide) (by simp) (by simp [mSt, encP, encT, encD, mSelf, hmx]) (by simp [mSelf, hw3]))
      · have hjl' : j = Z.length := by omega
        subst hjl'
        simp -implicitDefEqProofs [mSt, mSelf]
        exact ret_keep [0, 1, 2] 0 (by decide) (by simp) (by simp [mSt, mSelf, encP]) (by simp [slotsSz, ho', hr, h', caseF, szR])
def Sml (p : Prg) : Prop := ∀ d ∈ p.defs, d.slots.length ≤ 1000000
theorem findD_mem : ∀ {l : List Dfn} {id : Id} {d : Dfn}, findD l id = some d → d ∈ l
  | [], id, d, h => by simp [findD] at h
  | x :: l, id, d, h => by
    simp only [findD] at h
    split at h
    · simp only [Option.some.injEq] at h; subst h; exact List.mem_cons_self ..
    · exact List.mem_cons_of_mem _ (findD_mem h)
theorem Sml.dfn {p : Prg} (h : Sml p) (id : Id) : (dfn p id).slots.length ≤ 1000000 := by
  unfold Ytbkiphnlbadhcaa.dfn
  cases hf : findD p.defs id with
  | none => simp [Dfn.zero]
  | some d => exact h d (findD_mem hf)
theorem valid_list {p : Prg} {n : Nat} {t : Typ} (h : validN p n t = true) (hk : t.k = 2) : ∃ x, t.kids = [x] := by
  cases n with
  | zero => simp [validN] at h
  | succ n =>
    cases t with
    | mk k id kids =>
      simp only [Typ.k_mk] at hk
      subst hk
      rcases kids with _ | ⟨x, _ | ⟨y, l⟩⟩
      · simp [validN] at h
      · exact ⟨x, rfl⟩
      · simp [validN] at h
theorem finSz_ok {k : Sz} (h0 : k.e = 0 → 0 ≤ k.a ∧ 0 ≤ k.b) : (finSz k).Ok := by
  intro he
  unfold finSz at *
  split at he
  · simp at he; contradiction
  · rename_i h1
    simp at h1
    split at he
    · simp at he
    · rename_i h2
      rw [if_neg (by simp [h1]), if_neg h2]
      have := h0 h1
      simp only
      split <;> omega
theorem recF_ok : ∀ {l : List Sz} {a b : Int}, (∀ k ∈ l, k.e = 0 ∧ k.Ok) → 0 ≤ a → 0 ≤ b → 0 ≤ (recF a b l).a ∧ 0 ≤ (recF a b l).b
  | [], a, b, _, ha, hb => ⟨ha, hb⟩
  | k :: l, a, b, h, ha, hb => by
    have hk := (h k (by simp)).2 (h k (by simp)).1
    simp only [recF]
    split
    · simp
    · exact recF_ok (fun k hk => h k (List.mem_cons_of_mem _ hk)) (Int.mul_nonneg ha hk.1) (by omega)
theorem caseF_ok : ∀ {l : List Sz} {a b : Int}, (∀ k ∈ l, k.e = 0 ∧ k.Ok) → 0 ≤ a → 0 ≤ b → 0 ≤ (caseF a b l).a ∧ 0 ≤ (caseF a b l).b
  | [], a, b, _, ha, hb => ⟨ha, hb⟩
  | k :: l, a, b, h, ha, hb => by
    have hk := (h k (by simp)).2 (h k (by simp)).1
    simp only [caseF]
    exact caseF_ok (fun k hk => h k (List.mem_cons_of_mem _ hk)) (by omega) (by omega)
theorem slotsSz_ok {r : Bool} {l : List Sz} (h : ∀ k ∈ l, k.Ok) (he : (slotsSz r l).e = 0) : 0 ≤ (slotsSz r l).a ∧ 0 ≤ (slotsSz r l).b := by
  unfold slotsSz at *
  split
  · simp
  · rename_i h0
    have h0 : errF l = 0 := by simpa using h0
    have hk : ∀ k ∈ l, k.e = 0 ∧ k.Ok := fun k hk => ⟨errF_zero h0 k hk, h k hk⟩
    split
    · exact recF_ok hk (by decide) (by decide)
    · exact caseF_ok hk (by decide) (by decide)
theorem listSz_ok {m : Int} {k : Sz} (h : k.Ok) (he : (listSz m k).e = 0) : 0 ≤ (listSz m k).a ∧ 0 ≤ (listSz m k).b := by
  unfold listSz at *
  split
  · simp
  · rename_i h0
    have h1 := h (by simpa using h0)
    have h2 : 0 ≤ k.a * k.a := Int.mul_nonneg h1.1 h1.1
    split
    · simp
    · split <;> simp only <;> omega
theorem sizeN_ok (p : Prg) (m : Int) (hm : 0 ≤ m ∧ m ≤ 64) : ∀ (n : Nat) (t : Typ), (sizeN p m n t).Ok
  | 0, t => by
    unfold sizeN
    split <;> intro h <;> simp at h
  | n + 1, t => by
    unfold sizeN
    split
    · intro h; simp at h
    split
    · intro _; simp only; omega
    split
    · intro _; simp
    split
    · exact finSz_ok (listSz_ok (sizeN_ok p m hm n _))
    · exact finSz_ok (slotsSz_ok (fun k hk => by
        obtain ⟨s, _, rfl⟩ := List.mem_map.1 hk
        exact sizeN_ok p m hm n _))

theorem finSz_big {M N : Int} (h : M > 4096 ∨ N > 256) : finSz ⟨M, N, 0⟩ = ⟨0, 0, 4⟩ := by simp [finSz, h]
theorem finSz_zero {N : Int} (h : ¬ N > 256) : finSz ⟨0, N, 0⟩ = ⟨0, 0, 0⟩ := by simp [finSz, h]
theorem finSz_some {M N : Int} (h : ¬ (M > 4096 ∨ N > 256)) (h0 : M ≠ 0) : finSz ⟨M, N, 0⟩ = ⟨M, N, 0⟩ := by simp [finSz, h, h0]
def tb (a b : Int) : Nat → Int × Int × Int
  | 0 => (1, 1, 1)
  | 1 => (a, 1 + a, 1 + b)
  | _ => (a * a, 1 + a + a * a, 1 + b + b)

theorem measN_ok (p : Prg) (hs : Sml p) (m : Int) (hm : 0 ≤ m ∧ m ≤ 64) : ∀ (n : Nat) (t : Typ) (d : Int), d = 25 - n → n ≤ 24 →
    Ret Try.prog 60 [.agg (encT t), int d, .ptr 0 0, .ptr 1 0, .ptr 2 0] (mSt p m) (szR (sizeN p m n t)) (mSt p m) := by
  intro n
  induction n with
  | zero =>
    intro t d hd _
    have hd : d = 25 := by omega
    subst hd
    refine ret_of_wp Try.func60 rfl c60 (rs := [.cell 7 2 true, .slot 8]) (by kernel_rfl) ?_
    unfold K60
    simp -implicitDefEqProofs [encP, encT, mSt, mSelf]
    refine call0 (valid_ok p t) (by simp [encP, encT]) (by simp) ?_
    simp -implicitDefEqProofs
    cases hv : validT p t with
    | false =>
      simp -implicitDefEqProofs
      exact ret_keep [0, 1, 2] 0 (by decide) (by simp) (by simp) (by simp [sizeN, hv, szR])
    | true =>
      simp -implicitDefEqProofs
      exact ret_keep [0, 1, 2] 0 (by decide) (by simp) (by simp) (by simp [sizeN, hv, szR])
  | succ n ih =>
    intro t d hd hn
    refine ret_of_wp Try.func60 rfl c60 (rs := [.cell 7 2 true, .slot 8]) (by kernel_rfl) ?_
    unfold K60
    simp -implicitDefEqProofs [encP, encT, mSt, mSelf]
    refine call0 (valid_ok p t) (by simp [encP, encT]) (by simp) ?_
    have hd24 : ¬ (24 < d) := by omega
    have hwd : IntKind.i64.wrap (d + 1) = d + 1 := IntWalk.i64_in _ (by omega)
    simp -implicitDefEqProofs
    cases hv : validT p t with
    | false =>
      simp -implicitDefEqProofs
      exact ret_keep [0, 1, 2] 0 (by decide) (by simp) (by simp) (by simp [sizeN, hv, szR])
    | true =>
      by_cases h0 : t.k = 0
      · have hw1 : IntKind.i64.wrap (2 * m) = 2 * m := IntWalk.i64_in _ (by omega)
        have hw2 : IntKind.i64.wrap (2 * m + 1) = 2 * m + 1 := IntWalk.i64_in _ (by omega)
        simp -implicitDefEqProofs [hd24, h0, hw1, hw2]
        exact ret_keep [0, 1, 2] 0 (by decide) (by simp) (by simp) (by simp [sizeN, hv, szR, h0])
      by_cases h1 : t.k = 1
      · simp -implicitDefEqProofs [hd24, h1]
        exact ret_keep [0, 1, 2] 0 (by decide) (by simp) (by simp) (by simp [sizeN, hv, szR, h1])
      by_cases h2 : t.k = 2
      · obtain ⟨x, hx⟩ := valid_list hv h2
        simp -implicitDefEqProofs [hd24, h2, hx, hwd]
        have hok := sizeN_ok p m hm n x
        have hsz : sizeN p m (n + 1) t = finSz (listSz m (sizeN p m n x)) := by simp [sizeN, hv, h0, h1, h2, hx]
        rw [hsz]
        refine dcallJF (ih x (d + 1) (by omega) (by omega)) [0, 1, 2] (by simp) (by simp [mSt, mSelf, encP]) (by simp [encT]) (by simp [szR]) ?_
        generalize sizeN p m n x = Z at hok ⊢
        simp -implicitDefEqProofs [szR]
        refine condP_intro (fun he => ?_) (fun he => ?_) <;> simp at he
        · simp -implicitDefEqProofs
          exact ret_keep [0, 1, 2] 0 (by decide) (by simp) (by simp) (by simp [listSz, finSz, szR, he])
        · obtain ⟨a, b, e⟩ := Z
          simp only at he
          subst he
          have hok := hok rfl
          simp only at hok
          simp -implicitDefEqProofs
          have htail : ∀ M N : Int, True := fun _ _ => trivial
          refine loopS (S := Nat) (fun j => [(3, .ptr 1 0), (7, .ptr 4 0), (8, int 0), (9, .ptr 5 0), (10, .ptr 6 0), (12, int (tb a b j).1), (57, int (if 2 < m then 2 else m)), (58, int j)])
            (fun j => mSt p m ++ [.box (encT t), .box [int 0, int 0], .box [int (tb a b j).2.1, int (tb a b j).2.2], .box [int a, int b]])
            (fun j => j = 0 ∨ (j = 1 ∧ 1 ≤ m) ∨ (j = 2 ∧ 2 ≤ m)) (fun j => 2 - j) 0 (.inl rfl)
            (selW [0, 1, 2, 3, 4, 5, 6] 0 (by decide) (by simp) (by simp [mSt, encP, encT, mSelf, tb, h2, hx]) (by simp [tb])) ?_
          have haa0 : 0 ≤ a * a := Int.mul_nonneg hok.1 hok.1
          have haa1 : a * a ≤ 4096 * 4096 := Int.mul_le_mul hok.2.1 hok.2.1 hok.1 (by decide)
          have hw1 : IntKind.i64.wrap a = a := IntWalk.i64_in _ (by omega)
          have hw2 : IntKind.i64.wrap (1 + a) = 1 + a := IntWalk.i64_in _ (by omega)
          have hw3 : IntKind.i64.wrap (1 + b) = 1 + b := IntWalk.i64_in _ (by omega)
          have hw4 : IntKind.i64.wrap (a * a) = a * a := IntWalk.i64_in _ (by omega)
          have hw5 : IntKind.i64.wrap (1 + a + a * a) = 1 + a + a * a := IntWalk.i64_in _ (by omega)
          have hw6 : IntKind.i64.wrap (1 + b + b) = 1 + b + b := IntWalk.i64_in _ (by omega)
          have hsel : ∀ j : Nat, True := fun _ => trivial
          rintro j (rfl | ⟨rfl, hm1⟩ | ⟨rfl, hm2⟩)
          · by_cases hm1 : 1 ≤ m
            · have hK : (0 : Int) < (if 2 < m then 2 else m) := by split <;> omega
              simp -implicitDefEqProofs [hK, mSt, mSelf, tb, hw1, hw2, hw3]
              exact roundS 1 (.inr (.inl ⟨rfl, hm1⟩)) (by simp) (selW [0, 1, 2, 3, 4, 5, 6] 0 (by decide) (by simp) (by simp [mSt, encP, encT, mSelf, tb]) (by simp [tb, show IntKind.i64.wrap 1 = 1 from by decide, show IntKind.i64.wrap 2 = 2 from by decide]))
            · have hK : ¬ ((0 : Int) < (if 2 < m then 2 else m)) := by split <;> omega
              have hfin : listSz m ⟨a, b, 0⟩ = ⟨1, 1, 0⟩ := by simp [listSz, show m ≤ 0 by omega]
              simp -implicitDefEqProofs [hK, mSt, mSelf, tb]
              exact ret_keep [0, 1, 2] 0 (by decide) (by simp) (by simp [encP]) (by simp [szR, hfin, finSz])
          · by_cases hm2 : 2 ≤ m
            · have hK : (1 : Int) < (if 2 < m then 2 else m) := by split <;> omega
              simp -implicitDefEqProofs [hK, mSt, mSelf, tb, hw4, hw5, hw6]
              exact roundS 2 (.inr (.inr ⟨rfl, hm2⟩)) (by simp) (selW [0, 1, 2, 3, 4, 5, 6] 0 (by decide) (by simp) (by simp [mSt, encP, encT, mSelf, tb]) (by simp [tb, show IntKind.i64.wrap 1 = 1 from by decide, show IntKind.i64.wrap 2 = 2 from by decide]))
            · have hK : ¬ ((1 : Int) < (if 2 < m then 2 else m)) := by split <;> omega
              have hfin : listSz m ⟨a, b, 0⟩ = ⟨1 + a, 1 + b, 0⟩ := by simp [listSz, show ¬ m ≤ 0 by omega, show m ≤ 1 by omega]
              by_cases g4 : 4096 < (1 + a)
              · simp -implicitDefEqProofs [hK, mSt, mSelf, tb, g4]
                exact ret_keep [0, 1, 2] 0 (by decide) (by simp) (by simp [encP]) (by simp [szR, hfin, finSz_big (N := (1 + b)) (.inl g4)])
              by_cases g5 : 256 < (1 + b)
              · simp -implicitDefEqProofs [hK, mSt, mSelf, tb, g4, g5]
                exact ret_keep [0, 1, 2] 0 (by decide) (by simp) (by simp [encP]) (by simp [szR, hfin, finSz_big (M := (1 + a)) (.inr g5)])
              by_cases g6 : (1 + a) = 0
              · simp -implicitDefEqProofs [hK, mSt, mSelf, tb, g4, g5, g6]
                exact ret_keep [0, 1, 2] 0 (by decide) (by simp) (by simp [encP]) (by simp [szR, hfin, g6, finSz_zero g5])
              · simp -implicitDefEqProofs [hK, mSt, mSelf, tb, g4, g5, g6]
                exact ret_keep [0, 1, 2] 0 (by decide) (by simp) (by simp [encP]) (by simp [szR, hfin, finSz_some (show ¬ ((1 + a) > 4096 ∨ (1 + b) > 256) by omega) g6])
          · have hK : ¬ ((2 : Int) < (if 2 < m then 2 else m)) := by split <;> omega
            have hfin : listSz m ⟨a, b, 0⟩ = ⟨1 + a + a * a, 1 + b + b, 0⟩ := by simp [listSz, show ¬ m ≤ 0 by omega, show ¬ m ≤ 1 by omega]
            by_cases g4 : 4096 < (1 + a + a * a)
            · simp -implicitDefEqProofs [hK, mSt, mSelf, tb, g4]
              exact ret_keep [0, 1, 2] 0 (by decide) (by simp) (by simp [encP]) (by simp [szR, hfin, finSz_big (N := (1 + b + b)) (.inl g4)])
            by_cases g5 : 256 < (1 + b + b)
            · simp -implicitDefEqProofs [hK, mSt, mSelf, tb, g4, g5]
              exact ret_keep [0, 1, 2] 0 (by decide) (by simp) (by simp [encP]) (by simp [szR, hfin, finSz_big (M := (1 + a + a * a)) (.inr g5)])
            by_cases g6 : (1 + a + a * a) = 0
            · simp -implicitDefEqProofs [hK, mSt, mSelf, tb, g4, g5, g6]
              exact ret_keep [0, 1, 2] 0 (by decide) (by simp) (by simp [encP]) (by simp [szR, hfin, g6, finSz_zero g5])
            · simp -implicitDefEqProofs [hK, mSt, mSelf, tb, g4, g5, g6]
              exact ret_keep [0, 1, 2] 0 (by decide) (by simp) (by simp [encP]) (by simp [szR, hfin, finSz_some (show ¬ ((1 + a + a * a) > 4096 ∨ (1 + b + b) > 256) by omega) g6])
      · obtain ⟨k, id, kids⟩ := t
        simp only [Typ.k_mk] at h0 h1 h2
        have hsz : sizeN p m (n + 1) (.mk k id kids) = finSz (slotsSz (decide ((dfn p id).kind = 0)) ((dfn p id).slots.map fun s => sizeN p m n s.typ)) := by
          simp [sizeN, hv, h0, h1, h2]
          rfl
        have hok := slotsSz_ok (r := decide ((dfn p id).kind = 0)) (l := (dfn p id).slots.map fun s => sizeN p m n s.typ) (fun k hk => by
          obtain ⟨s, _, rfl⟩ := List.mem_map.1 hk
          exact sizeN_ok p m hm n _)
        rw [hsz]
        simp -implicitDefEqProofs [hd24, h0, h1, h2]
        refine callJ (slots_ok p m id k kids d (by omega) (dfn p id) rfl (sizeN p m n) (fun s _ => ⟨sizeN_ok p m hm n _, ih s.typ (d + 1) (by omega) (by omega)⟩) (hs.dfn id)) [0, 1, 2] (by simp) (by simp [mSt, mSelf, encP]) (by simp [encT, encP, mSelf]) ?_
        generalize slotsSz (decide ((dfn p id).kind = 0)) ((dfn p id).slots.map fun s => sizeN p m n s.typ) = Z at hok ⊢
        simp -implicitDefEqProofs [szR, mSt, mSelf]
        refine condP_intro (fun he => ?_) (fun he => ?_) <;> simp at he
        · simp -implicitDefEqProofs
          exact ret_keep [0, 1, 2] 0 (by decide) (by simp) (by simp [encP]) (by simp [finSz, szR, he])
        · obtain ⟨a, b, e⟩ := Z
          simp only at he
          subst he
          have hok := hok rfl
          simp only at hok
          have hfin : True := trivial
          by_cases g4 : 4096 < a
          · simp -implicitDefEqProofs [mSt, mSelf, g4]
            exact ret_keep [0, 1, 2] 0 (by decide) (by simp) (by simp [encP]) (by simp [szR, hfin, finSz_big (N := b) (.inl g4)])
          by_cases g5 : 256 < b
          · simp -implicitDefEqProofs [mSt, mSelf, g4, g5]
            exact ret_keep [0, 1, 2] 0 (by decide) (by simp) (by simp [encP]) (by simp [szR, hfin, finSz_big (M := a) (.inr g5)])
          by_cases g6 : a = 0
          · simp -implicitDefEqProofs [mSt, mSelf, g4, g5, g6]
            exact ret_keep [0, 1, 2] 0 (by decide) (by simp) (by simp [encP]) (by simp [szR, hfin, g6, finSz_zero g5])
          · simp -implicitDefEqProofs [mSt, mSelf, g4, g5, g6]
            exact ret_keep [0, 1, 2] 0 (by decide) (by simp) (by simp [encP]) (by simp [szR, hfin, finSz_some (show ¬ (a > 4096 ∨ b > 256) by omega) g6])

def size (p : Prg) (m : Int) (t : Typ) : Sz := sizeN p m 24 t
theorem measure_ok (p : Prg) (hs : Sml p) (m : Int) (hm : 0 ≤ m ∧ m ≤ 64) (t : Typ) : Ret Try.prog 31 [.agg (encP p), .agg (encT t), int m] [] (szR (size p m t)) [] := by
  refine ret_of_wp Try.func31 rfl c31 (rs := [.cell 6 2 true, .slot 7]) (by kernel_rfl) ?_
  unfold K31
  simp -implicitDefEqProofs [encP, encT]
  refine callJ (measN_ok p hs m hm 24 t 1 (by decide) (by decide)) [0, 2, 4] (by simp) (by simp [mSt, mSelf, encP]) (by simp [encT]) ?_
  simp -implicitDefEqProofs [szR, mSt, mSelf, encP]
  exact ret_end 0 (by simp [szR, size])
end Go.Proofs.Ytbkiphnlbadhcaa
