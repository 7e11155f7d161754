/-
  Make and Value of the reference: a value of a type, made of numbers.
-/
import Derived.Test.YtbkiphnlbadhcaaC22
import Derived.Test.YtbkiphnlbadhcaaC16
namespace Go.Proofs.Ytbkiphnlbadhcaa
open Go.Abs

-- splicery/spliceryref04.Make · results ["cell 10", "11"]
def K53 : K :=
 K.seq (K.ops [⟨none, .box (some 5) (.tmp 0)⟩,
 ⟨none, .box (some 6) (.tmp 1)⟩,
 ⟨none, .alloc (some 10) [(.int .i64 0), (.int .i64 0), (.slice none 0 0)]⟩,
 ⟨none, .mov (some 11) (.const (.int .i64 0))⟩])
 (K.seq (K.ops [⟨none, .mov (some 25) (.tmp 2)⟩,
 ⟨none, .mov (some 26) (.tmp 3)⟩,
 ⟨none, .call (some 27) (.func 51) [(.tmp 25), (.tmp 26), (.const (.int .i64 1048576))]⟩,
 ⟨none, .mov (some 12) (.tmp 27)⟩])
 (K.seq (K.ops [⟨none, .mov (some 28) (.tmp 3)⟩,
 ⟨none, .bin (some 29) .add (.tmp 28) (.const (.int .i64 1))⟩,
 ⟨none, .mov (some 3) (.tmp 29)⟩])
 (K.seq (K.seq (K.ops [⟨none, .addr (some 30) (.tmp 6) 0⟩,
 ⟨none, .ld (some 31) (.tmp 30) 1 false⟩,
 ⟨none, .eqv (some 32) false .i (.tmp 31) (.const (.int .i64 0))⟩])
 (K.cond (.tmp 32)
 (K.seq (K.seq (K.ops [⟨none, .mov (some 33) (.tmp 12)⟩,
 ⟨none, .bin (some 34) .rem (.tmp 33) (.const (.int .i64 16))⟩,
 ⟨none, .eqv (some 35) false .i (.tmp 34) (.const (.int .i64 0))⟩])
 (K.cond (.tmp 35)
 (K.seq (K.ops [⟨none, .mov (some 36) (.tmp 12)⟩,
 ⟨none, .bin (some 37) .quo (.tmp 36) (.const (.int .i64 16))⟩,
 ⟨none, .bin (some 38) .rem (.tmp 37) (.const (.int .i64 3))⟩,
 ⟨none, .bin (some 39) .sub (.const (.int .i64 1099511627776)) (.tmp 38)⟩,
 ⟨none, .build (some 40) [(.int .i64 0), (.int .i64 0), (.slice none 0 0)] [(0, 1, (.const (.int .i64 0))), (1, 1, (.tmp 39))]⟩,
 ⟨none, .mov (some 41) (.tmp 3)⟩,
 ⟨none, .st none (.tmp 10) (.tmp 40) 3⟩,
 ⟨none, .mov (some 11) (.tmp 41)⟩])
 (K.ret))
 (K.skip)))
 (K.seq (K.seq (K.ops [⟨none, .mov (some 42) (.tmp 12)⟩,
 ⟨none, .bin (some 43) .rem (.tmp 42) (.const (.int .i64 16))⟩,
 ⟨none, .eqv (some 44) false .i (.tmp 43) (.const (.int .i64 1))⟩])
 (K.cond (.tmp 44)
 (K.seq (K.ops [⟨none, .mov (some 45) (.tmp 12)⟩,
 ⟨none, .bin (some 46) .quo (.tmp 45) (.const (.int .i64 16))⟩,
 ⟨none, .bin (some 47) .rem (.tmp 46) (.const (.int .i64 3))⟩,
 ⟨none, .bin (some 48) .add (.const (.int .i64 (-1099511627776))) (.tmp 47)⟩,
 ⟨none, .build (some 49) [(.int .i64 0), (.int .i64 0), (.slice none 0 0)] [(0, 1, (.const (.int .i64 0))), (1, 1, (.tmp 48))]⟩,
 ⟨none, .mov (some 50) (.tmp 3)⟩,
 ⟨none, .st none (.tmp 10) (.tmp 49) 3⟩,
 ⟨none, .mov (some 11) (.tmp 50)⟩])
 (K.ret))
 (K.skip)))
 (K.seq (K.ops [⟨none, .mov (some 51) (.tmp 12)⟩,
 ⟨none, .bin (some 52) .quo (.tmp 51) (.const (.int .i64 16))⟩,
 ⟨none, .bin (some 53) .rem (.tmp 52) (.const (.int .i64 9))⟩,
 ⟨none, .bin (some 54) .sub (.tmp 53) (.const (.int .i64 4))⟩,
 ⟨none, .build (some 55) [(.int .i64 0), (.int .i64 0), (.slice none 0 0)] [(0, 1, (.const (.int .i64 0))), (1, 1, (.tmp 54))]⟩,
 ⟨none, .mov (some 56) (.tmp 3)⟩,
 ⟨none, .st none (.tmp 10) (.tmp 55) 3⟩,
 ⟨none, .mov (some 11) (.tmp 56)⟩])
 (K.ret))))
 (K.skip)))
 (K.seq (K.seq (K.ops [⟨none, .addr (some 57) (.tmp 6) 0⟩,
 ⟨none, .ld (some 58) (.tmp 57) 1 false⟩,
 ⟨none, .eqv (some 59) false .i (.tmp 58) (.const (.int .i64 1))⟩])
 (K.cond (.tmp 59)
 (K.seq (K.ops [⟨none, .mov (some 60) (.tmp 12)⟩,
 ⟨none, .bin (some 61) .rem (.tmp 60) (.const (.int .i64 2))⟩,
 ⟨none, .build (some 62) [(.int .i64 0), (.int .i64 0), (.slice none 0 0)] [(0, 1, (.const (.int .i64 1))), (1, 1, (.tmp 61))]⟩,
 ⟨none, .mov (some 63) (.tmp 3)⟩,
 ⟨none, .st none (.tmp 10) (.tmp 62) 3⟩,
 ⟨none, .mov (some 11) (.tmp 63)⟩])
 (K.ret))
 (K.skip)))
 (K.seq (K.ops [⟨none, .build (some 64) [(.int .i64 0), (.int .i64 0), (.slice none 0 0)] [(0, 1, (.const (.int .i64 4)))]⟩,
 ⟨none, .alloc (some 13) [(.int .i64 0), (.int .i64 0), (.slice none 0 0)]⟩,
 ⟨none, .st none (.tmp 13) (.tmp 64) 3⟩])
 (K.seq (K.seq (K.ops [⟨none, .addr (some 65) (.tmp 6) 0⟩,
 ⟨none, .ld (some 66) (.tmp 65) 1 false⟩,
 ⟨none, .eqv (some 67) false .i (.tmp 66) (.const (.int .i64 2))⟩])
 (K.cond (.tmp 67)
 (K.seq (K.ops [⟨none, .mov (some 68) (.tmp 12)⟩,
 ⟨none, .bin (some 69) .rem (.tmp 68) (.const (.int .i64 3))⟩,
 ⟨none, .mov (some 14) (.tmp 69)⟩])
 (K.seq (K.seq (K.ops [⟨none, .mov (some 70) (.tmp 4)⟩,
 ⟨none, .bin (some 71) .gtr (.tmp 70) (.const (.int .i64 3))⟩])
 (K.cond (.tmp 71)
 (K.ops [⟨none, .mov (some 14) (.const (.int .i64 0))⟩])
 (K.skip)))
 (K.seq (K.seq (K.ops [⟨none, .mov (some 15) (.const (.int .i64 0))⟩])
 (K.block 0 (K.loop (K.seq (K.seq (K.ops [⟨none, .mov (some 72) (.tmp 15)⟩,
 ⟨none, .mov (some 73) (.tmp 14)⟩,
 ⟨none, .bin (some 74) .lss (.tmp 72) (.tmp 73)⟩])
 (K.cond (.tmp 74)
 (K.skip)
 (K.exit 0)))
 (K.seq (K.block 1 (K.seq (K.dops [(0, 1, ⟨none, .ld (some 78) (.tmp 5) 2 true⟩),
 (1, 1, ⟨none, .addr (some 79) (.tmp 6) 4⟩),
 (2, 1, ⟨none, .ld (some 80) (.tmp 79) 1 false⟩),
 (3, 1, ⟨none, .idx (some 81) (.tmp 80) (.const (.int .i64 0)) 5⟩),
 (4, 1, ⟨none, .ld (some 82) (.tmp 81) 5 true⟩),
 (5, 0, ⟨none, .mov (some 83) (.tmp 2)⟩),
 (6, 0, ⟨none, .mov (some 84) (.tmp 3)⟩),
 (7, 0, ⟨none, .mov (some 85) (.tmp 4)⟩),
 (8, 0, ⟨none, .bin (some 86) .add (.tmp 85) (.const (.int .i64 1))⟩),
 (9, 1, ⟨none, .call (some 87) (.func 53) [(.tmp 78), (.tmp 82), (.tmp 83), (.tmp 84), (.tmp 86)]⟩),
 (10, 0, ⟨none, .mov (some 77) (.tmp 87)⟩),
 (11, 0, ⟨none, .ext (some 88) (.tmp 77) 0⟩),
 (12, 0, ⟨none, .ext (some 89) (.tmp 77) 1⟩),
 (13, 0, ⟨none, .alloc (some 16) [(.int .i64 0), (.int .i64 0), (.slice none 0 0)]⟩),
 (14, 0, ⟨none, .st none (.tmp 16) (.tmp 88) 3⟩),
 (15, 0, ⟨none, .mov (some 17) (.tmp 89)⟩)])
 (K.seq (K.ops [⟨none, .mov (some 90) (.tmp 17)⟩,
 ⟨none, .mov (some 3) (.tmp 90)⟩])
 (K.ops [⟨none, .addr (some 91) (.tmp 13) 2⟩,
 ⟨none, .ld (some 92) (.tmp 91) 1 false⟩,
 ⟨none, .ld (some 93) (.tmp 16) 3 true⟩,
 ⟨none, .bslice (some 94) 60 3 1 [(.int .i64 0), (.int .i64 0), (.slice none 0 0)] [(0, 3, (.tmp 93))]⟩,
 ⟨none, .app (some 95) 60 3 40 (.tmp 92) (.tmp 94)⟩,
 ⟨none, .addr (some 96) (.tmp 13) 2⟩,
 ⟨none, .st none (.tmp 96) (.tmp 95) 1⟩]))))
 (K.ops [⟨none, .mov (some 75) (.tmp 15)⟩,
 ⟨none, .bin (some 76) .add (.tmp 75) (.const (.int .i64 1))⟩,
 ⟨none, .mov (some 15) (.tmp 76)⟩]))))))
 (K.seq (K.ops [⟨none, .ld (some 97) (.tmp 13) 3 true⟩,
 ⟨none, .mov (some 98) (.tmp 3)⟩,
 ⟨none, .st none (.tmp 10) (.tmp 97) 3⟩,
 ⟨none, .mov (some 11) (.tmp 98)⟩])
 (K.ret)))))
 (K.skip)))
 (K.seq (K.ops [⟨none, .ld (some 100) (.tmp 5) 2 true⟩,
 ⟨none, .addr (some 101) (.tmp 6) 1⟩,
 ⟨none, .ld (some 102) (.tmp 101) 3 true⟩,
 ⟨none, .call (some 103) (.func 69) [(.tmp 100), (.tmp 102)]⟩,
 ⟨none, .mov (some 99) (.tmp 103)⟩,
 ⟨none, .ext (some 104) (.tmp 99) 0⟩,
 ⟨none, .ext (some 105) (.tmp 99) 1⟩,
 ⟨none, .alloc (some 18) [(.int .i64 0), (.int .i64 0), (.int .i64 0), (.int .i64 0), (.int .i64 0), (.int .i64 0), (.int .i64 0), (.string ⟨#[]⟩), (.slice none 0 0), (.int .i64 0), (.int .i64 0), (.int .i64 0), (.int .i64 0), (.slice none 0 0), (.int .i64 0), (.int .i64 0), (.int .i64 0), (.int .i64 0), (.int .i64 0), (.int .i64 0), (.int .i64 0), (.int .i64 0), (.int .i64 0), (.int .i64 0), (.int .i64 0), (.int .i64 0), (.slice none 0 0), (.slice none 0 0), (.slice none 0 0), (.int .i64 0), (.slice none 0 0)]⟩,
 ⟨none, .st none (.tmp 18) (.tmp 104) 31⟩,
 ⟨none, .mov (some 19) (.tmp 105)⟩])
 (K.seq (K.seq (K.ops [⟨none, .addr (some 106) (.tmp 18) 3⟩,
 ⟨none, .ld (some 107) (.tmp 106) 1 false⟩,
 ⟨none, .eqv (some 108) false .i (.tmp 107) (.const (.int .i64 1))⟩])
 (K.cond (.tmp 108)
 (K.seq (K.ops [⟨none, .addr (some 109) (.tmp 13) 0⟩,
 ⟨none, .st none (.tmp 109) (.const (.int .i64 3)) 1⟩])
 (K.seq (K.ops [⟨none, .mov (some 110) (.tmp 12)⟩,
 ⟨none, .addr (some 111) (.tmp 18) 8⟩,
 ⟨none, .ld (some 112) (.tmp 111) 1 false⟩,
 ⟨none, .len (some 113) false (.tmp 112)⟩,
 ⟨none, .bin (some 114) .rem (.tmp 110) (.tmp 113)⟩,
 ⟨none, .addr (some 115) (.tmp 13) 1⟩,
 ⟨none, .st none (.tmp 115) (.tmp 114) 1⟩])
 (K.seq (K.dops [(0, 1, ⟨none, .ld (some 117) (.tmp 5) 2 true⟩),
 (1, 1, ⟨none, .addr (some 118) (.tmp 18) 8⟩),
 (2, 1, ⟨none, .ld (some 119) (.tmp 118) 1 false⟩),
 (3, 1, ⟨none, .addr (some 120) (.tmp 13) 1⟩),
 (4, 1, ⟨none, .ld (some 121) (.tmp 120) 1 false⟩),
 (5, 1, ⟨none, .idx (some 122) (.tmp 119) (.tmp 121) 11⟩),
 (6, 1, ⟨none, .addr (some 123) (.tmp 122) 4⟩),
 (7, 1, ⟨none, .ld (some 124) (.tmp 123) 5 true⟩),
 (8, 0, ⟨none, .mov (some 125) (.tmp 2)⟩),
 (9, 0, ⟨none, .mov (some 126) (.tmp 3)⟩),
 (10, 0, ⟨none, .mov (some 127) (.tmp 4)⟩),
 (11, 0, ⟨none, .bin (some 128) .add (.tmp 127) (.const (.int .i64 1))⟩),
 (12, 1, ⟨none, .call (some 129) (.func 53) [(.tmp 117), (.tmp 124), (.tmp 125), (.tmp 126), (.tmp 128)]⟩),
 (13, 0, ⟨none, .mov (some 116) (.tmp 129)⟩),
 (14, 0, ⟨none, .ext (some 130) (.tmp 116) 0⟩),
 (15, 0, ⟨none, .ext (some 131) (.tmp 116) 1⟩),
 (16, 0, ⟨none, .alloc (some 20) [(.int .i64 0), (.int .i64 0), (.slice none 0 0)]⟩),
 (17, 0, ⟨none, .st none (.tmp 20) (.tmp 130) 3⟩),
 (18, 0, ⟨none, .mov (some 21) (.tmp 131)⟩)])
 (K.seq (K.ops [⟨none, .ld (some 132) (.tmp 20) 3 true⟩,
 ⟨none, .bslice (some 133) 60 3 1 [(.int .i64 0), (.int .i64 0), (.slice none 0 0)] [(0, 3, (.tmp 132))]⟩,
 ⟨none, .addr (some 134) (.tmp 13) 2⟩,
 ⟨none, .st none (.tmp 134) (.tmp 133) 1⟩])
 (K.seq (K.ops [⟨none, .ld (some 135) (.tmp 13) 3 true⟩,
 ⟨none, .mov (some 136) (.tmp 21)⟩,
 ⟨none, .st none (.tmp 10) (.tmp 135) 3⟩,
 ⟨none, .mov (some 11) (.tmp 136)⟩])
 (K.ret))))))
 (K.skip)))
 (K.seq (K.ops [⟨none, .addr (some 137) (.tmp 13) 0⟩,
 ⟨none, .st none (.tmp 137) (.const (.int .i64 2)) 1⟩])
 (K.seq (K.seq (K.ops [⟨none, .mov (some 22) (.const (.int .i64 0))⟩])
 (K.block 2 (K.loop (K.seq (K.seq (K.ops [⟨none, .mov (some 138) (.tmp 22)⟩,
 ⟨none, .addr (some 139) (.tmp 18) 8⟩,
 ⟨none, .ld (some 140) (.tmp 139) 1 false⟩,
 ⟨none, .len (some 141) false (.tmp 140)⟩,
 ⟨none, .bin (some 142) .lss (.tmp 138) (.tmp 141)⟩])
 (K.cond (.tmp 142)
 (K.skip)
 (K.exit 2)))
 (K.seq (K.block 3 (K.seq (K.dops [(0, 1, ⟨none, .ld (some 146) (.tmp 5) 2 true⟩),
 (1, 1, ⟨none, .addr (some 147) (.tmp 18) 8⟩),
 (2, 1, ⟨none, .ld (some 148) (.tmp 147) 1 false⟩),
 (3, 0, ⟨none, .mov (some 149) (.tmp 22)⟩),
 (4, 1, ⟨none, .idx (some 150) (.tmp 148) (.tmp 149) 11⟩),
 (5, 1, ⟨none, .addr (some 151) (.tmp 150) 4⟩),
 (6, 1, ⟨none, .ld (some 152) (.tmp 151) 5 true⟩),
 (7, 0, ⟨none, .mov (some 153) (.tmp 2)⟩),
 (8, 0, ⟨none, .mov (some 154) (.tmp 3)⟩),
 (9, 0, ⟨none, .mov (some 155) (.tmp 4)⟩),
 (10, 0, ⟨none, .bin (some 156) .add (.tmp 155) (.const (.int .i64 1))⟩),
 (11, 1, ⟨none, .call (some 157) (.func 53) [(.tmp 146), (.tmp 152), (.tmp 153), (.tmp 154), (.tmp 156)]⟩),
 (12, 0, ⟨none, .mov (some 145) (.tmp 157)⟩),
 (13, 0, ⟨none, .ext (some 158) (.tmp 145) 0⟩),
 (14, 0, ⟨none, .ext (some 159) (.tmp 145) 1⟩),
 (15, 0, ⟨none, .alloc (some 23) [(.int .i64 0), (.int .i64 0), (.slice none 0 0)]⟩),
 (16, 0, ⟨none, .st none (.tmp 23) (.tmp 158) 3⟩),
 (17, 0, ⟨none, .mov (some 24) (.tmp 159)⟩)])
 (K.seq (K.ops [⟨none, .mov (some 160) (.tmp 24)⟩,
 ⟨none, .mov (some 3) (.tmp 160)⟩])
 (K.ops [⟨none, .addr (some 161) (.tmp 13) 2⟩,
 ⟨none, .ld (some 162) (.tmp 161) 1 false⟩,
 ⟨none, .ld (some 163) (.tmp 23) 3 true⟩,
 ⟨none, .bslice (some 164) 60 3 1 [(.int .i64 0), (.int .i64 0), (.slice none 0 0)] [(0, 3, (.tmp 163))]⟩,
 ⟨none, .app (some 165) 60 3 40 (.tmp 162) (.tmp 164)⟩,
 ⟨none, .addr (some 166) (.tmp 13) 2⟩,
 ⟨none, .st none (.tmp 166) (.tmp 165) 1⟩]))))
 (K.ops [⟨none, .mov (some 143) (.tmp 22)⟩,
 ⟨none, .bin (some 144) .add (.tmp 143) (.const (.int .i64 1))⟩,
 ⟨none, .mov (some 22) (.tmp 144)⟩]))))))
 (K.seq (K.ops [⟨none, .ld (some 167) (.tmp 13) 3 true⟩,
 ⟨none, .mov (some 168) (.tmp 3)⟩,
 ⟨none, .st none (.tmp 10) (.tmp 167) 3⟩,
 ⟨none, .mov (some 11) (.tmp 168)⟩])
 (K.ret))))))))))))
theorem c53 : compile Try.prog Try.f53.ntmps (Try.f53.body.getD .skip) = some K53.erase := by kernel_rfl
@[simp] theorem cal53 : callable Try.prog 53 = true := by kernel_rfl

-- splicery/spliceryref04.Value · results ["cell 6"]
def K27 : K :=
 K.seq (K.ops [⟨none, .box (some 3) (.tmp 0)⟩,
 ⟨none, .box (some 4) (.tmp 1)⟩,
 ⟨none, .alloc (some 6) [(.int .i64 0), (.int .i64 0), (.slice none 0 0)]⟩])
 (K.seq (K.ops [⟨none, .ld (some 10) (.tmp 3) 2 true⟩,
 ⟨none, .ld (some 11) (.tmp 4) 5 true⟩,
 ⟨none, .mov (some 12) (.tmp 2)⟩,
 ⟨none, .call (some 13) (.func 53) [(.tmp 10), (.tmp 11), (.tmp 12), (.const (.int .i64 0)), (.const (.int .i64 1))]⟩,
 ⟨none, .mov (some 9) (.tmp 13)⟩,
 ⟨none, .ext (some 14) (.tmp 9) 0⟩,
 ⟨none, .ext (some 15) (.tmp 9) 1⟩,
 ⟨none, .alloc (some 7) [(.int .i64 0), (.int .i64 0), (.slice none 0 0)]⟩,
 ⟨none, .st none (.tmp 7) (.tmp 14) 3⟩,
 ⟨none, .mov (some 8) (.tmp 15)⟩])
 (K.seq (K.seq (K.ops [⟨none, .ld (some 16) (.tmp 7) 3 true⟩,
 ⟨none, .call (some 17) (.func 54) [(.tmp 16)]⟩,
 ⟨none, .bin (some 18) .gtr (.tmp 17) (.const (.int .i64 256))⟩,
 ⟨none, .mov (some 19) (.tmp 18)⟩,
 ⟨some (19, false), .ld (some 20) (.tmp 7) 3 true⟩,
 ⟨some (19, false), .call (some 21) (.func 55) [(.tmp 20)]⟩,
 ⟨some (19, false), .bin (some 22) .gtr (.tmp 21) (.const (.int .i64 24))⟩,
 ⟨none, .pick (some 23) (.tmp 19) (.const (.bool true)) (.tmp 22)⟩])
 (K.cond (.tmp 23)
 (K.ops [⟨none, .ld (some 25) (.tmp 3) 2 true⟩,
 ⟨none, .ld (some 26) (.tmp 4) 5 true⟩,
 ⟨none, .call (some 27) (.func 56) [(.tmp 25), (.tmp 26)]⟩,
 ⟨none, .mov (some 24) (.tmp 27)⟩,
 ⟨none, .ext (some 28) (.tmp 24) 0⟩,
 ⟨none, .ext (some 29) (.tmp 24) 1⟩,
 ⟨none, .st none (.tmp 7) (.tmp 28) 3⟩])
 (K.skip)))
 (K.seq (K.ops [⟨none, .ld (some 30) (.tmp 7) 3 true⟩,
 ⟨none, .st none (.tmp 6) (.tmp 30) 3⟩])
 (K.ret))))
theorem c27 : compile Try.prog Try.f27.ntmps (Try.f27.body.getD .skip) = some K27.erase := by kernel_rfl
@[simp] theorem cal27 : callable Try.prog 27 = true := by kernel_rfl


/-- A type with few levels. -/
def Wf (p : Prg) : Nat → Typ → Prop
  | 0, _ => False
  | f + 1, t => validT p t = true ∧ (t.k = 0 ∨ t.k = 1 ∨ (t.k = 2 ∧ ∃ x, t.kids = [x] ∧ Wf p f x) ∨ (t.k = 3 ∧ ((dfn p t.id).kind = 0 ∨ (dfn p t.id).kind = 1) ∧ 1 ≤ (dfn p t.id).slots.length ∧ (dfn p t.id).slots.length ≤ 3 ∧ ∀ s ∈ (dfn p t.id).slots, Wf p f s.typ))

/-- One after another. -/
def runT (g : Typ → Int → Val × Int) : List Typ → Int → List Val × Int
  | [], a => ([], a)
  | t :: l, a => ((g t a).1 :: (runT g l (g t a).2).1, (runT g l (g t a).2).2)
theorem runT_snoc (g : Typ → Int → Val × Int) : ∀ (l : List Typ) (t : Typ) (a : Int), runT g (l ++ [t]) a = ((runT g l a).1 ++ [(g t (runT g l a).2).1], (g t (runT g l a).2).2)
  | [], t, a => rfl
  | x :: l, t, a => by simp only [List.cons_append, runT, runT_snoc g l t]
theorem runT_len (g : Typ → Int → Val × Int) : ∀ (l : List Typ) (a : Int), (runT g l a).1.length = l.length
  | [], a => rfl
  | x :: l, a => by simp only [runT, List.length_cons, runT_len g l]
theorem runT_get (g : Typ → Int → Val × Int) : ∀ (l : List Typ) (a : Int) (i : Nat) (t : Typ) (v : Val), l[i]? = some t → (runT g l a).1[i]? = some v → ∃ b, v = (g t b).1
  | [], a, i, t, v, h, _ => by simp at h
  | x :: l, a, 0, t, v, h, h' => by simp [runT] at h h'; subst h h'; exact ⟨a, rfl⟩
  | x :: l, a, i + 1, t, v, h, h' => runT_get g l _ i t v (by simpa using h) (by simpa [runT] using h')

def makI (x : Int) : Int := if x.tmod 16 = 0 then w64 (1099511627776 - (x.tdiv 16).tmod 3) else if x.tmod 16 = 1 then w64 (-1099511627776 + (x.tdiv 16).tmod 3) else w64 ((x.tdiv 16).tmod 9 - 4)
/-- What Make makes: the value, and the index behind. -/
def makeV (p : Prg) (l : List Int) : Nat → Typ → Int → Int → Val × Int
  | 0, _, a, _ => (.mk 0 0 [], a)
  | f + 1, t, a, d =>
    if t.k = 0 then (.mk 0 (makI (atV l a 1048576)) [], w64 (a + 1)) else if t.k = 1 then (.mk 1 ((atV l a 1048576).tmod 2) [], w64 (a + 1)) else
    if t.k = 2 then (.mk 4 0 (runT (fun t b => makeV p l f t b (w64 (d + 1))) (List.replicate (if 3 < d then 0 else ((atV l a 1048576).tmod 3).toNat) (t.kids.headD Typ0)) (w64 (a + 1))).1,
      (runT (fun t b => makeV p l f t b (w64 (d + 1))) (List.replicate (if 3 < d then 0 else ((atV l a 1048576).tmod 3).toNat) (t.kids.headD Typ0)) (w64 (a + 1))).2)
    else if (dfn p t.id).kind = 1 then
      (.mk 3 ((atV l a 1048576).tmod (dfn p t.id).slots.length) [(makeV p l f ((((dfn p t.id).slots.map Slt.typ).getD ((atV l a 1048576).tmod (dfn p t.id).slots.length).toNat Typ0)) (w64 (a + 1)) (w64 (d + 1))).1],
        (makeV p l f ((((dfn p t.id).slots.map Slt.typ).getD ((atV l a 1048576).tmod (dfn p t.id).slots.length).toNat Typ0)) (w64 (a + 1)) (w64 (d + 1))).2)
    else (.mk 2 0 (runT (fun t b => makeV p l f t b (w64 (d + 1))) ((dfn p t.id).slots.map Slt.typ) (w64 (a + 1))).1, (runT (fun t b => makeV p l f t b (w64 (d + 1))) ((dfn p t.id).slots.map Slt.typ) (w64 (a + 1))).2)

theorem make_ok (p : Prg) (l : List Int) (hl : ∀ x ∈ l, w64 x = x) : ∀ (f : Nat) (t : Typ) (a d : Int), Wf p f t →
    Ret Try.prog 53 [.agg (encP p), .agg (encT t), .sl l.length (cellsN l), int a, int d] [] (.tup [.agg (encV (makeV p l f t a d).1), int (makeV p l f t a d).2]) []
  | 0, t, a, d, h => h.elim
  | f + 1, t, a, d, h => by
    unfold Wf at h
    obtain ⟨hv, h⟩ := h
    refine ret_of_wp Try.func53 rfl c53 (rs := [.cell 10 3 true, .slot 11]) (by kernel_rfl) ?_
    unfold K53
    have hx := at_range (i := a) hl (show (0 : Int) < 1048576 by omega)
    simp -implicitDefEqProofs [encP, encT]
    refine call0 (at_ok l a 1048576 (by decide)) (by simp) (by simp) ?_
    by_cases h0 : t.k = 0
    · have e : makeV p l (f + 1) t a d = (.mk 0 (makI (atV l a 1048576)) [], w64 (a + 1)) := by rw [makeV, if_pos h0]
      rw [e]
      generalize atV l a 1048576 = x at hx
      have hw16 : IntKind.i64.wrap (x.tdiv 16) = x.tdiv 16 := by rw [Int.tdiv_eq_ediv_of_nonneg hx.1]; exact IntWalk.i64_in _ (by omega)
      by_cases h16 : x.tmod 16 = 0
      · simp -implicitDefEqProofs [h0, h16, hw16]
        exact ret_end 0 (by simp [encV, valk_mk, valn_mk, valkids_mk, makI, h16, w64])
      by_cases h17 : x.tmod 16 = 1
      · simp -implicitDefEqProofs [h0, h17, hw16]
        exact ret_end 0 (by simp [encV, valk_mk, valn_mk, valkids_mk, makI, h17, w64])
      · simp -implicitDefEqProofs [h0, h16, h17, hw16]
        exact ret_end 0 (by simp [encV, valk_mk, valn_mk, valkids_mk, makI, h16, h17, w64])
    by_cases h1 : t.k = 1
    · have e : makeV p l (f + 1) t a d = (.mk 1 ((atV l a 1048576).tmod 2) [], w64 (a + 1)) := by rw [makeV, if_neg h0, if_pos h1]
      rw [e]
      generalize atV l a 1048576 = x at hx
      simp -implicitDefEqProofs [h1]
      exact ret_end 0 (by simp [encV, valk_mk, valn_mk, valkids_mk, w64])
    by_cases h2 : t.k = 2
    · obtain ⟨_, y, hy, hwf⟩ := h.resolve_left h0 |>.resolve_left h1 |>.resolve_right (fun e => by omega)
      have e : makeV p l (f + 1) t a d = (.mk 4 0 (runT (fun t b => makeV p l f t b (w64 (d + 1))) (List.replicate (if 3 < d then 0 else ((atV l a 1048576).tmod 3).toNat) y) (w64 (a + 1))).1,
          (runT (fun t b => makeV p l f t b (w64 (d + 1))) (List.replicate (if 3 < d then 0 else ((atV l a 1048576).tmod 3).toNat) y) (w64 (a + 1))).2) := by rw [makeV, if_neg h0, if_neg h1, if_pos h2, hy]; rfl
      rw [e]
      clear e
      have hih : ∀ b, Ret Try.prog 53 [.agg (encP p), .agg (encT y), .sl l.length (cellsN l), int b, int (w64 (d + 1))] [] (.tup [.agg (encV (makeV p l f y b (w64 (d + 1))).1), int (makeV p l f y b (w64 (d + 1))).2]) [] := fun b => make_ok p l hl f y b _ hwf
      have hx3 : 0 ≤ (atV l a 1048576).tmod 3 ∧ (atV l a 1048576).tmod 3 < 3 := by rw [Int.tmod_eq_emod_of_nonneg hx.1]; omega
      generalize atV l a 1048576 = x at hx hx3
      generalize hg : (fun t b => makeV p l f t b (w64 (d + 1))) = g
      have hih : ∀ b, Ret Try.prog 53 [.agg (encP p), .agg (encT y), .sl l.length (cellsN l), int b, int (w64 (d + 1))] [] (.tup [.agg (encV (g y b).1), int (g y b).2]) [] := by subst hg; exact hih
      clear hg
      obtain ⟨Q, hQ, hQ2⟩ : ∃ Q : Nat, (if 3 < d then 0 else (x.tmod 3).toNat) = Q ∧ Q ≤ 2 := ⟨_, rfl, by split <;> omega⟩
      rw [hQ]
      have hsn : ∀ i, runT g (List.replicate (i + 1) y) (w64 (a + 1)) = ((runT g (List.replicate i y) (w64 (a + 1))).1 ++ [(g y (runT g (List.replicate i y) (w64 (a + 1))).2).1], (g y (runT g (List.replicate i y) (w64 (a + 1))).2).2) := fun i => by
        rw [List.replicate_succ', runT_snoc]
      have hln : ∀ i, (runT g (List.replicate i y) (w64 (a + 1))).1.length = i := fun i => by rw [runT_len, List.length_replicate]
      have hd3 : 3 < d ∨ ¬ 3 < d := by omega
      rcases hd3 with hd3 | hd3
      case' inl =>
        have hQ' : (0 : Int) = Q := by rw [if_pos hd3] at hQ; omega
        simp -implicitDefEqProofs [h2, hd3]
      case' inr =>
        have hQ' : x.tmod 3 = Q := by rw [if_neg hd3] at hQ; omega
        simp -implicitDefEqProofs [h2, hd3]
      all_goals
        refine loopS (S := Nat) (fun i => [(2, .sl l.length (cellsN l)), (3, int (runT g (List.replicate i y) (w64 (a + 1))).2), (4, int d), (5, .ptr 0 0), (6, .ptr 1 0), (10, .ptr 2 0), (13, .ptr 3 0), (14, int Q), (15, int i)])
          (fun i => [.box (encP p), .box (encT t), .box [int 0, int 0, .nil], .box [int 4, int 0, .row 4 i], .row false 60 3 i (cellsV (runT g (List.replicate i y) (w64 (a + 1))).1)]) (fun i => i ≤ Q) (fun i => Q - i) 0 (by simp)
          ((weak_nilbox (l := 3) (o := 2) rfl rfl 60 3).trans (selW [0, 1, 2, 3, 4] 0 (by simp) (by simp) (by simp [encP, encT, h2, hy, runT]) (by simp [runT, w64, hQ']))) ?_
        intro i hi
        by_cases hiQ : i < Q
        · have hwi : IntKind.i64.wrap ((i : Int) + 1) = (i : Int) + 1 := IntWalk.i64_in _ (by omega)
          have hsn := hsn i
          have hln := hln i
          generalize runT g (List.replicate i y) (w64 (a + 1)) = R at hsn hln
          simp -implicitDefEqProofs [hiQ, encP, encT, hy]
          refine dcallF0 (hih R.2) (by simp [encP, encT, w64]) (by simp [encV]) ?_
          simp -implicitDefEqProofs [lenP, encV]
          refine ⟨⟨by simp [maxLen]; omega, by omega⟩, ?_⟩
          exact roundS (i + 1) hiQ (by omega) (selW [0, 1, 2, 3, 4] 0 (by simp) (by simp) (by simp [encP, encT, hy, hsn]) (by simp [hwi, hsn]))
        · have hiQ : i = Q := by omega
          subst hiQ
          have hln := hln i
          generalize runT g (List.replicate i y) (w64 (a + 1)) = R at hln
          simp -implicitDefEqProofs
          exact ret_end 1 (by simp [encV, hln, valk_mk, valn_mk, valkids_mk])
    obtain ⟨_, gk, g1, g3, g4⟩ := h.resolve_left h0 |>.resolve_left h1 |>.resolve_left (fun e => h2 e.1)
    simp -implicitDefEqProofs [h0, h1, h2]
    refine call0 (refDef_ok p t.id) (by simp [encP, encI]) (by simp [defR]) ?_
    have hD : (findD p.defs t.id).getD .zero = dfn p t.id := rfl
    rcases gk with gk | gk
    · have e : makeV p l (f + 1) t a d = (.mk 2 0 (runT (fun t b => makeV p l f t b (w64 (d + 1))) ((dfn p t.id).slots.map Slt.typ) (w64 (a + 1))).1, (runT (fun t b => makeV p l f t b (w64 (d + 1))) ((dfn p t.id).slots.map Slt.typ) (w64 (a + 1))).2) := by
        rw [makeV, if_neg h0, if_neg h1, if_neg h2, if_neg (by omega)]
      rw [e]
      clear e
      generalize dfn p t.id = D at hD g1 g3 g4 gk
      obtain ⟨TS, hTS⟩ : ∃ TS, TS = D.slots.map Slt.typ := ⟨_, rfl⟩
      have hTl : TS.length = D.slots.length := by rw [hTS]; simp
      have hTg : ∀ i (h : i < D.slots.length), TS[i]? = some D.slots[i].typ := fun i h => by rw [hTS]; simp [h]
      have hih : ∀ i (h : i < D.slots.length) b, Ret Try.prog 53 [.agg (encP p), .agg (encT D.slots[i].typ), .sl l.length (cellsN l), int b, int (w64 (d + 1))] [] (.tup [.agg (encV (makeV p l f D.slots[i].typ b (w64 (d + 1))).1), int (makeV p l f D.slots[i].typ b (w64 (d + 1))).2]) [] := fun i h b => make_ok p l hl f D.slots[i].typ b _ (g4 _ (List.getElem_mem h))
      obtain ⟨g, hg⟩ : ∃ g, g = fun t b => makeV p l f t b (w64 (d + 1)) := ⟨_, rfl⟩
      have hih : ∀ i (h : i < D.slots.length) b, Ret Try.prog 53 [.agg (encP p), .agg (encT D.slots[i].typ), .sl l.length (cellsN l), int b, int (w64 (d + 1))] [] (.tup [.agg (encV (g D.slots[i].typ b).1), int (g D.slots[i].typ b).2]) [] := by subst hg; exact hih
      rw [← hTS, ← hg]
      clear hg hTS
      have hsn : ∀ i (h : i < D.slots.length), runT g (TS.take (i + 1)) (w64 (a + 1)) = ((runT g (TS.take i) (w64 (a + 1))).1 ++ [(g D.slots[i].typ (runT g (TS.take i) (w64 (a + 1))).2).1], (g D.slots[i].typ (runT g (TS.take i) (w64 (a + 1))).2).2) := fun i h => by
        have h1 : i < TS.length := by omega
        have h2 := hTg i h
        rw [List.getElem?_eq_getElem h1] at h2
        rw [List.take_succ_eq_append_getElem h1, Option.some.inj h2, runT_snoc]
      have hln : ∀ i, i ≤ D.slots.length → (runT g (TS.take i) (w64 (a + 1))).1.length = i := fun i h => by rw [runT_len, List.length_take]; omega
      have htk : TS.take D.slots.length = TS := List.take_of_length_le (by omega)
      simp -implicitDefEqProofs [defR, hD, encD, gk]
      refine loopS (S := Nat) (fun i => [(2, .sl l.length (cellsN l)), (3, int (runT g (TS.take i) (w64 (a + 1))).2), (4, int d), (5, .ptr 0 0), (6, .ptr 1 0), (10, .ptr 2 0), (13, .ptr 3 0), (18, .ptr 4 0), (22, int i)])
        (fun i => [.box (encP p), .box (encT t), .box [int 0, int 0, .nil], .box [int 2, int 0, .row 5 i], .box (encD D), .row false 60 3 i (cellsV (runT g (TS.take i) (w64 (a + 1))).1)]) (fun i => i ≤ D.slots.length) (fun i => D.slots.length - i) 0 (by simp)
        ((weak_nilbox (l := 3) (o := 2) rfl rfl 60 3).trans (selW [0, 1, 2, 3, 4, 5] 0 (by simp) (by simp) (by simp [encP, encT, encD, gk, runT]) (by simp [runT, w64]))) ?_
      intro i hi
      by_cases hiQ : i < D.slots.length
      · have hwi : IntKind.i64.wrap ((i : Int) + 1) = (i : Int) + 1 := IntWalk.i64_in _ (by omega)
        have hsn := hsn i hiQ
        have hln := hln i hi
        have hih := hih i hiQ
        generalize runT g (TS.take i) (w64 (a + 1)) = R at hsn hln
        simp -implicitDefEqProofs [hiQ, cellsS_drop hiQ, encP, encD, encS]
        intro _
        refine dcallF0 (hih R.2) (by simp [encP, encT, w64]) (by simp [encV]) ?_
        simp -implicitDefEqProofs [lenP, encV]
        refine ⟨⟨by simp [maxLen]; omega, by omega⟩, ?_⟩
        exact roundS (i + 1) hiQ (by omega) (selW [0, 1, 2, 3, 4, 5] 0 (by simp) (by simp) (by simp [encP, encT, encD, hsn]) (by simp [hwi, hsn]))
      · have hiQ : i = D.slots.length := by omega
        subst hiQ
        have hln := hln _ (Nat.le_refl _)
        rw [htk] at hln ⊢
        generalize runT g TS (w64 (a + 1)) = R at hln
        simp -implicitDefEqProofs [encD]
        exact fun _ => ret_end 1 (by simp [encV, hln, valk_mk, valn_mk, valkids_mk])
    · have hlt : (atV l a 1048576).tmod ((dfn p t.id).slots.length : Int) = ((atV l a 1048576) % ((dfn p t.id).slots.length : Int)) := Int.tmod_eq_emod_of_nonneg hx.1
      have hl1 := Int.emod_nonneg (atV l a 1048576) (show ((dfn p t.id).slots.length : Int) ≠ 0 by omega)
      have hl2 := Int.emod_lt_of_pos (atV l a 1048576) (show (0 : Int) < ((dfn p t.id).slots.length : Int) by omega)
      obtain ⟨Q, hQ⟩ : ∃ Q : Nat, (atV l a 1048576).tmod ((dfn p t.id).slots.length : Int) = (Q : Int) := ⟨((atV l a 1048576).tmod ((dfn p t.id).slots.length : Int)).toNat, by omega⟩
      have hQl : Q < (dfn p t.id).slots.length := by omega
      have e : makeV p l (f + 1) t a d = (.mk 3 Q [(makeV p l f (dfn p t.id).slots[Q].typ (w64 (a + 1)) (w64 (d + 1))).1], (makeV p l f (dfn p t.id).slots[Q].typ (w64 (a + 1)) (w64 (d + 1))).2) := by
        rw [makeV, if_neg h0, if_neg h1, if_neg h2, if_pos gk, hQ]
        simp [hQl]
      rw [e]
      have hih := make_ok p l hl f (dfn p t.id).slots[Q].typ (w64 (a + 1)) (w64 (d + 1)) (g4 _ (List.getElem_mem hQl))
      clear e hlt hl1 hl2
      generalize dfn p t.id = D at hD g1 g3 g4 gk hQl hih hQ
      have hn0 : ¬ D.slots = [] := fun e => by rw [e] at g1; simp at g1
      simp -implicitDefEqProofs [defR, hD, encD, gk, hn0, hQ, hQl, cellsS_drop hQl, encS]
      intro _
      refine dcallF0 hih (by simp [encP, encT, w64]) (by simp [encV]) ?_
      simp -implicitDefEqProofs [lenP, encV]
      exact ret_end 1 (by simp [encV, valk_mk, valn_mk, valkids_mk])

def valueV (p : Prg) (t : Typ) (l : List Int) : Val := if 256 < sizeW (makeV p l 10 t 0 1).1 ∨ 24 < depthW (makeV p l 10 t 0 1).1 then zeroV p 5 t else (makeV p l 10 t 0 1).1
theorem value_ok (p : Prg) (l : List Int) (hl : ∀ x ∈ l, w64 x = x) (t : Typ) (hf : Wf p 10 t) (hz : Wz p 5 t) : Ret Try.prog 27 [.agg (encP p), .agg (encT t), .sl l.length (cellsN l)] [] (.agg (encV (valueV p t l))) [] := by
  refine ret_of_wp Try.func27 rfl c27 (rs := [.cell 6 3 true]) (by kernel_rfl) ?_
  unfold K27
  simp -implicitDefEqProofs [encP, encT]
  refine call0 (make_ok p l hl 10 t 0 1 hf) (by simp [encP, encT]) (by simp [encV]) ?_
  have e : valueV p t l = if 256 < sizeW (makeV p l 10 t 0 1).1 ∨ 24 < depthW (makeV p l 10 t 0 1).1 then zeroV p 5 t else (makeV p l 10 t 0 1).1 := rfl
  generalize (makeV p l 10 t 0 1) = R at e
  obtain ⟨v, b⟩ := R
  simp only at e
  simp -implicitDefEqProofs [encV]
  refine call0 (refSize_ok v) (by simp [encV]) (by simp) ?_
  by_cases h1 : 256 < sizeW v
  · rw [if_pos (.inl h1)] at e
    rw [e]
    simp -implicitDefEqProofs [h1]
    refine call0 (zeroT_ok p 5 (by decide) t hz) (by simp [encP, encT]) (by simp [encV]) ?_
    simp -implicitDefEqProofs [encV]
    exact ret_end 0 (by simp [encV])
  · simp -implicitDefEqProofs [h1]
    refine call0 (refDepth_ok v) (by simp [encV]) (by simp) ?_
    by_cases h2 : 24 < depthW v
    · rw [if_pos (.inr h2)] at e
      rw [e]
      simp -implicitDefEqProofs [h2]
      refine call0 (zeroT_ok p 5 (by decide) t hz) (by simp [encP, encT]) (by simp [encV]) ?_
      simp -implicitDefEqProofs [encV]
      exact ret_end 0 (by simp [encV])
    · rw [if_neg (by simp [h1, h2])] at e
      rw [e]
      simp -implicitDefEqProofs [h2]
      exact ret_end 0 (by simp [encV])
end Go.Proofs.Ytbkiphnlbadhcaa
