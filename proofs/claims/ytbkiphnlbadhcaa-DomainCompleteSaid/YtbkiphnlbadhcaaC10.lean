/-
  Small functions of the reference and of the law.
-/
import Derived.Test.YtbkiphnlbadhcaaP2
namespace Go.Proofs.Ytbkiphnlbadhcaa
open Go.Abs

-- splicery/splicerylaw13.lives · results ["0"]
def K15 : K :=
 K.seq (K.ops [⟨none, .mov (some 0) (.const (.bool false))⟩])
 (K.seq (K.ops [⟨none, .call (some 17) (.func 41) []⟩,
 ⟨none, .alloc (some 1) [(.slice none 0 0), (.slice none 0 0)]⟩,
 ⟨none, .st none (.tmp 1) (.tmp 17) 2⟩])
 (K.seq (K.ops [⟨none, .build (some 18) [(.int .i64 0), (.int .i64 0), (.int .i64 0), (.int .i64 0), (.slice none 0 0)] []⟩,
 ⟨none, .call (some 19) (.func 42) [(.tmp 18)]⟩,
 ⟨none, .alloc (some 2) [(.int .i64 0), (.int .i64 0), (.int .i64 0), (.int .i64 0), (.slice none 0 0)]⟩,
 ⟨none, .st none (.tmp 2) (.tmp 19) 5⟩])
 (K.seq (K.ops [⟨none, .ld (some 21) (.tmp 1) 2 true⟩,
 ⟨none, .build (some 22) [(.int .i64 0), (.int .i64 0), (.int .i64 0), (.int .i64 0), (.slice none 0 0)] []⟩,
 ⟨none, .call (some 23) (.func 12) [(.tmp 21), (.tmp 22), (.const (.int .i64 1))]⟩,
 ⟨none, .mov (some 20) (.tmp 23)⟩,
 ⟨none, .ext (some 24) (.tmp 20) 0⟩,
 ⟨none, .ext (some 25) (.tmp 20) 1⟩,
 ⟨none, .mov (some 3) (.tmp 24)⟩,
 ⟨none, .mov (some 4) (.tmp 25)⟩])
 (K.seq (K.ops [⟨none, .ld (some 27) (.tmp 1) 2 true⟩,
 ⟨none, .ld (some 28) (.tmp 2) 5 true⟩,
 ⟨none, .call (some 29) (.func 12) [(.tmp 27), (.tmp 28), (.const (.int .i64 1))]⟩,
 ⟨none, .mov (some 26) (.tmp 29)⟩,
 ⟨none, .ext (some 30) (.tmp 26) 0⟩,
 ⟨none, .ext (some 31) (.tmp 26) 1⟩,
 ⟨none, .mov (some 5) (.tmp 30)⟩,
 ⟨none, .mov (some 6) (.tmp 31)⟩])
 (K.seq (K.dops [(0, 0, ⟨none, .ld (some 33) (.tmp 1) 2 true⟩),
 (1, 0, ⟨none, .call (some 34) (.func 11) [(.const (.int .i64 1))]⟩),
 (2, 0, ⟨none, .call (some 35) (.func 10) [(.tmp 34)]⟩),
 (3, 0, ⟨none, .call (some 36) (.func 12) [(.tmp 33), (.tmp 35), (.const (.int .i64 1))]⟩),
 (4, 0, ⟨none, .mov (some 32) (.tmp 36)⟩),
 (5, 0, ⟨none, .ext (some 37) (.tmp 32) 0⟩),
 (6, 0, ⟨none, .ext (some 38) (.tmp 32) 1⟩),
 (7, 0, ⟨none, .mov (some 7) (.tmp 37)⟩),
 (8, 0, ⟨none, .mov (some 8) (.tmp 38)⟩)])
 (K.seq (K.dops [(0, 0, ⟨none, .ld (some 40) (.tmp 1) 2 true⟩),
 (1, 0, ⟨none, .call (some 41) (.func 11) [(.const (.int .i64 2))]⟩),
 (2, 0, ⟨none, .call (some 42) (.func 10) [(.tmp 41)]⟩),
 (3, 0, ⟨none, .build (some 43) [(.int .i64 0), (.int .i64 0), (.int .i64 0), (.string ⟨#[]⟩), (.int .i64 0), (.int .i64 0), (.int .i64 0), (.int .i64 0), (.slice none 0 0), (.int .i64 0), (.int .i64 0)] [(4, 5, (.tmp 42)), (9, 1, (.const (.int .i64 1)))]⟩),
 (4, 0, ⟨none, .bslice (some 44) 45 11 1 [(.int .i64 0), (.int .i64 0), (.int .i64 0), (.string ⟨#[]⟩), (.int .i64 0), (.int .i64 0), (.int .i64 0), (.int .i64 0), (.slice none 0 0), (.int .i64 0), (.int .i64 0)] [(0, 11, (.tmp 43))]⟩),
 (5, 0, ⟨none, .call (some 45) (.func 16) [(.tmp 40), (.tmp 44)]⟩),
 (6, 0, ⟨none, .mov (some 39) (.tmp 45)⟩),
 (7, 0, ⟨none, .ext (some 46) (.tmp 39) 0⟩),
 (8, 0, ⟨none, .ext (some 47) (.tmp 39) 1⟩),
 (9, 0, ⟨none, .mov (some 9) (.tmp 46)⟩),
 (10, 0, ⟨none, .mov (some 10) (.tmp 47)⟩)])
 (K.seq (K.ops [⟨none, .ld (some 49) (.tmp 1) 2 true⟩,
 ⟨none, .ld (some 50) (.tmp 2) 5 true⟩,
 ⟨none, .call (some 51) (.func 12) [(.tmp 49), (.tmp 50), (.const (.int .i64 64))]⟩,
 ⟨none, .mov (some 48) (.tmp 51)⟩,
 ⟨none, .ext (some 52) (.tmp 48) 0⟩,
 ⟨none, .ext (some 53) (.tmp 48) 1⟩,
 ⟨none, .mov (some 11) (.tmp 52)⟩,
 ⟨none, .mov (some 12) (.tmp 53)⟩])
 (K.seq (K.ops [⟨none, .ld (some 55) (.tmp 1) 2 true⟩,
 ⟨none, .build (some 56) [(.int .i64 0), (.int .i64 0), (.int .i64 0), (.string ⟨#[]⟩), (.int .i64 0), (.int .i64 0), (.int .i64 0), (.int .i64 0), (.slice none 0 0), (.int .i64 0), (.int .i64 0)] [(9, 1, (.const (.int .i64 1)))]⟩,
 ⟨none, .build (some 57) [(.int .i64 0), (.int .i64 0), (.int .i64 0), (.int .i64 0), (.slice none 0 0)] [(0, 1, (.const (.int .i64 1)))]⟩,
 ⟨none, .build (some 58) [(.int .i64 0), (.int .i64 0), (.int .i64 0), (.string ⟨#[]⟩), (.int .i64 0), (.int .i64 0), (.int .i64 0), (.int .i64 0), (.slice none 0 0), (.int .i64 0), (.int .i64 0)] [(4, 5, (.tmp 57))]⟩,
 ⟨none, .bslice (some 59) 45 11 2 [(.int .i64 0), (.int .i64 0), (.int .i64 0), (.string ⟨#[]⟩), (.int .i64 0), (.int .i64 0), (.int .i64 0), (.int .i64 0), (.slice none 0 0), (.int .i64 0), (.int .i64 0), (.int .i64 0), (.int .i64 0), (.int .i64 0), (.string ⟨#[]⟩), (.int .i64 0), (.int .i64 0), (.int .i64 0), (.int .i64 0), (.slice none 0 0), (.int .i64 0), (.int .i64 0)] [(0, 11, (.tmp 56)), (11, 11, (.tmp 58))]⟩,
 ⟨none, .call (some 60) (.func 18) [(.tmp 55), (.tmp 59)]⟩,
 ⟨none, .mov (some 54) (.tmp 60)⟩,
 ⟨none, .ext (some 61) (.tmp 54) 0⟩,
 ⟨none, .ext (some 62) (.tmp 54) 1⟩,
 ⟨none, .mov (some 13) (.tmp 61)⟩,
 ⟨none, .mov (some 14) (.tmp 62)⟩])
 (K.seq (K.seq (K.ops [⟨none, .mov (some 63) (.tmp 4)⟩,
 ⟨none, .eqv (some 64) true .i (.tmp 63) (.const (.int .i64 0))⟩,
 ⟨none, .mov (some 65) (.tmp 64)⟩,
 ⟨some (65, false), .mov (some 66) (.tmp 6)⟩,
 ⟨some (65, false), .eqv (some 67) true .i (.tmp 66) (.const (.int .i64 0))⟩,
 ⟨none, .pick (some 68) (.tmp 65) (.const (.bool true)) (.tmp 67)⟩,
 ⟨none, .mov (some 69) (.tmp 68)⟩,
 ⟨some (69, false), .mov (some 70) (.tmp 8)⟩,
 ⟨some (69, false), .eqv (some 71) true .i (.tmp 70) (.const (.int .i64 0))⟩,
 ⟨none, .pick (some 72) (.tmp 69) (.const (.bool true)) (.tmp 71)⟩,
 ⟨none, .mov (some 73) (.tmp 72)⟩,
 ⟨some (73, false), .mov (some 74) (.tmp 10)⟩,
 ⟨some (73, false), .eqv (some 75) true .i (.tmp 74) (.const (.int .i64 0))⟩,
 ⟨none, .pick (some 76) (.tmp 73) (.const (.bool true)) (.tmp 75)⟩,
 ⟨none, .mov (some 77) (.tmp 76)⟩,
 ⟨some (77, false), .mov (some 78) (.tmp 12)⟩,
 ⟨some (77, false), .eqv (some 79) true .i (.tmp 78) (.const (.int .i64 4))⟩,
 ⟨none, .pick (some 80) (.tmp 77) (.const (.bool true)) (.tmp 79)⟩,
 ⟨none, .mov (some 81) (.tmp 80)⟩,
 ⟨some (81, false), .mov (some 82) (.tmp 14)⟩,
 ⟨some (81, false), .eqv (some 83) true .i (.tmp 82) (.const (.int .i64 0))⟩,
 ⟨none, .pick (some 84) (.tmp 81) (.const (.bool true)) (.tmp 83)⟩,
 ⟨none, .mov (some 85) (.tmp 84)⟩,
 ⟨some (85, false), .mov (some 86) (.tmp 9)⟩,
 ⟨some (85, false), .eqv (some 87) true .i (.tmp 86) (.const (.int .i64 9))⟩,
 ⟨none, .pick (some 88) (.tmp 85) (.const (.bool true)) (.tmp 87)⟩,
 ⟨none, .mov (some 89) (.tmp 88)⟩,
 ⟨some (89, false), .mov (some 90) (.tmp 7)⟩,
 ⟨some (89, false), .len (some 91) false (.tmp 90)⟩,
 ⟨some (89, false), .eqv (some 92) true .i (.tmp 91) (.const (.int .i64 6))⟩,
 ⟨none, .pick (some 93) (.tmp 89) (.const (.bool true)) (.tmp 92)⟩,
 ⟨none, .mov (some 94) (.tmp 93)⟩,
 ⟨some (94, false), .mov (some 95) (.tmp 13)⟩,
 ⟨some (94, false), .len (some 96) false (.tmp 95)⟩,
 ⟨some (94, false), .eqv (some 97) true .i (.tmp 96) (.const (.int .i64 6))⟩,
 ⟨none, .pick (some 98) (.tmp 94) (.const (.bool true)) (.tmp 97)⟩])
 (K.cond (.tmp 98)
 (K.seq (K.ops [⟨none, .mov (some 0) (.const (.bool false))⟩])
 (K.ret))
 (K.skip)))
 (K.wk (K.seq (K.ops [⟨none, .build (some 99) [(.int .i64 0), (.int .i64 0), (.slice none 0 0)] [(0, 1, (.const (.int .i64 4)))]⟩,
 ⟨none, .call (some 100) (.func 43) [(.const (.int .i64 0))]⟩,
 ⟨none, .bslice (some 101) 60 3 1 [(.int .i64 0), (.int .i64 0), (.slice none 0 0)] [(0, 3, (.tmp 100))]⟩,
 ⟨none, .build (some 102) [(.int .i64 0), (.int .i64 0), (.slice none 0 0)] [(0, 1, (.const (.int .i64 4))), (2, 1, (.tmp 101))]⟩,
 ⟨none, .call (some 103) (.func 43) [(.const (.int .i64 (-1)))]⟩,
 ⟨none, .bslice (some 104) 60 3 1 [(.int .i64 0), (.int .i64 0), (.slice none 0 0)] [(0, 3, (.tmp 103))]⟩,
 ⟨none, .build (some 105) [(.int .i64 0), (.int .i64 0), (.slice none 0 0)] [(0, 1, (.const (.int .i64 4))), (2, 1, (.tmp 104))]⟩,
 ⟨none, .call (some 106) (.func 43) [(.const (.int .i64 1))]⟩,
 ⟨none, .bslice (some 107) 60 3 1 [(.int .i64 0), (.int .i64 0), (.slice none 0 0)] [(0, 3, (.tmp 106))]⟩,
 ⟨none, .build (some 108) [(.int .i64 0), (.int .i64 0), (.slice none 0 0)] [(0, 1, (.const (.int .i64 4))), (2, 1, (.tmp 107))]⟩,
 ⟨none, .bslice (some 109) 60 3 4 [(.int .i64 0), (.int .i64 0), (.slice none 0 0), (.int .i64 0), (.int .i64 0), (.slice none 0 0), (.int .i64 0), (.int .i64 0), (.slice none 0 0), (.int .i64 0), (.int .i64 0), (.slice none 0 0)] [(0, 3, (.tmp 99)), (3, 3, (.tmp 102)), (6, 3, (.tmp 105)), (9, 3, (.tmp 108))]⟩,
 ⟨none, .mov (some 15) (.tmp 109)⟩])
 (K.seq (K.dops [(0, 0, ⟨none, .mov (some 110) (.tmp 7)⟩),
 (1, 0, ⟨none, .idx (some 111) (.tmp 110) (.const (.int .i64 1)) 3⟩),
 (2, 0, ⟨none, .addr (some 112) (.tmp 111) 2⟩),
 (3, 0, ⟨none, .ld (some 113) (.tmp 112) 1 false⟩),
 (4, 0, ⟨none, .call (some 114) (.func 43) [(.const (.int .i64 (-1)))]⟩),
 (5, 0, ⟨none, .call (some 115) (.func 44) [(.const (.int .i64 0))]⟩),
 (6, 0, ⟨none, .bslice (some 116) 60 3 2 [(.int .i64 0), (.int .i64 0), (.slice none 0 0), (.int .i64 0), (.int .i64 0), (.slice none 0 0)] [(0, 3, (.tmp 114)), (3, 3, (.tmp 115))]⟩),
 (7, 0, ⟨none, .call (some 117) (.func 14) [(.tmp 113), (.tmp 116)]⟩),
 (8, 0, ⟨none, .mov (some 118) (.tmp 117)⟩),
 (9, 0, ⟨some (118, true), .mov (some 119) (.tmp 7)⟩),
 (10, 0, ⟨some (118, true), .idx (some 120) (.tmp 119) (.const (.int .i64 2)) 3⟩),
 (11, 0, ⟨some (118, true), .addr (some 121) (.tmp 120) 2⟩),
 (12, 0, ⟨some (118, true), .ld (some 122) (.tmp 121) 1 false⟩),
 (13, 0, ⟨some (118, true), .call (some 123) (.func 43) [(.const (.int .i64 0))]⟩),
 (14, 0, ⟨some (118, true), .call (some 124) (.func 44) [(.const (.int .i64 1))]⟩),
 (15, 0, ⟨some (118, true), .bslice (some 125) 60 3 2 [(.int .i64 0), (.int .i64 0), (.slice none 0 0), (.int .i64 0), (.int .i64 0), (.slice none 0 0)] [(0, 3, (.tmp 123)), (3, 3, (.tmp 124))]⟩),
 (16, 0, ⟨some (118, true), .call (some 126) (.func 14) [(.tmp 122), (.tmp 125)]⟩),
 (17, 0, ⟨none, .pick (some 127) (.tmp 118) (.tmp 126) (.const (.bool false))⟩),
 (18, 0, ⟨none, .mov (some 128) (.tmp 127)⟩),
 (19, 0, ⟨some (128, true), .mov (some 129) (.tmp 7)⟩),
 (20, 0, ⟨some (128, true), .idx (some 130) (.tmp 129) (.const (.int .i64 5)) 3⟩),
 (21, 0, ⟨some (128, true), .addr (some 131) (.tmp 130) 2⟩),
 (22, 0, ⟨some (128, true), .ld (some 132) (.tmp 131) 1 false⟩),
 (23, 0, ⟨some (128, true), .call (some 133) (.func 43) [(.const (.int .i64 1))]⟩),
 (24, 0, ⟨some (128, true), .call (some 134) (.func 44) [(.const (.int .i64 1))]⟩),
 (25, 0, ⟨some (128, true), .bslice (some 135) 60 3 2 [(.int .i64 0), (.int .i64 0), (.slice none 0 0), (.int .i64 0), (.int .i64 0), (.slice none 0 0)] [(0, 3, (.tmp 133)), (3, 3, (.tmp 134))]⟩),
 (26, 0, ⟨some (128, true), .call (some 136) (.func 14) [(.tmp 132), (.tmp 135)]⟩),
 (27, 0, ⟨none, .pick (some 137) (.tmp 128) (.tmp 136) (.const (.bool false))⟩),
 (28, 0, ⟨none, .mov (some 16) (.tmp 137)⟩)])
 (K.seq (K.dops [(0, 0, ⟨none, .mov (some 138) (.tmp 16)⟩),
 (1, 0, ⟨none, .mov (some 139) (.tmp 138)⟩),
 (2, 0, ⟨some (139, true), .mov (some 140) (.tmp 3)⟩),
 (3, 0, ⟨some (139, true), .call (some 141) (.func 43) [(.const (.int .i64 0))]⟩),
 (4, 0, ⟨some (139, true), .call (some 142) (.func 43) [(.const (.int .i64 (-1)))]⟩),
 (5, 0, ⟨some (139, true), .call (some 143) (.func 43) [(.const (.int .i64 1))]⟩),
 (6, 0, ⟨some (139, true), .bslice (some 144) 60 3 3 [(.int .i64 0), (.int .i64 0), (.slice none 0 0), (.int .i64 0), (.int .i64 0), (.slice none 0 0), (.int .i64 0), (.int .i64 0), (.slice none 0 0)] [(0, 3, (.tmp 141)), (3, 3, (.tmp 142)), (6, 3, (.tmp 143))]⟩),
 (7, 0, ⟨some (139, true), .call (some 145) (.func 14) [(.tmp 140), (.tmp 144)]⟩),
 (8, 0, ⟨none, .pick (some 146) (.tmp 139) (.tmp 145) (.const (.bool false))⟩),
 (9, 0, ⟨none, .mov (some 147) (.tmp 146)⟩),
 (10, 0, ⟨some (147, true), .mov (some 148) (.tmp 5)⟩),
 (11, 0, ⟨some (147, true), .mov (some 149) (.tmp 15)⟩),
 (12, 0, ⟨some (147, true), .call (some 150) (.func 14) [(.tmp 148), (.tmp 149)]⟩),
 (13, 0, ⟨none, .pick (some 151) (.tmp 147) (.tmp 150) (.const (.bool false))⟩),
 (14, 0, ⟨none, .mov (some 152) (.tmp 151)⟩),
 (15, 0, ⟨some (152, true), .mov (some 153) (.tmp 13)⟩),
 (16, 0, ⟨some (152, true), .idx (some 154) (.tmp 153) (.const (.int .i64 2)) 1⟩),
 (17, 0, ⟨some (152, true), .ld (some 155) (.tmp 154) 1 false⟩),
 (18, 0, ⟨some (152, true), .call (some 156) (.func 43) [(.const (.int .i64 0))]⟩),
 (19, 0, ⟨some (152, true), .call (some 157) (.func 44) [(.const (.int .i64 1))]⟩),
 (20, 0, ⟨some (152, true), .bslice (some 158) 60 3 2 [(.int .i64 0), (.int .i64 0), (.slice none 0 0), (.int .i64 0), (.int .i64 0), (.slice none 0 0)] [(0, 3, (.tmp 156)), (3, 3, (.tmp 157))]⟩),
 (21, 0, ⟨some (152, true), .call (some 159) (.func 14) [(.tmp 155), (.tmp 158)]⟩),
 (22, 0, ⟨none, .pick (some 160) (.tmp 152) (.tmp 159) (.const (.bool false))⟩),
 (23, 0, ⟨none, .mov (some 161) (.tmp 160)⟩),
 (24, 0, ⟨some (161, true), .mov (some 162) (.tmp 13)⟩),
 (25, 0, ⟨some (161, true), .idx (some 163) (.tmp 162) (.const (.int .i64 0)) 1⟩),
 (26, 0, ⟨some (161, true), .ld (some 164) (.tmp 163) 1 false⟩),
 (27, 0, ⟨some (161, true), .mov (some 165) (.tmp 13)⟩),
 (28, 0, ⟨some (161, true), .idx (some 166) (.tmp 165) (.const (.int .i64 1)) 1⟩),
 (29, 0, ⟨some (161, true), .ld (some 167) (.tmp 166) 1 false⟩),
 (30, 0, ⟨some (161, true), .call (some 168) (.func 21) [(.tmp 164), (.tmp 167)]⟩),
 (31, 0, ⟨none, .pick (some 169) (.tmp 161) (.tmp 168) (.const (.bool false))⟩),
 (32, 0, ⟨none, .mov (some 170) (.tmp 169)⟩),
 (33, 0, ⟨some (170, true), .mov (some 171) (.tmp 13)⟩),
 (34, 0, ⟨some (170, true), .idx (some 172) (.tmp 171) (.const (.int .i64 1)) 1⟩),
 (35, 0, ⟨some (170, true), .ld (some 173) (.tmp 172) 1 false⟩),
 (36, 0, ⟨some (170, true), .mov (some 174) (.tmp 13)⟩),
 (37, 0, ⟨some (170, true), .idx (some 175) (.tmp 174) (.const (.int .i64 0)) 1⟩),
 (38, 0, ⟨some (170, true), .ld (some 176) (.tmp 175) 1 false⟩),
 (39, 0, ⟨some (170, true), .call (some 177) (.func 21) [(.tmp 173), (.tmp 176)]⟩),
 (40, 0, ⟨some (170, true), .not (some 178) (.tmp 177)⟩),
 (41, 0, ⟨none, .pick (some 179) (.tmp 170) (.tmp 178) (.const (.bool false))⟩),
 (42, 0, ⟨none, .mov (some 0) (.tmp 179)⟩)])
 (K.ret))))))))))))))
theorem c15 : compile Try.prog Try.f15.ntmps (Try.f15.body.getD .skip) = some K15.erase := by kernel_rfl
@[simp] theorem cal15 : callable Try.prog 15 = true := by kernel_rfl


-- splicery/spliceryref13.Same · results ["4"]
def K14 : K :=
 K.seq (K.ops [⟨none, .mov (some 4) (.const (.bool false))⟩])
 (K.seq (K.seq (K.ops [⟨none, .mov (some 6) (.tmp 0)⟩,
 ⟨none, .len (some 7) false (.tmp 6)⟩,
 ⟨none, .mov (some 8) (.tmp 1)⟩,
 ⟨none, .len (some 9) false (.tmp 8)⟩,
 ⟨none, .eqv (some 10) true .i (.tmp 7) (.tmp 9)⟩])
 (K.cond (.tmp 10)
 (K.seq (K.ops [⟨none, .mov (some 4) (.const (.bool false))⟩])
 (K.ret))
 (K.skip)))
 (K.seq (K.seq (K.ops [⟨none, .mov (some 5) (.const (.int .i64 0))⟩])
 (K.block 0 (K.loop (K.seq (K.seq (K.ops [⟨none, .mov (some 11) (.tmp 5)⟩,
 ⟨none, .mov (some 12) (.tmp 0)⟩,
 ⟨none, .len (some 13) false (.tmp 12)⟩,
 ⟨none, .bin (some 14) .lss (.tmp 11) (.tmp 13)⟩])
 (K.cond (.tmp 14)
 (K.skip)
 (K.exit 0)))
 (K.seq (K.block 1 (K.seq (K.dops [(0, 0, ⟨none, .mov (some 17) (.tmp 0)⟩),
 (1, 0, ⟨none, .mov (some 18) (.tmp 5)⟩),
 (2, 0, ⟨none, .idx (some 19) (.tmp 17) (.tmp 18) 3⟩),
 (3, 0, ⟨none, .ld (some 20) (.tmp 19) 3 true⟩),
 (4, 0, ⟨none, .mov (some 21) (.tmp 1)⟩),
 (5, 0, ⟨none, .mov (some 22) (.tmp 5)⟩),
 (6, 0, ⟨none, .idx (some 23) (.tmp 21) (.tmp 22) 3⟩),
 (7, 0, ⟨none, .ld (some 24) (.tmp 23) 3 true⟩),
 (8, 0, ⟨none, .call (some 25) (.func 40) [(.tmp 20), (.tmp 24)]⟩),
 (9, 0, ⟨none, .eqv (some 26) true .i (.tmp 25) (.const (.int .i64 0))⟩)])
 (K.cond (.tmp 26)
 (K.seq (K.ops [⟨none, .mov (some 4) (.const (.bool false))⟩])
 (K.ret))
 (K.skip))))
 (K.ops [⟨none, .mov (some 15) (.tmp 5)⟩,
 ⟨none, .bin (some 16) .add (.tmp 15) (.const (.int .i64 1))⟩,
 ⟨none, .mov (some 5) (.tmp 16)⟩]))))))
 (K.seq (K.ops [⟨none, .mov (some 4) (.const (.bool true))⟩])
 (K.ret))))
theorem c14 : compile Try.prog Try.f14.ntmps (Try.f14.body.getD .skip) = some K14.erase := by kernel_rfl
@[simp] theorem cal14 : callable Try.prog 14 = true := by kernel_rfl

-- splicery/splicerylaw13.num · results ["cell 2"]
def K43 : K :=
 K.seq (K.ops [⟨none, .alloc (some 2) [(.int .i64 0), (.int .i64 0), (.slice none 0 0)]⟩])
 (K.seq (K.ops [⟨none, .mov (some 3) (.tmp 0)⟩,
 ⟨none, .build (some 4) [(.int .i64 0), (.int .i64 0), (.slice none 0 0)] [(0, 1, (.const (.int .i64 0))), (1, 1, (.tmp 3))]⟩,
 ⟨none, .st none (.tmp 2) (.tmp 4) 3⟩])
 (K.ret))
theorem c43 : compile Try.prog Try.f43.ntmps (Try.f43.body.getD .skip) = some K43.erase := by kernel_rfl
@[simp] theorem cal43 : callable Try.prog 43 = true := by kernel_rfl

-- splicery/splicerylaw13.truth · results ["cell 2"]
def K44 : K :=
 K.seq (K.ops [⟨none, .alloc (some 2) [(.int .i64 0), (.int .i64 0), (.slice none 0 0)]⟩])
 (K.seq (K.ops [⟨none, .mov (some 3) (.tmp 0)⟩,
 ⟨none, .build (some 4) [(.int .i64 0), (.int .i64 0), (.slice none 0 0)] [(0, 1, (.const (.int .i64 1))), (1, 1, (.tmp 3))]⟩,
 ⟨none, .st none (.tmp 2) (.tmp 4) 3⟩])
 (K.ret))
theorem c44 : compile Try.prog Try.f44.ntmps (Try.f44.body.getD .skip) = some K44.erase := by kernel_rfl
@[simp] theorem cal44 : callable Try.prog 44 = true := by kernel_rfl

-- splicery/splicerylaw13.example · results ["cell 0"]
def K41 : K :=
 K.seq (K.ops [⟨none, .alloc (some 0) [(.slice none 0 0), (.slice none 0 0)]⟩])
 (K.seq (K.ops [⟨none, .call (some 3) (.func 11) [(.const (.int .i64 1))]⟩,
 ⟨none, .call (some 4) (.func 11) [(.const (.int .i64 3))]⟩,
 ⟨none, .build (some 5) [(.int .i64 0), (.int .i64 0), (.int .i64 0), (.string ⟨#[]⟩), (.int .i64 0), (.int .i64 0), (.int .i64 0), (.int .i64 0), (.slice none 0 0), (.int .i64 0), (.int .i64 0)] [(0, 3, (.tmp 4))]⟩,
 ⟨none, .call (some 6) (.func 11) [(.const (.int .i64 4))]⟩,
 ⟨none, .build (some 7) [(.int .i64 0), (.int .i64 0), (.int .i64 0), (.int .i64 0), (.slice none 0 0)] [(0, 1, (.const (.int .i64 1)))]⟩,
 ⟨none, .build (some 8) [(.int .i64 0), (.int .i64 0), (.int .i64 0), (.string ⟨#[]⟩), (.int .i64 0), (.int .i64 0), (.int .i64 0), (.int .i64 0), (.slice none 0 0), (.int .i64 0), (.int .i64 0)] [(0, 3, (.tmp 6)), (4, 5, (.tmp 7))]⟩,
 ⟨none, .bslice (some 9) 45 11 2 [(.int .i64 0), (.int .i64 0), (.int .i64 0), (.string ⟨#[]⟩), (.int .i64 0), (.int .i64 0), (.int .i64 0), (.int .i64 0), (.slice none 0 0), (.int .i64 0), (.int .i64 0), (.int .i64 0), (.int .i64 0), (.int .i64 0), (.string ⟨#[]⟩), (.int .i64 0), (.int .i64 0), (.int .i64 0), (.int .i64 0), (.slice none 0 0), (.int .i64 0), (.int .i64 0)] [(0, 11, (.tmp 5)), (11, 11, (.tmp 8))]⟩,
 ⟨none, .build (some 10) [(.int .i64 0), (.int .i64 0), (.int .i64 0), (.int .i64 0), (.int .i64 0), (.int .i64 0), (.int .i64 0), (.string ⟨#[]⟩), (.slice none 0 0), (.int .i64 0), (.int .i64 0), (.int .i64 0), (.int .i64 0), (.slice none 0 0), (.int .i64 0), (.int .i64 0), (.int .i64 0), (.int .i64 0), (.int .i64 0), (.int .i64 0), (.int .i64 0), (.int .i64 0), (.int .i64 0), (.int .i64 0), (.int .i64 0), (.int .i64 0), (.slice none 0 0), (.slice none 0 0), (.slice none 0 0), (.int .i64 0), (.slice none 0 0)] [(0, 3, (.tmp 3)), (3, 1, (.const (.int .i64 0))), (8, 1, (.tmp 9))]⟩,
 ⟨none, .alloc (some 1) [(.int .i64 0), (.int .i64 0), (.int .i64 0), (.int .i64 0), (.int .i64 0), (.int .i64 0), (.int .i64 0), (.string ⟨#[]⟩), (.slice none 0 0), (.int .i64 0), (.int .i64 0), (.int .i64 0), (.int .i64 0), (.slice none 0 0), (.int .i64 0), (.int .i64 0), (.int .i64 0), (.int .i64 0), (.int .i64 0), (.int .i64 0), (.int .i64 0), (.int .i64 0), (.int .i64 0), (.int .i64 0), (.int .i64 0), (.int .i64 0), (.slice none 0 0), (.slice none 0 0), (.slice none 0 0), (.int .i64 0), (.slice none 0 0)]⟩,
 ⟨none, .st none (.tmp 1) (.tmp 10) 31⟩])
 (K.seq (K.ops [⟨none, .call (some 11) (.func 11) [(.const (.int .i64 2))]⟩,
 ⟨none, .call (some 12) (.func 11) [(.const (.int .i64 5))]⟩,
 ⟨none, .build (some 13) [(.int .i64 0), (.int .i64 0), (.int .i64 0), (.string ⟨#[]⟩), (.int .i64 0), (.int .i64 0), (.int .i64 0), (.int .i64 0), (.slice none 0 0), (.int .i64 0), (.int .i64 0)] [(0, 3, (.tmp 12))]⟩,
 ⟨none, .call (some 14) (.func 11) [(.const (.int .i64 6))]⟩,
 ⟨none, .call (some 15) (.func 11) [(.const (.int .i64 1))]⟩,
 ⟨none, .call (some 16) (.func 10) [(.tmp 15)]⟩,
 ⟨none, .build (some 17) [(.int .i64 0), (.int .i64 0), (.int .i64 0), (.string ⟨#[]⟩), (.int .i64 0), (.int .i64 0), (.int .i64 0), (.int .i64 0), (.slice none 0 0), (.int .i64 0), (.int .i64 0)] [(0, 3, (.tmp 14)), (4, 5, (.tmp 16))]⟩,
 ⟨none, .bslice (some 18) 45 11 2 [(.int .i64 0), (.int .i64 0), (.int .i64 0), (.string ⟨#[]⟩), (.int .i64 0), (.int .i64 0), (.int .i64 0), (.int .i64 0), (.slice none 0 0), (.int .i64 0), (.int .i64 0), (.int .i64 0), (.int .i64 0), (.int .i64 0), (.string ⟨#[]⟩), (.int .i64 0), (.int .i64 0), (.int .i64 0), (.int .i64 0), (.slice none 0 0), (.int .i64 0), (.int .i64 0)] [(0, 11, (.tmp 13)), (11, 11, (.tmp 17))]⟩,
 ⟨none, .build (some 19) [(.int .i64 0), (.int .i64 0), (.int .i64 0), (.int .i64 0), (.int .i64 0), (.int .i64 0), (.int .i64 0), (.string ⟨#[]⟩), (.slice none 0 0), (.int .i64 0), (.int .i64 0), (.int .i64 0), (.int .i64 0), (.slice none 0 0), (.int .i64 0), (.int .i64 0), (.int .i64 0), (.int .i64 0), (.int .i64 0), (.int .i64 0), (.int .i64 0), (.int .i64 0), (.int .i64 0), (.int .i64 0), (.int .i64 0), (.int .i64 0), (.slice none 0 0), (.slice none 0 0), (.slice none 0 0), (.int .i64 0), (.slice none 0 0)] [(0, 3, (.tmp 11)), (3, 1, (.const (.int .i64 1))), (8, 1, (.tmp 18))]⟩,
 ⟨none, .alloc (some 2) [(.int .i64 0), (.int .i64 0), (.int .i64 0), (.int .i64 0), (.int .i64 0), (.int .i64 0), (.int .i64 0), (.string ⟨#[]⟩), (.slice none 0 0), (.int .i64 0), (.int .i64 0), (.int .i64 0), (.int .i64 0), (.slice none 0 0), (.int .i64 0), (.int .i64 0), (.int .i64 0), (.int .i64 0), (.int .i64 0), (.int .i64 0), (.int .i64 0), (.int .i64 0), (.int .i64 0), (.int .i64 0), (.int .i64 0), (.int .i64 0), (.slice none 0 0), (.slice none 0 0), (.slice none 0 0), (.int .i64 0), (.slice none 0 0)]⟩,
 ⟨none, .st none (.tmp 2) (.tmp 19) 31⟩])
 (K.seq (K.ops [⟨none, .ld (some 20) (.tmp 1) 31 true⟩,
 ⟨none, .ld (some 21) (.tmp 2) 31 true⟩,
 ⟨none, .bslice (some 22) 73 31 2 [(.int .i64 0), (.int .i64 0), (.int .i64 0), (.int .i64 0), (.int .i64 0), (.int .i64 0), (.int .i64 0), (.string ⟨#[]⟩), (.slice none 0 0), (.int .i64 0), (.int .i64 0), (.int .i64 0), (.int .i64 0), (.slice none 0 0), (.int .i64 0), (.int .i64 0), (.int .i64 0), (.int .i64 0), (.int .i64 0), (.int .i64 0), (.int .i64 0), (.int .i64 0), (.int .i64 0), (.int .i64 0), (.int .i64 0), (.int .i64 0), (.slice none 0 0), (.slice none 0 0), (.slice none 0 0), (.int .i64 0), (.slice none 0 0), (.int .i64 0), (.int .i64 0), (.int .i64 0), (.int .i64 0), (.int .i64 0), (.int .i64 0), (.int .i64 0), (.string ⟨#[]⟩), (.slice none 0 0), (.int .i64 0), (.int .i64 0), (.int .i64 0), (.int .i64 0), (.slice none 0 0), (.int .i64 0), (.int .i64 0), (.int .i64 0), (.int .i64 0), (.int .i64 0), (.int .i64 0), (.int .i64 0), (.int .i64 0), (.int .i64 0), (.int .i64 0), (.int .i64 0), (.int .i64 0), (.slice none 0 0), (.slice none 0 0), (.slice none 0 0), (.int .i64 0), (.slice none 0 0)] [(0, 31, (.tmp 20)), (31, 31, (.tmp 21))]⟩,
 ⟨none, .build (some 23) [(.slice none 0 0), (.slice none 0 0)] [(1, 1, (.tmp 22))]⟩,
 ⟨none, .st none (.tmp 0) (.tmp 23) 2⟩])
 (K.ret))))
theorem c41 : compile Try.prog Try.f41.ntmps (Try.f41.body.getD .skip) = some K41.erase := by kernel_rfl
@[simp] theorem cal41 : callable Try.prog 41 = true := by kernel_rfl

-- splicery/spliceryref04.ID · results ["cell 2"]
def K11 : K :=
 K.seq (K.ops [⟨none, .alloc (some 2) [(.int .i64 0), (.int .i64 0), (.int .i64 0)]⟩])
 (K.seq (K.ops [⟨none, .mov (some 3) (.tmp 0)⟩,
 ⟨none, .bin (some 4) .quo (.tmp 3) (.const (.int .i64 32))⟩,
 ⟨none, .bin (some 5) .add (.const (.int .i64 1)) (.tmp 4)⟩,
 ⟨none, .mov (some 6) (.tmp 0)⟩,
 ⟨none, .bin (some 7) .rem (.tmp 6) (.const (.int .i64 32))⟩,
 ⟨none, .build (some 8) [(.int .i64 0), (.int .i64 0), (.int .i64 0)] [(1, 1, (.tmp 5)), (2, 1, (.tmp 7))]⟩,
 ⟨none, .st none (.tmp 2) (.tmp 8) 3⟩])
 (K.ret))
theorem c11 : compile Try.prog Try.f11.ntmps (Try.f11.body.getD .skip) = some K11.erase := by kernel_rfl
@[simp] theorem cal11 : callable Try.prog 11 = true := by kernel_rfl

-- splicery/spliceryref04.Of · results ["cell 2"]
def K10 : K :=
 K.seq (K.ops [⟨none, .box (some 1) (.tmp 0)⟩,
 ⟨none, .alloc (some 2) [(.int .i64 0), (.int .i64 0), (.int .i64 0), (.int .i64 0), (.slice none 0 0)]⟩])
 (K.seq (K.ops [⟨none, .ld (some 3) (.tmp 1) 3 true⟩,
 ⟨none, .build (some 4) [(.int .i64 0), (.int .i64 0), (.int .i64 0), (.int .i64 0), (.slice none 0 0)] [(0, 1, (.const (.int .i64 3))), (1, 3, (.tmp 3))]⟩,
 ⟨none, .st none (.tmp 2) (.tmp 4) 5⟩])
 (K.ret))
theorem c10 : compile Try.prog Try.f10.ntmps (Try.f10.body.getD .skip) = some K10.erase := by kernel_rfl
@[simp] theorem cal10 : callable Try.prog 10 = true := by kernel_rfl

-- splicery/spliceryref04.List · results ["cell 2"]
def K42 : K :=
 K.seq (K.ops [⟨none, .box (some 1) (.tmp 0)⟩,
 ⟨none, .alloc (some 2) [(.int .i64 0), (.int .i64 0), (.int .i64 0), (.int .i64 0), (.slice none 0 0)]⟩])
 (K.seq (K.ops [⟨none, .ld (some 3) (.tmp 1) 5 true⟩,
 ⟨none, .bslice (some 4) 27 5 1 [(.int .i64 0), (.int .i64 0), (.int .i64 0), (.int .i64 0), (.slice none 0 0)] [(0, 5, (.tmp 3))]⟩,
 ⟨none, .build (some 5) [(.int .i64 0), (.int .i64 0), (.int .i64 0), (.int .i64 0), (.slice none 0 0)] [(0, 1, (.const (.int .i64 2))), (4, 1, (.tmp 4))]⟩,
 ⟨none, .st none (.tmp 2) (.tmp 5) 5⟩])
 (K.ret))
theorem c42 : compile Try.prog Try.f42.ntmps (Try.f42.body.getD .skip) = some K42.erase := by kernel_rfl
@[simp] theorem cal42 : callable Try.prog 42 = true := by kernel_rfl

-- splicery/spliceryref13.SameInputs · results ["4"]
def K20 : K :=
 K.seq (K.ops [⟨none, .mov (some 4) (.const (.bool false))⟩])
 (K.seq (K.seq (K.ops [⟨none, .mov (some 6) (.tmp 0)⟩,
 ⟨none, .len (some 7) false (.tmp 6)⟩,
 ⟨none, .mov (some 8) (.tmp 1)⟩,
 ⟨none, .len (some 9) false (.tmp 8)⟩,
 ⟨none, .eqv (some 10) true .i (.tmp 7) (.tmp 9)⟩])
 (K.cond (.tmp 10)
 (K.seq (K.ops [⟨none, .mov (some 4) (.const (.bool false))⟩])
 (K.ret))
 (K.skip)))
 (K.seq (K.seq (K.ops [⟨none, .mov (some 5) (.const (.int .i64 0))⟩])
 (K.block 0 (K.loop (K.seq (K.seq (K.ops [⟨none, .mov (some 11) (.tmp 5)⟩,
 ⟨none, .mov (some 12) (.tmp 0)⟩,
 ⟨none, .len (some 13) false (.tmp 12)⟩,
 ⟨none, .bin (some 14) .lss (.tmp 11) (.tmp 13)⟩])
 (K.cond (.tmp 14)
 (K.skip)
 (K.exit 0)))
 (K.seq (K.block 1 (K.seq (K.dops [(0, 0, ⟨none, .mov (some 17) (.tmp 0)⟩),
 (1, 0, ⟨none, .mov (some 18) (.tmp 5)⟩),
 (2, 0, ⟨none, .idx (some 19) (.tmp 17) (.tmp 18) 1⟩),
 (3, 0, ⟨none, .ld (some 20) (.tmp 19) 1 false⟩),
 (4, 0, ⟨none, .mov (some 21) (.tmp 1)⟩),
 (5, 0, ⟨none, .mov (some 22) (.tmp 5)⟩),
 (6, 0, ⟨none, .idx (some 23) (.tmp 21) (.tmp 22) 1⟩),
 (7, 0, ⟨none, .ld (some 24) (.tmp 23) 1 false⟩),
 (8, 0, ⟨none, .call (some 25) (.func 14) [(.tmp 20), (.tmp 24)]⟩),
 (9, 0, ⟨none, .not (some 26) (.tmp 25)⟩)])
 (K.cond (.tmp 26)
 (K.seq (K.ops [⟨none, .mov (some 4) (.const (.bool false))⟩])
 (K.ret))
 (K.skip))))
 (K.ops [⟨none, .mov (some 15) (.tmp 5)⟩,
 ⟨none, .bin (some 16) .add (.tmp 15) (.const (.int .i64 1))⟩,
 ⟨none, .mov (some 5) (.tmp 16)⟩]))))))
 (K.seq (K.ops [⟨none, .mov (some 4) (.const (.bool true))⟩])
 (K.ret))))
theorem c20 : compile Try.prog Try.f20.ntmps (Try.f20.body.getD .skip) = some K20.erase := by kernel_rfl
@[simp] theorem cal20 : callable Try.prog 20 = true := by kernel_rfl


theorem num_ok (n : Int) : Ret Try.prog 43 [int n] [] (.agg (encV (.mk 0 n []))) [] := by
  refine ret_of_wp Try.func43 rfl c43 (rs := [.cell 2 3 true]) (by kernel_rfl) ?_
  unfold K43
  simp -implicitDefEqProofs
  exact ret_end 0 (by simp [encV, Val.k, Val.n, Val.kids])
theorem truth_ok (n : Int) : Ret Try.prog 44 [int n] [] (.agg (encV (.mk 1 n []))) [] := by
  refine ret_of_wp Try.func44 rfl c44 (rs := [.cell 2 3 true]) (by kernel_rfl) ?_
  unfold K44
  simp -implicitDefEqProofs
  exact ret_end 0 (by simp [encV, Val.k, Val.n, Val.kids])

def idR (k : Int) : Id := ⟨0, IntKind.i64.wrap (1 + IntKind.i64.wrap (k.tdiv 32)), k.tmod 32⟩
theorem id_ok (k : Int) : Ret Try.prog 11 [int k] [] (.agg (encI (idR k))) [] := by
  refine ret_of_wp Try.func11 rfl c11 (rs := [.cell 2 3 true]) (by kernel_rfl) ?_
  unfold K11
  simp -implicitDefEqProofs
  exact ret_end 0 (by simp [encI, idR])
theorem of_ok (d : Id) : Ret Try.prog 10 [.agg (encI d)] [] (.agg (encT (.mk 3 d []))) [] := by
  refine ret_of_wp Try.func10 rfl c10 (rs := [.cell 2 5 true]) (by kernel_rfl) ?_
  unfold K10
  simp -implicitDefEqProofs [encI]
  exact ret_end 0 (by simp [encT])
theorem list_ok (t : Typ) : Ret Try.prog 42 [.agg (encT t)] [] (.agg (encT (.mk 2 ⟨0, 0, 0⟩ [t]))) [] := by
  refine ret_of_wp Try.func42 rfl c42 (rs := [.cell 2 5 true]) (by kernel_rfl) ?_
  unfold K42
  simp -implicitDefEqProofs [encT]
  exact ret_end 0 (by simp [encT])

def sameV : List Val → List Val → Bool
  | [], [] => true
  | a :: l, b :: r => decide (cmpV a b = 0) && sameV l r
  | _, _ => false
theorem sameV_len : ∀ {a b : List Val}, a.length ≠ b.length → sameV a b = false
  | [], [], h => by simp at h
  | a :: l, b :: r, h => by simp [sameV, sameV_len (a := l) (b := r) (by simpa using h)]
  | [], _ :: _, _ => rfl
  | _ :: _, [], _ => rfl
theorem same_ok (a b : List Val) : Ret Try.prog 14 [.sl a.length (cellsV a), .sl b.length (cellsV b)] [] (bl (sameV a b)) [] := by
  refine ret_of_wp Try.func14 rfl c14 (rs := [.slot 4]) (by kernel_rfl) ?_
  unfold K14
  by_cases hl : a.length = b.length
  · simp -implicitDefEqProofs [hl]
    intro h1
    refine loopS (S := Nat) (fun i => [(0, .sl b.length (cellsV a)), (1, .sl b.length (cellsV b)), (5, int i)]) (fun i => []) (fun i => i ≤ b.length ∧ sameV a b = sameV (a.drop i) (b.drop i)) (fun i => b.length - i) 0 (by simp)
      (selW [] 0 (by simp) (by simp) (by simp) (by simp)) ?_
    rintro i ⟨hi, ho⟩
    by_cases h : i < b.length
    · have ha : i < a.length := by omega
      rw [List.drop_eq_getElem_cons h, List.drop_eq_getElem_cons ha, sameV] at ho
      simp -implicitDefEqProofs [h, h1, cellsV_drop h, cellsV_drop ha, hl]
      refine dcall0 (refCompare_ok a[i] b[i]) (by simp [encV]) (by simp) ?_
      by_cases h0 : cmpV a[i] b[i] = 0
      · have hw : IntKind.i64.wrap ((i : Int) + 1) = (i : Int) + 1 := wrap_succ h h1
        simp -implicitDefEqProofs [h0]
        exact roundS (i + 1) ⟨h, by rw [ho]; simp [h0]⟩ (by omega) (selW [] 0 (by simp) (by simp) (by simp) (by simp [hw]))
      · simp -implicitDefEqProofs [h0]
        exact ret_end 0 (by simp [ho, h0])
    · have hi : i = b.length := by omega
      subst hi
      have e : sameV a b = true := by rw [ho, List.drop_length, ← hl, List.drop_length]; rfl
      simp -implicitDefEqProofs [h1]
      exact ret_end 0 (by simp [e])
  · have e := sameV_len hl
    have hl' : ¬ ((a.length : Int) = b.length) := by omega
    simp -implicitDefEqProofs [hl, hl']
    intro h1 h2
    exact ret_end 0 (by simp [e])

def sameW : List (List Val) → List (List Val) → Bool
  | [], [] => true
  | a :: l, b :: r => sameV a b && sameW l r
  | _, _ => false
theorem sameW_len : ∀ {a b : List (List Val)}, a.length ≠ b.length → sameW a b = false
  | [], [], h => by simp at h
  | a :: l, b :: r, h => by simp [sameW, sameW_len (a := l) (b := r) (by simpa using h)]
  | [], _ :: _, _ => rfl
  | _ :: _, [], _ => rfl
theorem sameInputs_ok (a b : List (List Val)) : Ret Try.prog 20 [.sl a.length (cellsW a), .sl b.length (cellsW b)] [] (bl (sameW a b)) [] := by
  refine ret_of_wp Try.func20 rfl c20 (rs := [.slot 4]) (by kernel_rfl) ?_
  unfold K20
  by_cases hl : a.length = b.length
  · simp -implicitDefEqProofs [hl]
    intro h1
    refine loopS (S := Nat) (fun i => [(0, .sl b.length (cellsW a)), (1, .sl b.length (cellsW b)), (5, int i)]) (fun i => []) (fun i => i ≤ b.length ∧ sameW a b = sameW (a.drop i) (b.drop i)) (fun i => b.length - i) 0 (by simp)
      (selW [] 0 (by simp) (by simp) (by simp) (by simp)) ?_
    rintro i ⟨hi, ho⟩
    by_cases h : i < b.length
    · have ha : i < a.length := by omega
      rw [List.drop_eq_getElem_cons h, List.drop_eq_getElem_cons ha, sameW] at ho
      simp -implicitDefEqProofs [h, h1, cellsW_drop h, cellsW_drop ha, hl]
      refine dcall0 (same_ok a[i] b[i]) (by simp) (by simp) ?_
      cases h0 : sameV a[i] b[i] with
      | true =>
        have hw : IntKind.i64.wrap ((i : Int) + 1) = (i : Int) + 1 := wrap_succ h h1
        simp -implicitDefEqProofs [h0]
        exact roundS (i + 1) ⟨h, by rw [ho]; simp [h0]⟩ (by omega) (selW [] 0 (by simp) (by simp) (by simp) (by simp [hw]))
      | false =>
        simp -implicitDefEqProofs [h0]
        exact ret_end 0 (by simp [ho, h0])
    · have hi : i = b.length := by omega
      subst hi
      have e : sameW a b = true := by rw [ho, List.drop_length, ← hl, List.drop_length]; rfl
      simp -implicitDefEqProofs [h1]
      exact ret_end 0 (by simp [e])
  · have e := sameW_len hl
    have hl' : ¬ ((a.length : Int) = b.length) := by omega
    simp -implicitDefEqProofs [hl, hl']
    intro h1 h2
    exact ret_end 0 (by simp [e])

theorem idR1 : idR 1 = ⟨0, 1, 1⟩ := by kernel_rfl
theorem idR2 : idR 2 = ⟨0, 1, 2⟩ := by kernel_rfl
theorem idR3 : idR 3 = ⟨0, 1, 3⟩ := by kernel_rfl
theorem idR4 : idR 4 = ⟨0, 1, 4⟩ := by kernel_rfl
theorem idR5 : idR 5 = ⟨0, 1, 5⟩ := by kernel_rfl
theorem idR6 : idR 6 = ⟨0, 1, 6⟩ := by kernel_rfl
theorem example_ok : Ret Try.prog 41 [] [] (.agg (encP exP)) [] := by
  refine ret_of_wp Try.func41 rfl c41 (rs := [.cell 0 2 true]) (by kernel_rfl) ?_
  unfold K41
  simp -implicitDefEqProofs
  refine call0 (id_ok 1) (by simp) (by simp [encI]) ?_
  simp -implicitDefEqProofs
  refine call0 (id_ok 3) (by simp) (by simp [encI]) ?_
  simp -implicitDefEqProofs [encI]
  refine call0 (id_ok 4) (by simp) (by simp [encI]) ?_
  simp -implicitDefEqProofs [encI]
  refine call0 (id_ok 2) (by simp) (by simp [encI]) ?_
  simp -implicitDefEqProofs [encI]
  refine call0 (id_ok 5) (by simp) (by simp [encI]) ?_
  simp -implicitDefEqProofs [encI]
  refine call0 (id_ok 6) (by simp) (by simp [encI]) ?_
  simp -implicitDefEqProofs [encI]
  refine call0 (id_ok 1) (by simp) (by simp [encI]) ?_
  simp -implicitDefEqProofs
  refine call0 (of_ok (idR 1)) (by simp) (by simp [encT]) ?_
  simp -implicitDefEqProofs [encI, encT]
  exact ret_end 1 (by simp [encP, exP, cellsD, cellsS, encD, encS, exS, restD, Typ0, idR1, idR2, idR3, idR4, idR5, idR6])

theorem exP_sml : Sml exP := by
  intro d hd
  simp only [exP, List.mem_cons, List.not_mem_nil, or_false] at hd
  rcases hd with rfl | rfl <;> simp

theorem sv1 : sameV [nm (-1), tr 0] [nm (-1), tr 0] = true := by kernel_rfl
theorem sv2 : sameV [nm 0, tr 1] [nm 0, tr 1] = true := by kernel_rfl
theorem sv3 : sameV [nm 1, tr 1] [nm 1, tr 1] = true := by kernel_rfl
theorem sv4 : sameV [nm 0, nm (-1), nm 1] [nm 0, nm (-1), nm 1] = true := by kernel_rfl
def exL : List Val := [.mk 4 0 [], .mk 4 0 [nm 0], .mk 4 0 [nm (-1)], .mk 4 0 [nm 1]]
theorem sv5 : sameV exL exL = true := by kernel_rfl
theorem ov1 : decide (orderV [nm 0, tr 0] [nm (-1), tr 0] < 0) = true := by kernel_rfl
theorem ov2 : decide (orderV [nm (-1), tr 0] [nm 0, tr 0] < 0) = false := by kernel_rfl
theorem lives_ok : Ret Try.prog 15 [] [] (bl true) [] := by
  refine ret_of_wp Try.func15 rfl c15 (rs := [.slot 0]) (by kernel_rfl) ?_
  unfold K15
  simp -implicitDefEqProofs
  refine call0 example_ok (by simp) (by simp [encP]) ?_
  simp -implicitDefEqProofs [encP]
  refine call0 (list_ok Typ0) (by simp [encT, Typ0]) (by simp [encT]) ?_
  simp -implicitDefEqProofs [encT]
  refine call0 (values_ok exP exP_sml Typ0 1) (by simp [encP, encT, Typ0]) (by simp) ?_
  simp -implicitDefEqProofs [ex_v1]
  refine call0 (values_ok exP exP_sml exInts 1) (by simp [encP, encT, exInts]) (by simp) ?_
  simp -implicitDefEqProofs [ex_v2]
  refine dcall0 (id_ok 1) (by simp) (by simp [encI]) ?_
  simp -implicitDefEqProofs
  refine dcall0 (of_ok (idR 1)) (by simp) (by simp [encT]) ?_
  simp -implicitDefEqProofs [idR1]
  refine dcall0 (values_ok exP exP_sml (.mk 3 ⟨0, 1, 1⟩ []) 1) (by simp [encP, encT]) (by simp) ?_
  simp -implicitDefEqProofs [ex_v3]
  refine dcall0 (id_ok 2) (by simp) (by simp [encI]) ?_
  simp -implicitDefEqProofs
  refine dcall0 (of_ok (idR 2)) (by simp) (by simp [encT]) ?_
  simp -implicitDefEqProofs [idR2, encT]
  refine dcall0 (count_ok exP exP_sml [⟨⟨0, 0, 0⟩, ⟨#[]⟩, .mk 3 ⟨0, 1, 2⟩ [], 1, 0⟩]) (by simp [encP, encT, cellsS, encS]) (by simp) ?_
  simp -implicitDefEqProofs [ex_c]
  refine call0 (values_ok exP exP_sml exInts 64) (by simp [encP, encT, exInts]) (by simp) ?_
  simp -implicitDefEqProofs [ex_v4]
  refine call0 (inputs_ok exP exP_sml [⟨⟨0, 0, 0⟩, ⟨#[]⟩, Typ0, 1, 0⟩, ⟨⟨0, 0, 0⟩, ⟨#[]⟩, .mk 1 ⟨0, 0, 0⟩ [], 0, 0⟩] (by decide)) (by simp [encP, encT, cellsS, encS, Typ0]) (by simp) ?_
  simp -implicitDefEqProofs [ex_i]
  intro _
  refine ⟨mkEnv [(3, .sl 3 (cellsV [nm 0, nm (-1), nm 1])), (5, .sl 4 (cellsV exL)), (7, .sl 6 (cellsV [.mk 2 0 [nm 0, tr 0], .mk 2 0 [nm (-1), tr 0], .mk 2 0 [nm 0, tr 1], .mk 2 0 [nm 1, tr 0], .mk 2 0 [nm (-1), tr 1], .mk 2 0 [nm 1, tr 1]])),
    (13, .sl 6 (cellsW [[nm 0, tr 0], [nm (-1), tr 0], [nm 0, tr 1], [nm 1, tr 0], [nm (-1), tr 1], [nm 1, tr 1]]))], [], selW [] 1 (by simp) (by simp) (by simp) (by simp [exL]), ?_⟩
  simp -implicitDefEqProofs
  refine call0 (num_ok 0) (by simp) (by simp [encV]) ?_
  simp -implicitDefEqProofs [encV, Val.k, Val.n, Val.kids]
  refine call0 (num_ok (-1)) (by simp) (by simp [encV]) ?_
  simp -implicitDefEqProofs [encV, Val.k, Val.n, Val.kids]
  refine call0 (num_ok 1) (by simp) (by simp [encV]) ?_
  simp -implicitDefEqProofs [encV, Val.k, Val.n, Val.kids]
  refine dcall0 (num_ok (-1)) (by simp) (by simp [encV]) ?_
  simp -implicitDefEqProofs [encV, Val.k, Val.n, Val.kids]
  refine dcall0 (truth_ok 0) (by simp) (by simp [encV]) ?_
  simp -implicitDefEqProofs [encV, Val.k, Val.n, Val.kids]
  refine dcall0 (same_ok [nm (-1), tr 0] [nm (-1), tr 0]) (by simp [encV, nm, tr, Val.k, Val.n, Val.kids]) (by simp) ?_
  simp -implicitDefEqProofs [sv1]
  refine dcall0 (num_ok 0) (by simp) (by simp [encV]) ?_
  simp -implicitDefEqProofs [encV, Val.k, Val.n, Val.kids]
  refine dcall0 (truth_ok 1) (by simp) (by simp [encV]) ?_
  simp -implicitDefEqProofs [encV, Val.k, Val.n, Val.kids]
  refine dcall0 (same_ok [nm 0, tr 1] [nm 0, tr 1]) (by simp [encV, nm, tr, exL, Val.k, Val.n, Val.kids]) (by simp) ?_
  simp -implicitDefEqProofs [sv2]
  refine dcall0 (num_ok 1) (by simp) (by simp [encV]) ?_
  simp -implicitDefEqProofs [encV, Val.k, Val.n, Val.kids]
  refine dcall0 (truth_ok 1) (by simp) (by simp [encV]) ?_
  simp -implicitDefEqProofs [encV, Val.k, Val.n, Val.kids]
  refine dcall0 (same_ok [nm 1, tr 1] [nm 1, tr 1]) (by simp [encV, nm, tr, exL, Val.k, Val.n, Val.kids]) (by simp) ?_
  simp -implicitDefEqProofs [sv3]
  refine dcall0 (num_ok 0) (by simp) (by simp [encV]) ?_
  simp -implicitDefEqProofs [encV, Val.k, Val.n, Val.kids]
  refine dcall0 (num_ok (-1)) (by simp) (by simp [encV]) ?_
  simp -implicitDefEqProofs [encV, Val.k, Val.n, Val.kids]
  refine dcall0 (num_ok 1) (by simp) (by simp [encV]) ?_
  simp -implicitDefEqProofs [encV, Val.k, Val.n, Val.kids]
  refine dcall0 (same_ok [nm 0, nm (-1), nm 1] [nm 0, nm (-1), nm 1]) (by simp [encV, nm, tr, exL, Val.k, Val.n, Val.kids]) (by simp) ?_
  simp -implicitDefEqProofs [sv4]
  refine dcall0 (same_ok exL exL) (by simp [encV, nm, tr, exL, Val.k, Val.n, Val.kids]) (by simp) ?_
  simp -implicitDefEqProofs [sv5]
  refine dcall0 (num_ok 0) (by simp) (by simp [encV]) ?_
  simp -implicitDefEqProofs [encV, Val.k, Val.n, Val.kids]
  refine dcall0 (truth_ok 1) (by simp) (by simp [encV]) ?_
  simp -implicitDefEqProofs [encV, Val.k, Val.n, Val.kids]
  refine dcall0 (same_ok [nm 0, tr 1] [nm 0, tr 1]) (by simp [encV, nm, tr, exL, Val.k, Val.n, Val.kids]) (by simp) ?_
  simp -implicitDefEqProofs [sv2]
  refine dcall0 (before_ok [nm 0, tr 0] [nm (-1), tr 0]) (by simp [encV, nm, tr, exL, Val.k, Val.n, Val.kids]) (by simp) ?_
  simp -implicitDefEqProofs [ov1]
  refine dcall0 (before_ok [nm (-1), tr 0] [nm 0, tr 0]) (by simp [encV, nm, tr, exL, Val.k, Val.n, Val.kids]) (by simp) ?_
  simp -implicitDefEqProofs [ov2]
  exact ret_end 0 (by simp)
end Go.Proofs.Ytbkiphnlbadhcaa
