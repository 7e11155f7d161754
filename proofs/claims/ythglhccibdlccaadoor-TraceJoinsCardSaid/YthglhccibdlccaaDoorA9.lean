/-
  The law's example: its two calls.
-/
import Derived.Test.YthglhccibdlccaaDoorA6
import Derived.Test.YthglhccibdlccaaDoorA8
namespace Go.Proofs.YthglhccibdlccaaDoor
open Go.Abs

-- splicery/trace.Call · results ["cell 8", "cell 9", "10"]
def KCall : K :=
 K.seq (K.ops [⟨none, .box (some 4) (.tmp 0)⟩,
 ⟨none, .box (some 5) (.tmp 1)⟩,
 ⟨none, .alloc (some 8) [(.int .i64 0), (.int .i64 0), (.slice none 0 0)]⟩,
 ⟨none, .alloc (some 9) [(.slice none 0 0), (.slice none 0 0)]⟩,
 ⟨none, .mov (some 10) (.const (.int .i64 0))⟩])
 (K.seq (K.ops [⟨none, .ld (some 22) (.tmp 4) 2 true⟩,
 ⟨none, .ld (some 23) (.tmp 5) 3 true⟩,
 ⟨none, .call (some 24) (.func 33) [(.tmp 22), (.tmp 23)]⟩,
 ⟨none, .mov (some 21) (.tmp 24)⟩,
 ⟨none, .ext (some 25) (.tmp 21) 0⟩,
 ⟨none, .ext (some 26) (.tmp 21) 1⟩,
 ⟨none, .alloc (some 11) [(.int .i64 0), (.int .i64 0), (.int .i64 0), (.int .i64 0), (.int .i64 0), (.int .i64 0), (.int .i64 0), (.string ⟨#[]⟩), (.slice none 0 0), (.int .i64 0), (.int .i64 0), (.int .i64 0), (.int .i64 0), (.slice none 0 0), (.int .i64 0), (.int .i64 0), (.int .i64 0), (.int .i64 0), (.int .i64 0), (.int .i64 0), (.int .i64 0), (.int .i64 0), (.int .i64 0), (.int .i64 0), (.int .i64 0), (.int .i64 0), (.slice none 0 0), (.slice none 0 0), (.slice none 0 0), (.int .i64 0), (.slice none 0 0)]⟩,
 ⟨none, .st none (.tmp 11) (.tmp 25) 31⟩,
 ⟨none, .mov (some 12) (.tmp 26)⟩])
 (K.seq (K.seq (K.ops [⟨none, .mov (some 27) (.tmp 12)⟩,
 ⟨none, .not (some 28) (.tmp 27)⟩,
 ⟨none, .mov (some 29) (.tmp 28)⟩,
 ⟨some (29, false), .ld (some 30) (.tmp 11) 31 true⟩,
 ⟨some (29, false), .call (some 31) (.func 34) [(.tmp 30)]⟩,
 ⟨some (29, false), .not (some 32) (.tmp 31)⟩,
 ⟨none, .pick (some 33) (.tmp 29) (.const (.bool true)) (.tmp 32)⟩])
 (K.cond (.tmp 33)
 (K.seq (K.ops [⟨none, .build (some 34) [(.int .i64 0), (.int .i64 0), (.slice none 0 0)] []⟩,
 ⟨none, .build (some 35) [(.slice none 0 0), (.slice none 0 0)] []⟩,
 ⟨none, .st none (.tmp 8) (.tmp 34) 3⟩,
 ⟨none, .st none (.tmp 9) (.tmp 35) 2⟩,
 ⟨none, .mov (some 10) (.const (.int .i64 6))⟩])
 (K.ret))
 (K.skip)))
 (K.seq (K.seq (K.ops [⟨none, .mov (some 36) (.tmp 2)⟩,
 ⟨none, .len (some 37) false (.tmp 36)⟩,
 ⟨none, .addr (some 38) (.tmp 11) 8⟩,
 ⟨none, .ld (some 39) (.tmp 38) 1 false⟩,
 ⟨none, .len (some 40) false (.tmp 39)⟩,
 ⟨none, .eqv (some 41) true .i (.tmp 37) (.tmp 40)⟩])
 (K.cond (.tmp 41)
 (K.seq (K.ops [⟨none, .build (some 42) [(.int .i64 0), (.int .i64 0), (.slice none 0 0)] []⟩,
 ⟨none, .build (some 43) [(.slice none 0 0), (.slice none 0 0)] []⟩,
 ⟨none, .st none (.tmp 8) (.tmp 42) 3⟩,
 ⟨none, .st none (.tmp 9) (.tmp 43) 2⟩,
 ⟨none, .mov (some 10) (.const (.int .i64 1))⟩])
 (K.ret))
 (K.skip)))
 (K.seq (K.ops [⟨none, .alloc (some 13) [(.slice none 0 0), (.slice none 0 0)]⟩])
 (K.seq (K.ops [⟨none, .mop (some 44) (.mk 3) []⟩,
 ⟨none, .alloc (some 14) [(.map none)]⟩,
 ⟨none, .st none (.tmp 14) (.tmp 44) 1⟩])
 (K.seq (K.ops [⟨none, .clo (some 45) 35 [] [(.tmp 13), (.tmp 14)]⟩,
 ⟨none, .mov (some 15) (.tmp 45)⟩])
 (K.seq (K.ops [⟨none, .ld (some 46) (.tmp 4) 2 true⟩,
 ⟨none, .mov (some 47) (.tmp 3)⟩,
 ⟨none, .mov (some 48) (.tmp 15)⟩,
 ⟨none, .build (some 49) [(.slice none 0 0), (.slice none 0 0), (.int .i64 0), (.int .i64 0), .nilFunc] [(0, 2, (.tmp 46)), (2, 1, (.tmp 47)), (4, 1, (.tmp 48))]⟩,
 ⟨none, .box (some 50) (.tmp 49)⟩,
 ⟨none, .mov (some 16) (.tmp 50)⟩])
 (K.seq (K.ops [⟨none, .mop (some 51) (.mk 3) []⟩,
 ⟨none, .mov (some 17) (.tmp 51)⟩])
 (K.seq (K.seq (K.ops [⟨none, .addr (some 52) (.tmp 11) 8⟩,
 ⟨none, .ld (some 53) (.tmp 52) 1 false⟩,
 ⟨none, .len (some 54) false (.tmp 53)⟩,
 ⟨none, .mov (some 55) (.const (.int .i64 0))⟩])
 (K.block 0 (K.loop (K.seq (K.ops [⟨none, .bin (some 56) .lss (.tmp 55) (.tmp 54)⟩])
 (K.seq (K.cond (.tmp 56)
 (K.skip)
 (K.exit 0))
 (K.seq (K.block 1 (K.seq (K.ops [⟨none, .mov (some 57) (.tmp 55)⟩,
 ⟨none, .idx (some 58) (.tmp 53) (.tmp 55) 11⟩,
 ⟨none, .ld (some 59) (.tmp 58) 11 true⟩,
 ⟨none, .alloc (some 19) [(.int .i64 0), (.int .i64 0), (.int .i64 0), (.string ⟨#[]⟩), (.int .i64 0), (.int .i64 0), (.int .i64 0), (.int .i64 0), (.slice none 0 0), (.int .i64 0), (.int .i64 0)]⟩,
 ⟨none, .mov (some 18) (.tmp 57)⟩,
 ⟨none, .st none (.tmp 19) (.tmp 59) 11⟩])
 (K.seq (K.seq (K.dops [(0, 0, ⟨none, .ld (some 60) (.tmp 4) 2 true⟩),
 (1, 0, ⟨none, .addr (some 61) (.tmp 19) 4⟩),
 (2, 0, ⟨none, .ld (some 62) (.tmp 61) 5 true⟩),
 (3, 0, ⟨none, .mov (some 63) (.tmp 2)⟩),
 (4, 0, ⟨none, .mov (some 64) (.tmp 18)⟩),
 (5, 0, ⟨none, .idx (some 65) (.tmp 63) (.tmp 64) 3⟩),
 (6, 0, ⟨none, .ld (some 66) (.tmp 65) 3 true⟩),
 (7, 0, ⟨none, .call (some 67) (.func 36) [(.tmp 60), (.tmp 62), (.tmp 66)]⟩),
 (8, 0, ⟨none, .not (some 68) (.tmp 67)⟩)])
 (K.cond (.tmp 68)
 (K.seq (K.ops [⟨none, .build (some 69) [(.int .i64 0), (.int .i64 0), (.slice none 0 0)] []⟩,
 ⟨none, .build (some 70) [(.slice none 0 0), (.slice none 0 0)] []⟩,
 ⟨none, .st none (.tmp 8) (.tmp 69) 3⟩,
 ⟨none, .st none (.tmp 9) (.tmp 70) 2⟩,
 ⟨none, .mov (some 10) (.const (.int .i64 1))⟩])
 (K.ret))
 (K.skip)))
 (K.ops [⟨none, .mov (some 71) (.tmp 16)⟩,
 ⟨none, .addr (some 72) (.tmp 19) 4⟩,
 ⟨none, .ld (some 73) (.tmp 72) 5 true⟩,
 ⟨none, .mov (some 74) (.tmp 17)⟩,
 ⟨none, .call (some 75) (.func 37) [(.tmp 71), (.tmp 73), (.tmp 74)]⟩]))))
 (K.ops [⟨none, .bin (some 76) .add (.tmp 55) (.const (.int .i64 1))⟩,
 ⟨none, .mov (some 55) (.tmp 76)⟩])))))))
 (K.seq (K.ops [⟨none, .mov (some 77) (.tmp 16)⟩,
 ⟨none, .ld (some 78) (.tmp 11) 31 true⟩,
 ⟨none, .mov (some 79) (.tmp 2)⟩,
 ⟨none, .call (some 80) (.func 38) [(.tmp 77), (.tmp 78), (.tmp 79)]⟩,
 ⟨none, .alloc (some 20) [(.int .i64 0), (.int .i64 0), (.slice none 0 0)]⟩,
 ⟨none, .st none (.tmp 20) (.tmp 80) 3⟩])
 (K.seq (K.seq (K.ops [⟨none, .mov (some 81) (.tmp 16)⟩,
 ⟨none, .nilc (some 82) (.tmp 81)⟩,
 ⟨none, .addr (some 83) (.tmp 82) 3⟩,
 ⟨none, .ld (some 84) (.tmp 83) 1 false⟩,
 ⟨none, .eqv (some 85) true .i (.tmp 84) (.const (.int .i64 0))⟩])
 (K.cond (.tmp 85)
 (K.ops [⟨none, .build (some 86) [(.int .i64 0), (.int .i64 0), (.slice none 0 0)] []⟩,
 ⟨none, .st none (.tmp 20) (.tmp 86) 3⟩])
 (K.skip)))
 (K.seq (K.wk (K.wk (K.dops [(0, 0, ⟨none, .ld (some 87) (.tmp 20) 3 true⟩),
 (1, 0, ⟨none, .addr (some 88) (.tmp 13) 0⟩),
 (2, 0, ⟨none, .ld (some 89) (.tmp 88) 1 false⟩),
 (3, 1, ⟨none, .call (some 90) (.func 14) [(.tmp 89)]⟩),
 (4, 0, ⟨none, .addr (some 91) (.tmp 13) 1⟩),
 (5, 0, ⟨none, .ld (some 92) (.tmp 91) 1 false⟩),
 (6, 1, ⟨none, .call (some 93) (.func 14) [(.tmp 92)]⟩),
 (7, 0, ⟨none, .build (some 94) [(.slice none 0 0), (.slice none 0 0)] [(0, 1, (.tmp 90)), (1, 1, (.tmp 93))]⟩),
 (8, 0, ⟨none, .mov (some 95) (.tmp 16)⟩),
 (9, 0, ⟨none, .nilc (some 96) (.tmp 95)⟩),
 (10, 2, ⟨none, .addr (some 97) (.tmp 96) 3⟩),
 (11, 2004, ⟨none, .ld (some 98) (.tmp 97) 1 false⟩),
 (12, 1004, ⟨none, .st none (.tmp 8) (.tmp 87) 3⟩),
 (13, 1004, ⟨none, .st none (.tmp 9) (.tmp 94) 2⟩),
 (14, 0, ⟨none, .mov (some 10) (.tmp 98)⟩)])))
 (K.ret)))))))))))))
def hCall : Nat → Option (List (Nat × Nat)) := fun r => match r with | 21 => some [(0,0),(1,0),(2,0),(3,1),(4,0),(5,0),(6,1),(7,0),(8,0),(9,0),(10,2),(11,2004),(12,1004),(13,1004),(14,0)] | _ => none
theorem cCall : compileH Tryd.prog Tryd.f21.ntmps hCall (Tryd.f21.body.getD .skip) = some KCall.erase := by kernel_rfl
@[simp] theorem calCall : callable Tryd.prog 21 = true := by kernel_rfl
def ECall : Entry := ⟨KCall, [.cell 8 3 true, .cell 9 2 true, .slot 10], false⟩
theorem eokCall : EntryOk Tryd.prog 21 ECall := ⟨calCall, _, _, hCall, Tryd.func21, rfl, cCall, by kernel_rfl⟩

-- splicery/trace.Call$1 · results []
def KNote : K :=
 K.seq (K.ops [⟨none, .box (some 5) (.tmp 1)⟩])
 (K.seq (K.ops [⟨none, .mov (some 6) (.tmp 0)⟩])
 (K.cond (.tmp 6)
 (K.ops [⟨none, .addr (some 7) (.tmp 2) 0⟩,
 ⟨none, .ld (some 8) (.tmp 7) 1 false⟩,
 ⟨none, .ld (some 9) (.tmp 5) 3 true⟩,
 ⟨none, .bslice (some 10) 39 3 1 [(.int .i64 0), (.int .i64 0), (.int .i64 0)] [(0, 3, (.tmp 9))]⟩,
 ⟨none, .app (some 11) 39 3 24 (.tmp 8) (.tmp 10)⟩,
 ⟨none, .addr (some 12) (.tmp 2) 0⟩,
 ⟨none, .st none (.tmp 12) (.tmp 11) 1⟩])
 (K.seq (K.ops [⟨none, .ld (some 13) (.tmp 3) 1 false⟩,
 ⟨none, .ld (some 14) (.tmp 5) 3 true⟩,
 ⟨none, .mop (some 15) (.get 3 (.bool false) false) [(.tmp 13), (.tmp 14)]⟩,
 ⟨none, .not (some 16) (.tmp 15)⟩])
 (K.cond (.tmp 16)
 (K.seq (K.ops [⟨none, .ld (some 17) (.tmp 3) 1 false⟩,
 ⟨none, .ld (some 18) (.tmp 5) 3 true⟩,
 ⟨none, .mop none (.set 3) [(.tmp 17), (.tmp 18), (.const (.bool true))]⟩])
 (K.ops [⟨none, .addr (some 19) (.tmp 2) 1⟩,
 ⟨none, .ld (some 20) (.tmp 19) 1 false⟩,
 ⟨none, .ld (some 21) (.tmp 5) 3 true⟩,
 ⟨none, .bslice (some 22) 39 3 1 [(.int .i64 0), (.int .i64 0), (.int .i64 0)] [(0, 3, (.tmp 21))]⟩,
 ⟨none, .app (some 23) 39 3 24 (.tmp 20) (.tmp 22)⟩,
 ⟨none, .addr (some 24) (.tmp 2) 1⟩,
 ⟨none, .st none (.tmp 24) (.tmp 23) 1⟩]))
 (K.skip)))))
theorem cNote : compile Tryd.prog Tryd.f35.ntmps (Tryd.f35.body.getD .skip) = some KNote.erase := by kernel_rfl
@[simp] theorem calNote : callable Tryd.prog 35 = true := by kernel_rfl
def ENote : Entry := ⟨KNote, [], false⟩
theorem eokNote : EntryOk Tryd.prog 35 ENote := ⟨calNote, _, _, noHint, Tryd.func35, rfl, cNote, by kernel_rfl⟩

-- splicery/value.Def · results ["cell 4", "5"]
def KDef : K :=
 K.seq (K.ops [⟨none, .box (some 2) (.tmp 0)⟩,
 ⟨none, .box (some 3) (.tmp 1)⟩,
 ⟨none, .alloc (some 4) [(.int .i64 0), (.int .i64 0), (.int .i64 0), (.int .i64 0), (.int .i64 0), (.int .i64 0), (.int .i64 0), (.string ⟨#[]⟩), (.slice none 0 0), (.int .i64 0), (.int .i64 0), (.int .i64 0), (.int .i64 0), (.slice none 0 0), (.int .i64 0), (.int .i64 0), (.int .i64 0), (.int .i64 0), (.int .i64 0), (.int .i64 0), (.int .i64 0), (.int .i64 0), (.int .i64 0), (.int .i64 0), (.int .i64 0), (.int .i64 0), (.slice none 0 0), (.slice none 0 0), (.slice none 0 0), (.int .i64 0), (.slice none 0 0)]⟩,
 ⟨none, .mov (some 5) (.const (.bool false))⟩])
 (K.seq (K.ops [⟨none, .addr (some 7) (.tmp 2) 1⟩,
 ⟨none, .ld (some 8) (.tmp 7) 1 false⟩,
 ⟨none, .clo (some 9) 50 [] [(.tmp 3)]⟩,
 ⟨none, .call (some 10) (.func 49) [(.tmp 8), (.tmp 9)]⟩,
 ⟨none, .mov (some 6) (.tmp 10)⟩])
 (K.seq (K.seq (K.ops [⟨none, .mov (some 11) (.tmp 6)⟩,
 ⟨none, .bin (some 12) .lss (.tmp 11) (.const (.int .i64 0))⟩])
 (K.cond (.tmp 12)
 (K.seq (K.ops [⟨none, .build (some 13) [(.int .i64 0), (.int .i64 0), (.int .i64 0), (.int .i64 0), (.int .i64 0), (.int .i64 0), (.int .i64 0), (.string ⟨#[]⟩), (.slice none 0 0), (.int .i64 0), (.int .i64 0), (.int .i64 0), (.int .i64 0), (.slice none 0 0), (.int .i64 0), (.int .i64 0), (.int .i64 0), (.int .i64 0), (.int .i64 0), (.int .i64 0), (.int .i64 0), (.int .i64 0), (.int .i64 0), (.int .i64 0), (.int .i64 0), (.int .i64 0), (.slice none 0 0), (.slice none 0 0), (.slice none 0 0), (.int .i64 0), (.slice none 0 0)] []⟩,
 ⟨none, .st none (.tmp 4) (.tmp 13) 31⟩,
 ⟨none, .mov (some 5) (.const (.bool false))⟩])
 (K.ret))
 (K.skip)))
 (K.seq (K.ops [⟨none, .addr (some 14) (.tmp 2) 1⟩,
 ⟨none, .ld (some 15) (.tmp 14) 1 false⟩,
 ⟨none, .mov (some 16) (.tmp 6)⟩,
 ⟨none, .idx (some 17) (.tmp 15) (.tmp 16) 31⟩,
 ⟨none, .ld (some 18) (.tmp 17) 31 true⟩,
 ⟨none, .st none (.tmp 4) (.tmp 18) 31⟩,
 ⟨none, .mov (some 5) (.const (.bool true))⟩])
 (K.ret))))
theorem cDef : compile Tryd.prog Tryd.f33.ntmps (Tryd.f33.body.getD .skip) = some KDef.erase := by kernel_rfl
@[simp] theorem calDef : callable Tryd.prog 33 = true := by kernel_rfl
def EDef : Entry := ⟨KDef, [.cell 4 31 true, .slot 5], false⟩
theorem eokDef : EntryOk Tryd.prog 33 EDef := ⟨calDef, _, _, noHint, Tryd.func33, rfl, cDef, by kernel_rfl⟩

-- slices.IndexFunc[[]splicery/api.Def,splicery/api.Def] · results ["4"]
def KIdxD : K :=
 K.seq (K.ops [⟨none, .mov (some 4) (.const (.int .i64 0))⟩])
 (K.seq (K.seq (K.ops [⟨none, .mov (some 6) (.tmp 0)⟩,
 ⟨none, .len (some 7) false (.tmp 6)⟩,
 ⟨none, .mov (some 8) (.const (.int .i64 0))⟩])
 (K.block 0 (K.loop (K.seq (K.ops [⟨none, .bin (some 9) .lss (.tmp 8) (.tmp 7)⟩])
 (K.seq (K.cond (.tmp 9)
 (K.skip)
 (K.exit 0))
 (K.seq (K.block 1 (K.seq (K.ops [⟨none, .mov (some 10) (.tmp 8)⟩,
 ⟨none, .mov (some 5) (.tmp 10)⟩])
 (K.seq (K.ops [⟨none, .mov (some 11) (.tmp 1)⟩,
 ⟨none, .mov (some 12) (.tmp 0)⟩,
 ⟨none, .mov (some 13) (.tmp 5)⟩,
 ⟨none, .idx (some 14) (.tmp 12) (.tmp 13) 31⟩,
 ⟨none, .ld (some 15) (.tmp 14) 31 true⟩,
 ⟨none, .call (some 16) (.tmp 11) [(.tmp 15)]⟩])
 (K.cond (.tmp 16)
 (K.seq (K.ops [⟨none, .mov (some 17) (.tmp 5)⟩,
 ⟨none, .mov (some 4) (.tmp 17)⟩])
 (K.ret))
 (K.skip)))))
 (K.ops [⟨none, .bin (some 18) .add (.tmp 8) (.const (.int .i64 1))⟩,
 ⟨none, .mov (some 8) (.tmp 18)⟩])))))))
 (K.seq (K.ops [⟨none, .mov (some 4) (.const (.int .i64 (-1)))⟩])
 (K.ret)))
theorem cIdxD : compile Tryd.prog Tryd.f49.ntmps (Tryd.f49.body.getD .skip) = some KIdxD.erase := by kernel_rfl
@[simp] theorem calIdxD : callable Tryd.prog 49 = true := by kernel_rfl
def EIdxD : Entry := ⟨KIdxD, [.slot 4], false⟩
theorem eokIdxD : EntryOk Tryd.prog 49 EIdxD := ⟨calIdxD, _, _, noHint, Tryd.func49, rfl, cIdxD, by kernel_rfl⟩

-- splicery/value.Def$1 · results ["3"]
def KDef1 : K :=
 K.seq (K.ops [⟨none, .box (some 2) (.tmp 0)⟩,
 ⟨none, .mov (some 3) (.const (.bool false))⟩])
 (K.seq (K.ops [⟨none, .addr (some 4) (.tmp 2) 0⟩,
 ⟨none, .ld (some 5) (.tmp 4) 3 true⟩,
 ⟨none, .ld (some 6) (.tmp 1) 3 true⟩,
 ⟨none, .eqs (some 7) false [.i, .i, .i] (.tmp 5) (.tmp 6)⟩,
 ⟨none, .mov (some 3) (.tmp 7)⟩])
 (K.ret))
theorem cDef1 : compile Tryd.prog Tryd.f50.ntmps (Tryd.f50.body.getD .skip) = some KDef1.erase := by kernel_rfl
@[simp] theorem calDef1 : callable Tryd.prog 50 = true := by kernel_rfl
def EDef1 : Entry := ⟨KDef1, [.slot 3], false⟩
theorem eokDef1 : EntryOk Tryd.prog 50 EDef1 := ⟨calDef1, _, _, noHint, Tryd.func50, rfl, cDef1, by kernel_rfl⟩

-- splicery/trace.bodied · results ["2"]
def KBodied : K :=
 K.seq (K.ops [⟨none, .box (some 1) (.tmp 0)⟩,
 ⟨none, .mov (some 2) (.const (.bool false))⟩])
 (K.seq (K.ops [⟨none, .addr (some 3) (.tmp 1) 3⟩,
 ⟨none, .ld (some 4) (.tmp 3) 1 false⟩,
 ⟨none, .eqv (some 5) false .i (.tmp 4) (.const (.int .i64 2))⟩,
 ⟨none, .mov (some 6) (.tmp 5)⟩,
 ⟨some (6, false), .addr (some 7) (.tmp 1) 3⟩,
 ⟨some (6, false), .ld (some 8) (.tmp 7) 1 false⟩,
 ⟨some (6, false), .eqv (some 9) false .i (.tmp 8) (.const (.int .i64 3))⟩,
 ⟨none, .pick (some 10) (.tmp 6) (.const (.bool true)) (.tmp 9)⟩,
 ⟨none, .mov (some 11) (.tmp 10)⟩,
 ⟨some (11, false), .addr (some 12) (.tmp 1) 3⟩,
 ⟨some (11, false), .ld (some 13) (.tmp 12) 1 false⟩,
 ⟨some (11, false), .eqv (some 14) false .i (.tmp 13) (.const (.int .i64 4))⟩,
 ⟨none, .pick (some 15) (.tmp 11) (.const (.bool true)) (.tmp 14)⟩,
 ⟨none, .mov (some 16) (.tmp 15)⟩,
 ⟨some (16, false), .addr (some 17) (.tmp 1) 3⟩,
 ⟨some (16, false), .ld (some 18) (.tmp 17) 1 false⟩,
 ⟨some (16, false), .eqv (some 19) false .i (.tmp 18) (.const (.int .i64 5))⟩,
 ⟨none, .pick (some 20) (.tmp 16) (.const (.bool true)) (.tmp 19)⟩,
 ⟨none, .mov (some 2) (.tmp 20)⟩])
 (K.ret))
theorem cBodied : compile Tryd.prog Tryd.f34.ntmps (Tryd.f34.body.getD .skip) = some KBodied.erase := by kernel_rfl
@[simp] theorem calBodied : callable Tryd.prog 34 = true := by kernel_rfl
def EBodied : Entry := ⟨KBodied, [.slot 2], false⟩
theorem eokBodied : EntryOk Tryd.prog 34 EBodied := ⟨calBodied, _, _, noHint, Tryd.func34, rfl, cBodied, by kernel_rfl⟩

-- splicery/value.Valid · results ["6"]
def KValid : K :=
 K.seq (K.ops [⟨none, .box (some 3) (.tmp 0)⟩,
 ⟨none, .box (some 4) (.tmp 1)⟩,
 ⟨none, .box (some 5) (.tmp 2)⟩,
 ⟨none, .mov (some 6) (.const (.bool false))⟩])
 (K.seq (K.ops [⟨none, .ld (some 7) (.tmp 5) 3 true⟩,
 ⟨none, .call (some 8) (.func 51) [(.tmp 7)]⟩,
 ⟨none, .mov (some 9) (.tmp 8)⟩,
 ⟨some (9, true), .ld (some 10) (.tmp 3) 2 true⟩,
 ⟨some (9, true), .ld (some 11) (.tmp 4) 5 true⟩,
 ⟨some (9, true), .ld (some 12) (.tmp 5) 3 true⟩,
 ⟨some (9, true), .call (some 13) (.func 52) [(.tmp 10), (.tmp 11), (.tmp 12)]⟩,
 ⟨none, .pick (some 14) (.tmp 9) (.tmp 13) (.const (.bool false))⟩,
 ⟨none, .mov (some 6) (.tmp 14)⟩])
 (K.ret))
theorem cValid : compile Tryd.prog Tryd.f36.ntmps (Tryd.f36.body.getD .skip) = some KValid.erase := by kernel_rfl
@[simp] theorem calValid : callable Tryd.prog 36 = true := by kernel_rfl
def EValid : Entry := ⟨KValid, [.slot 6], false⟩
theorem eokValid : EntryOk Tryd.prog 36 EValid := ⟨calValid, _, _, noHint, Tryd.func36, rfl, cValid, by kernel_rfl⟩

-- splicery/value.small · results ["2"]
def KSmall : K :=
 K.seq (K.ops [⟨none, .box (some 1) (.tmp 0)⟩,
 ⟨none, .mov (some 2) (.const (.bool false))⟩])
 (K.seq (K.ops [⟨none, .alloc (some 3) [(.int .i64 0)]⟩,
 ⟨none, .st none (.tmp 3) (.const (.int .i64 256)) 1⟩])
 (K.seq (K.ops [⟨none, .alloc (some 4) [.nilFunc]⟩])
 (K.seq (K.ops [⟨none, .clo (some 5) 71 [] [(.tmp 3), (.tmp 4)]⟩,
 ⟨none, .st none (.tmp 4) (.tmp 5) 1⟩])
 (K.seq (K.ops [⟨none, .ld (some 6) (.tmp 4) 1 false⟩,
 ⟨none, .ld (some 7) (.tmp 1) 3 true⟩,
 ⟨none, .call (some 8) (.tmp 6) [(.tmp 7), (.const (.int .i64 1))]⟩,
 ⟨none, .mov (some 2) (.tmp 8)⟩])
 (K.ret)))))
theorem cSmall : compile Tryd.prog Tryd.f51.ntmps (Tryd.f51.body.getD .skip) = some KSmall.erase := by kernel_rfl
@[simp] theorem calSmall : callable Tryd.prog 51 = true := by kernel_rfl
def ESmall : Entry := ⟨KSmall, [.slot 2], false⟩
theorem eokSmall : EntryOk Tryd.prog 51 ESmall := ⟨calSmall, _, _, noHint, Tryd.func51, rfl, cSmall, by kernel_rfl⟩

-- splicery/value.small$1 · results ["6"]
def KSmall1 : K :=
 K.seq (K.ops [⟨none, .box (some 4) (.tmp 0)⟩,
 ⟨none, .box (some 5) (.tmp 1)⟩,
 ⟨none, .mov (some 6) (.const (.bool false))⟩])
 (K.seq (K.ops [⟨none, .ld (some 7) (.tmp 2) 1 false⟩,
 ⟨none, .bin (some 8) .sub (.tmp 7) (.const (.int .i64 1))⟩,
 ⟨none, .st none (.tmp 2) (.tmp 8) 1⟩])
 (K.seq (K.ops [⟨none, .ld (some 9) (.tmp 2) 1 false⟩,
 ⟨none, .bin (some 10) .geq (.tmp 9) (.const (.int .i64 0))⟩,
 ⟨none, .mov (some 11) (.tmp 10)⟩,
 ⟨some (11, true), .ld (some 12) (.tmp 5) 1 false⟩,
 ⟨some (11, true), .bin (some 13) .leq (.tmp 12) (.const (.int .i64 24))⟩,
 ⟨none, .pick (some 14) (.tmp 11) (.tmp 13) (.const (.bool false))⟩,
 ⟨none, .mov (some 15) (.tmp 14)⟩,
 ⟨some (15, true), .addr (some 16) (.tmp 4) 2⟩,
 ⟨some (15, true), .ld (some 17) (.tmp 16) 1 false⟩,
 ⟨some (15, true), .clo (some 18) 73 [] [(.tmp 3), (.tmp 5)]⟩,
 ⟨some (15, true), .call (some 19) (.func 72) [(.tmp 17), (.tmp 18)]⟩,
 ⟨some (15, true), .not (some 20) (.tmp 19)⟩,
 ⟨none, .pick (some 21) (.tmp 15) (.tmp 20) (.const (.bool false))⟩,
 ⟨none, .mov (some 6) (.tmp 21)⟩])
 (K.ret)))
theorem cSmall1 : compile Tryd.prog Tryd.f71.ntmps (Tryd.f71.body.getD .skip) = some KSmall1.erase := by kernel_rfl
@[simp] theorem calSmall1 : callable Tryd.prog 71 = true := by kernel_rfl
def ESmall1 : Entry := ⟨KSmall1, [.slot 6], false⟩
theorem eokSmall1 : EntryOk Tryd.prog 71 ESmall1 := ⟨calSmall1, _, _, noHint, Tryd.func71, rfl, cSmall1, by kernel_rfl⟩

-- slices.ContainsFunc[[]splicery/api.Value,splicery/api.Value] · results ["4"]
def KConV : K :=
 K.seq (K.ops [⟨none, .mov (some 4) (.const (.bool false))⟩])
 (K.seq (K.ops [⟨none, .mov (some 5) (.tmp 0)⟩,
 ⟨none, .mov (some 6) (.tmp 1)⟩,
 ⟨none, .call (some 7) (.func 85) [(.tmp 5), (.tmp 6)]⟩,
 ⟨none, .bin (some 8) .geq (.tmp 7) (.const (.int .i64 0))⟩,
 ⟨none, .mov (some 4) (.tmp 8)⟩])
 (K.ret))
theorem cConV : compile Tryd.prog Tryd.f72.ntmps (Tryd.f72.body.getD .skip) = some KConV.erase := by kernel_rfl
@[simp] theorem calConV : callable Tryd.prog 72 = true := by kernel_rfl
def EConV : Entry := ⟨KConV, [.slot 4], false⟩
theorem eokConV : EntryOk Tryd.prog 72 EConV := ⟨calConV, _, _, noHint, Tryd.func72, rfl, cConV, by kernel_rfl⟩

-- slices.IndexFunc[[]splicery/api.Value,splicery/api.Value] · results ["4"]
def KIdxV : K :=
 K.seq (K.ops [⟨none, .mov (some 4) (.const (.int .i64 0))⟩])
 (K.seq (K.seq (K.ops [⟨none, .mov (some 6) (.tmp 0)⟩,
 ⟨none, .len (some 7) false (.tmp 6)⟩,
 ⟨none, .mov (some 8) (.const (.int .i64 0))⟩])
 (K.block 0 (K.loop (K.seq (K.ops [⟨none, .bin (some 9) .lss (.tmp 8) (.tmp 7)⟩])
 (K.seq (K.cond (.tmp 9)
 (K.skip)
 (K.exit 0))
 (K.seq (K.block 1 (K.seq (K.ops [⟨none, .mov (some 10) (.tmp 8)⟩,
 ⟨none, .mov (some 5) (.tmp 10)⟩])
 (K.seq (K.ops [⟨none, .mov (some 11) (.tmp 1)⟩,
 ⟨none, .mov (some 12) (.tmp 0)⟩,
 ⟨none, .mov (some 13) (.tmp 5)⟩,
 ⟨none, .idx (some 14) (.tmp 12) (.tmp 13) 3⟩,
 ⟨none, .ld (some 15) (.tmp 14) 3 true⟩,
 ⟨none, .call (some 16) (.tmp 11) [(.tmp 15)]⟩])
 (K.cond (.tmp 16)
 (K.seq (K.ops [⟨none, .mov (some 17) (.tmp 5)⟩,
 ⟨none, .mov (some 4) (.tmp 17)⟩])
 (K.ret))
 (K.skip)))))
 (K.ops [⟨none, .bin (some 18) .add (.tmp 8) (.const (.int .i64 1))⟩,
 ⟨none, .mov (some 8) (.tmp 18)⟩])))))))
 (K.seq (K.ops [⟨none, .mov (some 4) (.const (.int .i64 (-1)))⟩])
 (K.ret)))
theorem cIdxV : compile Tryd.prog Tryd.f85.ntmps (Tryd.f85.body.getD .skip) = some KIdxV.erase := by kernel_rfl
@[simp] theorem calIdxV : callable Tryd.prog 85 = true := by kernel_rfl
def EIdxV : Entry := ⟨KIdxV, [.slot 4], false⟩
theorem eokIdxV : EntryOk Tryd.prog 85 EIdxV := ⟨calIdxV, _, _, noHint, Tryd.func85, rfl, cIdxV, by kernel_rfl⟩

-- splicery/value.small$1$1 · results ["4"]
def KSmall11 : K :=
 K.seq (K.ops [⟨none, .box (some 3) (.tmp 0)⟩,
 ⟨none, .mov (some 4) (.const (.bool false))⟩])
 (K.seq (K.ops [⟨none, .ld (some 5) (.tmp 1) 1 false⟩,
 ⟨none, .ld (some 6) (.tmp 3) 3 true⟩,
 ⟨none, .ld (some 7) (.tmp 2) 1 false⟩,
 ⟨none, .bin (some 8) .add (.tmp 7) (.const (.int .i64 1))⟩,
 ⟨none, .call (some 9) (.tmp 5) [(.tmp 6), (.tmp 8)]⟩,
 ⟨none, .not (some 10) (.tmp 9)⟩,
 ⟨none, .mov (some 4) (.tmp 10)⟩])
 (K.ret))
theorem cSmall11 : compile Tryd.prog Tryd.f73.ntmps (Tryd.f73.body.getD .skip) = some KSmall11.erase := by kernel_rfl
@[simp] theorem calSmall11 : callable Tryd.prog 73 = true := by kernel_rfl
def ESmall11 : Entry := ⟨KSmall11, [.slot 4], false⟩
theorem eokSmall11 : EntryOk Tryd.prog 73 ESmall11 := ⟨calSmall11, _, _, noHint, Tryd.func73, rfl, cSmall11, by kernel_rfl⟩

-- splicery/value.fits · results ["6"]
def KFits : K :=
 K.seq (K.ops [⟨none, .box (some 3) (.tmp 0)⟩,
 ⟨none, .box (some 4) (.tmp 1)⟩,
 ⟨none, .box (some 5) (.tmp 2)⟩,
 ⟨none, .mov (some 6) (.const (.bool false))⟩])
 (K.seq (K.seq (K.ops [⟨none, .ld (some 11) (.tmp 3) 2 true⟩,
 ⟨none, .ld (some 12) (.tmp 4) 5 true⟩,
 ⟨none, .call (some 13) (.func 74) [(.tmp 11), (.tmp 12)]⟩,
 ⟨none, .not (some 14) (.tmp 13)⟩])
 (K.cond (.tmp 14)
 (K.seq (K.ops [⟨none, .mov (some 6) (.const (.bool false))⟩])
 (K.ret))
 (K.skip)))
 (K.seq (K.seq (K.ops [⟨none, .addr (some 15) (.tmp 4) 0⟩,
 ⟨none, .ld (some 16) (.tmp 15) 1 false⟩])
 (K.block 0 (K.seq (K.ops [⟨none, .eqv (some 18) false .i (.tmp 16) (.const (.int .i64 0))⟩,
 ⟨none, .mov (some 17) (.tmp 18)⟩])
 (K.cond (.tmp 17)
 (K.seq (K.ops [⟨none, .addr (some 19) (.tmp 5) 0⟩,
 ⟨none, .ld (some 20) (.tmp 19) 1 false⟩,
 ⟨none, .eqv (some 21) false .i (.tmp 20) (.const (.int .i64 0))⟩,
 ⟨none, .mov (some 22) (.tmp 21)⟩,
 ⟨some (22, true), .addr (some 23) (.tmp 5) 2⟩,
 ⟨some (22, true), .ld (some 24) (.tmp 23) 1 false⟩,
 ⟨some (22, true), .len (some 25) false (.tmp 24)⟩,
 ⟨some (22, true), .eqv (some 26) false .i (.tmp 25) (.const (.int .i64 0))⟩,
 ⟨none, .pick (some 27) (.tmp 22) (.tmp 26) (.const (.bool false))⟩,
 ⟨none, .mov (some 28) (.tmp 27)⟩,
 ⟨some (28, true), .addr (some 29) (.tmp 5) 1⟩,
 ⟨some (28, true), .ld (some 30) (.tmp 29) 1 false⟩,
 ⟨some (28, true), .bin (some 31) .geq (.tmp 30) (.const (.int .i64 (-1099511627776)))⟩,
 ⟨none, .pick (some 32) (.tmp 28) (.tmp 31) (.const (.bool false))⟩,
 ⟨none, .mov (some 33) (.tmp 32)⟩,
 ⟨some (33, true), .addr (some 34) (.tmp 5) 1⟩,
 ⟨some (33, true), .ld (some 35) (.tmp 34) 1 false⟩,
 ⟨some (33, true), .bin (some 36) .leq (.tmp 35) (.const (.int .i64 1099511627776))⟩,
 ⟨none, .pick (some 37) (.tmp 33) (.tmp 36) (.const (.bool false))⟩,
 ⟨none, .mov (some 6) (.tmp 37)⟩])
 (K.ret))
 (K.seq (K.ops [⟨none, .eqv (some 39) false .i (.tmp 16) (.const (.int .i64 1))⟩,
 ⟨none, .mov (some 38) (.tmp 39)⟩])
 (K.cond (.tmp 38)
 (K.seq (K.ops [⟨none, .addr (some 40) (.tmp 5) 0⟩,
 ⟨none, .ld (some 41) (.tmp 40) 1 false⟩,
 ⟨none, .eqv (some 42) false .i (.tmp 41) (.const (.int .i64 1))⟩,
 ⟨none, .mov (some 43) (.tmp 42)⟩,
 ⟨some (43, true), .addr (some 44) (.tmp 5) 2⟩,
 ⟨some (43, true), .ld (some 45) (.tmp 44) 1 false⟩,
 ⟨some (43, true), .len (some 46) false (.tmp 45)⟩,
 ⟨some (43, true), .eqv (some 47) false .i (.tmp 46) (.const (.int .i64 0))⟩,
 ⟨none, .pick (some 48) (.tmp 43) (.tmp 47) (.const (.bool false))⟩,
 ⟨none, .mov (some 49) (.tmp 48)⟩,
 ⟨some (49, true), .addr (some 50) (.tmp 5) 1⟩,
 ⟨some (49, true), .ld (some 51) (.tmp 50) 1 false⟩,
 ⟨some (49, true), .eqv (some 52) false .i (.tmp 51) (.const (.int .i64 0))⟩,
 ⟨some (49, true), .mov (some 53) (.tmp 52)⟩,
 ⟨some (53, false), .addr (some 54) (.tmp 5) 1⟩,
 ⟨some (53, false), .ld (some 55) (.tmp 54) 1 false⟩,
 ⟨some (53, false), .eqv (some 56) false .i (.tmp 55) (.const (.int .i64 1))⟩,
 ⟨some (49, true), .pick (some 57) (.tmp 53) (.const (.bool true)) (.tmp 56)⟩,
 ⟨none, .pick (some 58) (.tmp 49) (.tmp 57) (.const (.bool false))⟩,
 ⟨none, .mov (some 6) (.tmp 58)⟩])
 (K.ret))
 (K.seq (K.ops [⟨none, .eqv (some 60) false .i (.tmp 16) (.const (.int .i64 2))⟩,
 ⟨none, .mov (some 59) (.tmp 60)⟩])
 (K.cond (.tmp 59)
 (K.seq (K.ops [⟨none, .addr (some 61) (.tmp 5) 0⟩,
 ⟨none, .ld (some 62) (.tmp 61) 1 false⟩,
 ⟨none, .eqv (some 63) false .i (.tmp 62) (.const (.int .i64 4))⟩,
 ⟨none, .mov (some 64) (.tmp 63)⟩,
 ⟨some (64, true), .addr (some 65) (.tmp 5) 1⟩,
 ⟨some (64, true), .ld (some 66) (.tmp 65) 1 false⟩,
 ⟨some (64, true), .eqv (some 67) false .i (.tmp 66) (.const (.int .i64 0))⟩,
 ⟨none, .pick (some 68) (.tmp 64) (.tmp 67) (.const (.bool false))⟩,
 ⟨none, .mov (some 69) (.tmp 68)⟩,
 ⟨some (69, true), .addr (some 70) (.tmp 5) 2⟩,
 ⟨some (69, true), .ld (some 71) (.tmp 70) 1 false⟩,
 ⟨some (69, true), .clo (some 72) 75 [] [(.tmp 3), (.tmp 4)]⟩,
 ⟨some (69, true), .call (some 73) (.func 72) [(.tmp 71), (.tmp 72)]⟩,
 ⟨some (69, true), .not (some 74) (.tmp 73)⟩,
 ⟨none, .pick (some 75) (.tmp 69) (.tmp 74) (.const (.bool false))⟩,
 ⟨none, .mov (some 6) (.tmp 75)⟩])
 (K.ret))
 (K.skip)))))))))
 (K.seq (K.ops [⟨none, .ld (some 77) (.tmp 3) 2 true⟩,
 ⟨none, .addr (some 78) (.tmp 4) 1⟩,
 ⟨none, .ld (some 79) (.tmp 78) 3 true⟩,
 ⟨none, .call (some 80) (.func 33) [(.tmp 77), (.tmp 79)]⟩,
 ⟨none, .mov (some 76) (.tmp 80)⟩,
 ⟨none, .ext (some 81) (.tmp 76) 0⟩,
 ⟨none, .ext (some 82) (.tmp 76) 1⟩,
 ⟨none, .alloc (some 7) [(.int .i64 0), (.int .i64 0), (.int .i64 0), (.int .i64 0), (.int .i64 0), (.int .i64 0), (.int .i64 0), (.string ⟨#[]⟩), (.slice none 0 0), (.int .i64 0), (.int .i64 0), (.int .i64 0), (.int .i64 0), (.slice none 0 0), (.int .i64 0), (.int .i64 0), (.int .i64 0), (.int .i64 0), (.int .i64 0), (.int .i64 0), (.int .i64 0), (.int .i64 0), (.int .i64 0), (.int .i64 0), (.int .i64 0), (.int .i64 0), (.slice none 0 0), (.slice none 0 0), (.slice none 0 0), (.int .i64 0), (.slice none 0 0)]⟩,
 ⟨none, .st none (.tmp 7) (.tmp 81) 31⟩,
 ⟨none, .mov (some 8) (.tmp 82)⟩])
 (K.seq (K.seq (K.ops [⟨none, .addr (some 83) (.tmp 7) 3⟩,
 ⟨none, .ld (some 84) (.tmp 83) 1 false⟩,
 ⟨none, .eqv (some 85) false .i (.tmp 84) (.const (.int .i64 1))⟩])
 (K.cond (.tmp 85)
 (K.seq (K.dops [(0, 0, ⟨none, .addr (some 86) (.tmp 5) 0⟩),
 (1, 0, ⟨none, .ld (some 87) (.tmp 86) 1 false⟩),
 (2, 0, ⟨none, .eqv (some 88) false .i (.tmp 87) (.const (.int .i64 3))⟩),
 (3, 0, ⟨none, .mov (some 89) (.tmp 88)⟩),
 (4, 0, ⟨some (89, true), .addr (some 90) (.tmp 5) 1⟩),
 (5, 0, ⟨some (89, true), .ld (some 91) (.tmp 90) 1 false⟩),
 (6, 0, ⟨some (89, true), .bin (some 92) .geq (.tmp 91) (.const (.int .i64 0))⟩),
 (7, 0, ⟨none, .pick (some 93) (.tmp 89) (.tmp 92) (.const (.bool false))⟩),
 (8, 0, ⟨none, .mov (some 94) (.tmp 93)⟩),
 (9, 0, ⟨some (94, true), .addr (some 95) (.tmp 5) 1⟩),
 (10, 0, ⟨some (94, true), .ld (some 96) (.tmp 95) 1 false⟩),
 (11, 0, ⟨some (94, true), .addr (some 97) (.tmp 7) 8⟩),
 (12, 0, ⟨some (94, true), .ld (some 98) (.tmp 97) 1 false⟩),
 (13, 0, ⟨some (94, true), .len (some 99) false (.tmp 98)⟩),
 (14, 0, ⟨some (94, true), .bin (some 100) .lss (.tmp 96) (.tmp 99)⟩),
 (15, 0, ⟨none, .pick (some 101) (.tmp 94) (.tmp 100) (.const (.bool false))⟩),
 (16, 0, ⟨none, .mov (some 102) (.tmp 101)⟩),
 (17, 0, ⟨some (102, true), .addr (some 103) (.tmp 5) 2⟩),
 (18, 0, ⟨some (102, true), .ld (some 104) (.tmp 103) 1 false⟩),
 (19, 0, ⟨some (102, true), .len (some 105) false (.tmp 104)⟩),
 (20, 0, ⟨some (102, true), .eqv (some 106) false .i (.tmp 105) (.const (.int .i64 1))⟩),
 (21, 0, ⟨none, .pick (some 107) (.tmp 102) (.tmp 106) (.const (.bool false))⟩),
 (22, 0, ⟨none, .mov (some 108) (.tmp 107)⟩),
 (23, 0, ⟨some (108, true), .ld (some 109) (.tmp 3) 2 true⟩),
 (24, 0, ⟨some (108, true), .addr (some 110) (.tmp 7) 8⟩),
 (25, 0, ⟨some (108, true), .ld (some 111) (.tmp 110) 1 false⟩),
 (26, 0, ⟨some (108, true), .addr (some 112) (.tmp 5) 1⟩),
 (27, 0, ⟨some (108, true), .ld (some 113) (.tmp 112) 1 false⟩),
 (28, 0, ⟨some (108, true), .idx (some 114) (.tmp 111) (.tmp 113) 11⟩),
 (29, 0, ⟨some (108, true), .addr (some 115) (.tmp 114) 4⟩),
 (30, 0, ⟨some (108, true), .ld (some 116) (.tmp 115) 5 true⟩),
 (31, 0, ⟨some (108, true), .addr (some 117) (.tmp 5) 2⟩),
 (32, 0, ⟨some (108, true), .ld (some 118) (.tmp 117) 1 false⟩),
 (33, 0, ⟨some (108, true), .idx (some 119) (.tmp 118) (.const (.int .i64 0)) 3⟩),
 (34, 0, ⟨some (108, true), .ld (some 120) (.tmp 119) 3 true⟩),
 (35, 0, ⟨some (108, true), .call (some 121) (.func 52) [(.tmp 109), (.tmp 116), (.tmp 120)]⟩),
 (36, 0, ⟨none, .pick (some 122) (.tmp 108) (.tmp 121) (.const (.bool false))⟩),
 (37, 0, ⟨none, .mov (some 6) (.tmp 122)⟩)])
 (K.ret))
 (K.skip)))
 (K.seq (K.seq (K.ops [⟨none, .addr (some 123) (.tmp 5) 0⟩,
 ⟨none, .ld (some 124) (.tmp 123) 1 false⟩,
 ⟨none, .eqv (some 125) true .i (.tmp 124) (.const (.int .i64 2))⟩,
 ⟨none, .mov (some 126) (.tmp 125)⟩,
 ⟨some (126, false), .addr (some 127) (.tmp 5) 1⟩,
 ⟨some (126, false), .ld (some 128) (.tmp 127) 1 false⟩,
 ⟨some (126, false), .eqv (some 129) true .i (.tmp 128) (.const (.int .i64 0))⟩,
 ⟨none, .pick (some 130) (.tmp 126) (.const (.bool true)) (.tmp 129)⟩,
 ⟨none, .mov (some 131) (.tmp 130)⟩,
 ⟨some (131, false), .addr (some 132) (.tmp 5) 2⟩,
 ⟨some (131, false), .ld (some 133) (.tmp 132) 1 false⟩,
 ⟨some (131, false), .len (some 134) false (.tmp 133)⟩,
 ⟨some (131, false), .addr (some 135) (.tmp 7) 8⟩,
 ⟨some (131, false), .ld (some 136) (.tmp 135) 1 false⟩,
 ⟨some (131, false), .len (some 137) false (.tmp 136)⟩,
 ⟨some (131, false), .eqv (some 138) true .i (.tmp 134) (.tmp 137)⟩,
 ⟨none, .pick (some 139) (.tmp 131) (.const (.bool true)) (.tmp 138)⟩])
 (K.cond (.tmp 139)
 (K.seq (K.ops [⟨none, .mov (some 6) (.const (.bool false))⟩])
 (K.ret))
 (K.skip)))
 (K.seq (K.seq (K.ops [⟨none, .addr (some 140) (.tmp 5) 2⟩,
 ⟨none, .ld (some 141) (.tmp 140) 1 false⟩,
 ⟨none, .len (some 142) false (.tmp 141)⟩,
 ⟨none, .mov (some 143) (.const (.int .i64 0))⟩])
 (K.block 1 (K.loop (K.seq (K.ops [⟨none, .bin (some 144) .lss (.tmp 143) (.tmp 142)⟩])
 (K.seq (K.cond (.tmp 144)
 (K.skip)
 (K.exit 1))
 (K.seq (K.block 2 (K.seq (K.ops [⟨none, .mov (some 145) (.tmp 143)⟩,
 ⟨none, .idx (some 146) (.tmp 141) (.tmp 143) 3⟩,
 ⟨none, .ld (some 147) (.tmp 146) 3 true⟩,
 ⟨none, .alloc (some 10) [(.int .i64 0), (.int .i64 0), (.slice none 0 0)]⟩,
 ⟨none, .mov (some 9) (.tmp 145)⟩,
 ⟨none, .st none (.tmp 10) (.tmp 147) 3⟩])
 (K.seq (K.dops [(0, 0, ⟨none, .ld (some 148) (.tmp 3) 2 true⟩),
 (1, 0, ⟨none, .addr (some 149) (.tmp 7) 8⟩),
 (2, 0, ⟨none, .ld (some 150) (.tmp 149) 1 false⟩),
 (3, 0, ⟨none, .mov (some 151) (.tmp 9)⟩),
 (4, 0, ⟨none, .idx (some 152) (.tmp 150) (.tmp 151) 11⟩),
 (5, 0, ⟨none, .addr (some 153) (.tmp 152) 4⟩),
 (6, 0, ⟨none, .ld (some 154) (.tmp 153) 5 true⟩),
 (7, 0, ⟨none, .ld (some 155) (.tmp 10) 3 true⟩),
 (8, 0, ⟨none, .call (some 156) (.func 52) [(.tmp 148), (.tmp 154), (.tmp 155)]⟩),
 (9, 0, ⟨none, .not (some 157) (.tmp 156)⟩)])
 (K.cond (.tmp 157)
 (K.seq (K.ops [⟨none, .mov (some 6) (.const (.bool false))⟩])
 (K.ret))
 (K.skip)))))
 (K.ops [⟨none, .bin (some 158) .add (.tmp 143) (.const (.int .i64 1))⟩,
 ⟨none, .mov (some 143) (.tmp 158)⟩])))))))
 (K.seq (K.ops [⟨none, .mov (some 6) (.const (.bool true))⟩])
 (K.ret))))))))
theorem cFits : compile Tryd.prog Tryd.f52.ntmps (Tryd.f52.body.getD .skip) = some KFits.erase := by kernel_rfl
@[simp] theorem calFits : callable Tryd.prog 52 = true := by kernel_rfl
def EFits : Entry := ⟨KFits, [.slot 6], false⟩
theorem eokFits : EntryOk Tryd.prog 52 EFits := ⟨calFits, _, _, noHint, Tryd.func52, rfl, cFits, by kernel_rfl⟩

-- splicery/value.fits$1 · results ["4"]
def KFits1 : K :=
 K.seq (K.ops [⟨none, .box (some 3) (.tmp 0)⟩,
 ⟨none, .mov (some 4) (.const (.bool false))⟩])
 (K.seq (K.dops [(0, 0, ⟨none, .ld (some 5) (.tmp 1) 2 true⟩),
 (1, 0, ⟨none, .addr (some 6) (.tmp 2) 4⟩),
 (2, 0, ⟨none, .ld (some 7) (.tmp 6) 1 false⟩),
 (3, 0, ⟨none, .idx (some 8) (.tmp 7) (.const (.int .i64 0)) 5⟩),
 (4, 0, ⟨none, .ld (some 9) (.tmp 8) 5 true⟩),
 (5, 0, ⟨none, .ld (some 10) (.tmp 3) 3 true⟩),
 (6, 0, ⟨none, .call (some 11) (.func 52) [(.tmp 5), (.tmp 9), (.tmp 10)]⟩),
 (7, 0, ⟨none, .not (some 12) (.tmp 11)⟩),
 (8, 0, ⟨none, .mov (some 4) (.tmp 12)⟩)])
 (K.ret))
theorem cFits1 : compile Tryd.prog Tryd.f75.ntmps (Tryd.f75.body.getD .skip) = some KFits1.erase := by kernel_rfl
@[simp] theorem calFits1 : callable Tryd.prog 75 = true := by kernel_rfl
def EFits1 : Entry := ⟨KFits1, [.slot 4], false⟩
theorem eokFits1 : EntryOk Tryd.prog 75 EFits1 := ⟨calFits1, _, _, noHint, Tryd.func75, rfl, cFits1, by kernel_rfl⟩

-- splicery/value.ValidType · results ["4"]
def KVTyp : K :=
 K.seq (K.ops [⟨none, .box (some 2) (.tmp 0)⟩,
 ⟨none, .box (some 3) (.tmp 1)⟩,
 ⟨none, .mov (some 4) (.const (.bool false))⟩])
 (K.seq (K.seq (K.ops [⟨none, .mov (some 5) (.const (.int .i64 1))⟩])
 (K.block 0 (K.loop (K.seq (K.seq (K.ops [⟨none, .mov (some 8) (.tmp 5)⟩,
 ⟨none, .bin (some 9) .leq (.tmp 8) (.const (.int .i64 24))⟩])
 (K.cond (.tmp 9)
 (K.skip)
 (K.exit 0)))
 (K.seq (K.block 1 (K.seq (K.ops [⟨none, .addr (some 12) (.tmp 3) 0⟩,
 ⟨none, .ld (some 13) (.tmp 12) 1 false⟩])
 (K.block 2 (K.seq (K.seq (K.ops [⟨none, .eqv (some 15) false .i (.tmp 13) (.const (.int .i64 0))⟩,
 ⟨none, .mov (some 14) (.tmp 15)⟩])
 (K.cond (.tmp 14)
 (K.skip)
 (K.ops [⟨none, .eqv (some 16) false .i (.tmp 13) (.const (.int .i64 1))⟩,
 ⟨none, .mov (some 14) (.tmp 16)⟩])))
 (K.cond (.tmp 14)
 (K.seq (K.ops [⟨none, .addr (some 17) (.tmp 3) 1⟩,
 ⟨none, .ld (some 18) (.tmp 17) 3 true⟩,
 ⟨none, .build (some 19) [(.int .i64 0), (.int .i64 0), (.int .i64 0)] []⟩,
 ⟨none, .eqs (some 20) false [.i, .i, .i] (.tmp 18) (.tmp 19)⟩,
 ⟨none, .mov (some 21) (.tmp 20)⟩,
 ⟨some (21, true), .addr (some 22) (.tmp 3) 4⟩,
 ⟨some (21, true), .ld (some 23) (.tmp 22) 1 false⟩,
 ⟨some (21, true), .len (some 24) false (.tmp 23)⟩,
 ⟨some (21, true), .eqv (some 25) false .i (.tmp 24) (.const (.int .i64 0))⟩,
 ⟨none, .pick (some 26) (.tmp 21) (.tmp 25) (.const (.bool false))⟩,
 ⟨none, .mov (some 4) (.tmp 26)⟩])
 (K.ret))
 (K.seq (K.ops [⟨none, .eqv (some 28) false .i (.tmp 13) (.const (.int .i64 3))⟩,
 ⟨none, .mov (some 27) (.tmp 28)⟩])
 (K.cond (.tmp 27)
 (K.seq (K.ops [⟨none, .ld (some 30) (.tmp 2) 2 true⟩,
 ⟨none, .addr (some 31) (.tmp 3) 1⟩,
 ⟨none, .ld (some 32) (.tmp 31) 3 true⟩,
 ⟨none, .call (some 33) (.func 33) [(.tmp 30), (.tmp 32)]⟩,
 ⟨none, .mov (some 29) (.tmp 33)⟩,
 ⟨none, .ext (some 34) (.tmp 29) 0⟩,
 ⟨none, .ext (some 35) (.tmp 29) 1⟩,
 ⟨none, .alloc (some 6) [(.int .i64 0), (.int .i64 0), (.int .i64 0), (.int .i64 0), (.int .i64 0), (.int .i64 0), (.int .i64 0), (.string ⟨#[]⟩), (.slice none 0 0), (.int .i64 0), (.int .i64 0), (.int .i64 0), (.int .i64 0), (.slice none 0 0), (.int .i64 0), (.int .i64 0), (.int .i64 0), (.int .i64 0), (.int .i64 0), (.int .i64 0), (.int .i64 0), (.int .i64 0), (.int .i64 0), (.int .i64 0), (.int .i64 0), (.int .i64 0), (.slice none 0 0), (.slice none 0 0), (.slice none 0 0), (.int .i64 0), (.slice none 0 0)]⟩,
 ⟨none, .st none (.tmp 6) (.tmp 34) 31⟩,
 ⟨none, .mov (some 7) (.tmp 35)⟩])
 (K.seq (K.ops [⟨none, .mov (some 36) (.tmp 7)⟩,
 ⟨none, .mov (some 37) (.tmp 36)⟩,
 ⟨some (37, true), .addr (some 38) (.tmp 6) 3⟩,
 ⟨some (37, true), .ld (some 39) (.tmp 38) 1 false⟩,
 ⟨some (37, true), .eqv (some 40) false .i (.tmp 39) (.const (.int .i64 0))⟩,
 ⟨some (37, true), .mov (some 41) (.tmp 40)⟩,
 ⟨some (41, false), .addr (some 42) (.tmp 6) 3⟩,
 ⟨some (41, false), .ld (some 43) (.tmp 42) 1 false⟩,
 ⟨some (41, false), .eqv (some 44) false .i (.tmp 43) (.const (.int .i64 1))⟩,
 ⟨some (37, true), .pick (some 45) (.tmp 41) (.const (.bool true)) (.tmp 44)⟩,
 ⟨none, .pick (some 46) (.tmp 37) (.tmp 45) (.const (.bool false))⟩,
 ⟨none, .mov (some 47) (.tmp 46)⟩,
 ⟨some (47, true), .addr (some 48) (.tmp 3) 4⟩,
 ⟨some (47, true), .ld (some 49) (.tmp 48) 1 false⟩,
 ⟨some (47, true), .len (some 50) false (.tmp 49)⟩,
 ⟨some (47, true), .eqv (some 51) false .i (.tmp 50) (.const (.int .i64 0))⟩,
 ⟨none, .pick (some 52) (.tmp 47) (.tmp 51) (.const (.bool false))⟩,
 ⟨none, .mov (some 4) (.tmp 52)⟩])
 (K.ret)))
 (K.seq (K.ops [⟨none, .eqv (some 54) false .i (.tmp 13) (.const (.int .i64 2))⟩,
 ⟨none, .mov (some 53) (.tmp 54)⟩])
 (K.cond (.tmp 53)
 (K.seq (K.seq (K.ops [⟨none, .addr (some 55) (.tmp 3) 1⟩,
 ⟨none, .ld (some 56) (.tmp 55) 3 true⟩,
 ⟨none, .build (some 57) [(.int .i64 0), (.int .i64 0), (.int .i64 0)] []⟩,
 ⟨none, .eqs (some 58) true [.i, .i, .i] (.tmp 56) (.tmp 57)⟩,
 ⟨none, .mov (some 59) (.tmp 58)⟩,
 ⟨some (59, false), .addr (some 60) (.tmp 3) 4⟩,
 ⟨some (59, false), .ld (some 61) (.tmp 60) 1 false⟩,
 ⟨some (59, false), .len (some 62) false (.tmp 61)⟩,
 ⟨some (59, false), .eqv (some 63) true .i (.tmp 62) (.const (.int .i64 1))⟩,
 ⟨none, .pick (some 64) (.tmp 59) (.const (.bool true)) (.tmp 63)⟩])
 (K.cond (.tmp 64)
 (K.seq (K.ops [⟨none, .mov (some 4) (.const (.bool false))⟩])
 (K.ret))
 (K.skip)))
 (K.ops [⟨none, .addr (some 65) (.tmp 3) 4⟩,
 ⟨none, .ld (some 66) (.tmp 65) 1 false⟩,
 ⟨none, .idx (some 67) (.tmp 66) (.const (.int .i64 0)) 5⟩,
 ⟨none, .ld (some 68) (.tmp 67) 5 true⟩,
 ⟨none, .st none (.tmp 3) (.tmp 68) 5⟩]))
 (K.seq (K.ops [⟨none, .mov (some 4) (.const (.bool false))⟩])
 (K.ret)))))))))))
 (K.ops [⟨none, .mov (some 10) (.tmp 5)⟩,
 ⟨none, .bin (some 11) .add (.tmp 10) (.const (.int .i64 1))⟩,
 ⟨none, .mov (some 5) (.tmp 11)⟩]))))))
 (K.seq (K.ops [⟨none, .mov (some 4) (.const (.bool false))⟩])
 (K.ret)))
theorem cVTyp : compile Tryd.prog Tryd.f74.ntmps (Tryd.f74.body.getD .skip) = some KVTyp.erase := by kernel_rfl
@[simp] theorem calVTyp : callable Tryd.prog 74 = true := by kernel_rfl
def EVTyp : Entry := ⟨KVTyp, [.slot 4], false⟩
theorem eokVTyp : EntryOk Tryd.prog 74 EVTyp := ⟨calVTyp, _, _, noHint, Tryd.func74, rfl, cVTyp, by kernel_rfl⟩

-- (*splicery/trace.run).reach · results []
def KReach : K :=
 K.seq (K.ops [⟨none, .box (some 4) (.tmp 1)⟩])
 (K.seq (K.seq (K.ops [⟨none, .addr (some 12) (.tmp 4) 4⟩,
 ⟨none, .ld (some 13) (.tmp 12) 1 false⟩,
 ⟨none, .len (some 14) false (.tmp 13)⟩,
 ⟨none, .mov (some 15) (.const (.int .i64 0))⟩])
 (K.block 0 (K.loop (K.seq (K.ops [⟨none, .bin (some 16) .lss (.tmp 15) (.tmp 14)⟩])
 (K.seq (K.cond (.tmp 16)
 (K.skip)
 (K.exit 0))
 (K.seq (K.block 1 (K.seq (K.ops [⟨none, .idx (some 17) (.tmp 13) (.tmp 15) 5⟩,
 ⟨none, .ld (some 18) (.tmp 17) 5 true⟩,
 ⟨none, .alloc (some 7) [(.int .i64 0), (.int .i64 0), (.int .i64 0), (.int .i64 0), (.slice none 0 0)]⟩,
 ⟨none, .st none (.tmp 7) (.tmp 18) 5⟩])
 (K.ops [⟨none, .mov (some 19) (.tmp 0)⟩,
 ⟨none, .ld (some 20) (.tmp 7) 5 true⟩,
 ⟨none, .mov (some 21) (.tmp 2)⟩,
 ⟨none, .call (some 22) (.func 37) [(.tmp 19), (.tmp 20), (.tmp 21)]⟩])))
 (K.ops [⟨none, .bin (some 23) .add (.tmp 15) (.const (.int .i64 1))⟩,
 ⟨none, .mov (some 15) (.tmp 23)⟩])))))))
 (K.seq (K.seq (K.ops [⟨none, .addr (some 24) (.tmp 4) 0⟩,
 ⟨none, .ld (some 25) (.tmp 24) 1 false⟩,
 ⟨none, .eqv (some 26) true .i (.tmp 25) (.const (.int .i64 3))⟩,
 ⟨none, .mov (some 27) (.tmp 26)⟩,
 ⟨some (27, false), .mov (some 28) (.tmp 2)⟩,
 ⟨some (27, false), .addr (some 29) (.tmp 4) 1⟩,
 ⟨some (27, false), .ld (some 30) (.tmp 29) 3 true⟩,
 ⟨some (27, false), .mop (some 31) (.get 3 (.bool false) false) [(.tmp 28), (.tmp 30)]⟩,
 ⟨none, .pick (some 32) (.tmp 27) (.const (.bool true)) (.tmp 31)⟩])
 (K.cond (.tmp 32)
 (K.ret)
 (K.skip)))
 (K.seq (K.ops [⟨none, .mov (some 33) (.tmp 2)⟩,
 ⟨none, .addr (some 34) (.tmp 4) 1⟩,
 ⟨none, .ld (some 35) (.tmp 34) 3 true⟩,
 ⟨none, .mop none (.set 3) [(.tmp 33), (.tmp 35), (.const (.bool true))]⟩])
 (K.seq (K.dops [(0, 0, ⟨none, .mov (some 37) (.tmp 0)⟩),
 (1, 0, ⟨none, .nilc (some 38) (.tmp 37)⟩),
 (2, 1, ⟨none, .addr (some 39) (.tmp 38) 0⟩),
 (3, 1, ⟨none, .ld (some 40) (.tmp 39) 2 true⟩),
 (4, 1, ⟨none, .addr (some 41) (.tmp 4) 1⟩),
 (5, 1, ⟨none, .ld (some 42) (.tmp 41) 3 true⟩),
 (6, 1, ⟨none, .call (some 43) (.func 33) [(.tmp 40), (.tmp 42)]⟩),
 (7, 0, ⟨none, .mov (some 36) (.tmp 43)⟩),
 (8, 0, ⟨none, .ext (some 44) (.tmp 36) 0⟩),
 (9, 0, ⟨none, .ext (some 45) (.tmp 36) 1⟩),
 (10, 0, ⟨none, .alloc (some 8) [(.int .i64 0), (.int .i64 0), (.int .i64 0), (.int .i64 0), (.int .i64 0), (.int .i64 0), (.int .i64 0), (.string ⟨#[]⟩), (.slice none 0 0), (.int .i64 0), (.int .i64 0), (.int .i64 0), (.int .i64 0), (.slice none 0 0), (.int .i64 0), (.int .i64 0), (.int .i64 0), (.int .i64 0), (.int .i64 0), (.int .i64 0), (.int .i64 0), (.int .i64 0), (.int .i64 0), (.int .i64 0), (.int .i64 0), (.int .i64 0), (.slice none 0 0), (.slice none 0 0), (.slice none 0 0), (.int .i64 0), (.slice none 0 0)]⟩),
 (11, 0, ⟨none, .st none (.tmp 8) (.tmp 44) 31⟩),
 (12, 0, ⟨none, .mov (some 9) (.tmp 45)⟩)])
 (K.seq (K.ops [⟨none, .mov (some 46) (.tmp 9)⟩])
 (K.cond (.tmp 46)
 (K.seq (K.dops [(0, 0, ⟨none, .mov (some 47) (.tmp 0)⟩),
 (1, 0, ⟨none, .nilc (some 48) (.tmp 47)⟩),
 (2, 0, ⟨none, .addr (some 49) (.tmp 48) 4⟩),
 (3, 0, ⟨none, .ld (some 50) (.tmp 49) 1 false⟩),
 (4, 0, ⟨none, .addr (some 51) (.tmp 8) 0⟩),
 (5, 0, ⟨none, .ld (some 52) (.tmp 51) 3 true⟩),
 (6, 4, ⟨none, .call (some 53) (.tmp 50) [(.const (.bool true)), (.tmp 52)]⟩)])
 (K.seq (K.ops [⟨none, .addr (some 54) (.tmp 8) 8⟩,
 ⟨none, .ld (some 55) (.tmp 54) 1 false⟩,
 ⟨none, .len (some 56) false (.tmp 55)⟩,
 ⟨none, .mov (some 57) (.const (.int .i64 0))⟩])
 (K.block 2 (K.loop (K.seq (K.ops [⟨none, .bin (some 58) .lss (.tmp 57) (.tmp 56)⟩])
 (K.seq (K.cond (.tmp 58)
 (K.skip)
 (K.exit 2))
 (K.seq (K.block 3 (K.seq (K.ops [⟨none, .idx (some 59) (.tmp 55) (.tmp 57) 11⟩,
 ⟨none, .ld (some 60) (.tmp 59) 11 true⟩,
 ⟨none, .alloc (some 11) [(.int .i64 0), (.int .i64 0), (.int .i64 0), (.string ⟨#[]⟩), (.int .i64 0), (.int .i64 0), (.int .i64 0), (.int .i64 0), (.slice none 0 0), (.int .i64 0), (.int .i64 0)]⟩,
 ⟨none, .st none (.tmp 11) (.tmp 60) 11⟩])
 (K.ops [⟨none, .mov (some 61) (.tmp 0)⟩,
 ⟨none, .addr (some 62) (.tmp 11) 4⟩,
 ⟨none, .ld (some 63) (.tmp 62) 5 true⟩,
 ⟨none, .mov (some 64) (.tmp 2)⟩,
 ⟨none, .call (some 65) (.func 37) [(.tmp 61), (.tmp 63), (.tmp 64)]⟩])))
 (K.ops [⟨none, .bin (some 66) .add (.tmp 57) (.const (.int .i64 1))⟩,
 ⟨none, .mov (some 57) (.tmp 66)⟩]))))))))
 (K.skip)))))))
def hReach : Nat → Option (List (Nat × Nat)) := fun r => match r with | 10 => some [(0,0),(1,0),(2,0),(3,0),(4,0),(5,0),(6,4)] | _ => none
theorem cReach : compileH Tryd.prog Tryd.f37.ntmps hReach (Tryd.f37.body.getD .skip) = some KReach.erase := by kernel_rfl
@[simp] theorem calReach : callable Tryd.prog 37 = true := by kernel_rfl
def EReach : Entry := ⟨KReach, [], false⟩
theorem eokReach : EntryOk Tryd.prog 37 EReach := ⟨calReach, _, _, hReach, Tryd.func37, rfl, cReach, by kernel_rfl⟩

-- (*splicery/trace.run).body · results ["cell 6"]
def KBody : K :=
 K.seq (K.ops [⟨none, .box (some 4) (.tmp 1)⟩,
 ⟨none, .alloc (some 6) [(.int .i64 0), (.int .i64 0), (.slice none 0 0)]⟩])
 (K.seq (K.seq (K.ops [⟨none, .mov (some 10) (.tmp 0)⟩,
 ⟨none, .nilc (some 11) (.tmp 10)⟩,
 ⟨none, .addr (some 12) (.tmp 11) 3⟩,
 ⟨none, .ld (some 13) (.tmp 12) 1 false⟩,
 ⟨none, .eqv (some 14) true .i (.tmp 13) (.const (.int .i64 0))⟩])
 (K.cond (.tmp 14)
 (K.seq (K.ops [⟨none, .build (some 15) [(.int .i64 0), (.int .i64 0), (.slice none 0 0)] []⟩,
 ⟨none, .st none (.tmp 6) (.tmp 15) 3⟩])
 (K.ret))
 (K.skip)))
 (K.seq (K.dops [(0, 0, ⟨none, .mov (some 16) (.tmp 0)⟩),
 (1, 0, ⟨none, .nilc (some 17) (.tmp 16)⟩),
 (2, 0, ⟨none, .addr (some 18) (.tmp 17) 4⟩),
 (3, 0, ⟨none, .ld (some 19) (.tmp 18) 1 false⟩),
 (4, 0, ⟨none, .addr (some 20) (.tmp 4) 0⟩),
 (5, 0, ⟨none, .ld (some 21) (.tmp 20) 3 true⟩),
 (6, 4, ⟨none, .call (some 22) (.tmp 19) [(.const (.bool true)), (.tmp 21)]⟩)])
 (K.seq (K.ops [⟨none, .mop (some 23) (.mk 4) []⟩,
 ⟨none, .mov (some 7) (.tmp 23)⟩])
 (K.seq (K.seq (K.ops [⟨none, .addr (some 24) (.tmp 4) 8⟩,
 ⟨none, .ld (some 25) (.tmp 24) 1 false⟩,
 ⟨none, .len (some 26) false (.tmp 25)⟩,
 ⟨none, .mov (some 27) (.const (.int .i64 0))⟩])
 (K.block 0 (K.loop (K.seq (K.ops [⟨none, .bin (some 28) .lss (.tmp 27) (.tmp 26)⟩])
 (K.seq (K.cond (.tmp 28)
 (K.skip)
 (K.exit 0))
 (K.seq (K.block 1 (K.seq (K.ops [⟨none, .mov (some 29) (.tmp 27)⟩,
 ⟨none, .idx (some 30) (.tmp 25) (.tmp 27) 11⟩,
 ⟨none, .ld (some 31) (.tmp 30) 11 true⟩,
 ⟨none, .alloc (some 9) [(.int .i64 0), (.int .i64 0), (.int .i64 0), (.string ⟨#[]⟩), (.int .i64 0), (.int .i64 0), (.int .i64 0), (.int .i64 0), (.slice none 0 0), (.int .i64 0), (.int .i64 0)]⟩,
 ⟨none, .mov (some 8) (.tmp 29)⟩,
 ⟨none, .st none (.tmp 9) (.tmp 31) 11⟩])
 (K.dops [(0, 0, ⟨none, .mov (some 32) (.tmp 7)⟩),
 (1, 0, ⟨none, .addr (some 33) (.tmp 9) 0⟩),
 (2, 0, ⟨none, .ld (some 34) (.tmp 33) 3 true⟩),
 (3, 0, ⟨none, .build (some 35) [(.int .i64 0), (.int .i64 0), (.int .i64 0), (.int .i64 0)] [(0, 3, (.tmp 34)), (3, 1, (.const (.int .i64 0)))]⟩),
 (4, 0, ⟨none, .mov (some 36) (.tmp 2)⟩),
 (5, 0, ⟨none, .mov (some 37) (.tmp 8)⟩),
 (6, 0, ⟨none, .idx (some 38) (.tmp 36) (.tmp 37) 3⟩),
 (7, 0, ⟨none, .ld (some 39) (.tmp 38) 3 true⟩),
 (8, 0, ⟨none, .mop none (.set 4) [(.tmp 32), (.tmp 35), (.tmp 39)]⟩)])))
 (K.ops [⟨none, .bin (some 40) .add (.tmp 27) (.const (.int .i64 1))⟩,
 ⟨none, .mov (some 27) (.tmp 40)⟩])))))))
 (K.seq (K.ops [⟨none, .mov (some 41) (.tmp 0)⟩,
 ⟨none, .addr (some 42) (.tmp 4) 14⟩,
 ⟨none, .ld (some 43) (.tmp 42) 15 true⟩,
 ⟨none, .mov (some 44) (.tmp 7)⟩,
 ⟨none, .call (some 45) (.func 53) [(.tmp 41), (.tmp 43), (.tmp 44)]⟩,
 ⟨none, .st none (.tmp 6) (.tmp 45) 3⟩])
 (K.ret))))))
def hBody : Nat → Option (List (Nat × Nat)) := fun r => match r with | 3 => some [(0,0),(1,0),(2,0),(3,0),(4,0),(5,0),(6,4)] | _ => none
theorem cBody : compileH Tryd.prog Tryd.f38.ntmps hBody (Tryd.f38.body.getD .skip) = some KBody.erase := by kernel_rfl
@[simp] theorem calBody : callable Tryd.prog 38 = true := by kernel_rfl
def EBody : Entry := ⟨KBody, [.cell 6 3 true], true⟩
theorem eokBody : EntryOk Tryd.prog 38 EBody := ⟨calBody, _, _, hBody, Tryd.func38, rfl, cBody, by kernel_rfl⟩

-- (*splicery/trace.run).eval · results ["cell 6"]
def KEval : K :=
 K.seq (K.ops [⟨none, .box (some 4) (.tmp 1)⟩,
 ⟨none, .alloc (some 6) [(.int .i64 0), (.int .i64 0), (.slice none 0 0)]⟩])
 (K.seq (K.seq (K.ops [⟨none, .mov (some 8) (.tmp 0)⟩,
 ⟨none, .nilc (some 9) (.tmp 8)⟩,
 ⟨none, .addr (some 10) (.tmp 9) 3⟩,
 ⟨none, .ld (some 11) (.tmp 10) 1 false⟩,
 ⟨none, .eqv (some 12) true .i (.tmp 11) (.const (.int .i64 0))⟩])
 (K.cond (.tmp 12)
 (K.seq (K.ops [⟨none, .build (some 13) [(.int .i64 0), (.int .i64 0), (.slice none 0 0)] []⟩,
 ⟨none, .st none (.tmp 6) (.tmp 13) 3⟩])
 (K.ret))
 (K.skip)))
 (K.seq (K.seq (K.ops [⟨none, .mov (some 14) (.tmp 0)⟩,
 ⟨none, .nilc (some 15) (.tmp 14)⟩,
 ⟨none, .addr (some 16) (.tmp 15) 2⟩,
 ⟨none, .ld (some 17) (.tmp 16) 1 false⟩,
 ⟨none, .bin (some 18) .leq (.tmp 17) (.const (.int .i64 0))⟩])
 (K.cond (.tmp 18)
 (K.seq (K.ops [⟨none, .mov (some 19) (.tmp 0)⟩,
 ⟨none, .nilc (some 20) (.tmp 19)⟩,
 ⟨none, .addr (some 21) (.tmp 20) 3⟩,
 ⟨none, .st none (.tmp 21) (.const (.int .i64 18)) 1⟩])
 (K.seq (K.ops [⟨none, .build (some 22) [(.int .i64 0), (.int .i64 0), (.slice none 0 0)] []⟩,
 ⟨none, .st none (.tmp 6) (.tmp 22) 3⟩])
 (K.ret)))
 (K.skip)))
 (K.seq (K.ops [⟨none, .mov (some 23) (.tmp 0)⟩,
 ⟨none, .nilc (some 24) (.tmp 23)⟩,
 ⟨none, .addr (some 25) (.tmp 24) 2⟩,
 ⟨none, .ld (some 26) (.tmp 25) 1 false⟩,
 ⟨none, .bin (some 27) .sub (.tmp 26) (.const (.int .i64 1))⟩,
 ⟨none, .nilc (some 28) (.tmp 23)⟩,
 ⟨none, .addr (some 29) (.tmp 28) 2⟩,
 ⟨none, .st none (.tmp 29) (.tmp 27) 1⟩])
 (K.seq (K.dops [(0, 0, ⟨none, .mov (some 30) (.tmp 0)⟩),
 (1, 0, ⟨none, .nilc (some 31) (.tmp 30)⟩),
 (2, 0, ⟨none, .addr (some 32) (.tmp 31) 4⟩),
 (3, 0, ⟨none, .ld (some 33) (.tmp 32) 1 false⟩),
 (4, 0, ⟨none, .addr (some 34) (.tmp 4) 0⟩),
 (5, 0, ⟨none, .ld (some 35) (.tmp 34) 3 true⟩),
 (6, 4, ⟨none, .call (some 36) (.tmp 33) [(.const (.bool false)), (.tmp 35)]⟩)])
 (K.seq (K.ops [⟨none, .mov (some 37) (.tmp 0)⟩,
 ⟨none, .ld (some 38) (.tmp 4) 15 true⟩,
 ⟨none, .mov (some 39) (.tmp 2)⟩,
 ⟨none, .call (some 40) (.func 76) [(.tmp 37), (.tmp 38), (.tmp 39)]⟩,
 ⟨none, .alloc (some 7) [(.int .i64 0), (.int .i64 0), (.slice none 0 0)]⟩,
 ⟨none, .st none (.tmp 7) (.tmp 40) 3⟩])
 (K.seq (K.seq (K.ops [⟨none, .mov (some 41) (.tmp 0)⟩,
 ⟨none, .nilc (some 42) (.tmp 41)⟩,
 ⟨none, .addr (some 43) (.tmp 42) 3⟩,
 ⟨none, .ld (some 44) (.tmp 43) 1 false⟩,
 ⟨none, .eqv (some 45) false .i (.tmp 44) (.const (.int .i64 0))⟩,
 ⟨none, .mov (some 46) (.tmp 45)⟩,
 ⟨some (46, true), .ld (some 47) (.tmp 7) 3 true⟩,
 ⟨some (46, true), .call (some 48) (.func 77) [(.tmp 47)]⟩,
 ⟨some (46, true), .bin (some 49) .gtr (.tmp 48) (.const (.int .i64 256))⟩,
 ⟨some (46, true), .mov (some 50) (.tmp 49)⟩,
 ⟨some (50, false), .ld (some 51) (.tmp 7) 3 true⟩,
 ⟨some (50, false), .call (some 52) (.func 78) [(.tmp 51)]⟩,
 ⟨some (50, false), .bin (some 53) .gtr (.tmp 52) (.const (.int .i64 24))⟩,
 ⟨some (46, true), .pick (some 54) (.tmp 50) (.const (.bool true)) (.tmp 53)⟩,
 ⟨none, .pick (some 55) (.tmp 46) (.tmp 54) (.const (.bool false))⟩])
 (K.cond (.tmp 55)
 (K.ops [⟨none, .mov (some 56) (.tmp 0)⟩,
 ⟨none, .nilc (some 57) (.tmp 56)⟩,
 ⟨none, .addr (some 58) (.tmp 57) 3⟩,
 ⟨none, .st none (.tmp 58) (.const (.int .i64 4)) 1⟩])
 (K.skip)))
 (K.seq (K.ops [⟨none, .ld (some 59) (.tmp 7) 3 true⟩,
 ⟨none, .st none (.tmp 6) (.tmp 59) 3⟩])
 (K.ret))))))))
def hEval : Nat → Option (List (Nat × Nat)) := fun r => match r with | 7 => some [(0,0),(1,0),(2,0),(3,0),(4,0),(5,0),(6,4)] | _ => none
theorem cEval : compileH Tryd.prog Tryd.f53.ntmps hEval (Tryd.f53.body.getD .skip) = some KEval.erase := by kernel_rfl
@[simp] theorem calEval : callable Tryd.prog 53 = true := by kernel_rfl
def EEval : Entry := ⟨KEval, [.cell 6 3 true], true⟩
theorem eokEval : EntryOk Tryd.prog 53 EEval := ⟨calEval, _, _, hEval, Tryd.func53, rfl, cEval, by kernel_rfl⟩

-- (*splicery/trace.run).value · results ["cell 6"]
def KValue : K :=
 K.seq (K.ops [⟨none, .box (some 4) (.tmp 1)⟩,
 ⟨none, .alloc (some 6) [(.int .i64 0), (.int .i64 0), (.slice none 0 0)]⟩])
 (K.seq (K.seq (K.ops [⟨none, .addr (some 12) (.tmp 4) 3⟩,
 ⟨none, .ld (some 13) (.tmp 12) 1 false⟩])
 (K.block 0 (K.seq (K.ops [⟨none, .eqv (some 15) false .i (.tmp 13) (.const (.int .i64 0))⟩,
 ⟨none, .mov (some 14) (.tmp 15)⟩])
 (K.cond (.tmp 14)
 (K.seq (K.ops [⟨none, .addr (some 16) (.tmp 4) 4⟩,
 ⟨none, .ld (some 17) (.tmp 16) 1 false⟩,
 ⟨none, .build (some 18) [(.int .i64 0), (.int .i64 0), (.slice none 0 0)] [(0, 1, (.const (.int .i64 0))), (1, 1, (.tmp 17))]⟩,
 ⟨none, .st none (.tmp 6) (.tmp 18) 3⟩])
 (K.ret))
 (K.seq (K.ops [⟨none, .eqv (some 20) false .i (.tmp 13) (.const (.int .i64 1))⟩,
 ⟨none, .mov (some 19) (.tmp 20)⟩])
 (K.cond (.tmp 19)
 (K.seq (K.ops [⟨none, .addr (some 21) (.tmp 4) 4⟩,
 ⟨none, .ld (some 22) (.tmp 21) 1 false⟩,
 ⟨none, .build (some 23) [(.int .i64 0), (.int .i64 0), (.slice none 0 0)] [(0, 1, (.const (.int .i64 1))), (1, 1, (.tmp 22))]⟩,
 ⟨none, .st none (.tmp 6) (.tmp 23) 3⟩])
 (K.ret))
 (K.seq (K.ops [⟨none, .eqv (some 25) false .i (.tmp 13) (.const (.int .i64 2))⟩,
 ⟨none, .mov (some 24) (.tmp 25)⟩])
 (K.cond (.tmp 24)
 (K.seq (K.ops [⟨none, .mov (some 26) (.tmp 2)⟩,
 ⟨none, .addr (some 27) (.tmp 4) 5⟩,
 ⟨none, .ld (some 28) (.tmp 27) 3 true⟩,
 ⟨none, .addr (some 29) (.tmp 4) 4⟩,
 ⟨none, .ld (some 30) (.tmp 29) 1 false⟩,
 ⟨none, .build (some 31) [(.int .i64 0), (.int .i64 0), (.int .i64 0), (.int .i64 0)] [(0, 3, (.tmp 28)), (3, 1, (.tmp 30))]⟩,
 ⟨none, .mop (some 32) (.get 4 (.agg #[(.int .i64 0), (.int .i64 0), (.slice none 0 0)]) false) [(.tmp 26), (.tmp 31)]⟩,
 ⟨none, .st none (.tmp 6) (.tmp 32) 3⟩])
 (K.ret))
 (K.seq (K.seq (K.ops [⟨none, .eqv (some 34) false .i (.tmp 13) (.const (.int .i64 5))⟩,
 ⟨none, .mov (some 33) (.tmp 34)⟩])
 (K.cond (.tmp 33)
 (K.skip)
 (K.seq (K.ops [⟨none, .eqv (some 35) false .i (.tmp 13) (.const (.int .i64 6))⟩,
 ⟨none, .mov (some 33) (.tmp 35)⟩])
 (K.cond (.tmp 33)
 (K.skip)
 (K.seq (K.ops [⟨none, .eqv (some 36) false .i (.tmp 13) (.const (.int .i64 8))⟩,
 ⟨none, .mov (some 33) (.tmp 36)⟩])
 (K.cond (.tmp 33)
 (K.skip)
 (K.seq (K.ops [⟨none, .eqv (some 37) false .i (.tmp 13) (.const (.int .i64 10))⟩,
 ⟨none, .mov (some 33) (.tmp 37)⟩])
 (K.cond (.tmp 33)
 (K.skip)
 (K.ops [⟨none, .eqv (some 38) false .i (.tmp 13) (.const (.int .i64 12))⟩,
 ⟨none, .mov (some 33) (.tmp 38)⟩])))))))))
 (K.cond (.tmp 33)
 (K.seq (K.ops [⟨none, .mov (some 39) (.tmp 0)⟩,
 ⟨none, .ld (some 40) (.tmp 4) 15 true⟩,
 ⟨none, .mov (some 41) (.tmp 2)⟩,
 ⟨none, .call (some 42) (.func 86) [(.tmp 39), (.tmp 40), (.tmp 41)]⟩,
 ⟨none, .st none (.tmp 6) (.tmp 42) 3⟩])
 (K.ret))
 (K.skip)))))))))))
 (K.seq (K.ops [⟨none, .mov (some 7) (.const (.slice none 0 0))⟩])
 (K.seq (K.seq (K.ops [⟨none, .addr (some 43) (.tmp 4) 13⟩,
 ⟨none, .ld (some 44) (.tmp 43) 1 false⟩,
 ⟨none, .len (some 45) false (.tmp 44)⟩,
 ⟨none, .mov (some 46) (.const (.int .i64 0))⟩])
 (K.block 1 (K.loop (K.seq (K.ops [⟨none, .bin (some 47) .lss (.tmp 46) (.tmp 45)⟩])
 (K.seq (K.cond (.tmp 47)
 (K.skip)
 (K.exit 1))
 (K.seq (K.block 2 (K.seq (K.ops [⟨none, .idx (some 48) (.tmp 44) (.tmp 46) 15⟩,
 ⟨none, .ld (some 49) (.tmp 48) 15 true⟩,
 ⟨none, .alloc (some 9) [(.int .i64 0), (.int .i64 0), (.int .i64 0), (.int .i64 0), (.int .i64 0), (.int .i64 0), (.int .i64 0), (.int .i64 0), (.int .i64 0), (.int .i64 0), (.int .i64 0), (.int .i64 0), (.slice none 0 0), (.slice none 0 0), (.slice none 0 0)]⟩,
 ⟨none, .st none (.tmp 9) (.tmp 49) 15⟩])
 (K.ops [⟨none, .mov (some 50) (.tmp 7)⟩,
 ⟨none, .mov (some 51) (.tmp 0)⟩,
 ⟨none, .ld (some 52) (.tmp 9) 15 true⟩,
 ⟨none, .mov (some 53) (.tmp 2)⟩,
 ⟨none, .call (some 54) (.func 53) [(.tmp 51), (.tmp 52), (.tmp 53)]⟩,
 ⟨none, .bslice (some 55) 55 3 1 [(.int .i64 0), (.int .i64 0), (.slice none 0 0)] [(0, 3, (.tmp 54))]⟩,
 ⟨none, .app (some 56) 55 3 40 (.tmp 50) (.tmp 55)⟩,
 ⟨none, .mov (some 7) (.tmp 56)⟩])))
 (K.ops [⟨none, .bin (some 57) .add (.tmp 46) (.const (.int .i64 1))⟩,
 ⟨none, .mov (some 46) (.tmp 57)⟩])))))))
 (K.seq (K.seq (K.wk (K.wk (K.ops [⟨none, .mov (some 58) (.tmp 0)⟩,
 ⟨none, .nilc (some 59) (.tmp 58)⟩,
 ⟨none, .addr (some 60) (.tmp 59) 3⟩,
 ⟨none, .ld (some 61) (.tmp 60) 1 false⟩,
 ⟨none, .eqv (some 62) true .i (.tmp 61) (.const (.int .i64 0))⟩])))
 (K.cond (.tmp 62)
 (K.seq (K.ops [⟨none, .build (some 63) [(.int .i64 0), (.int .i64 0), (.slice none 0 0)] []⟩,
 ⟨none, .st none (.tmp 6) (.tmp 63) 3⟩])
 (K.ret))
 (K.skip)))
 (K.seq (K.seq (K.ops [⟨none, .addr (some 64) (.tmp 4) 3⟩,
 ⟨none, .ld (some 65) (.tmp 64) 1 false⟩])
 (K.block 3 (K.seq (K.ops [⟨none, .eqv (some 67) false .i (.tmp 65) (.const (.int .i64 3))⟩,
 ⟨none, .mov (some 66) (.tmp 67)⟩])
 (K.cond (.tmp 66)
 (K.seq (K.dops [(0, 0, ⟨none, .mov (some 69) (.tmp 0)⟩),
 (1, 0, ⟨none, .nilc (some 70) (.tmp 69)⟩),
 (2, 1, ⟨none, .addr (some 71) (.tmp 70) 0⟩),
 (3, 1, ⟨none, .ld (some 72) (.tmp 71) 2 true⟩),
 (4, 1, ⟨none, .addr (some 73) (.tmp 4) 5⟩),
 (5, 1, ⟨none, .ld (some 74) (.tmp 73) 3 true⟩),
 (6, 1, ⟨none, .call (some 75) (.func 33) [(.tmp 72), (.tmp 74)]⟩),
 (7, 0, ⟨none, .mov (some 68) (.tmp 75)⟩),
 (8, 0, ⟨none, .ext (some 76) (.tmp 68) 0⟩),
 (9, 0, ⟨none, .ext (some 77) (.tmp 68) 1⟩),
 (10, 0, ⟨none, .alloc (some 10) [(.int .i64 0), (.int .i64 0), (.int .i64 0), (.int .i64 0), (.int .i64 0), (.int .i64 0), (.int .i64 0), (.string ⟨#[]⟩), (.slice none 0 0), (.int .i64 0), (.int .i64 0), (.int .i64 0), (.int .i64 0), (.slice none 0 0), (.int .i64 0), (.int .i64 0), (.int .i64 0), (.int .i64 0), (.int .i64 0), (.int .i64 0), (.int .i64 0), (.int .i64 0), (.int .i64 0), (.int .i64 0), (.int .i64 0), (.int .i64 0), (.slice none 0 0), (.slice none 0 0), (.slice none 0 0), (.int .i64 0), (.slice none 0 0)]⟩),
 (11, 0, ⟨none, .st none (.tmp 10) (.tmp 76) 31⟩),
 (12, 0, ⟨none, .mov (some 11) (.tmp 77)⟩)])
 (K.seq (K.ops [⟨none, .mov (some 78) (.tmp 0)⟩,
 ⟨none, .ld (some 79) (.tmp 10) 31 true⟩,
 ⟨none, .mov (some 80) (.tmp 7)⟩,
 ⟨none, .call (some 81) (.func 38) [(.tmp 78), (.tmp 79), (.tmp 80)]⟩,
 ⟨none, .st none (.tmp 6) (.tmp 81) 3⟩])
 (K.ret)))
 (K.seq (K.ops [⟨none, .eqv (some 83) false .i (.tmp 65) (.const (.int .i64 4))⟩,
 ⟨none, .mov (some 82) (.tmp 83)⟩])
 (K.cond (.tmp 82)
 (K.seq (K.ops [⟨none, .addr (some 84) (.tmp 4) 4⟩,
 ⟨none, .ld (some 85) (.tmp 84) 1 false⟩,
 ⟨none, .mov (some 86) (.tmp 7)⟩,
 ⟨none, .call (some 87) (.func 87) [(.tmp 85), (.tmp 86)]⟩,
 ⟨none, .st none (.tmp 6) (.tmp 87) 3⟩])
 (K.ret))
 (K.seq (K.ops [⟨none, .eqv (some 89) false .i (.tmp 65) (.const (.int .i64 7))⟩,
 ⟨none, .mov (some 88) (.tmp 89)⟩])
 (K.cond (.tmp 88)
 (K.seq (K.ops [⟨none, .mov (some 90) (.tmp 7)⟩,
 ⟨none, .build (some 91) [(.int .i64 0), (.int .i64 0), (.slice none 0 0)] [(0, 1, (.const (.int .i64 2))), (2, 1, (.tmp 90))]⟩,
 ⟨none, .st none (.tmp 6) (.tmp 91) 3⟩])
 (K.ret))
 (K.seq (K.ops [⟨none, .eqv (some 93) false .i (.tmp 65) (.const (.int .i64 9))⟩,
 ⟨none, .mov (some 92) (.tmp 93)⟩])
 (K.cond (.tmp 92)
 (K.seq (K.ops [⟨none, .addr (some 94) (.tmp 4) 4⟩,
 ⟨none, .ld (some 95) (.tmp 94) 1 false⟩,
 ⟨none, .mov (some 96) (.tmp 7)⟩,
 ⟨none, .build (some 97) [(.int .i64 0), (.int .i64 0), (.slice none 0 0)] [(0, 1, (.const (.int .i64 3))), (1, 1, (.tmp 95)), (2, 1, (.tmp 96))]⟩,
 ⟨none, .st none (.tmp 6) (.tmp 97) 3⟩])
 (K.ret))
 (K.skip)))))))))))
 (K.seq (K.ops [⟨none, .mov (some 98) (.tmp 7)⟩,
 ⟨none, .build (some 99) [(.int .i64 0), (.int .i64 0), (.slice none 0 0)] [(0, 1, (.const (.int .i64 4))), (2, 1, (.tmp 98))]⟩,
 ⟨none, .st none (.tmp 6) (.tmp 99) 3⟩])
 (K.ret)))))))
theorem cValue : compile Tryd.prog Tryd.f76.ntmps (Tryd.f76.body.getD .skip) = some KValue.erase := by kernel_rfl
@[simp] theorem calValue : callable Tryd.prog 76 = true := by kernel_rfl
def EValue : Entry := ⟨KValue, [.cell 6 3 true], true⟩
theorem eokValue : EntryOk Tryd.prog 76 EValue := ⟨calValue, _, _, noHint, Tryd.func76, rfl, cValue, by kernel_rfl⟩

-- (*splicery/trace.run).branch · results ["cell 6"]
def KBranch : K :=
 K.seq (K.ops [⟨none, .box (some 4) (.tmp 1)⟩,
 ⟨none, .alloc (some 6) [(.int .i64 0), (.int .i64 0), (.slice none 0 0)]⟩])
 (K.seq (K.ops [⟨none, .mov (some 13) (.tmp 0)⟩,
 ⟨none, .addr (some 14) (.tmp 4) 13⟩,
 ⟨none, .ld (some 15) (.tmp 14) 1 false⟩,
 ⟨none, .idx (some 16) (.tmp 15) (.const (.int .i64 0)) 15⟩,
 ⟨none, .ld (some 17) (.tmp 16) 15 true⟩,
 ⟨none, .mov (some 18) (.tmp 2)⟩,
 ⟨none, .call (some 19) (.func 53) [(.tmp 13), (.tmp 17), (.tmp 18)]⟩,
 ⟨none, .alloc (some 7) [(.int .i64 0), (.int .i64 0), (.slice none 0 0)]⟩,
 ⟨none, .st none (.tmp 7) (.tmp 19) 3⟩])
 (K.seq (K.seq (K.ops [⟨none, .mov (some 20) (.tmp 0)⟩,
 ⟨none, .nilc (some 21) (.tmp 20)⟩,
 ⟨none, .addr (some 22) (.tmp 21) 3⟩,
 ⟨none, .ld (some 23) (.tmp 22) 1 false⟩,
 ⟨none, .eqv (some 24) true .i (.tmp 23) (.const (.int .i64 0))⟩])
 (K.cond (.tmp 24)
 (K.seq (K.ops [⟨none, .build (some 25) [(.int .i64 0), (.int .i64 0), (.slice none 0 0)] []⟩,
 ⟨none, .st none (.tmp 6) (.tmp 25) 3⟩])
 (K.ret))
 (K.skip)))
 (K.seq (K.seq (K.ops [⟨none, .addr (some 26) (.tmp 4) 3⟩,
 ⟨none, .ld (some 27) (.tmp 26) 1 false⟩])
 (K.block 0 (K.seq (K.ops [⟨none, .eqv (some 29) false .i (.tmp 27) (.const (.int .i64 5))⟩,
 ⟨none, .mov (some 28) (.tmp 29)⟩])
 (K.cond (.tmp 28)
 (K.seq (K.seq (K.ops [⟨none, .addr (some 30) (.tmp 7) 1⟩,
 ⟨none, .ld (some 31) (.tmp 30) 1 false⟩,
 ⟨none, .eqv (some 32) false .i (.tmp 31) (.const (.int .i64 1))⟩])
 (K.cond (.tmp 32)
 (K.seq (K.ops [⟨none, .mov (some 33) (.tmp 0)⟩,
 ⟨none, .addr (some 34) (.tmp 4) 13⟩,
 ⟨none, .ld (some 35) (.tmp 34) 1 false⟩,
 ⟨none, .idx (some 36) (.tmp 35) (.const (.int .i64 1)) 15⟩,
 ⟨none, .ld (some 37) (.tmp 36) 15 true⟩,
 ⟨none, .mov (some 38) (.tmp 2)⟩,
 ⟨none, .call (some 39) (.func 53) [(.tmp 33), (.tmp 37), (.tmp 38)]⟩,
 ⟨none, .st none (.tmp 6) (.tmp 39) 3⟩])
 (K.ret))
 (K.skip)))
 (K.seq (K.ops [⟨none, .mov (some 40) (.tmp 0)⟩,
 ⟨none, .addr (some 41) (.tmp 4) 13⟩,
 ⟨none, .ld (some 42) (.tmp 41) 1 false⟩,
 ⟨none, .idx (some 43) (.tmp 42) (.const (.int .i64 2)) 15⟩,
 ⟨none, .ld (some 44) (.tmp 43) 15 true⟩,
 ⟨none, .mov (some 45) (.tmp 2)⟩,
 ⟨none, .call (some 46) (.func 53) [(.tmp 40), (.tmp 44), (.tmp 45)]⟩,
 ⟨none, .st none (.tmp 6) (.tmp 46) 3⟩])
 (K.ret)))
 (K.seq (K.ops [⟨none, .eqv (some 48) false .i (.tmp 27) (.const (.int .i64 6))⟩,
 ⟨none, .mov (some 47) (.tmp 48)⟩])
 (K.cond (.tmp 47)
 (K.seq (K.dops [(0, 0, ⟨none, .mov (some 49) (.tmp 0)⟩),
 (1, 0, ⟨none, .addr (some 50) (.tmp 4) 13⟩),
 (2, 0, ⟨none, .ld (some 51) (.tmp 50) 1 false⟩),
 (3, 0, ⟨none, .idx (some 52) (.tmp 51) (.const (.int .i64 1)) 15⟩),
 (4, 0, ⟨none, .ld (some 53) (.tmp 52) 15 true⟩),
 (5, 0, ⟨none, .mov (some 54) (.tmp 2)⟩),
 (6, 0, ⟨none, .addr (some 55) (.tmp 4) 0⟩),
 (7, 0, ⟨none, .ld (some 56) (.tmp 55) 3 true⟩),
 (8, 0, ⟨none, .build (some 57) [(.int .i64 0), (.int .i64 0), (.int .i64 0), (.int .i64 0)] [(0, 3, (.tmp 56)), (3, 1, (.const (.int .i64 0)))]⟩),
 (9, 0, ⟨none, .ld (some 58) (.tmp 7) 3 true⟩),
 (10, 4, ⟨none, .call (some 59) (.func 89) [(.tmp 49), (.tmp 53), (.tmp 54), (.tmp 57), (.tmp 58)]⟩),
 (11, 0, ⟨none, .st none (.tmp 6) (.tmp 59) 3⟩)])
 (K.ret))
 (K.seq (K.ops [⟨none, .eqv (some 61) false .i (.tmp 27) (.const (.int .i64 8))⟩,
 ⟨none, .mov (some 60) (.tmp 61)⟩])
 (K.cond (.tmp 60)
 (K.seq (K.ops [⟨none, .addr (some 62) (.tmp 7) 2⟩,
 ⟨none, .ld (some 63) (.tmp 62) 1 false⟩,
 ⟨none, .addr (some 64) (.tmp 4) 4⟩,
 ⟨none, .ld (some 65) (.tmp 64) 1 false⟩,
 ⟨none, .idx (some 66) (.tmp 63) (.tmp 65) 3⟩,
 ⟨none, .ld (some 67) (.tmp 66) 3 true⟩,
 ⟨none, .st none (.tmp 6) (.tmp 67) 3⟩])
 (K.ret))
 (K.seq (K.ops [⟨none, .eqv (some 69) false .i (.tmp 27) (.const (.int .i64 10))⟩,
 ⟨none, .mov (some 68) (.tmp 69)⟩])
 (K.cond (.tmp 68)
 (K.seq (K.dops [(0, 0, ⟨none, .mov (some 70) (.tmp 0)⟩),
 (1, 0, ⟨none, .addr (some 71) (.tmp 4) 13⟩),
 (2, 0, ⟨none, .ld (some 72) (.tmp 71) 1 false⟩),
 (3, 0, ⟨none, .addr (some 73) (.tmp 7) 1⟩),
 (4, 0, ⟨none, .ld (some 74) (.tmp 73) 1 false⟩),
 (5, 0, ⟨none, .bin (some 75) .add (.const (.int .i64 1)) (.tmp 74)⟩),
 (6, 0, ⟨none, .idx (some 76) (.tmp 72) (.tmp 75) 15⟩),
 (7, 0, ⟨none, .ld (some 77) (.tmp 76) 15 true⟩),
 (8, 0, ⟨none, .mov (some 78) (.tmp 2)⟩),
 (9, 0, ⟨none, .addr (some 79) (.tmp 4) 0⟩),
 (10, 0, ⟨none, .ld (some 80) (.tmp 79) 3 true⟩),
 (11, 0, ⟨none, .addr (some 81) (.tmp 7) 1⟩),
 (12, 0, ⟨none, .ld (some 82) (.tmp 81) 1 false⟩),
 (13, 0, ⟨none, .build (some 83) [(.int .i64 0), (.int .i64 0), (.int .i64 0), (.int .i64 0)] [(0, 3, (.tmp 80)), (3, 1, (.tmp 82))]⟩),
 (14, 0, ⟨none, .addr (some 84) (.tmp 7) 2⟩),
 (15, 0, ⟨none, .ld (some 85) (.tmp 84) 1 false⟩),
 (16, 0, ⟨none, .idx (some 86) (.tmp 85) (.const (.int .i64 0)) 3⟩),
 (17, 0, ⟨none, .ld (some 87) (.tmp 86) 3 true⟩),
 (18, 4, ⟨none, .call (some 88) (.func 89) [(.tmp 70), (.tmp 77), (.tmp 78), (.tmp 83), (.tmp 87)]⟩),
 (19, 0, ⟨none, .st none (.tmp 6) (.tmp 88) 3⟩)])
 (K.ret))
 (K.skip)))))))))))
 (K.seq (K.ops [⟨none, .mov (some 89) (.tmp 0)⟩,
 ⟨none, .addr (some 90) (.tmp 4) 13⟩,
 ⟨none, .ld (some 91) (.tmp 90) 1 false⟩,
 ⟨none, .idx (some 92) (.tmp 91) (.const (.int .i64 1)) 15⟩,
 ⟨none, .ld (some 93) (.tmp 92) 15 true⟩,
 ⟨none, .mov (some 94) (.tmp 2)⟩,
 ⟨none, .call (some 95) (.func 53) [(.tmp 89), (.tmp 93), (.tmp 94)]⟩,
 ⟨none, .alloc (some 8) [(.int .i64 0), (.int .i64 0), (.slice none 0 0)]⟩,
 ⟨none, .st none (.tmp 8) (.tmp 95) 3⟩])
 (K.seq (K.seq (K.ops [⟨none, .addr (some 96) (.tmp 7) 2⟩,
 ⟨none, .ld (some 97) (.tmp 96) 1 false⟩,
 ⟨none, .len (some 98) false (.tmp 97)⟩,
 ⟨none, .mov (some 99) (.const (.int .i64 0))⟩])
 (K.block 1 (K.loop (K.seq (K.ops [⟨none, .bin (some 100) .lss (.tmp 99) (.tmp 98)⟩])
 (K.seq (K.cond (.tmp 100)
 (K.skip)
 (K.exit 1))
 (K.seq (K.block 2 (K.seq (K.ops [⟨none, .idx (some 101) (.tmp 97) (.tmp 99) 3⟩,
 ⟨none, .ld (some 102) (.tmp 101) 3 true⟩,
 ⟨none, .alloc (some 10) [(.int .i64 0), (.int .i64 0), (.slice none 0 0)]⟩,
 ⟨none, .st none (.tmp 10) (.tmp 102) 3⟩])
 (K.seq (K.ops [⟨none, .ld (some 103) (.tmp 8) 3 true⟩,
 ⟨none, .alloc (some 11) [(.int .i64 0), (.int .i64 0), (.slice none 0 0)]⟩,
 ⟨none, .st none (.tmp 11) (.tmp 103) 3⟩])
 (K.seq (K.ops [⟨none, .addr (some 104) (.tmp 4) 0⟩,
 ⟨none, .ld (some 105) (.tmp 104) 3 true⟩,
 ⟨none, .build (some 106) [(.int .i64 0), (.int .i64 0), (.int .i64 0), (.int .i64 0)] [(0, 3, (.tmp 105)), (3, 1, (.const (.int .i64 0)))]⟩,
 ⟨none, .alloc (some 12) [(.int .i64 0), (.int .i64 0), (.int .i64 0), (.int .i64 0)]⟩,
 ⟨none, .st none (.tmp 12) (.tmp 106) 4⟩])
 (K.seq (K.ops [⟨none, .mov (some 107) (.tmp 2)⟩,
 ⟨none, .ld (some 108) (.tmp 12) 4 true⟩,
 ⟨none, .ld (some 109) (.tmp 10) 3 true⟩,
 ⟨none, .mop none (.set 4) [(.tmp 107), (.tmp 108), (.tmp 109)]⟩])
 (K.seq (K.dops [(0, 0, ⟨none, .mov (some 110) (.tmp 0)⟩),
 (1, 0, ⟨none, .addr (some 111) (.tmp 4) 13⟩),
 (2, 0, ⟨none, .ld (some 112) (.tmp 111) 1 false⟩),
 (3, 0, ⟨none, .idx (some 113) (.tmp 112) (.const (.int .i64 2)) 15⟩),
 (4, 0, ⟨none, .ld (some 114) (.tmp 113) 15 true⟩),
 (5, 0, ⟨none, .mov (some 115) (.tmp 2)⟩),
 (6, 0, ⟨none, .addr (some 116) (.tmp 4) 0⟩),
 (7, 0, ⟨none, .ld (some 117) (.tmp 116) 3 true⟩),
 (8, 0, ⟨none, .build (some 118) [(.int .i64 0), (.int .i64 0), (.int .i64 0), (.int .i64 0)] [(0, 3, (.tmp 117)), (3, 1, (.const (.int .i64 1)))]⟩),
 (9, 0, ⟨none, .ld (some 119) (.tmp 11) 3 true⟩),
 (10, 4, ⟨none, .call (some 120) (.func 89) [(.tmp 110), (.tmp 114), (.tmp 115), (.tmp 118), (.tmp 119)]⟩),
 (11, 0, ⟨none, .st none (.tmp 8) (.tmp 120) 3⟩)])
 (K.ops [⟨none, .mov (some 121) (.tmp 2)⟩,
 ⟨none, .ld (some 122) (.tmp 12) 4 true⟩,
 ⟨none, .mop none (.del 4) [(.tmp 121), (.tmp 122)]⟩])))))))
 (K.ops [⟨none, .bin (some 123) .add (.tmp 99) (.const (.int .i64 1))⟩,
 ⟨none, .mov (some 99) (.tmp 123)⟩])))))))
 (K.seq (K.ops [⟨none, .ld (some 124) (.tmp 8) 3 true⟩,
 ⟨none, .st none (.tmp 6) (.tmp 124) 3⟩])
 (K.ret)))))))
def hBranch : Nat → Option (List (Nat × Nat)) := fun r => match r with | 10 => some [(0,0),(1,0),(2,0),(3,0),(4,0),(5,0),(6,0),(7,0),(8,0),(9,0),(10,4),(11,0)] | 14 => some [(0,0),(1,0),(2,0),(3,0),(4,0),(5,0),(6,0),(7,0),(8,0),(9,0),(10,0),(11,0),(12,0),(13,0),(14,0),(15,0),(16,0),(17,0),(18,4),(19,0)] | 22 => some [(0,0),(1,0),(2,0),(3,0),(4,0),(5,0),(6,0),(7,0),(8,0),(9,0),(10,4),(11,0)] | _ => none
theorem cBranch : compileH Tryd.prog Tryd.f86.ntmps hBranch (Tryd.f86.body.getD .skip) = some KBranch.erase := by kernel_rfl
@[simp] theorem calBranch : callable Tryd.prog 86 = true := by kernel_rfl
def EBranch : Entry := ⟨KBranch, [.cell 6 3 true], true⟩
theorem eokBranch : EntryOk Tryd.prog 86 EBranch := ⟨calBranch, _, _, hBranch, Tryd.func86, rfl, cBranch, by kernel_rfl⟩

-- (*splicery/trace.run).with · results ["cell 10"]
def KWith : K :=
 K.seq (K.ops [⟨none, .box (some 6) (.tmp 1)⟩,
 ⟨none, .box (some 8) (.tmp 3)⟩,
 ⟨none, .box (some 9) (.tmp 4)⟩,
 ⟨none, .alloc (some 10) [(.int .i64 0), (.int .i64 0), (.slice none 0 0)]⟩])
 (K.seq (K.ops [⟨none, .mov (some 15) (.tmp 2)⟩,
 ⟨none, .ld (some 16) (.tmp 8) 4 true⟩,
 ⟨none, .mop (some 17) (.get 4 (.agg #[(.int .i64 0), (.int .i64 0), (.slice none 0 0)]) true) [(.tmp 15), (.tmp 16)]⟩,
 ⟨none, .mov (some 14) (.tmp 17)⟩,
 ⟨none, .ext (some 18) (.tmp 14) 0⟩,
 ⟨none, .ext (some 19) (.tmp 14) 1⟩,
 ⟨none, .alloc (some 11) [(.int .i64 0), (.int .i64 0), (.slice none 0 0)]⟩,
 ⟨none, .st none (.tmp 11) (.tmp 18) 3⟩,
 ⟨none, .mov (some 12) (.tmp 19)⟩])
 (K.seq (K.ops [⟨none, .mov (some 20) (.tmp 2)⟩,
 ⟨none, .ld (some 21) (.tmp 8) 4 true⟩,
 ⟨none, .ld (some 22) (.tmp 9) 3 true⟩,
 ⟨none, .mop none (.set 4) [(.tmp 20), (.tmp 21), (.tmp 22)]⟩])
 (K.seq (K.ops [⟨none, .mov (some 23) (.tmp 0)⟩,
 ⟨none, .ld (some 24) (.tmp 6) 15 true⟩,
 ⟨none, .mov (some 25) (.tmp 2)⟩,
 ⟨none, .call (some 26) (.func 53) [(.tmp 23), (.tmp 24), (.tmp 25)]⟩,
 ⟨none, .alloc (some 13) [(.int .i64 0), (.int .i64 0), (.slice none 0 0)]⟩,
 ⟨none, .st none (.tmp 13) (.tmp 26) 3⟩])
 (K.seq (K.ops [⟨none, .mov (some 27) (.tmp 2)⟩,
 ⟨none, .ld (some 28) (.tmp 8) 4 true⟩,
 ⟨none, .mop none (.del 4) [(.tmp 27), (.tmp 28)]⟩])
 (K.seq (K.seq (K.ops [⟨none, .mov (some 29) (.tmp 12)⟩])
 (K.cond (.tmp 29)
 (K.ops [⟨none, .mov (some 30) (.tmp 2)⟩,
 ⟨none, .ld (some 31) (.tmp 8) 4 true⟩,
 ⟨none, .ld (some 32) (.tmp 11) 3 true⟩,
 ⟨none, .mop none (.set 4) [(.tmp 30), (.tmp 31), (.tmp 32)]⟩])
 (K.skip)))
 (K.seq (K.ops [⟨none, .ld (some 33) (.tmp 13) 3 true⟩,
 ⟨none, .st none (.tmp 10) (.tmp 33) 3⟩])
 (K.ret)))))))
theorem cWith : compile Tryd.prog Tryd.f89.ntmps (Tryd.f89.body.getD .skip) = some KWith.erase := by kernel_rfl
@[simp] theorem calWith : callable Tryd.prog 89 = true := by kernel_rfl
def EWith : Entry := ⟨KWith, [.cell 10 3 true], true⟩
theorem eokWith : EntryOk Tryd.prog 89 EWith := ⟨calWith, _, _, noHint, Tryd.func89, rfl, cWith, by kernel_rfl⟩

-- splicery/value.Size · results ["2"]
def KSize : K :=
 K.seq (K.ops [⟨none, .box (some 1) (.tmp 0)⟩,
 ⟨none, .mov (some 2) (.const (.int .i64 0))⟩])
 (K.seq (K.ops [⟨none, .mov (some 3) (.const (.int .i64 1))⟩])
 (K.seq (K.seq (K.ops [⟨none, .addr (some 6) (.tmp 1) 2⟩,
 ⟨none, .ld (some 7) (.tmp 6) 1 false⟩,
 ⟨none, .len (some 8) false (.tmp 7)⟩,
 ⟨none, .mov (some 9) (.const (.int .i64 0))⟩])
 (K.block 0 (K.loop (K.seq (K.ops [⟨none, .bin (some 10) .lss (.tmp 9) (.tmp 8)⟩])
 (K.seq (K.cond (.tmp 10)
 (K.skip)
 (K.exit 0))
 (K.seq (K.block 1 (K.seq (K.ops [⟨none, .idx (some 11) (.tmp 7) (.tmp 9) 3⟩,
 ⟨none, .ld (some 12) (.tmp 11) 3 true⟩,
 ⟨none, .alloc (some 5) [(.int .i64 0), (.int .i64 0), (.slice none 0 0)]⟩,
 ⟨none, .st none (.tmp 5) (.tmp 12) 3⟩])
 (K.ops [⟨none, .mov (some 13) (.tmp 3)⟩,
 ⟨none, .ld (some 14) (.tmp 5) 3 true⟩,
 ⟨none, .call (some 15) (.func 77) [(.tmp 14)]⟩,
 ⟨none, .bin (some 16) .add (.tmp 13) (.tmp 15)⟩,
 ⟨none, .mov (some 3) (.tmp 16)⟩])))
 (K.ops [⟨none, .bin (some 17) .add (.tmp 9) (.const (.int .i64 1))⟩,
 ⟨none, .mov (some 9) (.tmp 17)⟩])))))))
 (K.seq (K.ops [⟨none, .mov (some 18) (.tmp 3)⟩,
 ⟨none, .mov (some 2) (.tmp 18)⟩])
 (K.ret))))
theorem cSize : compile Tryd.prog Tryd.f77.ntmps (Tryd.f77.body.getD .skip) = some KSize.erase := by kernel_rfl
@[simp] theorem calSize : callable Tryd.prog 77 = true := by kernel_rfl
def ESize : Entry := ⟨KSize, [.slot 2], false⟩
theorem eokSize : EntryOk Tryd.prog 77 ESize := ⟨calSize, _, _, noHint, Tryd.func77, rfl, cSize, by kernel_rfl⟩

-- splicery/trace.deep · results ["2"]
def KDeep : K :=
 K.seq (K.ops [⟨none, .box (some 1) (.tmp 0)⟩,
 ⟨none, .mov (some 2) (.const (.int .i64 0))⟩])
 (K.seq (K.ops [⟨none, .mov (some 3) (.const (.int .i64 0))⟩])
 (K.seq (K.seq (K.ops [⟨none, .addr (some 6) (.tmp 1) 2⟩,
 ⟨none, .ld (some 7) (.tmp 6) 1 false⟩,
 ⟨none, .len (some 8) false (.tmp 7)⟩,
 ⟨none, .mov (some 9) (.const (.int .i64 0))⟩])
 (K.block 0 (K.loop (K.seq (K.ops [⟨none, .bin (some 10) .lss (.tmp 9) (.tmp 8)⟩])
 (K.seq (K.cond (.tmp 10)
 (K.skip)
 (K.exit 0))
 (K.seq (K.block 1 (K.seq (K.ops [⟨none, .idx (some 11) (.tmp 7) (.tmp 9) 3⟩,
 ⟨none, .ld (some 12) (.tmp 11) 3 true⟩,
 ⟨none, .alloc (some 5) [(.int .i64 0), (.int .i64 0), (.slice none 0 0)]⟩,
 ⟨none, .st none (.tmp 5) (.tmp 12) 3⟩])
 (K.ops [⟨none, .mov (some 13) (.tmp 3)⟩,
 ⟨none, .ld (some 14) (.tmp 5) 3 true⟩,
 ⟨none, .call (some 15) (.func 78) [(.tmp 14)]⟩,
 ⟨none, .mm (some 16) true [(.tmp 13), (.tmp 15)]⟩,
 ⟨none, .mov (some 3) (.tmp 16)⟩])))
 (K.ops [⟨none, .bin (some 17) .add (.tmp 9) (.const (.int .i64 1))⟩,
 ⟨none, .mov (some 9) (.tmp 17)⟩])))))))
 (K.seq (K.ops [⟨none, .mov (some 18) (.tmp 3)⟩,
 ⟨none, .bin (some 19) .add (.tmp 18) (.const (.int .i64 1))⟩,
 ⟨none, .mov (some 2) (.tmp 19)⟩])
 (K.ret))))
theorem cDeep : compile Tryd.prog Tryd.f78.ntmps (Tryd.f78.body.getD .skip) = some KDeep.erase := by kernel_rfl
@[simp] theorem calDeep : callable Tryd.prog 78 = true := by kernel_rfl
def EDeep : Entry := ⟨KDeep, [.slot 2], false⟩
theorem eokDeep : EntryOk Tryd.prog 78 EDeep := ⟨calDeep, _, _, noHint, Tryd.func78, rfl, cDeep, by kernel_rfl⟩

-- splicery/eval.Op · results ["cell 4"]
def KOpF : K :=
 K.seq (K.ops [⟨none, .alloc (some 4) [(.int .i64 0), (.int .i64 0), (.slice none 0 0)]⟩])
 (K.seq (K.seq (K.ops [⟨none, .mov (some 7) (.tmp 0)⟩,
 ⟨none, .bin (some 8) .geq (.tmp 7) (.const (.int .i64 0))⟩,
 ⟨none, .mov (some 9) (.tmp 8)⟩,
 ⟨some (9, true), .mov (some 10) (.tmp 0)⟩,
 ⟨some (9, true), .bin (some 11) .lss (.tmp 10) (.const (.int .i64 5))⟩,
 ⟨none, .pick (some 12) (.tmp 9) (.tmp 11) (.const (.bool false))⟩,
 ⟨none, .mov (some 13) (.tmp 12)⟩,
 ⟨some (13, true), .mov (some 14) (.tmp 1)⟩,
 ⟨some (13, true), .len (some 15) false (.tmp 14)⟩,
 ⟨some (13, true), .eqv (some 16) false .i (.tmp 15) (.const (.int .i64 2))⟩,
 ⟨none, .pick (some 17) (.tmp 13) (.tmp 16) (.const (.bool false))⟩])
 (K.cond (.tmp 17)
 (K.seq (K.dops [(0, 0, ⟨none, .mov (some 18) (.tmp 0)⟩),
 (1, 0, ⟨none, .idxarr (some 19) (.global 0) (.tmp 18) 5 1⟩),
 (2, 0, ⟨none, .ld (some 20) (.tmp 19) 1 false⟩),
 (3, 0, ⟨none, .mov (some 21) (.tmp 1)⟩),
 (4, 0, ⟨none, .idx (some 22) (.tmp 21) (.const (.int .i64 0)) 3⟩),
 (5, 0, ⟨none, .addr (some 23) (.tmp 22) 1⟩),
 (6, 0, ⟨none, .ld (some 24) (.tmp 23) 1 false⟩),
 (7, 0, ⟨none, .mov (some 25) (.tmp 1)⟩),
 (8, 0, ⟨none, .idx (some 26) (.tmp 25) (.const (.int .i64 1)) 3⟩),
 (9, 0, ⟨none, .addr (some 27) (.tmp 26) 1⟩),
 (10, 0, ⟨none, .ld (some 28) (.tmp 27) 1 false⟩),
 (11, 0, ⟨none, .call (some 29) (.tmp 20) [(.tmp 24), (.tmp 28)]⟩),
 (12, 0, ⟨none, .build (some 30) [(.int .i64 0), (.int .i64 0), (.slice none 0 0)] [(1, 1, (.tmp 29))]⟩),
 (13, 0, ⟨none, .st none (.tmp 4) (.tmp 30) 3⟩)])
 (K.ret))
 (K.skip)))
 (K.seq (K.block 0 (K.seq (K.ops [⟨none, .mov (some 32) (.tmp 0)⟩,
 ⟨none, .eqv (some 33) false .i (.tmp 32) (.const (.int .i64 9))⟩,
 ⟨none, .mov (some 34) (.tmp 33)⟩,
 ⟨some (34, true), .mov (some 35) (.tmp 1)⟩,
 ⟨some (34, true), .len (some 36) false (.tmp 35)⟩,
 ⟨some (34, true), .eqv (some 37) false .i (.tmp 36) (.const (.int .i64 1))⟩,
 ⟨none, .pick (some 38) (.tmp 34) (.tmp 37) (.const (.bool false))⟩,
 ⟨none, .mov (some 31) (.tmp 38)⟩])
 (K.cond (.tmp 31)
 (K.seq (K.ops [⟨none, .mov (some 39) (.tmp 1)⟩,
 ⟨none, .idx (some 40) (.tmp 39) (.const (.int .i64 0)) 3⟩,
 ⟨none, .addr (some 41) (.tmp 40) 1⟩,
 ⟨none, .ld (some 42) (.tmp 41) 1 false⟩,
 ⟨none, .eqv (some 43) false .i (.tmp 42) (.const (.int .i64 0))⟩,
 ⟨none, .call (some 44) (.func 90) [(.tmp 43)]⟩,
 ⟨none, .st none (.tmp 4) (.tmp 44) 3⟩])
 (K.ret))
 (K.seq (K.ops [⟨none, .mov (some 46) (.tmp 0)⟩,
 ⟨none, .eqv (some 47) false .i (.tmp 46) (.const (.int .i64 11))⟩,
 ⟨none, .mov (some 48) (.tmp 47)⟩,
 ⟨some (48, true), .mov (some 49) (.tmp 1)⟩,
 ⟨some (48, true), .len (some 50) false (.tmp 49)⟩,
 ⟨some (48, true), .eqv (some 51) false .i (.tmp 50) (.const (.int .i64 1))⟩,
 ⟨none, .pick (some 52) (.tmp 48) (.tmp 51) (.const (.bool false))⟩,
 ⟨none, .mov (some 45) (.tmp 52)⟩])
 (K.cond (.tmp 45)
 (K.seq (K.ops [⟨none, .mov (some 53) (.tmp 1)⟩,
 ⟨none, .idx (some 54) (.tmp 53) (.const (.int .i64 0)) 3⟩,
 ⟨none, .addr (some 55) (.tmp 54) 2⟩,
 ⟨none, .ld (some 56) (.tmp 55) 1 false⟩,
 ⟨none, .len (some 57) false (.tmp 56)⟩,
 ⟨none, .build (some 58) [(.int .i64 0), (.int .i64 0), (.slice none 0 0)] [(1, 1, (.tmp 57))]⟩,
 ⟨none, .st none (.tmp 4) (.tmp 58) 3⟩])
 (K.ret))
 (K.seq (K.ops [⟨none, .mov (some 60) (.tmp 1)⟩,
 ⟨none, .len (some 61) false (.tmp 60)⟩,
 ⟨none, .eqv (some 62) true .i (.tmp 61) (.const (.int .i64 2))⟩,
 ⟨none, .mov (some 59) (.tmp 62)⟩])
 (K.cond (.tmp 59)
 (K.seq (K.ops [⟨none, .build (some 63) [(.int .i64 0), (.int .i64 0), (.slice none 0 0)] []⟩,
 ⟨none, .st none (.tmp 4) (.tmp 63) 3⟩])
 (K.ret))
 (K.skip))))))))
 (K.seq (K.wk (K.dops [(0, 0, ⟨none, .mov (some 64) (.tmp 1)⟩),
 (1, 2, ⟨none, .idx (some 65) (.tmp 64) (.const (.int .i64 0)) 3⟩),
 (2, 2, ⟨none, .ld (some 66) (.tmp 65) 3 true⟩),
 (3, 0, ⟨none, .mov (some 67) (.tmp 1)⟩),
 (4, 2, ⟨none, .idx (some 68) (.tmp 67) (.const (.int .i64 1)) 3⟩),
 (5, 2, ⟨none, .ld (some 69) (.tmp 68) 3 true⟩),
 (6, 370, ⟨none, .alr (some 5) 70 [(.int .i64 0), (.int .i64 0), (.slice none 0 0)]⟩),
 (7, 371, ⟨none, .alr (some 6) 71 [(.int .i64 0), (.int .i64 0), (.slice none 0 0)]⟩),
 (8, 0, ⟨none, .st none (.tmp 5) (.tmp 66) 3⟩),
 (9, 0, ⟨none, .st none (.tmp 6) (.tmp 69) 3⟩)]))
 (K.seq (K.seq (K.ops [⟨none, .mov (some 70) (.tmp 0)⟩])
 (K.block 1 (K.seq (K.ops [⟨none, .eqv (some 72) false .i (.tmp 70) (.const (.int .i64 5))⟩,
 ⟨none, .mov (some 71) (.tmp 72)⟩])
 (K.cond (.tmp 71)
 (K.seq (K.ops [⟨none, .addr (some 73) (.tmp 5) 1⟩,
 ⟨none, .ld (some 74) (.tmp 73) 1 false⟩,
 ⟨none, .addr (some 75) (.tmp 6) 1⟩,
 ⟨none, .ld (some 76) (.tmp 75) 1 false⟩,
 ⟨none, .bin (some 77) .lss (.tmp 74) (.tmp 76)⟩,
 ⟨none, .call (some 78) (.func 90) [(.tmp 77)]⟩,
 ⟨none, .st none (.tmp 4) (.tmp 78) 3⟩])
 (K.ret))
 (K.seq (K.ops [⟨none, .eqv (some 80) false .i (.tmp 70) (.const (.int .i64 6))⟩,
 ⟨none, .mov (some 79) (.tmp 80)⟩])
 (K.cond (.tmp 79)
 (K.seq (K.ops [⟨none, .ld (some 81) (.tmp 5) 3 true⟩,
 ⟨none, .ld (some 82) (.tmp 6) 3 true⟩,
 ⟨none, .call (some 83) (.func 91) [(.tmp 81), (.tmp 82)]⟩,
 ⟨none, .eqv (some 84) false .i (.tmp 83) (.const (.int .i64 0))⟩,
 ⟨none, .call (some 85) (.func 90) [(.tmp 84)]⟩,
 ⟨none, .st none (.tmp 4) (.tmp 85) 3⟩])
 (K.ret))
 (K.seq (K.ops [⟨none, .eqv (some 87) false .i (.tmp 70) (.const (.int .i64 7))⟩,
 ⟨none, .mov (some 86) (.tmp 87)⟩])
 (K.cond (.tmp 86)
 (K.seq (K.ops [⟨none, .addr (some 88) (.tmp 5) 1⟩,
 ⟨none, .ld (some 89) (.tmp 88) 1 false⟩,
 ⟨none, .eqv (some 90) true .i (.tmp 89) (.const (.int .i64 0))⟩,
 ⟨none, .mov (some 91) (.tmp 90)⟩,
 ⟨some (91, true), .addr (some 92) (.tmp 6) 1⟩,
 ⟨some (91, true), .ld (some 93) (.tmp 92) 1 false⟩,
 ⟨some (91, true), .eqv (some 94) true .i (.tmp 93) (.const (.int .i64 0))⟩,
 ⟨none, .pick (some 95) (.tmp 91) (.tmp 94) (.const (.bool false))⟩,
 ⟨none, .call (some 96) (.func 90) [(.tmp 95)]⟩,
 ⟨none, .st none (.tmp 4) (.tmp 96) 3⟩])
 (K.ret))
 (K.seq (K.ops [⟨none, .eqv (some 98) false .i (.tmp 70) (.const (.int .i64 8))⟩,
 ⟨none, .mov (some 97) (.tmp 98)⟩])
 (K.cond (.tmp 97)
 (K.seq (K.ops [⟨none, .addr (some 99) (.tmp 5) 1⟩,
 ⟨none, .ld (some 100) (.tmp 99) 1 false⟩,
 ⟨none, .eqv (some 101) true .i (.tmp 100) (.const (.int .i64 0))⟩,
 ⟨none, .mov (some 102) (.tmp 101)⟩,
 ⟨some (102, false), .addr (some 103) (.tmp 6) 1⟩,
 ⟨some (102, false), .ld (some 104) (.tmp 103) 1 false⟩,
 ⟨some (102, false), .eqv (some 105) true .i (.tmp 104) (.const (.int .i64 0))⟩,
 ⟨none, .pick (some 106) (.tmp 102) (.const (.bool true)) (.tmp 105)⟩,
 ⟨none, .call (some 107) (.func 90) [(.tmp 106)]⟩,
 ⟨none, .st none (.tmp 4) (.tmp 107) 3⟩])
 (K.ret))
 (K.seq (K.ops [⟨none, .eqv (some 109) false .i (.tmp 70) (.const (.int .i64 10))⟩,
 ⟨none, .mov (some 108) (.tmp 109)⟩])
 (K.cond (.tmp 108)
 (K.seq (K.ops [⟨none, .addr (some 110) (.tmp 5) 2⟩,
 ⟨none, .ld (some 111) (.tmp 110) 1 false⟩,
 ⟨none, .addr (some 112) (.tmp 6) 2⟩,
 ⟨none, .ld (some 113) (.tmp 112) 1 false⟩,
 ⟨none, .bslice (some 114) 53 1 2 [(.slice none 0 0), (.slice none 0 0)] [(0, 1, (.tmp 111)), (1, 1, (.tmp 113))]⟩,
 ⟨none, .call (some 115) (.func 93) [(.tmp 114)]⟩,
 ⟨none, .call (some 116) (.func 92) [(.tmp 115)]⟩,
 ⟨none, .build (some 117) [(.int .i64 0), (.int .i64 0), (.slice none 0 0)] [(0, 1, (.const (.int .i64 4))), (2, 1, (.tmp 116))]⟩,
 ⟨none, .st none (.tmp 4) (.tmp 117) 3⟩])
 (K.ret))
 (K.skip)))))))))))))
 (K.seq (K.ops [⟨none, .build (some 118) [(.int .i64 0), (.int .i64 0), (.slice none 0 0)] []⟩,
 ⟨none, .st none (.tmp 4) (.tmp 118) 3⟩])
 (K.ret))))))
def hOpF : Nat → Option (List (Nat × Nat)) := fun r => match r with | 9 => some [(0,0),(1,2),(2,2),(3,0),(4,2),(5,2),(6,370),(7,371),(8,0),(9,0)] | _ => none
theorem cOpF : compileH Tryd.prog Tryd.f87.ntmps hOpF (Tryd.f87.body.getD .skip) = some KOpF.erase := by kernel_rfl
@[simp] theorem calOpF : callable Tryd.prog 87 = true := by kernel_rfl
def EOpF : Entry := ⟨KOpF, [.cell 4 3 true], false⟩
theorem eokOpF : EntryOk Tryd.prog 87 EOpF := ⟨calOpF, _, _, hOpF, Tryd.func87, rfl, cOpF, by kernel_rfl⟩

-- splicery/eval.truth · results ["cell 2"]
def KTruth : K :=
 K.seq (K.ops [⟨none, .alloc (some 2) [(.int .i64 0), (.int .i64 0), (.slice none 0 0)]⟩])
 (K.seq (K.seq (K.ops [⟨none, .mov (some 3) (.tmp 0)⟩])
 (K.cond (.tmp 3)
 (K.seq (K.ops [⟨none, .build (some 4) [(.int .i64 0), (.int .i64 0), (.slice none 0 0)] [(0, 1, (.const (.int .i64 1))), (1, 1, (.const (.int .i64 1)))]⟩,
 ⟨none, .st none (.tmp 2) (.tmp 4) 3⟩])
 (K.ret))
 (K.skip)))
 (K.seq (K.ops [⟨none, .build (some 5) [(.int .i64 0), (.int .i64 0), (.slice none 0 0)] [(0, 1, (.const (.int .i64 1)))]⟩,
 ⟨none, .st none (.tmp 2) (.tmp 5) 3⟩])
 (K.ret)))
theorem cTruth : compile Tryd.prog Tryd.f90.ntmps (Tryd.f90.body.getD .skip) = some KTruth.erase := by kernel_rfl
@[simp] theorem calTruth : callable Tryd.prog 90 = true := by kernel_rfl
def ETruth : Entry := ⟨KTruth, [.cell 2 3 true], false⟩
theorem eokTruth : EntryOk Tryd.prog 90 ETruth := ⟨calTruth, _, _, noHint, Tryd.func90, rfl, cTruth, by kernel_rfl⟩

def tabC : List (Nat × Entry) := [(21, ECall), (35, ENote), (33, EDef), (49, EIdxD), (50, EDef1),
  (34, EBodied), (36, EValid), (51, ESmall), (71, ESmall1), (72, EConV), (85, EIdxV),
  (73, ESmall11), (52, EFits), (75, EFits1), (74, EVTyp), (37, EReach), (38, EBody), (53, EEval),
  (76, EValue), (86, EBranch), (89, EWith), (77, ESize), (78, EDeep), (87, EOpF), (90, ETruth)]
theorem tabC_ok : ∀ f e, findE f tabC = some e → EntryOk Tryd.prog f e :=
  tab_cons eokCall (tab_cons eokNote (tab_cons eokDef (tab_cons eokIdxD (tab_cons eokDef1 (tab_cons eokBodied (tab_cons eokValid (tab_cons eokSmall (tab_cons eokSmall1 (tab_cons eokConV (tab_cons eokIdxV
  (tab_cons eokSmall11 (tab_cons eokFits (tab_cons eokFits1 (tab_cons eokVTyp (tab_cons eokReach (tab_cons eokBody (tab_cons eokEval (tab_cons eokValue (tab_cons eokBranch (tab_cons eokWith (tab_cons eokSize (tab_cons eokDeep (tab_cons eokOpF (tab_cons eokTruth tab_nil))))))))))))))))))))))))

/-- IDs out of cells. -/
def decI : List A → Option (List Id)
  | [] => some []
  | .lit (.int .i64 a) :: .lit (.int .i64 b) :: .lit (.int .i64 c) :: l => match decI l with
    | some r => some (⟨a, b, c⟩ :: r)
    | none => none
  | _ => none
theorem decI_sound : ∀ {cs : List A} {l : List Id}, decI cs = some l → cs = cellsI l := by
  intro cs
  fun_induction decI cs with
  | case1 => intro l h; cases h; rfl
  | case2 a b c cs r hr ih => intro l h; cases h; rw [ih hr]; rfl
  | case3 a b c cs hr ih => intro l h; cases h
  | case4 => intro l h; cases h
/-- trace.set, by its contract. -/
def orcS : Run := fun f xs σ => match Nat.beq f 14, xs, σ with
  | true, [.sl n cs], [] => (match decI cs with
    | some l => if n = l.length ∧ l.length ≤ 1000000 then some (.sl (l.foldl insD []).length (cellsI (l.foldl insD [])), []) else none
    | none => none)
  | _, _, _ => none
@[simp] theorem calSetA : callable Tryd.prog 14 = true := by kernel_rfl
theorem orcS_ok : CallsOk Tryd.prog orcS := by
  intro f xs σ r σ' h
  unfold orcS at h
  split at h <;> try (cases h; done)
  rename_i n cs hf
  split at h <;> try (cases h; done)
  rename_i l hl
  split at h <;> try (cases h; done)
  rename_i hc
  cases h
  have hf' := Nat.eq_of_beq_eq_true hf
  subst hf'
  refine ⟨calSetA, ?_⟩
  rw [decI_sound hl, hc.1, ← setD_eq]
  exact set_ok l hc.2

end Go.Proofs.YthglhccibdlccaaDoor
