/-
  The law's example: its two calls.
-/
import Derived.Test.YthglhccibdlccaaGreatDoorX27
import Derived.Test.YthglhccibdlccaaGreatDoorX25
set_option linter.unusedVariables false
set_option linter.unusedSimpArgs false
namespace Go.Proofs.YthglhccibdlccaaGreatDoor
open Go.Abs
def KCall : K :=
 K.seq (K.ops [kO 4 0,
 kO 5 1,
 kZ 8 [(.int .i64 0), (.int .i64 0), (.slice none 0 0)],
 kZ 9 [(.slice none 0 0), (.slice none 0 0)],
 kMi 10 0])
 (K.seq (K.ops [kG 22 4 2,
 kG 23 5 3,
 kC 24 42 [(.tmp 22), (.tmp 23)],
 kM 21 24,
 kE 25 21 0,
 kE 26 21 1,
 kZ 11 kz0,
 kS 11 25 31,
 kM 12 26])
 (K.seq (K.seq (K.ops [kM 27 12,
 kR 28 27,
 kM 29 28,
 kT 29 false (kG 30 11 31),
 kT 29 false (kC 31 43 [(.tmp 30)]),
 kT 29 false (kR 32 31),
 kPt 33 29 32])
 (K.cond (.tmp 33)
 (K.seq (K.ops [⟨none, .build (some 34) [(.int .i64 0), (.int .i64 0), (.slice none 0 0)] []⟩,
 ⟨none, .build (some 35) [(.slice none 0 0), (.slice none 0 0)] []⟩,
 kS 8 34 3,
 kS 9 35 2,
 kMi 10 6])
 (K.ret))
 (K.skip)))
 (K.seq (K.seq (K.ops [kM 36 2,
 kN 37 36,
 kA 38 11 8,
 kL 39 38 1,
 kN 40 39,
 kQ 41 37 40 true])
 (K.cond (.tmp 41)
 (K.seq (K.ops [⟨none, .build (some 42) [(.int .i64 0), (.int .i64 0), (.slice none 0 0)] []⟩,
 ⟨none, .build (some 43) [(.slice none 0 0), (.slice none 0 0)] []⟩,
 kS 8 42 3,
 kS 9 43 2,
 kMi 10 1])
 (K.ret))
 (K.skip)))
 (K.seq (K.ops [kZ 13 [(.slice none 0 0), (.slice none 0 0)]])
 (K.seq (K.ops [⟨none, .mop (some 44) (.mk 3) []⟩,
 kZ 14 [(.map none)],
 kS 14 44 1])
 (K.seq (K.ops [⟨none, .clo (some 45) 44 [] [(.tmp 13), (.tmp 14)]⟩,
 kM 15 45])
 (K.seq (K.ops [kG 46 4 2,
 kM 47 3,
 kM 48 15,
 ⟨none, .build (some 49) [(.slice none 0 0), (.slice none 0 0), (.int .i64 0), (.int .i64 0), .nilFunc] [(0, 2, (.tmp 46)), (2, 1, (.tmp 47)), (4, 1, (.tmp 48))]⟩,
 kO 50 49,
 kM 16 50])
 (K.seq (K.ops [⟨none, .mop (some 51) (.mk 3) []⟩,
 kM 17 51])
 (K.seq (K.seq (K.ops [kA 52 11 8,
 kL 53 52 1,
 kN 54 53,
 kMi 55 0])
 (K.block 0 (K.loop (K.seq (K.ops [kB 56 55 54 .lss])
 (K.seq (K.cond (.tmp 56)
 (K.skip)
 (K.exit 0))
 (K.seq (K.block 1 (K.seq (K.ops [kM 57 55,
 kX 58 53 55 11,
 kG 59 58 11,
 kZ 19 kz5,
 kM 18 57,
 kS 19 59 11])
 (K.seq (K.seq (K.dops [(0, 0, kG 60 4 2),
 (1, 0, kA 61 19 4),
 (2, 0, kG 62 61 5),
 (3, 0, kM 63 2),
 (4, 0, kM 64 18),
 (5, 0, kX 65 63 64 3),
 (6, 0, kG 66 65 3),
 (7, 0, kC 67 45 [(.tmp 60), (.tmp 62), (.tmp 66)]),
 (8, 0, kR 68 67)])
 (K.cond (.tmp 68)
 (K.seq (K.ops [⟨none, .build (some 69) [(.int .i64 0), (.int .i64 0), (.slice none 0 0)] []⟩,
 ⟨none, .build (some 70) [(.slice none 0 0), (.slice none 0 0)] []⟩,
 kS 8 69 3,
 kS 9 70 2,
 kMi 10 1])
 (K.ret))
 (K.skip)))
 (K.ops [kM 71 16,
 kA 72 19 4,
 kG 73 72 5,
 kM 74 17,
 kC 75 46 [(.tmp 71), (.tmp 73), (.tmp 74)]]))))
 (K.ops [kBi 76 55 1 .add,
 kM 55 76])))))))
 (K.seq (K.ops [kM 77 16,
 kG 78 11 31,
 kM 79 2,
 kC 80 47 [(.tmp 77), (.tmp 78), (.tmp 79)],
 kZ 20 [(.int .i64 0), (.int .i64 0), (.slice none 0 0)],
 kS 20 80 3])
 (K.seq (K.seq (K.ops [kM 81 16,
 kU 82 81,
 kA 83 82 3,
 kL 84 83 1,
 kQi 85 84 0 true])
 (K.cond (.tmp 85)
 (K.ops [⟨none, .build (some 86) [(.int .i64 0), (.int .i64 0), (.slice none 0 0)] []⟩,
 kS 20 86 3])
 (K.skip)))
 (K.seq (K.wk (K.wk (K.dops [(0, 0, kG 87 20 3),
 (1, 0, kA 88 13 0),
 (2, 0, kL 89 88 1),
 (3, 1, kC 90 48 [(.tmp 89)]),
 (4, 0, kA 91 13 1),
 (5, 0, kL 92 91 1),
 (6, 1, kC 93 48 [(.tmp 92)]),
 (7, 0, ⟨none, .build (some 94) [(.slice none 0 0), (.slice none 0 0)] [(0, 1, (.tmp 90)), (1, 1, (.tmp 93))]⟩),
 (8, 0, kM 95 16),
 (9, 0, kU 96 95),
 (10, 2, kA 97 96 3),
 (11, 2004, kL 98 97 1),
 (12, 1004, kS 8 87 3),
 (13, 1004, kS 9 94 2),
 (14, 0, kM 10 98)])))
 (K.ret)))))))))))))
def hCall : Nat → Option (List (Nat × Nat)) := fun r => match r with | 21 => some [(0,0),(1,0),(2,0),(3,1),(4,0),(5,0),(6,1),(7,0),(8,0),(9,0),(10,2),(11,2004),(12,1004),(13,1004),(14,0)] | _ => none
theorem cCall : compileH Tryz.prog Tryz.f13.ntmps hCall (Tryz.f13.body.getD .skip) = some KCall.erase := by kernel_rfl
@[simp] theorem calCall : callable Tryz.prog 13 = true := by kernel_rfl
def ECall : Entry := ⟨KCall, [.cell 8 3 true, .cell 9 2 true, .slot 10], false⟩
theorem eokCall : EntryOk Tryz.prog 13 ECall := ⟨calCall, _, _, hCall, Tryz.func13, rfl, cCall, by kernel_rfl⟩
def KNote : K :=
 K.seq (K.ops [kO 5 1])
 (K.seq (K.ops [kM 6 0])
 (K.cond (.tmp 6)
 (K.ops [kA 7 2 0,
 kL 8 7 1,
 kG 9 5 3,
 ⟨none, .bslice (some 10) 29 3 1 [(.int .i64 0), (.int .i64 0), (.int .i64 0)] [(0, 3, (.tmp 9))]⟩,
 kP 11 29 3 24 8 10,
 kA 12 2 0,
 kS 12 11 1])
 (K.seq (K.ops [kL 13 3 1,
 kG 14 5 3,
 ⟨none, .mop (some 15) (.get 3 (.bool false) false) [(.tmp 13), (.tmp 14)]⟩,
 kR 16 15])
 (K.cond (.tmp 16)
 (K.seq (K.ops [kL 17 3 1,
 kG 18 5 3,
 ⟨none, .mop none (.set 3) [(.tmp 17), (.tmp 18), (.const (.bool true))]⟩])
 (K.ops [kA 19 2 1,
 kL 20 19 1,
 kG 21 5 3,
 ⟨none, .bslice (some 22) 29 3 1 [(.int .i64 0), (.int .i64 0), (.int .i64 0)] [(0, 3, (.tmp 21))]⟩,
 kP 23 29 3 24 20 22,
 kA 24 2 1,
 kS 24 23 1]))
 (K.skip)))))
theorem cNote : compile Tryz.prog Tryz.f44.ntmps (Tryz.f44.body.getD .skip) = some KNote.erase := by kernel_rfl
@[simp] theorem calNote : callable Tryz.prog 44 = true := by kernel_rfl
def ENote : Entry := ⟨KNote, [], false⟩
theorem eokNote : EntryOk Tryz.prog 44 ENote := ⟨calNote, _, _, noHint, Tryz.func44, rfl, cNote, by kernel_rfl⟩
def KDef : K :=
 K.seq (K.ops [kO 2 0,
 kO 3 1,
 kZ 4 kz0,
 kMb 5 false])
 (K.seq (K.ops [kA 7 2 1,
 kL 8 7 1,
 ⟨none, .clo (some 9) 90 [] [(.tmp 3)]⟩,
 kC 10 89 [(.tmp 8), (.tmp 9)],
 kM 6 10])
 (K.seq (K.seq (K.ops [kM 11 6,
 kBi 12 11 0 .lss])
 (K.cond (.tmp 12)
 (K.seq (K.ops [⟨none, .build (some 13) kz0 []⟩,
 kS 4 13 31,
 kMb 5 false])
 (K.ret))
 (K.skip)))
 (K.seq (K.ops [kA 14 2 1,
 kL 15 14 1,
 kM 16 6,
 kX 17 15 16 31,
 kG 18 17 31,
 kS 4 18 31,
 kMb 5 true])
 (K.ret))))
theorem cDef : compile Tryz.prog Tryz.f42.ntmps (Tryz.f42.body.getD .skip) = some KDef.erase := by kernel_rfl
@[simp] theorem calDef : callable Tryz.prog 42 = true := by kernel_rfl
def EDef : Entry := ⟨KDef, [.cell 4 31 true, .slot 5], false⟩
theorem eokDef : EntryOk Tryz.prog 42 EDef := ⟨calDef, _, _, noHint, Tryz.func42, rfl, cDef, by kernel_rfl⟩
def KIdxD : K :=
 K.seq (K.ops [kMi 4 0])
 (K.seq (K.seq (K.ops [kM 6 0,
 kN 7 6,
 kMi 8 0])
 (K.block 0 (K.loop (K.seq (K.ops [kB 9 8 7 .lss])
 (K.seq (K.cond (.tmp 9)
 (K.skip)
 (K.exit 0))
 (K.seq (K.block 1 (K.seq (K.ops [kM 10 8,
 kM 5 10])
 (K.seq (K.ops [kM 11 1,
 kM 12 0,
 kM 13 5,
 kX 14 12 13 31,
 kG 15 14 31,
 ⟨none, .call (some 16) (.tmp 11) [(.tmp 15)]⟩])
 (K.cond (.tmp 16)
 (K.seq (K.ops [kM 17 5,
 kM 4 17])
 (K.ret))
 (K.skip)))))
 (K.ops [kBi 18 8 1 .add,
 kM 8 18])))))))
 (K.seq (K.ops [⟨none, .mov (some 4) (.const (.int .i64 (-1)))⟩])
 (K.ret)))
theorem cIdxD : compile Tryz.prog Tryz.f89.ntmps (Tryz.f89.body.getD .skip) = some KIdxD.erase := by kernel_rfl
@[simp] theorem calIdxD : callable Tryz.prog 89 = true := by kernel_rfl
def EIdxD : Entry := ⟨KIdxD, [.slot 4], false⟩
theorem eokIdxD : EntryOk Tryz.prog 89 EIdxD := ⟨calIdxD, _, _, noHint, Tryz.func89, rfl, cIdxD, by kernel_rfl⟩
def KDef1 : K :=
 K.seq (K.ops [kO 2 0,
 kMb 3 false])
 (K.seq (K.ops [kA 4 2 0,
 kG 5 4 3,
 kG 6 1 3,
 ⟨none, .eqs (some 7) false [.i, .i, .i] (.tmp 5) (.tmp 6)⟩,
 kM 3 7])
 (K.ret))
theorem cDef1 : compile Tryz.prog Tryz.f90.ntmps (Tryz.f90.body.getD .skip) = some KDef1.erase := by kernel_rfl
@[simp] theorem calDef1 : callable Tryz.prog 90 = true := by kernel_rfl
def EDef1 : Entry := ⟨KDef1, [.slot 3], false⟩
theorem eokDef1 : EntryOk Tryz.prog 90 EDef1 := ⟨calDef1, _, _, noHint, Tryz.func90, rfl, cDef1, by kernel_rfl⟩
def KBodied : K :=
 K.seq (K.ops [kO 1 0,
 kMb 2 false])
 (K.seq (K.ops [kA 3 1 3,
 kL 4 3 1,
 kQi 5 4 2 false,
 kM 6 5,
 kT 6 false (kA 7 1 3),
 kT 6 false (kL 8 7 1),
 kT 6 false (kQi 9 8 3 false),
 kPt 10 6 9,
 kM 11 10,
 kT 11 false (kA 12 1 3),
 kT 11 false (kL 13 12 1),
 kT 11 false (kQi 14 13 4 false),
 kPt 15 11 14,
 kM 16 15,
 kT 16 false (kA 17 1 3),
 kT 16 false (kL 18 17 1),
 kT 16 false (kQi 19 18 5 false),
 kPt 20 16 19,
 kM 2 20])
 (K.ret))
theorem cBodied : compile Tryz.prog Tryz.f43.ntmps (Tryz.f43.body.getD .skip) = some KBodied.erase := by kernel_rfl
@[simp] theorem calBodied : callable Tryz.prog 43 = true := by kernel_rfl
def EBodied : Entry := ⟨KBodied, [.slot 2], false⟩
theorem eokBodied : EntryOk Tryz.prog 43 EBodied := ⟨calBodied, _, _, noHint, Tryz.func43, rfl, cBodied, by kernel_rfl⟩
def KValid : K :=
 K.seq (K.ops [kO 3 0,
 kO 4 1,
 kO 5 2,
 kMb 6 false])
 (K.seq (K.ops [kG 7 5 3,
 kC 8 91 [(.tmp 7)],
 kM 9 8,
 kT 9 true (kG 10 3 2),
 kT 9 true (kG 11 4 5),
 kT 9 true (kG 12 5 3),
 kT 9 true (kC 13 92 [(.tmp 10), (.tmp 11), (.tmp 12)]),
 kPf 14 9 13,
 kM 6 14])
 (K.ret))
theorem cValid : compile Tryz.prog Tryz.f45.ntmps (Tryz.f45.body.getD .skip) = some KValid.erase := by kernel_rfl
@[simp] theorem calValid : callable Tryz.prog 45 = true := by kernel_rfl
def EValid : Entry := ⟨KValid, [.slot 6], false⟩
theorem eokValid : EntryOk Tryz.prog 45 EValid := ⟨calValid, _, _, noHint, Tryz.func45, rfl, cValid, by kernel_rfl⟩
def KSmall : K :=
 K.seq (K.ops [kO 1 0,
 kMb 2 false])
 (K.seq (K.ops [kZ 3 [(.int .i64 0)],
 ⟨none, .st none (.tmp 3) (.const (.int .i64 256)) 1⟩])
 (K.seq (K.ops [kZ 4 [.nilFunc]])
 (K.seq (K.ops [⟨none, .clo (some 5) 124 [] [(.tmp 3), (.tmp 4)]⟩,
 kS 4 5 1])
 (K.seq (K.ops [kL 6 4 1,
 kG 7 1 3,
 ⟨none, .call (some 8) (.tmp 6) [(.tmp 7), (.const (.int .i64 1))]⟩,
 kM 2 8])
 (K.ret)))))
theorem cSmall : compile Tryz.prog Tryz.f91.ntmps (Tryz.f91.body.getD .skip) = some KSmall.erase := by kernel_rfl
@[simp] theorem calSmall : callable Tryz.prog 91 = true := by kernel_rfl
def ESmall : Entry := ⟨KSmall, [.slot 2], false⟩
theorem eokSmall : EntryOk Tryz.prog 91 ESmall := ⟨calSmall, _, _, noHint, Tryz.func91, rfl, cSmall, by kernel_rfl⟩
def KSmall1 : K :=
 K.seq (K.ops [kO 4 0,
 kO 5 1,
 kMb 6 false])
 (K.seq (K.ops [kL 7 2 1,
 kBi 8 7 1 .sub,
 kS 2 8 1])
 (K.seq (K.ops [kL 9 2 1,
 kBi 10 9 0 .geq,
 kM 11 10,
 kT 11 true (kL 12 5 1),
 kT 11 true (kBi 13 12 24 .leq),
 kPf 14 11 13,
 kM 15 14,
 kT 15 true (kA 16 4 2),
 kT 15 true (kL 17 16 1),
 ⟨some (15, true), .clo (some 18) 126 [] [(.tmp 3), (.tmp 5)]⟩,
 kT 15 true (kC 19 125 [(.tmp 17), (.tmp 18)]),
 kT 15 true (kR 20 19),
 kPf 21 15 20,
 kM 6 21])
 (K.ret)))
theorem cSmall1 : compile Tryz.prog Tryz.f124.ntmps (Tryz.f124.body.getD .skip) = some KSmall1.erase := by kernel_rfl
@[simp] theorem calSmall1 : callable Tryz.prog 124 = true := by kernel_rfl
def ESmall1 : Entry := ⟨KSmall1, [.slot 6], false⟩
theorem eokSmall1 : EntryOk Tryz.prog 124 ESmall1 := ⟨calSmall1, _, _, noHint, Tryz.func124, rfl, cSmall1, by kernel_rfl⟩
def KConV : K :=
 K.seq (K.ops [kMb 4 false])
 (K.seq (K.ops [kM 5 0,
 kM 6 1,
 kC 7 143 [(.tmp 5), (.tmp 6)],
 kBi 8 7 0 .geq,
 kM 4 8])
 (K.ret))
theorem cConV : compile Tryz.prog Tryz.f125.ntmps (Tryz.f125.body.getD .skip) = some KConV.erase := by kernel_rfl
@[simp] theorem calConV : callable Tryz.prog 125 = true := by kernel_rfl
def EConV : Entry := ⟨KConV, [.slot 4], false⟩
theorem eokConV : EntryOk Tryz.prog 125 EConV := ⟨calConV, _, _, noHint, Tryz.func125, rfl, cConV, by kernel_rfl⟩
def KIdxV : K :=
 K.seq (K.ops [kMi 4 0])
 (K.seq (K.seq (K.ops [kM 6 0,
 kN 7 6,
 kMi 8 0])
 (K.block 0 (K.loop (K.seq (K.ops [kB 9 8 7 .lss])
 (K.seq (K.cond (.tmp 9)
 (K.skip)
 (K.exit 0))
 (K.seq (K.block 1 (K.seq (K.ops [kM 10 8,
 kM 5 10])
 (K.seq (K.ops [kM 11 1,
 kM 12 0,
 kM 13 5,
 kX 14 12 13 3,
 kG 15 14 3,
 ⟨none, .call (some 16) (.tmp 11) [(.tmp 15)]⟩])
 (K.cond (.tmp 16)
 (K.seq (K.ops [kM 17 5,
 kM 4 17])
 (K.ret))
 (K.skip)))))
 (K.ops [kBi 18 8 1 .add,
 kM 8 18])))))))
 (K.seq (K.ops [⟨none, .mov (some 4) (.const (.int .i64 (-1)))⟩])
 (K.ret)))
theorem cIdxV : compile Tryz.prog Tryz.f143.ntmps (Tryz.f143.body.getD .skip) = some KIdxV.erase := by kernel_rfl
@[simp] theorem calIdxV : callable Tryz.prog 143 = true := by kernel_rfl
def EIdxV : Entry := ⟨KIdxV, [.slot 4], false⟩
theorem eokIdxV : EntryOk Tryz.prog 143 EIdxV := ⟨calIdxV, _, _, noHint, Tryz.func143, rfl, cIdxV, by kernel_rfl⟩
def KSmall11 : K :=
 K.seq (K.ops [kO 3 0,
 kMb 4 false])
 (K.seq (K.ops [kL 5 1 1,
 kG 6 3 3,
 kL 7 2 1,
 kBi 8 7 1 .add,
 ⟨none, .call (some 9) (.tmp 5) [(.tmp 6), (.tmp 8)]⟩,
 kR 10 9,
 kM 4 10])
 (K.ret))
theorem cSmall11 : compile Tryz.prog Tryz.f126.ntmps (Tryz.f126.body.getD .skip) = some KSmall11.erase := by kernel_rfl
@[simp] theorem calSmall11 : callable Tryz.prog 126 = true := by kernel_rfl
def ESmall11 : Entry := ⟨KSmall11, [.slot 4], false⟩
theorem eokSmall11 : EntryOk Tryz.prog 126 ESmall11 := ⟨calSmall11, _, _, noHint, Tryz.func126, rfl, cSmall11, by kernel_rfl⟩
def KFits : K :=
 K.seq (K.ops [kO 3 0,
 kO 4 1,
 kO 5 2,
 kMb 6 false])
 (K.seq (K.seq (K.ops [kG 11 3 2,
 kG 12 4 5,
 kC 13 127 [(.tmp 11), (.tmp 12)],
 kR 14 13])
 (K.cond (.tmp 14)
 (K.seq (K.ops [kMb 6 false])
 (K.ret))
 (K.skip)))
 (K.seq (K.seq (K.ops [kA 15 4 0,
 kL 16 15 1])
 (K.block 0 (K.seq (K.ops [kQi 18 16 0 false,
 kM 17 18])
 (K.cond (.tmp 17)
 (K.seq (K.ops [kA 19 5 0,
 kL 20 19 1,
 kQi 21 20 0 false,
 kM 22 21,
 kT 22 true (kA 23 5 2),
 kT 22 true (kL 24 23 1),
 kT 22 true (kN 25 24),
 kT 22 true (kQi 26 25 0 false),
 kPf 27 22 26,
 kM 28 27,
 kT 28 true (kA 29 5 1),
 kT 28 true (kL 30 29 1),
 ⟨some (28, true), .bin (some 31) .geq (.tmp 30) (.const (.int .i64 (-1099511627776)))⟩,
 kPf 32 28 31,
 kM 33 32,
 kT 33 true (kA 34 5 1),
 kT 33 true (kL 35 34 1),
 kT 33 true (kBi 36 35 1099511627776 .leq),
 kPf 37 33 36,
 kM 6 37])
 (K.ret))
 (K.seq (K.ops [kQi 39 16 1 false,
 kM 38 39])
 (K.cond (.tmp 38)
 (K.seq (K.ops [kA 40 5 0,
 kL 41 40 1,
 kQi 42 41 1 false,
 kM 43 42,
 kT 43 true (kA 44 5 2),
 kT 43 true (kL 45 44 1),
 kT 43 true (kN 46 45),
 kT 43 true (kQi 47 46 0 false),
 kPf 48 43 47,
 kM 49 48,
 kT 49 true (kA 50 5 1),
 kT 49 true (kL 51 50 1),
 kT 49 true (kQi 52 51 0 false),
 kT 49 true (kM 53 52),
 kT 53 false (kA 54 5 1),
 kT 53 false (kL 55 54 1),
 kT 53 false (kQi 56 55 1 false),
 kT 49 true (kPt 57 53 56),
 kPf 58 49 57,
 kM 6 58])
 (K.ret))
 (K.seq (K.ops [kQi 60 16 2 false,
 kM 59 60])
 (K.cond (.tmp 59)
 (K.seq (K.ops [kA 61 5 0,
 kL 62 61 1,
 kQi 63 62 4 false,
 kM 64 63,
 kT 64 true (kA 65 5 1),
 kT 64 true (kL 66 65 1),
 kT 64 true (kQi 67 66 0 false),
 kPf 68 64 67,
 kM 69 68,
 kT 69 true (kA 70 5 2),
 kT 69 true (kL 71 70 1),
 ⟨some (69, true), .clo (some 72) 128 [] [(.tmp 3), (.tmp 4)]⟩,
 kT 69 true (kC 73 125 [(.tmp 71), (.tmp 72)]),
 kT 69 true (kR 74 73),
 kPf 75 69 74,
 kM 6 75])
 (K.ret))
 (K.skip)))))))))
 (K.seq (K.ops [kG 77 3 2,
 kA 78 4 1,
 kG 79 78 3,
 kC 80 42 [(.tmp 77), (.tmp 79)],
 kM 76 80,
 kE 81 76 0,
 kE 82 76 1,
 kZ 7 kz0,
 kS 7 81 31,
 kM 8 82])
 (K.seq (K.seq (K.ops [kA 83 7 3,
 kL 84 83 1,
 kQi 85 84 1 false])
 (K.cond (.tmp 85)
 (K.seq (K.dops [(0, 0, kA 86 5 0),
 (1, 0, kL 87 86 1),
 (2, 0, kQi 88 87 3 false),
 (3, 0, kM 89 88),
 (4, 0, kT 89 true (kA 90 5 1)),
 (5, 0, kT 89 true (kL 91 90 1)),
 (6, 0, kT 89 true (kBi 92 91 0 .geq)),
 (7, 0, kPf 93 89 92),
 (8, 0, kM 94 93),
 (9, 0, kT 94 true (kA 95 5 1)),
 (10, 0, kT 94 true (kL 96 95 1)),
 (11, 0, kT 94 true (kA 97 7 8)),
 (12, 0, kT 94 true (kL 98 97 1)),
 (13, 0, kT 94 true (kN 99 98)),
 (14, 0, kT 94 true (kB 100 96 99 .lss)),
 (15, 0, kPf 101 94 100),
 (16, 0, kM 102 101),
 (17, 0, kT 102 true (kA 103 5 2)),
 (18, 0, kT 102 true (kL 104 103 1)),
 (19, 0, kT 102 true (kN 105 104)),
 (20, 0, kT 102 true (kQi 106 105 1 false)),
 (21, 0, kPf 107 102 106),
 (22, 0, kM 108 107),
 (23, 0, kT 108 true (kG 109 3 2)),
 (24, 0, kT 108 true (kA 110 7 8)),
 (25, 0, kT 108 true (kL 111 110 1)),
 (26, 0, kT 108 true (kA 112 5 1)),
 (27, 0, kT 108 true (kL 113 112 1)),
 (28, 0, kT 108 true (kX 114 111 113 11)),
 (29, 0, kT 108 true (kA 115 114 4)),
 (30, 0, kT 108 true (kG 116 115 5)),
 (31, 0, kT 108 true (kA 117 5 2)),
 (32, 0, kT 108 true (kL 118 117 1)),
 (33, 0, kT 108 true (kXi 119 118 3 0)),
 (34, 0, kT 108 true (kG 120 119 3)),
 (35, 0, kT 108 true (kC 121 92 [(.tmp 109), (.tmp 116), (.tmp 120)])),
 (36, 0, kPf 122 108 121),
 (37, 0, kM 6 122)])
 (K.ret))
 (K.skip)))
 (K.seq (K.seq (K.ops [kA 123 5 0,
 kL 124 123 1,
 kQi 125 124 2 true,
 kM 126 125,
 kT 126 false (kA 127 5 1),
 kT 126 false (kL 128 127 1),
 kT 126 false (kQi 129 128 0 true),
 kPt 130 126 129,
 kM 131 130,
 kT 131 false (kA 132 5 2),
 kT 131 false (kL 133 132 1),
 kT 131 false (kN 134 133),
 kT 131 false (kA 135 7 8),
 kT 131 false (kL 136 135 1),
 kT 131 false (kN 137 136),
 kT 131 false (kQ 138 134 137 true),
 kPt 139 131 138])
 (K.cond (.tmp 139)
 (K.seq (K.ops [kMb 6 false])
 (K.ret))
 (K.skip)))
 (K.seq (K.seq (K.ops [kA 140 5 2,
 kL 141 140 1,
 kN 142 141,
 kMi 143 0])
 (K.block 1 (K.loop (K.seq (K.ops [kB 144 143 142 .lss])
 (K.seq (K.cond (.tmp 144)
 (K.skip)
 (K.exit 1))
 (K.seq (K.block 2 (K.seq (K.ops [kM 145 143,
 kX 146 141 143 3,
 kG 147 146 3,
 kZ 10 [(.int .i64 0), (.int .i64 0), (.slice none 0 0)],
 kM 9 145,
 kS 10 147 3])
 (K.seq (K.dops [(0, 0, kG 148 3 2),
 (1, 0, kA 149 7 8),
 (2, 0, kL 150 149 1),
 (3, 0, kM 151 9),
 (4, 0, kX 152 150 151 11),
 (5, 0, kA 153 152 4),
 (6, 0, kG 154 153 5),
 (7, 0, kG 155 10 3),
 (8, 0, kC 156 92 [(.tmp 148), (.tmp 154), (.tmp 155)]),
 (9, 0, kR 157 156)])
 (K.cond (.tmp 157)
 (K.seq (K.ops [kMb 6 false])
 (K.ret))
 (K.skip)))))
 (K.ops [kBi 158 143 1 .add,
 kM 143 158])))))))
 (K.seq (K.ops [kMb 6 true])
 (K.ret))))))))
theorem cFits : compile Tryz.prog Tryz.f92.ntmps (Tryz.f92.body.getD .skip) = some KFits.erase := by kernel_rfl
@[simp] theorem calFits : callable Tryz.prog 92 = true := by kernel_rfl
def EFits : Entry := ⟨KFits, [.slot 6], false⟩
theorem eokFits : EntryOk Tryz.prog 92 EFits := ⟨calFits, _, _, noHint, Tryz.func92, rfl, cFits, by kernel_rfl⟩
def KFits1 : K :=
 K.seq (K.ops [kO 3 0,
 kMb 4 false])
 (K.seq (K.dops [(0, 0, kG 5 1 2),
 (1, 0, kA 6 2 4),
 (2, 0, kL 7 6 1),
 (3, 0, kXi 8 7 5 0),
 (4, 0, kG 9 8 5),
 (5, 0, kG 10 3 3),
 (6, 0, kC 11 92 [(.tmp 5), (.tmp 9), (.tmp 10)]),
 (7, 0, kR 12 11),
 (8, 0, kM 4 12)])
 (K.ret))
theorem cFits1 : compile Tryz.prog Tryz.f128.ntmps (Tryz.f128.body.getD .skip) = some KFits1.erase := by kernel_rfl
@[simp] theorem calFits1 : callable Tryz.prog 128 = true := by kernel_rfl
def EFits1 : Entry := ⟨KFits1, [.slot 4], false⟩
theorem eokFits1 : EntryOk Tryz.prog 128 EFits1 := ⟨calFits1, _, _, noHint, Tryz.func128, rfl, cFits1, by kernel_rfl⟩
def KVTyp : K :=
 K.seq (K.ops [kO 2 0,
 kO 3 1,
 kMb 4 false])
 (K.seq (K.seq (K.ops [kMi 5 1])
 (K.block 0 (K.loop (K.seq (K.seq (K.ops [kM 8 5,
 kBi 9 8 24 .leq])
 (K.cond (.tmp 9)
 (K.skip)
 (K.exit 0)))
 (K.seq (K.block 1 (K.seq (K.ops [kA 12 3 0,
 kL 13 12 1])
 (K.block 2 (K.seq (K.seq (K.ops [kQi 15 13 0 false,
 kM 14 15])
 (K.cond (.tmp 14)
 (K.skip)
 (K.ops [kQi 16 13 1 false,
 kM 14 16])))
 (K.cond (.tmp 14)
 (K.seq (K.ops [kA 17 3 1,
 kG 18 17 3,
 ⟨none, .build (some 19) [(.int .i64 0), (.int .i64 0), (.int .i64 0)] []⟩,
 ⟨none, .eqs (some 20) false [.i, .i, .i] (.tmp 18) (.tmp 19)⟩,
 kM 21 20,
 kT 21 true (kA 22 3 4),
 kT 21 true (kL 23 22 1),
 kT 21 true (kN 24 23),
 kT 21 true (kQi 25 24 0 false),
 kPf 26 21 25,
 kM 4 26])
 (K.ret))
 (K.seq (K.ops [kQi 28 13 3 false,
 kM 27 28])
 (K.cond (.tmp 27)
 (K.seq (K.ops [kG 30 2 2,
 kA 31 3 1,
 kG 32 31 3,
 kC 33 42 [(.tmp 30), (.tmp 32)],
 kM 29 33,
 kE 34 29 0,
 kE 35 29 1,
 kZ 6 kz0,
 kS 6 34 31,
 kM 7 35])
 (K.seq (K.ops [kM 36 7,
 kM 37 36,
 kT 37 true (kA 38 6 3),
 kT 37 true (kL 39 38 1),
 kT 37 true (kQi 40 39 0 false),
 kT 37 true (kM 41 40),
 kT 41 false (kA 42 6 3),
 kT 41 false (kL 43 42 1),
 kT 41 false (kQi 44 43 1 false),
 kT 37 true (kPt 45 41 44),
 kPf 46 37 45,
 kM 47 46,
 kT 47 true (kA 48 3 4),
 kT 47 true (kL 49 48 1),
 kT 47 true (kN 50 49),
 kT 47 true (kQi 51 50 0 false),
 kPf 52 47 51,
 kM 4 52])
 (K.ret)))
 (K.seq (K.ops [kQi 54 13 2 false,
 kM 53 54])
 (K.cond (.tmp 53)
 (K.seq (K.seq (K.ops [kA 55 3 1,
 kG 56 55 3,
 ⟨none, .build (some 57) [(.int .i64 0), (.int .i64 0), (.int .i64 0)] []⟩,
 ⟨none, .eqs (some 58) true [.i, .i, .i] (.tmp 56) (.tmp 57)⟩,
 kM 59 58,
 kT 59 false (kA 60 3 4),
 kT 59 false (kL 61 60 1),
 kT 59 false (kN 62 61),
 kT 59 false (kQi 63 62 1 true),
 kPt 64 59 63])
 (K.cond (.tmp 64)
 (K.seq (K.ops [kMb 4 false])
 (K.ret))
 (K.skip)))
 (K.ops [kA 65 3 4,
 kL 66 65 1,
 kXi 67 66 5 0,
 kG 68 67 5,
 kS 3 68 5]))
 (K.seq (K.ops [kMb 4 false])
 (K.ret)))))))))))
 (K.ops [kM 10 5,
 kBi 11 10 1 .add,
 kM 5 11]))))))
 (K.seq (K.ops [kMb 4 false])
 (K.ret)))
theorem cVTyp : compile Tryz.prog Tryz.f127.ntmps (Tryz.f127.body.getD .skip) = some KVTyp.erase := by kernel_rfl
@[simp] theorem calVTyp : callable Tryz.prog 127 = true := by kernel_rfl
def EVTyp : Entry := ⟨KVTyp, [.slot 4], false⟩
theorem eokVTyp : EntryOk Tryz.prog 127 EVTyp := ⟨calVTyp, _, _, noHint, Tryz.func127, rfl, cVTyp, by kernel_rfl⟩
def KReach : K :=
 K.seq (K.ops [kO 4 1])
 (K.seq (K.seq (K.ops [kA 12 4 4,
 kL 13 12 1,
 kN 14 13,
 kMi 15 0])
 (K.block 0 (K.loop (K.seq (K.ops [kB 16 15 14 .lss])
 (K.seq (K.cond (.tmp 16)
 (K.skip)
 (K.exit 0))
 (K.seq (K.block 1 (K.seq (K.ops [kX 17 13 15 5,
 kG 18 17 5,
 kZ 7 kz2,
 kS 7 18 5])
 (K.ops [kM 19 0,
 kG 20 7 5,
 kM 21 2,
 kC 22 46 [(.tmp 19), (.tmp 20), (.tmp 21)]])))
 (K.ops [kBi 23 15 1 .add,
 kM 15 23])))))))
 (K.seq (K.seq (K.ops [kA 24 4 0,
 kL 25 24 1,
 kQi 26 25 3 true,
 kM 27 26,
 kT 27 false (kM 28 2),
 kT 27 false (kA 29 4 1),
 kT 27 false (kG 30 29 3),
 ⟨some (27, false), .mop (some 31) (.get 3 (.bool false) false) [(.tmp 28), (.tmp 30)]⟩,
 kPt 32 27 31])
 (K.cond (.tmp 32)
 (K.ret)
 (K.skip)))
 (K.seq (K.ops [kM 33 2,
 kA 34 4 1,
 kG 35 34 3,
 ⟨none, .mop none (.set 3) [(.tmp 33), (.tmp 35), (.const (.bool true))]⟩])
 (K.seq (K.dops [(0, 0, kM 37 0),
 (1, 0, kU 38 37),
 (2, 1, kA 39 38 0),
 (3, 1, kG 40 39 2),
 (4, 1, kA 41 4 1),
 (5, 1, kG 42 41 3),
 (6, 1, kC 43 42 [(.tmp 40), (.tmp 42)]),
 (7, 0, kM 36 43),
 (8, 0, kE 44 36 0),
 (9, 0, kE 45 36 1),
 (10, 0, kZ 8 kz0),
 (11, 0, kS 8 44 31),
 (12, 0, kM 9 45)])
 (K.seq (K.ops [kM 46 9])
 (K.cond (.tmp 46)
 (K.seq (K.dops [(0, 0, kM 47 0),
 (1, 0, kU 48 47),
 (2, 0, kA 49 48 4),
 (3, 0, kL 50 49 1),
 (4, 0, kA 51 8 0),
 (5, 0, kG 52 51 3),
 (6, 4, ⟨none, .call (some 53) (.tmp 50) [(.const (.bool true)), (.tmp 52)]⟩)])
 (K.seq (K.ops [kA 54 8 8,
 kL 55 54 1,
 kN 56 55,
 kMi 57 0])
 (K.block 2 (K.loop (K.seq (K.ops [kB 58 57 56 .lss])
 (K.seq (K.cond (.tmp 58)
 (K.skip)
 (K.exit 2))
 (K.seq (K.block 3 (K.seq (K.ops [kX 59 55 57 11,
 kG 60 59 11,
 kZ 11 kz5,
 kS 11 60 11])
 (K.ops [kM 61 0,
 kA 62 11 4,
 kG 63 62 5,
 kM 64 2,
 kC 65 46 [(.tmp 61), (.tmp 63), (.tmp 64)]])))
 (K.ops [kBi 66 57 1 .add,
 kM 57 66]))))))))
 (K.skip)))))))
def hReach : Nat → Option (List (Nat × Nat)) := fun r => match r with | 10 => some [(0,0),(1,0),(2,0),(3,0),(4,0),(5,0),(6,4)] | _ => none
theorem cReach : compileH Tryz.prog Tryz.f46.ntmps hReach (Tryz.f46.body.getD .skip) = some KReach.erase := by kernel_rfl
@[simp] theorem calReach : callable Tryz.prog 46 = true := by kernel_rfl
def EReach : Entry := ⟨KReach, [], false⟩
theorem eokReach : EntryOk Tryz.prog 46 EReach := ⟨calReach, _, _, hReach, Tryz.func46, rfl, cReach, by kernel_rfl⟩
def KBody : K :=
 K.seq (K.ops [kO 4 1,
 kZ 6 [(.int .i64 0), (.int .i64 0), (.slice none 0 0)]])
 (K.seq (K.seq (K.ops [kM 10 0,
 kU 11 10,
 kA 12 11 3,
 kL 13 12 1,
 kQi 14 13 0 true])
 (K.cond (.tmp 14)
 (K.seq (K.ops [⟨none, .build (some 15) [(.int .i64 0), (.int .i64 0), (.slice none 0 0)] []⟩,
 kS 6 15 3])
 (K.ret))
 (K.skip)))
 (K.seq (K.dops [(0, 0, kM 16 0),
 (1, 0, kU 17 16),
 (2, 0, kA 18 17 4),
 (3, 0, kL 19 18 1),
 (4, 0, kA 20 4 0),
 (5, 0, kG 21 20 3),
 (6, 4, ⟨none, .call (some 22) (.tmp 19) [(.const (.bool true)), (.tmp 21)]⟩)])
 (K.seq (K.ops [⟨none, .mop (some 23) (.mk 4) []⟩,
 kM 7 23])
 (K.seq (K.seq (K.ops [kA 24 4 8,
 kL 25 24 1,
 kN 26 25,
 kMi 27 0])
 (K.block 0 (K.loop (K.seq (K.ops [kB 28 27 26 .lss])
 (K.seq (K.cond (.tmp 28)
 (K.skip)
 (K.exit 0))
 (K.seq (K.block 1 (K.seq (K.ops [kM 29 27,
 kX 30 25 27 11,
 kG 31 30 11,
 kZ 9 kz5,
 kM 8 29,
 kS 9 31 11])
 (K.dops [(0, 0, kM 32 7),
 (1, 0, kA 33 9 0),
 (2, 0, kG 34 33 3),
 (3, 0, ⟨none, .build (some 35) kz10 [(0, 3, (.tmp 34)), (3, 1, (.const (.int .i64 0)))]⟩),
 (4, 0, kM 36 2),
 (5, 0, kM 37 8),
 (6, 0, kX 38 36 37 3),
 (7, 0, kG 39 38 3),
 (8, 0, ⟨none, .mop none (.set 4) [(.tmp 32), (.tmp 35), (.tmp 39)]⟩)])))
 (K.ops [kBi 40 27 1 .add,
 kM 27 40])))))))
 (K.seq (K.ops [kM 41 0,
 kA 42 4 14,
 kG 43 42 15,
 kM 44 7,
 kC 45 93 [(.tmp 41), (.tmp 43), (.tmp 44)],
 kS 6 45 3])
 (K.ret))))))
def hBody : Nat → Option (List (Nat × Nat)) := fun r => match r with | 3 => some [(0,0),(1,0),(2,0),(3,0),(4,0),(5,0),(6,4)] | _ => none
theorem cBody : compileH Tryz.prog Tryz.f47.ntmps hBody (Tryz.f47.body.getD .skip) = some KBody.erase := by kernel_rfl
@[simp] theorem calBody : callable Tryz.prog 47 = true := by kernel_rfl
def EBody : Entry := ⟨KBody, [.cell 6 3 true], true⟩
theorem eokBody : EntryOk Tryz.prog 47 EBody := ⟨calBody, _, _, hBody, Tryz.func47, rfl, cBody, by kernel_rfl⟩
def KEval : K :=
 K.seq (K.ops [kO 4 1,
 kZ 6 [(.int .i64 0), (.int .i64 0), (.slice none 0 0)]])
 (K.seq (K.seq (K.ops [kM 8 0,
 kU 9 8,
 kA 10 9 3,
 kL 11 10 1,
 kQi 12 11 0 true])
 (K.cond (.tmp 12)
 (K.seq (K.ops [⟨none, .build (some 13) [(.int .i64 0), (.int .i64 0), (.slice none 0 0)] []⟩,
 kS 6 13 3])
 (K.ret))
 (K.skip)))
 (K.seq (K.seq (K.ops [kM 14 0,
 kU 15 14,
 kA 16 15 2,
 kL 17 16 1,
 kBi 18 17 0 .leq])
 (K.cond (.tmp 18)
 (K.seq (K.ops [kM 19 0,
 kU 20 19,
 kA 21 20 3,
 ⟨none, .st none (.tmp 21) (.const (.int .i64 18)) 1⟩])
 (K.seq (K.ops [⟨none, .build (some 22) [(.int .i64 0), (.int .i64 0), (.slice none 0 0)] []⟩,
 kS 6 22 3])
 (K.ret)))
 (K.skip)))
 (K.seq (K.ops [kM 23 0,
 kU 24 23,
 kA 25 24 2,
 kL 26 25 1,
 kBi 27 26 1 .sub,
 kU 28 23,
 kA 29 28 2,
 kS 29 27 1])
 (K.seq (K.dops [(0, 0, kM 30 0),
 (1, 0, kU 31 30),
 (2, 0, kA 32 31 4),
 (3, 0, kL 33 32 1),
 (4, 0, kA 34 4 0),
 (5, 0, kG 35 34 3),
 (6, 4, ⟨none, .call (some 36) (.tmp 33) [(.const (.bool false)), (.tmp 35)]⟩)])
 (K.seq (K.ops [kM 37 0,
 kG 38 4 15,
 kM 39 2,
 kC 40 129 [(.tmp 37), (.tmp 38), (.tmp 39)],
 kZ 7 [(.int .i64 0), (.int .i64 0), (.slice none 0 0)],
 kS 7 40 3])
 (K.seq (K.seq (K.ops [kM 41 0,
 kU 42 41,
 kA 43 42 3,
 kL 44 43 1,
 kQi 45 44 0 false,
 kM 46 45,
 kT 46 true (kG 47 7 3),
 kT 46 true (kC 48 130 [(.tmp 47)]),
 kT 46 true (kBi 49 48 256 .gtr),
 kT 46 true (kM 50 49),
 kT 50 false (kG 51 7 3),
 kT 50 false (kC 52 131 [(.tmp 51)]),
 kT 50 false (kBi 53 52 24 .gtr),
 kT 46 true (kPt 54 50 53),
 kPf 55 46 54])
 (K.cond (.tmp 55)
 (K.ops [kM 56 0,
 kU 57 56,
 kA 58 57 3,
 ⟨none, .st none (.tmp 58) (.const (.int .i64 4)) 1⟩])
 (K.skip)))
 (K.seq (K.ops [kG 59 7 3,
 kS 6 59 3])
 (K.ret))))))))
def hEval : Nat → Option (List (Nat × Nat)) := fun r => match r with | 7 => some [(0,0),(1,0),(2,0),(3,0),(4,0),(5,0),(6,4)] | _ => none
theorem cEval : compileH Tryz.prog Tryz.f93.ntmps hEval (Tryz.f93.body.getD .skip) = some KEval.erase := by kernel_rfl
@[simp] theorem calEval : callable Tryz.prog 93 = true := by kernel_rfl
def EEval : Entry := ⟨KEval, [.cell 6 3 true], true⟩
theorem eokEval : EntryOk Tryz.prog 93 EEval := ⟨calEval, _, _, hEval, Tryz.func93, rfl, cEval, by kernel_rfl⟩
def KValue : K :=
 K.seq (K.ops [kO 4 1,
 kZ 6 [(.int .i64 0), (.int .i64 0), (.slice none 0 0)]])
 (K.seq (K.seq (K.ops [kA 12 4 3,
 kL 13 12 1])
 (K.block 0 (K.seq (K.ops [kQi 15 13 0 false,
 kM 14 15])
 (K.cond (.tmp 14)
 (K.seq (K.ops [kA 16 4 4,
 kL 17 16 1,
 ⟨none, .build (some 18) [(.int .i64 0), (.int .i64 0), (.slice none 0 0)] [(0, 1, (.const (.int .i64 0))), (1, 1, (.tmp 17))]⟩,
 kS 6 18 3])
 (K.ret))
 (K.seq (K.ops [kQi 20 13 1 false,
 kM 19 20])
 (K.cond (.tmp 19)
 (K.seq (K.ops [kA 21 4 4,
 kL 22 21 1,
 ⟨none, .build (some 23) [(.int .i64 0), (.int .i64 0), (.slice none 0 0)] [(0, 1, (.const (.int .i64 1))), (1, 1, (.tmp 22))]⟩,
 kS 6 23 3])
 (K.ret))
 (K.seq (K.ops [kQi 25 13 2 false,
 kM 24 25])
 (K.cond (.tmp 24)
 (K.seq (K.ops [kM 26 2,
 kA 27 4 5,
 kG 28 27 3,
 kA 29 4 4,
 kL 30 29 1,
 ⟨none, .build (some 31) kz10 [(0, 3, (.tmp 28)), (3, 1, (.tmp 30))]⟩,
 ⟨none, .mop (some 32) (.get 4 (.agg #[(.int .i64 0), (.int .i64 0), (.slice none 0 0)]) false) [(.tmp 26), (.tmp 31)]⟩,
 kS 6 32 3])
 (K.ret))
 (K.seq (K.seq (K.ops [kQi 34 13 5 false,
 kM 33 34])
 (K.cond (.tmp 33)
 (K.skip)
 (K.seq (K.ops [kQi 35 13 6 false,
 kM 33 35])
 (K.cond (.tmp 33)
 (K.skip)
 (K.seq (K.ops [kQi 36 13 8 false,
 kM 33 36])
 (K.cond (.tmp 33)
 (K.skip)
 (K.seq (K.ops [kQi 37 13 10 false,
 kM 33 37])
 (K.cond (.tmp 33)
 (K.skip)
 (K.ops [kQi 38 13 12 false,
 kM 33 38])))))))))
 (K.cond (.tmp 33)
 (K.seq (K.ops [kM 39 0,
 kG 40 4 15,
 kM 41 2,
 kC 42 144 [(.tmp 39), (.tmp 40), (.tmp 41)],
 kS 6 42 3])
 (K.ret))
 (K.skip)))))))))))
 (K.seq (K.ops [kMn 7])
 (K.seq (K.seq (K.ops [kA 43 4 13,
 kL 44 43 1,
 kN 45 44,
 kMi 46 0])
 (K.block 1 (K.loop (K.seq (K.ops [kB 47 46 45 .lss])
 (K.seq (K.cond (.tmp 47)
 (K.skip)
 (K.exit 1))
 (K.seq (K.block 2 (K.seq (K.ops [kX 48 44 46 15,
 kG 49 48 15,
 kZ 9 kz1,
 kS 9 49 15])
 (K.ops [kM 50 7,
 kM 51 0,
 kG 52 9 15,
 kM 53 2,
 kC 54 93 [(.tmp 51), (.tmp 52), (.tmp 53)],
 ⟨none, .bslice (some 55) 47 3 1 [(.int .i64 0), (.int .i64 0), (.slice none 0 0)] [(0, 3, (.tmp 54))]⟩,
 kP 56 47 3 40 50 55,
 kM 7 56])))
 (K.ops [kBi 57 46 1 .add,
 kM 46 57])))))))
 (K.seq (K.seq (K.wk (K.wk (K.ops [kM 58 0,
 kU 59 58,
 kA 60 59 3,
 kL 61 60 1,
 kQi 62 61 0 true])))
 (K.cond (.tmp 62)
 (K.seq (K.ops [⟨none, .build (some 63) [(.int .i64 0), (.int .i64 0), (.slice none 0 0)] []⟩,
 kS 6 63 3])
 (K.ret))
 (K.skip)))
 (K.seq (K.seq (K.ops [kA 64 4 3,
 kL 65 64 1])
 (K.block 3 (K.seq (K.ops [kQi 67 65 3 false,
 kM 66 67])
 (K.cond (.tmp 66)
 (K.seq (K.dops [(0, 0, kM 69 0),
 (1, 0, kU 70 69),
 (2, 1, kA 71 70 0),
 (3, 1, kG 72 71 2),
 (4, 1, kA 73 4 5),
 (5, 1, kG 74 73 3),
 (6, 1, kC 75 42 [(.tmp 72), (.tmp 74)]),
 (7, 0, kM 68 75),
 (8, 0, kE 76 68 0),
 (9, 0, kE 77 68 1),
 (10, 0, kZ 10 kz0),
 (11, 0, kS 10 76 31),
 (12, 0, kM 11 77)])
 (K.seq (K.ops [kM 78 0,
 kG 79 10 31,
 kM 80 7,
 kC 81 47 [(.tmp 78), (.tmp 79), (.tmp 80)],
 kS 6 81 3])
 (K.ret)))
 (K.seq (K.ops [kQi 83 65 4 false,
 kM 82 83])
 (K.cond (.tmp 82)
 (K.seq (K.ops [kA 84 4 4,
 kL 85 84 1,
 kM 86 7,
 kC 87 145 [(.tmp 85), (.tmp 86)],
 kS 6 87 3])
 (K.ret))
 (K.seq (K.ops [kQi 89 65 7 false,
 kM 88 89])
 (K.cond (.tmp 88)
 (K.seq (K.ops [kM 90 7,
 ⟨none, .build (some 91) [(.int .i64 0), (.int .i64 0), (.slice none 0 0)] [(0, 1, (.const (.int .i64 2))), (2, 1, (.tmp 90))]⟩,
 kS 6 91 3])
 (K.ret))
 (K.seq (K.ops [kQi 93 65 9 false,
 kM 92 93])
 (K.cond (.tmp 92)
 (K.seq (K.ops [kA 94 4 4,
 kL 95 94 1,
 kM 96 7,
 ⟨none, .build (some 97) [(.int .i64 0), (.int .i64 0), (.slice none 0 0)] [(0, 1, (.const (.int .i64 3))), (1, 1, (.tmp 95)), (2, 1, (.tmp 96))]⟩,
 kS 6 97 3])
 (K.ret))
 (K.skip)))))))))))
 (K.seq (K.ops [kM 98 7,
 ⟨none, .build (some 99) [(.int .i64 0), (.int .i64 0), (.slice none 0 0)] [(0, 1, (.const (.int .i64 4))), (2, 1, (.tmp 98))]⟩,
 kS 6 99 3])
 (K.ret)))))))
theorem cValue : compile Tryz.prog Tryz.f129.ntmps (Tryz.f129.body.getD .skip) = some KValue.erase := by kernel_rfl
@[simp] theorem calValue : callable Tryz.prog 129 = true := by kernel_rfl
def EValue : Entry := ⟨KValue, [.cell 6 3 true], true⟩
theorem eokValue : EntryOk Tryz.prog 129 EValue := ⟨calValue, _, _, noHint, Tryz.func129, rfl, cValue, by kernel_rfl⟩
def KBranch : K :=
 K.seq (K.ops [kO 4 1,
 kZ 6 [(.int .i64 0), (.int .i64 0), (.slice none 0 0)]])
 (K.seq (K.ops [kM 13 0,
 kA 14 4 13,
 kL 15 14 1,
 kXi 16 15 15 0,
 kG 17 16 15,
 kM 18 2,
 kC 19 93 [(.tmp 13), (.tmp 17), (.tmp 18)],
 kZ 7 [(.int .i64 0), (.int .i64 0), (.slice none 0 0)],
 kS 7 19 3])
 (K.seq (K.seq (K.ops [kM 20 0,
 kU 21 20,
 kA 22 21 3,
 kL 23 22 1,
 kQi 24 23 0 true])
 (K.cond (.tmp 24)
 (K.seq (K.ops [⟨none, .build (some 25) [(.int .i64 0), (.int .i64 0), (.slice none 0 0)] []⟩,
 kS 6 25 3])
 (K.ret))
 (K.skip)))
 (K.seq (K.seq (K.ops [kA 26 4 3,
 kL 27 26 1])
 (K.block 0 (K.seq (K.ops [kQi 29 27 5 false,
 kM 28 29])
 (K.cond (.tmp 28)
 (K.seq (K.seq (K.ops [kA 30 7 1,
 kL 31 30 1,
 kQi 32 31 1 false])
 (K.cond (.tmp 32)
 (K.seq (K.ops [kM 33 0,
 kA 34 4 13,
 kL 35 34 1,
 kXi 36 35 15 1,
 kG 37 36 15,
 kM 38 2,
 kC 39 93 [(.tmp 33), (.tmp 37), (.tmp 38)],
 kS 6 39 3])
 (K.ret))
 (K.skip)))
 (K.seq (K.ops [kM 40 0,
 kA 41 4 13,
 kL 42 41 1,
 kXi 43 42 15 2,
 kG 44 43 15,
 kM 45 2,
 kC 46 93 [(.tmp 40), (.tmp 44), (.tmp 45)],
 kS 6 46 3])
 (K.ret)))
 (K.seq (K.ops [kQi 48 27 6 false,
 kM 47 48])
 (K.cond (.tmp 47)
 (K.seq (K.dops [(0, 0, kM 49 0),
 (1, 0, kA 50 4 13),
 (2, 0, kL 51 50 1),
 (3, 0, kXi 52 51 15 1),
 (4, 0, kG 53 52 15),
 (5, 0, kM 54 2),
 (6, 0, kA 55 4 0),
 (7, 0, kG 56 55 3),
 (8, 0, ⟨none, .build (some 57) kz10 [(0, 3, (.tmp 56)), (3, 1, (.const (.int .i64 0)))]⟩),
 (9, 0, kG 58 7 3),
 (10, 4, kC 59 166 [(.tmp 49), (.tmp 53), (.tmp 54), (.tmp 57), (.tmp 58)]),
 (11, 0, kS 6 59 3)])
 (K.ret))
 (K.seq (K.ops [kQi 61 27 8 false,
 kM 60 61])
 (K.cond (.tmp 60)
 (K.seq (K.ops [kA 62 7 2,
 kL 63 62 1,
 kA 64 4 4,
 kL 65 64 1,
 kX 66 63 65 3,
 kG 67 66 3,
 kS 6 67 3])
 (K.ret))
 (K.seq (K.ops [kQi 69 27 10 false,
 kM 68 69])
 (K.cond (.tmp 68)
 (K.seq (K.dops [(0, 0, kM 70 0),
 (1, 0, kA 71 4 13),
 (2, 0, kL 72 71 1),
 (3, 0, kA 73 7 1),
 (4, 0, kL 74 73 1),
 (5, 0, ⟨none, .bin (some 75) .add (.const (.int .i64 1)) (.tmp 74)⟩),
 (6, 0, kX 76 72 75 15),
 (7, 0, kG 77 76 15),
 (8, 0, kM 78 2),
 (9, 0, kA 79 4 0),
 (10, 0, kG 80 79 3),
 (11, 0, kA 81 7 1),
 (12, 0, kL 82 81 1),
 (13, 0, ⟨none, .build (some 83) kz10 [(0, 3, (.tmp 80)), (3, 1, (.tmp 82))]⟩),
 (14, 0, kA 84 7 2),
 (15, 0, kL 85 84 1),
 (16, 0, kXi 86 85 3 0),
 (17, 0, kG 87 86 3),
 (18, 4, kC 88 166 [(.tmp 70), (.tmp 77), (.tmp 78), (.tmp 83), (.tmp 87)]),
 (19, 0, kS 6 88 3)])
 (K.ret))
 (K.skip)))))))))))
 (K.seq (K.ops [kM 89 0,
 kA 90 4 13,
 kL 91 90 1,
 kXi 92 91 15 1,
 kG 93 92 15,
 kM 94 2,
 kC 95 93 [(.tmp 89), (.tmp 93), (.tmp 94)],
 kZ 8 [(.int .i64 0), (.int .i64 0), (.slice none 0 0)],
 kS 8 95 3])
 (K.seq (K.seq (K.ops [kA 96 7 2,
 kL 97 96 1,
 kN 98 97,
 kMi 99 0])
 (K.block 1 (K.loop (K.seq (K.ops [kB 100 99 98 .lss])
 (K.seq (K.cond (.tmp 100)
 (K.skip)
 (K.exit 1))
 (K.seq (K.block 2 (K.seq (K.ops [kX 101 97 99 3,
 kG 102 101 3,
 kZ 10 [(.int .i64 0), (.int .i64 0), (.slice none 0 0)],
 kS 10 102 3])
 (K.seq (K.ops [kG 103 8 3,
 kZ 11 [(.int .i64 0), (.int .i64 0), (.slice none 0 0)],
 kS 11 103 3])
 (K.seq (K.ops [kA 104 4 0,
 kG 105 104 3,
 ⟨none, .build (some 106) kz10 [(0, 3, (.tmp 105)), (3, 1, (.const (.int .i64 0)))]⟩,
 kZ 12 kz10,
 kS 12 106 4])
 (K.seq (K.ops [kM 107 2,
 kG 108 12 4,
 kG 109 10 3,
 ⟨none, .mop none (.set 4) [(.tmp 107), (.tmp 108), (.tmp 109)]⟩])
 (K.seq (K.dops [(0, 0, kM 110 0),
 (1, 0, kA 111 4 13),
 (2, 0, kL 112 111 1),
 (3, 0, kXi 113 112 15 2),
 (4, 0, kG 114 113 15),
 (5, 0, kM 115 2),
 (6, 0, kA 116 4 0),
 (7, 0, kG 117 116 3),
 (8, 0, ⟨none, .build (some 118) kz10 [(0, 3, (.tmp 117)), (3, 1, (.const (.int .i64 1)))]⟩),
 (9, 0, kG 119 11 3),
 (10, 4, kC 120 166 [(.tmp 110), (.tmp 114), (.tmp 115), (.tmp 118), (.tmp 119)]),
 (11, 0, kS 8 120 3)])
 (K.ops [kM 121 2,
 kG 122 12 4,
 ⟨none, .mop none (.del 4) [(.tmp 121), (.tmp 122)]⟩])))))))
 (K.ops [kBi 123 99 1 .add,
 kM 99 123])))))))
 (K.seq (K.ops [kG 124 8 3,
 kS 6 124 3])
 (K.ret)))))))
def hBranch : Nat → Option (List (Nat × Nat)) := fun r => match r with | 10 => some [(0,0),(1,0),(2,0),(3,0),(4,0),(5,0),(6,0),(7,0),(8,0),(9,0),(10,4),(11,0)] | 14 => some [(0,0),(1,0),(2,0),(3,0),(4,0),(5,0),(6,0),(7,0),(8,0),(9,0),(10,0),(11,0),(12,0),(13,0),(14,0),(15,0),(16,0),(17,0),(18,4),(19,0)] | 22 => some [(0,0),(1,0),(2,0),(3,0),(4,0),(5,0),(6,0),(7,0),(8,0),(9,0),(10,4),(11,0)] | _ => none
theorem cBranch : compileH Tryz.prog Tryz.f144.ntmps hBranch (Tryz.f144.body.getD .skip) = some KBranch.erase := by kernel_rfl
@[simp] theorem calBranch : callable Tryz.prog 144 = true := by kernel_rfl
def EBranch : Entry := ⟨KBranch, [.cell 6 3 true], true⟩
theorem eokBranch : EntryOk Tryz.prog 144 EBranch := ⟨calBranch, _, _, hBranch, Tryz.func144, rfl, cBranch, by kernel_rfl⟩
def KWith : K :=
 K.seq (K.ops [kO 6 1,
 kO 8 3,
 kO 9 4,
 kZ 10 [(.int .i64 0), (.int .i64 0), (.slice none 0 0)]])
 (K.seq (K.ops [kM 15 2,
 kG 16 8 4,
 ⟨none, .mop (some 17) (.get 4 (.agg #[(.int .i64 0), (.int .i64 0), (.slice none 0 0)]) true) [(.tmp 15), (.tmp 16)]⟩,
 kM 14 17,
 kE 18 14 0,
 kE 19 14 1,
 kZ 11 [(.int .i64 0), (.int .i64 0), (.slice none 0 0)],
 kS 11 18 3,
 kM 12 19])
 (K.seq (K.ops [kM 20 2,
 kG 21 8 4,
 kG 22 9 3,
 ⟨none, .mop none (.set 4) [(.tmp 20), (.tmp 21), (.tmp 22)]⟩])
 (K.seq (K.ops [kM 23 0,
 kG 24 6 15,
 kM 25 2,
 kC 26 93 [(.tmp 23), (.tmp 24), (.tmp 25)],
 kZ 13 [(.int .i64 0), (.int .i64 0), (.slice none 0 0)],
 kS 13 26 3])
 (K.seq (K.ops [kM 27 2,
 kG 28 8 4,
 ⟨none, .mop none (.del 4) [(.tmp 27), (.tmp 28)]⟩])
 (K.seq (K.seq (K.ops [kM 29 12])
 (K.cond (.tmp 29)
 (K.ops [kM 30 2,
 kG 31 8 4,
 kG 32 11 3,
 ⟨none, .mop none (.set 4) [(.tmp 30), (.tmp 31), (.tmp 32)]⟩])
 (K.skip)))
 (K.seq (K.ops [kG 33 13 3,
 kS 10 33 3])
 (K.ret)))))))
theorem cWith : compile Tryz.prog Tryz.f166.ntmps (Tryz.f166.body.getD .skip) = some KWith.erase := by kernel_rfl
@[simp] theorem calWith : callable Tryz.prog 166 = true := by kernel_rfl
def EWith : Entry := ⟨KWith, [.cell 10 3 true], true⟩
theorem eokWith : EntryOk Tryz.prog 166 EWith := ⟨calWith, _, _, noHint, Tryz.func166, rfl, cWith, by kernel_rfl⟩
def KSize : K :=
 K.seq (K.ops [kO 1 0,
 kMi 2 0])
 (K.seq (K.ops [kMi 3 1])
 (K.seq (K.seq (K.ops [kA 6 1 2,
 kL 7 6 1,
 kN 8 7,
 kMi 9 0])
 (K.block 0 (K.loop (K.seq (K.ops [kB 10 9 8 .lss])
 (K.seq (K.cond (.tmp 10)
 (K.skip)
 (K.exit 0))
 (K.seq (K.block 1 (K.seq (K.ops [kX 11 7 9 3,
 kG 12 11 3,
 kZ 5 [(.int .i64 0), (.int .i64 0), (.slice none 0 0)],
 kS 5 12 3])
 (K.ops [kM 13 3,
 kG 14 5 3,
 kC 15 130 [(.tmp 14)],
 kB 16 13 15 .add,
 kM 3 16])))
 (K.ops [kBi 17 9 1 .add,
 kM 9 17])))))))
 (K.seq (K.ops [kM 18 3,
 kM 2 18])
 (K.ret))))
theorem cSize : compile Tryz.prog Tryz.f130.ntmps (Tryz.f130.body.getD .skip) = some KSize.erase := by kernel_rfl
@[simp] theorem calSize : callable Tryz.prog 130 = true := by kernel_rfl
def ESize : Entry := ⟨KSize, [.slot 2], false⟩
theorem eokSize : EntryOk Tryz.prog 130 ESize := ⟨calSize, _, _, noHint, Tryz.func130, rfl, cSize, by kernel_rfl⟩
def KDeep : K :=
 K.seq (K.ops [kO 1 0,
 kMi 2 0])
 (K.seq (K.ops [kMi 3 0])
 (K.seq (K.seq (K.ops [kA 6 1 2,
 kL 7 6 1,
 kN 8 7,
 kMi 9 0])
 (K.block 0 (K.loop (K.seq (K.ops [kB 10 9 8 .lss])
 (K.seq (K.cond (.tmp 10)
 (K.skip)
 (K.exit 0))
 (K.seq (K.block 1 (K.seq (K.ops [kX 11 7 9 3,
 kG 12 11 3,
 kZ 5 [(.int .i64 0), (.int .i64 0), (.slice none 0 0)],
 kS 5 12 3])
 (K.ops [kM 13 3,
 kG 14 5 3,
 kC 15 131 [(.tmp 14)],
 ⟨none, .mm (some 16) true [(.tmp 13), (.tmp 15)]⟩,
 kM 3 16])))
 (K.ops [kBi 17 9 1 .add,
 kM 9 17])))))))
 (K.seq (K.ops [kM 18 3,
 kBi 19 18 1 .add,
 kM 2 19])
 (K.ret))))
theorem cDeep : compile Tryz.prog Tryz.f131.ntmps (Tryz.f131.body.getD .skip) = some KDeep.erase := by kernel_rfl
@[simp] theorem calDeep : callable Tryz.prog 131 = true := by kernel_rfl
def EDeep : Entry := ⟨KDeep, [.slot 2], false⟩
theorem eokDeep : EntryOk Tryz.prog 131 EDeep := ⟨calDeep, _, _, noHint, Tryz.func131, rfl, cDeep, by kernel_rfl⟩
def KOpF : K :=
 K.seq (K.ops [kZ 4 [(.int .i64 0), (.int .i64 0), (.slice none 0 0)]])
 (K.seq (K.seq (K.ops [kM 7 0,
 kBi 8 7 0 .geq,
 kM 9 8,
 kT 9 true (kM 10 0),
 kT 9 true (kBi 11 10 5 .lss),
 kPf 12 9 11,
 kM 13 12,
 kT 13 true (kM 14 1),
 kT 13 true (kN 15 14),
 kT 13 true (kQi 16 15 2 false),
 kPf 17 13 16])
 (K.cond (.tmp 17)
 (K.seq (K.dops [(0, 0, kM 18 0),
 (1, 0, ⟨none, .idxarr (some 19) (.global 0) (.tmp 18) 5 1⟩),
 (2, 0, kL 20 19 1),
 (3, 0, kM 21 1),
 (4, 0, kXi 22 21 3 0),
 (5, 0, kA 23 22 1),
 (6, 0, kL 24 23 1),
 (7, 0, kM 25 1),
 (8, 0, kXi 26 25 3 1),
 (9, 0, kA 27 26 1),
 (10, 0, kL 28 27 1),
 (11, 0, ⟨none, .call (some 29) (.tmp 20) [(.tmp 24), (.tmp 28)]⟩),
 (12, 0, ⟨none, .build (some 30) [(.int .i64 0), (.int .i64 0), (.slice none 0 0)] [(1, 1, (.tmp 29))]⟩),
 (13, 0, kS 4 30 3)])
 (K.ret))
 (K.skip)))
 (K.seq (K.block 0 (K.seq (K.ops [kM 32 0,
 kQi 33 32 9 false,
 kM 34 33,
 kT 34 true (kM 35 1),
 kT 34 true (kN 36 35),
 kT 34 true (kQi 37 36 1 false),
 kPf 38 34 37,
 kM 31 38])
 (K.cond (.tmp 31)
 (K.seq (K.ops [kM 39 1,
 kXi 40 39 3 0,
 kA 41 40 1,
 kL 42 41 1,
 kQi 43 42 0 false,
 kC 44 162 [(.tmp 43)],
 kS 4 44 3])
 (K.ret))
 (K.seq (K.ops [kM 46 0,
 kQi 47 46 11 false,
 kM 48 47,
 kT 48 true (kM 49 1),
 kT 48 true (kN 50 49),
 kT 48 true (kQi 51 50 1 false),
 kPf 52 48 51,
 kM 45 52])
 (K.cond (.tmp 45)
 (K.seq (K.ops [kM 53 1,
 kXi 54 53 3 0,
 kA 55 54 2,
 kL 56 55 1,
 kN 57 56,
 ⟨none, .build (some 58) [(.int .i64 0), (.int .i64 0), (.slice none 0 0)] [(1, 1, (.tmp 57))]⟩,
 kS 4 58 3])
 (K.ret))
 (K.seq (K.ops [kM 60 1,
 kN 61 60,
 kQi 62 61 2 true,
 kM 59 62])
 (K.cond (.tmp 59)
 (K.seq (K.ops [⟨none, .build (some 63) [(.int .i64 0), (.int .i64 0), (.slice none 0 0)] []⟩,
 kS 4 63 3])
 (K.ret))
 (K.skip))))))))
 (K.seq (K.wk (K.dops [(0, 0, kM 64 1),
 (1, 2, kXi 65 64 3 0),
 (2, 2, kG 66 65 3),
 (3, 0, kM 67 1),
 (4, 2, kXi 68 67 3 1),
 (5, 2, kG 69 68 3),
 (6, 370, ⟨none, .alr (some 5) 70 [(.int .i64 0), (.int .i64 0), (.slice none 0 0)]⟩),
 (7, 371, ⟨none, .alr (some 6) 71 [(.int .i64 0), (.int .i64 0), (.slice none 0 0)]⟩),
 (8, 0, kS 5 66 3),
 (9, 0, kS 6 69 3)]))
 (K.seq (K.seq (K.ops [kM 70 0])
 (K.block 1 (K.seq (K.ops [kQi 72 70 5 false,
 kM 71 72])
 (K.cond (.tmp 71)
 (K.seq (K.ops [kA 73 5 1,
 kL 74 73 1,
 kA 75 6 1,
 kL 76 75 1,
 kB 77 74 76 .lss,
 kC 78 162 [(.tmp 77)],
 kS 4 78 3])
 (K.ret))
 (K.seq (K.ops [kQi 80 70 6 false,
 kM 79 80])
 (K.cond (.tmp 79)
 (K.seq (K.ops [kG 81 5 3,
 kG 82 6 3,
 kC 83 167 [(.tmp 81), (.tmp 82)],
 kQi 84 83 0 false,
 kC 85 162 [(.tmp 84)],
 kS 4 85 3])
 (K.ret))
 (K.seq (K.ops [kQi 87 70 7 false,
 kM 86 87])
 (K.cond (.tmp 86)
 (K.seq (K.ops [kA 88 5 1,
 kL 89 88 1,
 kQi 90 89 0 true,
 kM 91 90,
 kT 91 true (kA 92 6 1),
 kT 91 true (kL 93 92 1),
 kT 91 true (kQi 94 93 0 true),
 kPf 95 91 94,
 kC 96 162 [(.tmp 95)],
 kS 4 96 3])
 (K.ret))
 (K.seq (K.ops [kQi 98 70 8 false,
 kM 97 98])
 (K.cond (.tmp 97)
 (K.seq (K.ops [kA 99 5 1,
 kL 100 99 1,
 kQi 101 100 0 true,
 kM 102 101,
 kT 102 false (kA 103 6 1),
 kT 102 false (kL 104 103 1),
 kT 102 false (kQi 105 104 0 true),
 kPt 106 102 105,
 kC 107 162 [(.tmp 106)],
 kS 4 107 3])
 (K.ret))
 (K.seq (K.ops [kQi 109 70 10 false,
 kM 108 109])
 (K.cond (.tmp 108)
 (K.seq (K.ops [kA 110 5 2,
 kL 111 110 1,
 kA 112 6 2,
 kL 113 112 1,
 ⟨none, .bslice (some 114) 40 1 2 [(.slice none 0 0), (.slice none 0 0)] [(0, 1, (.tmp 111)), (1, 1, (.tmp 113))]⟩,
 kC 115 168 [(.tmp 114)],
 kC 116 113 [(.tmp 115)],
 ⟨none, .build (some 117) [(.int .i64 0), (.int .i64 0), (.slice none 0 0)] [(0, 1, (.const (.int .i64 4))), (2, 1, (.tmp 116))]⟩,
 kS 4 117 3])
 (K.ret))
 (K.skip)))))))))))))
 (K.seq (K.ops [⟨none, .build (some 118) [(.int .i64 0), (.int .i64 0), (.slice none 0 0)] []⟩,
 kS 4 118 3])
 (K.ret))))))
def hOpF : Nat → Option (List (Nat × Nat)) := fun r => match r with | 9 => some [(0,0),(1,2),(2,2),(3,0),(4,2),(5,2),(6,370),(7,371),(8,0),(9,0)] | _ => none
theorem cOpF : compileH Tryz.prog Tryz.f145.ntmps hOpF (Tryz.f145.body.getD .skip) = some KOpF.erase := by kernel_rfl
@[simp] theorem calOpF : callable Tryz.prog 145 = true := by kernel_rfl
def EOpF : Entry := ⟨KOpF, [.cell 4 3 true], false⟩
theorem eokOpF : EntryOk Tryz.prog 145 EOpF := ⟨calOpF, _, _, hOpF, Tryz.func145, rfl, cOpF, by kernel_rfl⟩
def KTruth : K :=
 K.seq (K.ops [kZ 2 [(.int .i64 0), (.int .i64 0), (.slice none 0 0)]])
 (K.seq (K.seq (K.ops [kM 3 0])
 (K.cond (.tmp 3)
 (K.seq (K.ops [⟨none, .build (some 4) [(.int .i64 0), (.int .i64 0), (.slice none 0 0)] [(0, 1, (.const (.int .i64 1))), (1, 1, (.const (.int .i64 1)))]⟩,
 kS 2 4 3])
 (K.ret))
 (K.skip)))
 (K.seq (K.ops [⟨none, .build (some 5) [(.int .i64 0), (.int .i64 0), (.slice none 0 0)] [(0, 1, (.const (.int .i64 1)))]⟩,
 kS 2 5 3])
 (K.ret)))
theorem cTruth : compile Tryz.prog Tryz.f162.ntmps (Tryz.f162.body.getD .skip) = some KTruth.erase := by kernel_rfl
@[simp] theorem calTruth : callable Tryz.prog 162 = true := by kernel_rfl
def ETruth : Entry := ⟨KTruth, [.cell 2 3 true], false⟩
theorem eokTruth : EntryOk Tryz.prog 162 ETruth := ⟨calTruth, _, _, noHint, Tryz.func162, rfl, cTruth, by kernel_rfl⟩
def tabC : List (Nat × Entry) := [(13, ECall), (44, ENote), (42, EDef), (89, EIdxD), (90, EDef1),
  (43, EBodied), (45, EValid), (91, ESmall), (124, ESmall1), (125, EConV), (143, EIdxV),
  (126, ESmall11), (92, EFits), (128, EFits1), (127, EVTyp), (46, EReach), (47, EBody), (93, EEval),
  (129, EValue), (144, EBranch), (166, EWith), (130, ESize), (131, EDeep), (145, EOpF), (162, ETruth)]
theorem tabC_ok : ∀ f e, findE f tabC = some e → EntryOk Tryz.prog f e :=
  tab_cons eokCall (tab_cons eokNote (tab_cons eokDef (tab_cons eokIdxD (tab_cons eokDef1 (tab_cons eokBodied (tab_cons eokValid (tab_cons eokSmall (tab_cons eokSmall1 (tab_cons eokConV (tab_cons eokIdxV
  (tab_cons eokSmall11 (tab_cons eokFits (tab_cons eokFits1 (tab_cons eokVTyp (tab_cons eokReach (tab_cons eokBody (tab_cons eokEval (tab_cons eokValue (tab_cons eokBranch (tab_cons eokWith (tab_cons eokSize (tab_cons eokDeep (tab_cons eokOpF (tab_cons eokTruth tab_nil))))))))))))))))))))))))
def decI : List A → Option (List Id)
  | [] => some []
  | .lit (.int .i64 a) :: .lit (.int .i64 b) :: .lit (.int .i64 c) :: l => match decI l with
    | some r => some (⟨a, b, c⟩ :: r)
    | none => none
  | _ => none
theorem decI_sound : ∀ {cs : List A} {l : List Id}, decI cs = some l → cs = cellsI l := by
  intro cs
  fun_induction decI cs with
  | case1 => intro l h; cases h; rfl
  | case2 a b c cs r hr ih => intro l h; cases h; rw [ih hr]; rfl
  | case3 a b c cs hr ih => intro l h; cases h
  | case4 => intro l h; cases h
def orcS : Run := fun f xs σ => match Nat.beq f 48, xs, σ with
  | true, [.sl n cs], [] => (match decI cs with
    | some l => if n = l.length ∧ l.length ≤ 1000000 then some (.sl (l.foldl insD []).length (cellsI (l.foldl insD [])), []) else none
    | none => none)
  | _, _, _ => none
@[simp] theorem calSetA : callable Tryz.prog 48 = true := by kernel_rfl
theorem orcS_ok : CallsOk Tryz.prog orcS := by
  intro f xs σ r σ' h
  unfold orcS at h
  split at h <;> try (cases h; done)
  rename_i n cs hf
  split at h <;> try (cases h; done)
  rename_i l hl
  split at h <;> try (cases h; done)
  rename_i hc
  cases h
  have hf' := Nat.eq_of_beq_eq_true hf
  subst hf'
  refine ⟨calSetA, ?_⟩
  rw [decI_sound hl, hc.1, ← setD_eq]
  exact set_ok l hc.2
end Go.Proofs.YthglhccibdlccaaGreatDoor
