/-
  The law's examples hold.
-/
import Derived.Test.YthglhccibdlccaaDoorA7
import Derived.Test.YthglhccibdlccaaDoorA9
import Derived.Test.YthglhccibdlccaaDoorB6
namespace Go.Proofs.YthglhccibdlccaaDoor
open Go.Abs

-- splicery/splicerylaw12.ids · results ["2"]
def KIds : K :=
 K.seq (K.ops [⟨none, .mov (some 2) (.const (.slice none 0 0))⟩])
 (K.seq (K.ops [⟨none, .mov (some 3) (.const (.slice none 0 0))⟩])
 (K.seq (K.seq (K.ops [⟨none, .mov (some 4) (.const (.int .i64 0))⟩])
 (K.block 0 (K.loop (K.seq (K.seq (K.ops [⟨none, .mov (some 5) (.tmp 4)⟩,
 ⟨none, .mov (some 6) (.tmp 0)⟩,
 ⟨none, .len (some 7) false (.tmp 6)⟩,
 ⟨none, .bin (some 8) .lss (.tmp 5) (.tmp 7)⟩])
 (K.cond (.tmp 8)
 (K.skip)
 (K.exit 0)))
 (K.seq (K.block 1 (K.ops [⟨none, .mov (some 11) (.tmp 3)⟩,
 ⟨none, .mov (some 12) (.tmp 0)⟩,
 ⟨none, .mov (some 13) (.tmp 4)⟩,
 ⟨none, .idx (some 14) (.tmp 12) (.tmp 13) 1⟩,
 ⟨none, .ld (some 15) (.tmp 14) 1 false⟩,
 ⟨none, .call (some 16) (.func 22) [(.tmp 15)]⟩,
 ⟨none, .bslice (some 17) 39 3 1 [(.int .i64 0), (.int .i64 0), (.int .i64 0)] [(0, 3, (.tmp 16))]⟩,
 ⟨none, .app (some 18) 39 3 24 (.tmp 11) (.tmp 17)⟩,
 ⟨none, .mov (some 3) (.tmp 18)⟩]))
 (K.ops [⟨none, .mov (some 9) (.tmp 4)⟩,
 ⟨none, .bin (some 10) .add (.tmp 9) (.const (.int .i64 1))⟩,
 ⟨none, .mov (some 4) (.tmp 10)⟩]))))))
 (K.seq (K.ops [⟨none, .mov (some 19) (.tmp 3)⟩,
 ⟨none, .mov (some 2) (.tmp 19)⟩])
 (K.ret))))
theorem cIds : compile Tryd.prog Tryd.f24.ntmps (Tryd.f24.body.getD .skip) = some KIds.erase := by kernel_rfl
@[simp] theorem calIds : callable Tryd.prog 24 = true := by kernel_rfl
def EIds : Entry := ⟨KIds, [.slot 2], true⟩
theorem eokIds : EntryOk Tryd.prog 24 EIds := ⟨calIds, _, _, noHint, Tryd.func24, rfl, cIds, by kernel_rfl⟩

-- splicery/spliceryref12.SameIDs · results ["4"]
def KSameI : K :=
 K.seq (K.ops [⟨none, .mov (some 4) (.const (.bool false))⟩])
 (K.seq (K.seq (K.ops [⟨none, .mov (some 6) (.tmp 0)⟩,
 ⟨none, .len (some 7) false (.tmp 6)⟩,
 ⟨none, .mov (some 8) (.tmp 1)⟩,
 ⟨none, .len (some 9) false (.tmp 8)⟩,
 ⟨none, .eqv (some 10) true .i (.tmp 7) (.tmp 9)⟩])
 (K.cond (.tmp 10)
 (K.seq (K.ops [⟨none, .mov (some 4) (.const (.bool false))⟩])
 (K.ret))
 (K.skip)))
 (K.seq (K.seq (K.ops [⟨none, .mov (some 5) (.const (.int .i64 0))⟩])
 (K.block 0 (K.loop (K.seq (K.seq (K.ops [⟨none, .mov (some 11) (.tmp 5)⟩,
 ⟨none, .mov (some 12) (.tmp 0)⟩,
 ⟨none, .len (some 13) false (.tmp 12)⟩,
 ⟨none, .bin (some 14) .lss (.tmp 11) (.tmp 13)⟩])
 (K.cond (.tmp 14)
 (K.skip)
 (K.exit 0)))
 (K.seq (K.block 1 (K.seq (K.dops [(0, 0, ⟨none, .mov (some 17) (.tmp 0)⟩),
 (1, 0, ⟨none, .mov (some 18) (.tmp 5)⟩),
 (2, 0, ⟨none, .idx (some 19) (.tmp 17) (.tmp 18) 3⟩),
 (3, 0, ⟨none, .ld (some 20) (.tmp 19) 3 true⟩),
 (4, 0, ⟨none, .mov (some 21) (.tmp 1)⟩),
 (5, 0, ⟨none, .mov (some 22) (.tmp 5)⟩),
 (6, 0, ⟨none, .idx (some 23) (.tmp 21) (.tmp 22) 3⟩),
 (7, 0, ⟨none, .ld (some 24) (.tmp 23) 3 true⟩),
 (8, 0, ⟨none, .eqs (some 25) true [.i, .i, .i] (.tmp 20) (.tmp 24)⟩)])
 (K.cond (.tmp 25)
 (K.seq (K.ops [⟨none, .mov (some 4) (.const (.bool false))⟩])
 (K.ret))
 (K.skip))))
 (K.ops [⟨none, .mov (some 15) (.tmp 5)⟩,
 ⟨none, .bin (some 16) .add (.tmp 15) (.const (.int .i64 1))⟩,
 ⟨none, .mov (some 5) (.tmp 16)⟩]))))))
 (K.seq (K.ops [⟨none, .mov (some 4) (.const (.bool true))⟩])
 (K.ret))))
theorem cSameI : compile Tryd.prog Tryd.f13.ntmps (Tryd.f13.body.getD .skip) = some KSameI.erase := by kernel_rfl
@[simp] theorem calSameI : callable Tryd.prog 13 = true := by kernel_rfl
def ESameI : Entry := ⟨KSameI, [.slot 4], false⟩
theorem eokSameI : EntryOk Tryd.prog 13 ESameI := ⟨calSameI, _, _, noHint, Tryd.func13, rfl, cSameI, by kernel_rfl⟩

-- splicery/splicerylaw12.lives · results ["0"]
def KLives : K :=
 K.seq (K.ops [⟨none, .mov (some 0) (.const (.bool false))⟩])
 (K.seq (K.ops [⟨none, .call (some 12) (.func 20) []⟩,
 ⟨none, .alloc (some 1) [(.slice none 0 0), (.slice none 0 0)]⟩,
 ⟨none, .st none (.tmp 1) (.tmp 12) 2⟩])
 (K.seq (K.wk (K.wk (K.wk (K.dops [(0, 1, ⟨none, .ld (some 14) (.tmp 1) 2 true⟩),
 (1, 1, ⟨none, .call (some 15) (.func 22) [(.const (.int .i64 1))]⟩),
 (2, 0, ⟨none, .build (some 16) [(.int .i64 0), (.int .i64 0), (.slice none 0 0)] [(1, 1, (.const (.int .i64 2)))]⟩),
 (3, 0, ⟨none, .bslice (some 17) 55 3 1 [(.int .i64 0), (.int .i64 0), (.slice none 0 0)] [(0, 3, (.tmp 16))]⟩),
 (4, 1, ⟨none, .call (some 18) (.func 21) [(.tmp 14), (.tmp 15), (.tmp 17), (.const (.int .i64 100))]⟩),
 (5, 0, ⟨none, .mov (some 13) (.tmp 18)⟩),
 (6, 0, ⟨none, .ext (some 19) (.tmp 13) 0⟩),
 (7, 0, ⟨none, .ext (some 20) (.tmp 13) 1⟩),
 (8, 0, ⟨none, .ext (some 21) (.tmp 13) 2⟩),
 (9, 340, ⟨none, .alr (some 2) 40 [(.int .i64 0), (.int .i64 0), (.slice none 0 0)]⟩),
 (10, 341, ⟨none, .alr (some 3) 41 [(.slice none 0 0), (.slice none 0 0)]⟩),
 (11, 0, ⟨none, .st none (.tmp 2) (.tmp 19) 3⟩),
 (12, 0, ⟨none, .st none (.tmp 3) (.tmp 20) 2⟩),
 (13, 0, ⟨none, .mov (some 4) (.tmp 21)⟩)]))))
 (K.seq (K.wk (K.dops [(0, 1, ⟨none, .ld (some 23) (.tmp 1) 2 true⟩),
 (1, 1, ⟨none, .call (some 24) (.func 22) [(.const (.int .i64 1))]⟩),
 (2, 0, ⟨none, .build (some 25) [(.int .i64 0), (.int .i64 0), (.slice none 0 0)] [(1, 1, (.const (.int .i64 5)))]⟩),
 (3, 0, ⟨none, .bslice (some 26) 55 3 1 [(.int .i64 0), (.int .i64 0), (.slice none 0 0)] [(0, 3, (.tmp 25))]⟩),
 (4, 1, ⟨none, .call (some 27) (.func 21) [(.tmp 23), (.tmp 24), (.tmp 26), (.const (.int .i64 100))]⟩),
 (5, 0, ⟨none, .mov (some 22) (.tmp 27)⟩),
 (6, 0, ⟨none, .ext (some 28) (.tmp 22) 0⟩),
 (7, 0, ⟨none, .ext (some 29) (.tmp 22) 1⟩),
 (8, 0, ⟨none, .ext (some 30) (.tmp 22) 2⟩),
 (9, 350, ⟨none, .alr (some 5) 50 [(.int .i64 0), (.int .i64 0), (.slice none 0 0)]⟩),
 (10, 351, ⟨none, .alr (some 6) 51 [(.slice none 0 0), (.slice none 0 0)]⟩),
 (11, 0, ⟨none, .st none (.tmp 5) (.tmp 28) 3⟩),
 (12, 0, ⟨none, .st none (.tmp 6) (.tmp 29) 2⟩),
 (13, 0, ⟨none, .mov (some 7) (.tmp 30)⟩)]))
 (K.seq (K.ops [⟨none, .call (some 31) (.func 20) []⟩,
 ⟨none, .alloc (some 8) [(.slice none 0 0), (.slice none 0 0)]⟩,
 ⟨none, .st none (.tmp 8) (.tmp 31) 2⟩])
 (K.seq (K.dops [(0, 0, ⟨none, .addr (some 32) (.tmp 8) 1⟩),
 (1, 0, ⟨none, .ld (some 33) (.tmp 32) 1 false⟩),
 (2, 0, ⟨none, .call (some 34) (.func 22) [(.const (.int .i64 17))]⟩),
 (3, 0, ⟨none, .build (some 35) [(.int .i64 0), (.int .i64 0), (.int .i64 0), (.int .i64 0), (.int .i64 0), (.int .i64 0), (.int .i64 0), (.int .i64 0), (.int .i64 0), (.int .i64 0), (.int .i64 0), (.int .i64 0), (.slice none 0 0), (.slice none 0 0), (.slice none 0 0)] [(0, 3, (.tmp 34)), (4, 1, (.const (.int .i64 7)))]⟩),
 (4, 0, ⟨none, .idx (some 36) (.tmp 33) (.const (.int .i64 1)) 31⟩),
 (5, 0, ⟨none, .addr (some 37) (.tmp 36) 14⟩),
 (6, 0, ⟨none, .st none (.tmp 37) (.tmp 35) 15⟩)])
 (K.seq (K.wk (K.wk (K.ops [⟨none, .ld (some 38) (.tmp 1) 2 true⟩,
 ⟨none, .ld (some 39) (.tmp 8) 2 true⟩,
 ⟨none, .call (some 40) (.func 23) [(.tmp 38), (.tmp 39)]⟩,
 ⟨none, .mov (some 9) (.tmp 40)⟩])))
 (K.seq (K.dops [(0, 0, ⟨none, .addr (some 41) (.tmp 3) 0⟩),
 (1, 0, ⟨none, .ld (some 42) (.tmp 41) 1 false⟩),
 (2, 0, ⟨none, .bslice (some 43) 3 1 1 [(.int .i64 0)] [(0, 1, (.const (.int .i64 1)))]⟩),
 (3, 0, ⟨none, .call (some 44) (.func 24) [(.tmp 43)]⟩),
 (4, 0, ⟨none, .call (some 45) (.func 13) [(.tmp 42), (.tmp 44)]⟩),
 (5, 0, ⟨none, .mov (some 46) (.tmp 45)⟩),
 (6, 0, ⟨some (46, true), .addr (some 47) (.tmp 3) 1⟩),
 (7, 0, ⟨some (46, true), .ld (some 48) (.tmp 47) 1 false⟩),
 (8, 0, ⟨some (46, true), .bslice (some 49) 3 1 5 [(.int .i64 0), (.int .i64 0), (.int .i64 0), (.int .i64 0), (.int .i64 0)] [(0, 1, (.const (.int .i64 10))), (1, 1, (.const (.int .i64 11))), (2, 1, (.const (.int .i64 12))), (3, 1, (.const (.int .i64 13))), (4, 1, (.const (.int .i64 14)))]⟩),
 (9, 0, ⟨some (46, true), .call (some 50) (.func 24) [(.tmp 49)]⟩),
 (10, 0, ⟨some (46, true), .call (some 51) (.func 13) [(.tmp 48), (.tmp 50)]⟩),
 (11, 0, ⟨none, .pick (some 52) (.tmp 46) (.tmp 51) (.const (.bool false))⟩),
 (12, 0, ⟨none, .mov (some 10) (.tmp 52)⟩)])
 (K.seq (K.dops [(0, 0, ⟨none, .addr (some 53) (.tmp 6) 0⟩),
 (1, 0, ⟨none, .ld (some 54) (.tmp 53) 1 false⟩),
 (2, 0, ⟨none, .bslice (some 55) 3 1 2 [(.int .i64 0), (.int .i64 0)] [(0, 1, (.const (.int .i64 1))), (1, 1, (.const (.int .i64 3)))]⟩),
 (3, 0, ⟨none, .call (some 56) (.func 24) [(.tmp 55)]⟩),
 (4, 0, ⟨none, .call (some 57) (.func 13) [(.tmp 54), (.tmp 56)]⟩),
 (5, 0, ⟨none, .mov (some 58) (.tmp 57)⟩),
 (6, 0, ⟨some (58, true), .addr (some 59) (.tmp 6) 1⟩),
 (7, 0, ⟨some (58, true), .ld (some 60) (.tmp 59) 1 false⟩),
 (8, 0, ⟨some (58, true), .bslice (some 61) 3 1 7 [(.int .i64 0), (.int .i64 0), (.int .i64 0), (.int .i64 0), (.int .i64 0), (.int .i64 0), (.int .i64 0)] [(0, 1, (.const (.int .i64 10))), (1, 1, (.const (.int .i64 11))), (2, 1, (.const (.int .i64 12))), (3, 1, (.const (.int .i64 13))), (4, 1, (.const (.int .i64 15))), (5, 1, (.const (.int .i64 16))), (6, 1, (.const (.int .i64 17)))]⟩),
 (9, 0, ⟨some (58, true), .call (some 62) (.func 24) [(.tmp 61)]⟩),
 (10, 0, ⟨some (58, true), .call (some 63) (.func 13) [(.tmp 60), (.tmp 62)]⟩),
 (11, 0, ⟨none, .pick (some 64) (.tmp 58) (.tmp 63) (.const (.bool false))⟩),
 (12, 0, ⟨none, .mov (some 11) (.tmp 64)⟩)])
 (K.seq (K.ops [⟨none, .mov (some 65) (.tmp 4)⟩,
 ⟨none, .eqv (some 66) false .i (.tmp 65) (.const (.int .i64 0))⟩,
 ⟨none, .mov (some 67) (.tmp 66)⟩,
 ⟨some (67, true), .mov (some 68) (.tmp 7)⟩,
 ⟨some (67, true), .eqv (some 69) false .i (.tmp 68) (.const (.int .i64 0))⟩,
 ⟨none, .pick (some 70) (.tmp 67) (.tmp 69) (.const (.bool false))⟩,
 ⟨none, .mov (some 71) (.tmp 70)⟩,
 ⟨some (71, true), .addr (some 72) (.tmp 2) 1⟩,
 ⟨some (71, true), .ld (some 73) (.tmp 72) 1 false⟩,
 ⟨some (71, true), .eqv (some 74) false .i (.tmp 73) (.const (.int .i64 2))⟩,
 ⟨none, .pick (some 75) (.tmp 71) (.tmp 74) (.const (.bool false))⟩,
 ⟨none, .mov (some 76) (.tmp 75)⟩,
 ⟨some (76, true), .addr (some 77) (.tmp 5) 1⟩,
 ⟨some (76, true), .ld (some 78) (.tmp 77) 1 false⟩,
 ⟨some (76, true), .eqv (some 79) false .i (.tmp 78) (.const (.int .i64 5))⟩,
 ⟨none, .pick (some 80) (.tmp 76) (.tmp 79) (.const (.bool false))⟩,
 ⟨none, .mov (some 81) (.tmp 80)⟩,
 ⟨some (81, true), .mov (some 82) (.tmp 10)⟩,
 ⟨none, .pick (some 83) (.tmp 81) (.tmp 82) (.const (.bool false))⟩,
 ⟨none, .mov (some 84) (.tmp 83)⟩,
 ⟨some (84, true), .mov (some 85) (.tmp 11)⟩,
 ⟨none, .pick (some 86) (.tmp 84) (.tmp 85) (.const (.bool false))⟩,
 ⟨none, .mov (some 87) (.tmp 86)⟩,
 ⟨some (87, true), .mov (some 88) (.tmp 9)⟩,
 ⟨some (87, true), .bslice (some 89) 3 1 1 [(.int .i64 0)] [(0, 1, (.const (.int .i64 17)))]⟩,
 ⟨some (87, true), .call (some 90) (.func 24) [(.tmp 89)]⟩,
 ⟨some (87, true), .call (some 91) (.func 13) [(.tmp 88), (.tmp 90)]⟩,
 ⟨none, .pick (some 92) (.tmp 87) (.tmp 91) (.const (.bool false))⟩,
 ⟨none, .mov (some 93) (.tmp 92)⟩,
 ⟨some (93, true), .ld (some 94) (.tmp 3) 2 true⟩,
 ⟨some (93, true), .mov (some 95) (.tmp 9)⟩,
 ⟨some (93, true), .call (some 96) (.func 9) [(.tmp 94), (.tmp 95)]⟩,
 ⟨some (93, true), .not (some 97) (.tmp 96)⟩,
 ⟨none, .pick (some 98) (.tmp 93) (.tmp 97) (.const (.bool false))⟩,
 ⟨none, .mov (some 99) (.tmp 98)⟩,
 ⟨some (99, true), .ld (some 100) (.tmp 6) 2 true⟩,
 ⟨some (99, true), .mov (some 101) (.tmp 9)⟩,
 ⟨some (99, true), .call (some 102) (.func 9) [(.tmp 100), (.tmp 101)]⟩,
 ⟨none, .pick (some 103) (.tmp 99) (.tmp 102) (.const (.bool false))⟩,
 ⟨none, .mov (some 0) (.tmp 103)⟩])
 (K.ret))))))))))
def hLives : Nat → Option (List (Nat × Nat)) := fun r => match r with | 2 => some [(0,1),(1,1),(2,0),(3,0),(4,1),(5,0),(6,0),(7,0),(8,0),(9,340),(10,341),(11,0),(12,0),(13,0)] | 3 => some [(0,1),(1,1),(2,0),(3,0),(4,1),(5,0),(6,0),(7,0),(8,0),(9,350),(10,351),(11,0),(12,0),(13,0)] | _ => none
theorem cLives : compileH Tryd.prog Tryd.f11.ntmps hLives (Tryd.f11.body.getD .skip) = some KLives.erase := by kernel_rfl
@[simp] theorem calLives : callable Tryd.prog 11 = true := by kernel_rfl
def ELives : Entry := ⟨KLives, [.slot 0], false⟩
theorem eokLives : EntryOk Tryd.prog 11 ELives := ⟨calLives, _, _, hLives, Tryd.func11, rfl, cLives, by kernel_rfl⟩

def tabL : List (Nat × Entry) := (11, ELives) :: (24, EIds) :: (13, ESameI) :: (22, EId) :: (32, EVar) :: (20, EEx) :: tabC
theorem tabL_ok : ∀ f e, findE f tabL = some e → EntryOk Tryd.prog f e := tab_cons eokLives (tab_cons eokIds (tab_cons eokSameI (tab_cons eokId (tab_cons eokVar (tab_cons eokEx tabC_ok)))))

/-- trace.Asks, by its contract. -/
def orcA : Run := fun f xs σ => match Nat.beq f 9, xs, σ with
  | true, [.agg [.sl n a, .sl m b], .sl k c], [] => (match decI a, decI b, decI c with
    | some la, some lb, some lc => if n = la.length ∧ m = lb.length ∧ k = lc.length ∧ (la ++ lb).length ≤ 1000000 then some (bl (lc.any fun x => decide (x ∈ la ++ lb)), []) else none
    | _, _, _ => none)
  | _, _, _ => none
@[simp] theorem calAsksA : callable Tryd.prog 9 = true := by kernel_rfl
theorem orcA_ok : CallsOk Tryd.prog orcA := by
  intro f xs σ r σ' h
  unfold orcA at h
  split at h <;> try (cases h; done)
  rename_i n a m b k c hf
  split at h <;> try (cases h; done)
  rename_i la lb lc h1 h2 h3
  split at h <;> try (cases h; done)
  rename_i hc
  cases h
  have hf' := Nat.eq_of_beq_eq_true hf
  subst hf'
  refine ⟨calAsksA, ?_⟩
  rw [decI_sound h1, decI_sound h2, decI_sound h3, hc.1, hc.2.1, hc.2.2.1]
  exact asks_ok ⟨la, lb⟩ lc (la ++ lb) rfl hc.2.2.2

theorem ex_chg : chgD exP.defs exQ.defs = [⟨0, 1, 17⟩] := by
  rw [chgD, setD_eq]
  kernel_rfl
@[simp] theorem calChgA : callable Tryd.prog 23 = true := by kernel_rfl
def orcC : Run := orcT [(23, [.agg (encP exP), .agg (encP exQ)], .sl 1 (cellsI [⟨0, 1, 17⟩]))]
theorem orcC_ok : CallsOk Tryd.prog orcC := orcT_ok fun p hp => by
  rw [List.mem_singleton] at hp
  subst hp
  refine ⟨calChgA, ?_⟩
  have := changed_ok exP exQ (by decide) (by decide) (by decide) (by decide)
  rw [ex_chg] at this
  exact this

def orcL : Run := orE orcS (orE orcA orcC)
theorem orcL_ok : CallsOk Tryd.prog orcL := orE_ok orcS_ok (orE_ok orcA_ok orcC_ok)
set_option maxRecDepth 100000 in
theorem lives_ok : Ret Tryd.prog 11 [] [] (bl true) [] := runPl_ok (lf := 20) (n := 50) tabL_ok orcL_ok (by kernel_rfl)
end Go.Proofs.YthglhccibdlccaaDoor
