/-
  The law DomainInputs: what its code computes.
-/
import Derived.Test.YtbkiphnlbadhcaaC19
import Derived.Test.YtbkiphnlbadhcaaL3
namespace Go.Abs
section
variable {P : Program} {Qp : Value → Env → St → Prop} {K' : Env → St → Prop} {env : Env} {σ : St} {d : Option Nat} {x : Operand}
def slc3P (a : A) (lo hi mx : Option Int) (sz : Nat) (J : A → Prop) : Prop := match a with
  | .fsl n cs => match lo, hi, mx with
    | some l, some h, some m => ((0 ≤ l ∧ l ≤ h ∧ h ≤ n) ∧ m = h) ∧ J (.fsl (h - l).toNat ((cs.drop (l.toNat * sz)).take ((h - l).toNat * sz)))
    | _, _, _ => False
  | .sl n cs => match lo, hi, mx with
    | some l, some h, some m => ((0 ≤ l ∧ l ≤ h ∧ h ≤ n) ∧ m = h) ∧ J (.fsl (h - l).toNat ((cs.drop (l.toNat * sz)).take ((h - l).toNat * sz)))
    | _, _, _ => False
  | .nil => match lo, hi, mx with
    | some l, some h, some m => ((l = 0 ∧ h = 0) ∧ m = 0) ∧ J .nil
    | _, _, _ => False
  | _ => False
theorem slc3P_fsl {n : Nat} {cs : List A} {l h m : Int} {sz : Nat} {J : A → Prop} : slc3P (.fsl n cs) (some l) (some h) (some m) sz J = (((0 ≤ l ∧ l ≤ h ∧ h ≤ n) ∧ m = h) ∧ J (.fsl (h - l).toNat ((cs.drop (l.toNat * sz)).take ((h - l).toNat * sz)))) := rfl
theorem wpO_slc3 {sz : Nat} {lo : Option Operand} {hi mx : Operand} : wpO P Qp K' (.slc d x sz lo (some hi) (some mx)) env σ = slc3P (ev env x) (boundA env 0 lo) (litI (ev env hi)) (litI (ev env mx)) sz fun r => K' (env.put d r) σ := by
  show pureP (pureO env σ (.slc d x sz lo (some hi) (some mx))) _ = _
  simp only [pureO, slc3P, boundA_some]
  generalize ev env x = a
  cases a <;> try rfl
  all_goals
    generalize boundA env _ lo = u
    generalize litI (ev env hi) = v
    generalize litI (ev env mx) = w
    cases u <;> cases v <;> cases w <;> rfl
end
end Go.Abs
namespace Go.Proofs.Ytbkiphnlbadhcaa
open Go.Abs

def T4 : K :=
 (K.seq (K.ops [⟨none, .mov (some 46) (.tmp 4)⟩,
 ⟨none, .call (some 47) (.func 9) [(.tmp 46), (.const (.int .i64 4))]⟩,
 ⟨none, .build (some 48) [(.int .i64 0), (.int .i64 0), (.int .i64 0), (.string ⟨#[]⟩), (.int .i64 0), (.int .i64 0), (.int .i64 0), (.int .i64 0), (.slice none 0 0), (.int .i64 0), (.int .i64 0)] [(9, 1, (.tmp 47))]⟩,
 ⟨none, .call (some 49) (.func 11) [(.const (.int .i64 1))]⟩,
 ⟨none, .call (some 50) (.func 10) [(.tmp 49)]⟩,
 ⟨none, .mov (some 51) (.tmp 4)⟩,
 ⟨none, .bin (some 52) .quo (.tmp 51) (.const (.int .i64 4))⟩,
 ⟨none, .call (some 53) (.func 9) [(.tmp 52), (.const (.int .i64 2))]⟩,
 ⟨none, .build (some 54) [(.int .i64 0), (.int .i64 0), (.int .i64 0), (.string ⟨#[]⟩), (.int .i64 0), (.int .i64 0), (.int .i64 0), (.int .i64 0), (.slice none 0 0), (.int .i64 0), (.int .i64 0)] [(4, 5, (.tmp 50)), (9, 1, (.tmp 53))]⟩,
 ⟨none, .bslice (some 55) 45 11 2 [(.int .i64 0), (.int .i64 0), (.int .i64 0), (.string ⟨#[]⟩), (.int .i64 0), (.int .i64 0), (.int .i64 0), (.int .i64 0), (.slice none 0 0), (.int .i64 0), (.int .i64 0), (.int .i64 0), (.int .i64 0), (.int .i64 0), (.string ⟨#[]⟩), (.int .i64 0), (.int .i64 0), (.int .i64 0), (.int .i64 0), (.slice none 0 0), (.int .i64 0), (.int .i64 0)] [(0, 11, (.tmp 48)), (11, 11, (.tmp 54))]⟩,
 ⟨none, .mov (some 14) (.tmp 55)⟩])
 (K.seq (K.ops [⟨none, .mov (some 56) (.tmp 12)⟩,
 ⟨none, .mov (some 57) (.tmp 14)⟩,
 ⟨none, .mov (some 58) (.tmp 14)⟩,
 ⟨none, .slc (some 59) (.tmp 58) 11 none (some (.const (.int .i64 2))) (some (.const (.int .i64 2)))⟩,
 ⟨none, .mov (some 60) (.tmp 12)⟩,
 ⟨none, .app (some 61) 45 11 112 (.tmp 59) (.tmp 60)⟩,
 ⟨none, .bslice (some 62) 43 1 4 [(.slice none 0 0), (.slice none 0 0), (.slice none 0 0), (.slice none 0 0)] [(0, 1, (.tmp 56)), (1, 1, (.tmp 57)), (2, 1, (.tmp 61)), (3, 1, (.const (.slice none 0 0)))]⟩,
 ⟨none, .mov (some 15) (.tmp 62)⟩])
 (K.seq (K.seq (K.ops [⟨none, .mov (some 16) (.const (.int .i64 0))⟩])
 (K.block 2 (K.loop (K.seq (K.seq (K.ops [⟨none, .mov (some 63) (.tmp 16)⟩,
 ⟨none, .bin (some 64) .lss (.tmp 63) (.const (.int .i64 4))⟩])
 (K.cond (.tmp 64)
 (K.skip)
 (K.exit 2)))
 (K.seq (K.block 3 (K.seq (K.dops [(0, 0, ⟨none, .ld (some 68) (.tmp 11) 2 true⟩),
 (1, 0, ⟨none, .mov (some 69) (.tmp 15)⟩),
 (2, 0, ⟨none, .mov (some 70) (.tmp 16)⟩),
 (3, 0, ⟨none, .idx (some 71) (.tmp 69) (.tmp 70) 1⟩),
 (4, 0, ⟨none, .ld (some 72) (.tmp 71) 1 false⟩),
 (5, 0, ⟨none, .call (some 73) (.func 16) [(.tmp 68), (.tmp 72)]⟩),
 (6, 0, ⟨none, .mov (some 67) (.tmp 73)⟩),
 (7, 0, ⟨none, .ext (some 74) (.tmp 67) 0⟩),
 (8, 0, ⟨none, .ext (some 75) (.tmp 67) 1⟩),
 (9, 0, ⟨none, .mov (some 17) (.tmp 74)⟩),
 (10, 0, ⟨none, .mov (some 18) (.tmp 75)⟩)])
 (K.seq (K.dops [(0, 0, ⟨none, .ld (some 77) (.tmp 11) 2 true⟩),
 (1, 0, ⟨none, .mov (some 78) (.tmp 15)⟩),
 (2, 0, ⟨none, .mov (some 79) (.tmp 16)⟩),
 (3, 0, ⟨none, .idx (some 80) (.tmp 78) (.tmp 79) 1⟩),
 (4, 0, ⟨none, .ld (some 81) (.tmp 80) 1 false⟩),
 (5, 0, ⟨none, .call (some 82) (.func 17) [(.tmp 77), (.tmp 81)]⟩),
 (6, 0, ⟨none, .mov (some 76) (.tmp 82)⟩),
 (7, 0, ⟨none, .ext (some 83) (.tmp 76) 0⟩),
 (8, 0, ⟨none, .ext (some 84) (.tmp 76) 1⟩),
 (9, 0, ⟨none, .mov (some 19) (.tmp 83)⟩),
 (10, 0, ⟨none, .mov (some 20) (.tmp 84)⟩)])
 (K.seq (K.dops [(0, 0, ⟨none, .ld (some 86) (.tmp 11) 2 true⟩),
 (1, 0, ⟨none, .mov (some 87) (.tmp 15)⟩),
 (2, 0, ⟨none, .mov (some 88) (.tmp 16)⟩),
 (3, 0, ⟨none, .idx (some 89) (.tmp 87) (.tmp 88) 1⟩),
 (4, 0, ⟨none, .ld (some 90) (.tmp 89) 1 false⟩),
 (5, 0, ⟨none, .call (some 91) (.func 18) [(.tmp 86), (.tmp 90)]⟩),
 (6, 0, ⟨none, .mov (some 85) (.tmp 91)⟩),
 (7, 0, ⟨none, .ext (some 92) (.tmp 85) 0⟩),
 (8, 0, ⟨none, .ext (some 93) (.tmp 85) 1⟩),
 (9, 0, ⟨none, .mov (some 21) (.tmp 92)⟩),
 (10, 0, ⟨none, .mov (some 22) (.tmp 93)⟩)])
 (K.seq (K.seq (K.ops [⟨none, .mov (some 94) (.tmp 17)⟩,
 ⟨none, .mov (some 95) (.tmp 19)⟩,
 ⟨none, .eqv (some 96) true .i (.tmp 94) (.tmp 95)⟩,
 ⟨none, .mov (some 97) (.tmp 96)⟩,
 ⟨some (97, false), .mov (some 98) (.tmp 18)⟩,
 ⟨some (97, false), .mov (some 99) (.tmp 20)⟩,
 ⟨some (97, false), .eqv (some 100) true .i (.tmp 98) (.tmp 99)⟩,
 ⟨none, .pick (some 101) (.tmp 97) (.const (.bool true)) (.tmp 100)⟩,
 ⟨none, .mov (some 102) (.tmp 101)⟩,
 ⟨some (102, false), .mov (some 103) (.tmp 22)⟩,
 ⟨some (102, false), .mov (some 104) (.tmp 20)⟩,
 ⟨some (102, false), .eqv (some 105) true .i (.tmp 103) (.tmp 104)⟩,
 ⟨none, .pick (some 106) (.tmp 102) (.const (.bool true)) (.tmp 105)⟩,
 ⟨none, .mov (some 107) (.tmp 106)⟩,
 ⟨some (107, false), .mov (some 108) (.tmp 21)⟩,
 ⟨some (107, false), .len (some 109) false (.tmp 108)⟩,
 ⟨some (107, false), .mov (some 110) (.tmp 17)⟩,
 ⟨some (107, false), .eqv (some 111) true .i (.tmp 109) (.tmp 110)⟩,
 ⟨none, .pick (some 112) (.tmp 107) (.const (.bool true)) (.tmp 111)⟩])
 (K.cond (.tmp 112)
 (K.seq (K.ops [⟨none, .mov (some 10) (.const (.bool false))⟩])
 (K.ret))
 (K.skip)))
 (K.seq (K.ops [⟨none, .mov (some 113) (.tmp 17)⟩,
 ⟨none, .bin (some 114) .leq (.tmp 113) (.const (.int .i64 1500))⟩])
 (K.cond (.tmp 114)
 (K.seq (K.dops [(0, 0, ⟨none, .ld (some 116) (.tmp 11) 2 true⟩),
 (1, 0, ⟨none, .mov (some 117) (.tmp 15)⟩),
 (2, 0, ⟨none, .mov (some 118) (.tmp 16)⟩),
 (3, 0, ⟨none, .idx (some 119) (.tmp 117) (.tmp 118) 1⟩),
 (4, 0, ⟨none, .ld (some 120) (.tmp 119) 1 false⟩),
 (5, 0, ⟨none, .call (some 121) (.func 19) [(.tmp 116), (.tmp 120)]⟩),
 (6, 0, ⟨none, .mov (some 115) (.tmp 121)⟩),
 (7, 0, ⟨none, .ext (some 122) (.tmp 115) 0⟩),
 (8, 0, ⟨none, .ext (some 123) (.tmp 115) 1⟩),
 (9, 0, ⟨none, .mov (some 23) (.tmp 122)⟩),
 (10, 0, ⟨none, .mov (some 24) (.tmp 123)⟩)])
 (K.seq (K.ops [⟨none, .mov (some 124) (.tmp 21)⟩,
 ⟨none, .mov (some 125) (.tmp 23)⟩,
 ⟨none, .call (some 126) (.func 20) [(.tmp 124), (.tmp 125)]⟩,
 ⟨none, .not (some 127) (.tmp 126)⟩])
 (K.cond (.tmp 127)
 (K.seq (K.ops [⟨none, .mov (some 10) (.const (.bool false))⟩])
 (K.ret))
 (K.skip))))
 (K.skip))))))))
 (K.ops [⟨none, .mov (some 65) (.tmp 16)⟩,
 ⟨none, .bin (some 66) .add (.tmp 65) (.const (.int .i64 1))⟩,
 ⟨none, .mov (some 16) (.tmp 66)⟩]))))))
 (K.seq (K.ops [⟨none, .call (some 128) (.func 15) []⟩,
 ⟨none, .mov (some 10) (.tmp 128)⟩])
 (K.ret)))))
-- splicery/splicerylaw13.DomainInputs · results ["10"]
def K4 : K :=
 K.seq (K.ops [⟨none, .box (some 7) (.tmp 2)⟩,
 ⟨none, .mov (some 10) (.const (.bool false))⟩])
 (K.seq (K.ops [⟨none, .mov (some 25) (.tmp 0)⟩,
 ⟨none, .mov (some 26) (.tmp 1)⟩,
 ⟨none, .ld (some 27) (.tmp 7) 5 true⟩,
 ⟨none, .call (some 28) (.func 8) [(.tmp 25), (.tmp 26), (.tmp 27)]⟩,
 ⟨none, .alloc (some 11) [(.slice none 0 0), (.slice none 0 0)]⟩,
 ⟨none, .st none (.tmp 11) (.tmp 28) 2⟩])
 (K.seq (K.ops [⟨none, .mov (some 12) (.const (.slice none 0 0))⟩])
 (K.seq (K.seq (K.ops [⟨none, .mov (some 13) (.const (.int .i64 0))⟩])
 (K.block 0 (K.loop (K.seq (K.seq (K.ops [⟨none, .mov (some 29) (.tmp 13)⟩,
 ⟨none, .mov (some 30) (.tmp 3)⟩,
 ⟨none, .len (some 31) false (.tmp 30)⟩,
 ⟨none, .bin (some 32) .lss (.tmp 29) (.tmp 31)⟩,
 ⟨none, .mov (some 33) (.tmp 32)⟩,
 ⟨some (33, true), .mov (some 34) (.tmp 13)⟩,
 ⟨some (33, true), .bin (some 35) .lss (.tmp 34) (.const (.int .i64 5))⟩,
 ⟨none, .pick (some 36) (.tmp 33) (.tmp 35) (.const (.bool false))⟩])
 (K.cond (.tmp 36)
 (K.skip)
 (K.exit 0)))
 (K.seq (K.block 1 (K.ops [⟨none, .mov (some 39) (.tmp 12)⟩,
 ⟨none, .mov (some 40) (.tmp 3)⟩,
 ⟨none, .mov (some 41) (.tmp 13)⟩,
 ⟨none, .idx (some 42) (.tmp 40) (.tmp 41) 11⟩,
 ⟨none, .ld (some 43) (.tmp 42) 11 true⟩,
 ⟨none, .bslice (some 44) 45 11 1 [(.int .i64 0), (.int .i64 0), (.int .i64 0), (.string ⟨#[]⟩), (.int .i64 0), (.int .i64 0), (.int .i64 0), (.int .i64 0), (.slice none 0 0), (.int .i64 0), (.int .i64 0)] [(0, 11, (.tmp 43))]⟩,
 ⟨none, .app (some 45) 45 11 112 (.tmp 39) (.tmp 44)⟩,
 ⟨none, .mov (some 12) (.tmp 45)⟩]))
 (K.ops [⟨none, .mov (some 37) (.tmp 13)⟩,
 ⟨none, .bin (some 38) .add (.tmp 37) (.const (.int .i64 1))⟩,
 ⟨none, .mov (some 13) (.tmp 38)⟩]))))))
 (K.wk T4))))
theorem c4 : compile Try.prog Try.f4.ntmps (Try.f4.body.getD .skip) = some K4.erase := by kernel_rfl
@[simp] theorem cal4 : callable Try.prog 4 = true := by kernel_rfl


def cellsX (l : List (List Slt)) : List A := l.map fun s => .sl s.length (cellsS s)
theorem cellsX_plain : ∀ (l : List (List Slt)), Plain (cellsX l)
  | [] => Plain.nil
  | v :: l => Plain.sl (cellsS_plain v) (cellsX_plain l)
@[simp] theorem nrm0_cellsX (l : List (List Slt)) : nrm0L (cellsX l) = cellsX l := (cellsX_plain l).1
@[simp] theorem vw_cellsX {rf g} (l : List (List Slt)) : vwL rf g (cellsX l) = cellsX l := (cellsX_plain l).2 _ _
@[simp] theorem cellsX_len (l : List (List Slt)) : (cellsX l).length = l.length := by simp [cellsX]
theorem cellsX_drop {l : List (List Slt)} {i : Nat} (h : i < l.length) : (cellsX l).drop i = .sl l[i].length (cellsS l[i]) :: cellsX (l.drop (i + 1)) := by
  rw [cellsX, ← List.map_drop, List.drop_eq_getElem_cons h]; rfl
theorem countF_err (p : Prg) : ∀ (l : List Slt) (n : Int), (countF p n l).2 ≠ 0 → (countF p n l).1 = 0
  | [], n, h => by simp [countF] at h
  | s :: l, n, h => by
    unfold countF at h ⊢
    split at h
    · rename_i g; rw [if_pos g]
    rename_i g1
    rw [if_neg g1]
    split at h
    · rename_i g; rw [if_pos g]
    rename_i g2
    rw [if_neg g2]
    split at h
    · rename_i g; rw [if_pos g]
    rename_i g3
    rw [if_neg g3]
    exact countF_err p l _ h
theorem inputs_facts (p : Prg) (l : List Slt) : (inputsV p l).2 = (countF p 1 l).2 ∧ ((inputsV p l).1.length : Int) = (countF p 1 l).1 := by
  by_cases h : (countF p 1 l).2 = 0
  · have e : inputsV p l = (sortL orderV (prodT (partsV p l)), 0) := by simp [inputsV, h]
    rw [e, h]
    refine ⟨rfl, ?_⟩
    rw [(sortL_perm _ _).length_eq, (countF_len p l 1 h).1, prodT, prodT_length]
    simp
  · have e : inputsV p l = ([], (countF p 1 l).2) := by simp [inputsV, h]
    rw [e, countF_err p l 1 h]
    simp
theorem sameW_refl : ∀ l : List (List Val), sameW l l = true
  | [] => rfl
  | a :: l => by simp [sameW, sameV_refl, sameW_refl l]

def smV (most : Int) : List Slt := [⟨⟨0, 0, 0⟩, ⟨#[]⟩, Typ0, aroundV most 4, 0⟩, ⟨⟨0, 0, 0⟩, ⟨#[]⟩, .mk 3 (idR 1) [], aroundV (IntKind.i64.wrap (most.tdiv 4)) 2, 0⟩]
theorem inputs_tail (p : Prg) (hSm : Sml p) (most : Int) (R : List Slt) (hR : R.length ≤ 5) : wpK Try.prog 0 T4 (fin [.slot 10] (RetQ 0 (bl true) [])) (mkEnv [(4, int most), (11, .ptr 0 0), (12, .sl R.length (cellsS R))]) [.box (encP p)] := by
  unfold T4
  simp -implicitDefEqProofs
  refine call0 (around_ok most 4 (by decide)) (by simp) (by simp) ?_
  simp -implicitDefEqProofs
  refine call0 (id_ok 1) (by simp) (by simp [encI]) ?_
  simp -implicitDefEqProofs
  refine call0 (of_ok (idR 1)) (by simp) (by simp [encT]) ?_
  simp -implicitDefEqProofs [encT]
  refine call0 (around_ok (IntKind.i64.wrap (most.tdiv 4)) 2 (by decide)) (by simp) (by simp) ?_
  by_cases hR0 : R.length = 0
  · have hRn : R = [] := List.eq_nil_of_length_eq_zero hR0
    subst hRn
    simp -implicitDefEqProofs [wpO_slc3, slc3P_fsl]
    obtain ⟨X, hXe⟩ : ∃ X, X = [([] : List Slt), smV most, smV most ++ ([] : List Slt), []] := ⟨_, rfl⟩
    have hX4 : X.length = 4 := by rw [hXe]; rfl
    have hXl : ∀ s ∈ X, s.length ≤ 1000000 := fun s hs => by
      rw [hXe] at hs
      simp only [List.mem_cons, List.not_mem_nil, or_false] at hs
      rcases hs with rfl | rfl | rfl | rfl <;> first | omega | (simp [smV]; done) | (simp [smV]; omega)
    refine loopS (S := Nat) (fun i => [(11, .ptr 0 0), (15, .sl 4 (cellsX X)), (16, int i)]) (fun i => [.box (encP p)]) (fun i => i ≤ 4) (fun i => 4 - i) 0 (by simp)
      (selW [0] 1 (by simp) (by simp) (by simp [encP]) (by simp [hXe, cellsX, smV, cellsS, encS, Typ0])) ?_
    clear hXe
    intro i hi
    by_cases h : i < 4
    · have hiX : i < X.length := by omega
      have hi4 : (i : Int) < 4 := by omega
      have hXi := hXl X[i] (List.getElem_mem hiX)
      have hwi : IntKind.i64.wrap ((i : Int) + 1) = (i : Int) + 1 := IntWalk.i64_in _ (by omega)
      obtain ⟨f1, f2⟩ := inputs_facts p X[i]
      simp -implicitDefEqProofs [hi4, h, hX4, cellsX_drop hiX, encP]
      refine dcall0 (count_ok p hSm X[i]) (by simp [encP]) (by simp) ?_
      simp -implicitDefEqProofs [hi4, h, hX4, cellsX_drop hiX, encP]
      refine dcall0 (refCount_ok p hSm X[i]) (by simp [encP]) (by simp) ?_
      simp -implicitDefEqProofs [hi4, h, hX4, cellsX_drop hiX, encP]
      refine dcall0 (inputs_ok p hSm X[i] hXi) (by simp [encP]) (by simp) ?_
      simp -implicitDefEqProofs [f1, f2]
      intro hlm
      by_cases h15 : (countF p 1 X[i]).1 ≤ 1500
      · simp -implicitDefEqProofs [h15, hi4, h, hX4, cellsX_drop hiX, encP]
        refine dcall0 (refInputs_ok p hSm X[i] hXi) (by simp [encP]) (by simp) ?_
        simp -implicitDefEqProofs
        refine call0 (sameInputs_ok (inputsV p X[i]).1 (inputsV p X[i]).1) (by simp) (by simp) ?_
        simp -implicitDefEqProofs [sameW_refl]
        exact roundS (i + 1) h (by omega) (selW [0] 0 (by simp) (by simp) (by simp [encP]) (by simp [hwi]))
      · simp -implicitDefEqProofs [h15]
        exact roundS (i + 1) h (by omega) (selW [0] 0 (by simp) (by simp) (by simp [encP]) (by simp [hwi]))
    · have hii : i = 4 := by omega
      subst hii
      simp -implicitDefEqProofs
      refine call0 lives_ok (by simp) (by simp) ?_
      simp -implicitDefEqProofs
      exact ret_end 0 (by simp)
  · simp -implicitDefEqProofs [hR0, wpO_slc3, slc3P_fsl]
    refine ⟨⟨by simp [maxLen]; omega, by omega⟩, ?_⟩
    obtain ⟨X, hXe⟩ : ∃ X, X = [R, smV most, smV most ++ R, []] := ⟨_, rfl⟩
    have hX4 : X.length = 4 := by rw [hXe]; rfl
    have hXl : ∀ s ∈ X, s.length ≤ 1000000 := fun s hs => by
      rw [hXe] at hs
      simp only [List.mem_cons, List.not_mem_nil, or_false] at hs
      rcases hs with rfl | rfl | rfl | rfl <;> first | omega | (simp [smV]; done) | (simp [smV]; omega)
    refine loopS (S := Nat) (fun i => [(11, .ptr 0 0), (15, .sl 4 (cellsX X)), (16, int i)]) (fun i => [.box (encP p)]) (fun i => i ≤ 4) (fun i => 4 - i) 0 (by simp)
      (selW [0] 1 (by simp) (by simp) (by simp [encP]) (by simp [hXe, cellsX, smV, cellsS, encS, Typ0, Nat.add_comm]; omega)) ?_
    clear hXe
    intro i hi
    by_cases h : i < 4
    · have hiX : i < X.length := by omega
      have hi4 : (i : Int) < 4 := by omega
      have hXi := hXl X[i] (List.getElem_mem hiX)
      have hwi : IntKind.i64.wrap ((i : Int) + 1) = (i : Int) + 1 := IntWalk.i64_in _ (by omega)
      obtain ⟨f1, f2⟩ := inputs_facts p X[i]
      simp -implicitDefEqProofs [hi4, h, hX4, cellsX_drop hiX, encP]
      refine dcall0 (count_ok p hSm X[i]) (by simp [encP]) (by simp) ?_
      simp -implicitDefEqProofs [hi4, h, hX4, cellsX_drop hiX, encP]
      refine dcall0 (refCount_ok p hSm X[i]) (by simp [encP]) (by simp) ?_
      simp -implicitDefEqProofs [hi4, h, hX4, cellsX_drop hiX, encP]
      refine dcall0 (inputs_ok p hSm X[i] hXi) (by simp [encP]) (by simp) ?_
      simp -implicitDefEqProofs [f1, f2]
      intro hlm
      by_cases h15 : (countF p 1 X[i]).1 ≤ 1500
      · simp -implicitDefEqProofs [h15, hi4, h, hX4, cellsX_drop hiX, encP]
        refine dcall0 (refInputs_ok p hSm X[i] hXi) (by simp [encP]) (by simp) ?_
        simp -implicitDefEqProofs
        refine call0 (sameInputs_ok (inputsV p X[i]).1 (inputsV p X[i]).1) (by simp) (by simp) ?_
        simp -implicitDefEqProofs [sameW_refl]
        exact roundS (i + 1) h (by omega) (selW [0] 0 (by simp) (by simp) (by simp [encP]) (by simp [hwi]))
      · simp -implicitDefEqProofs [h15]
        exact roundS (i + 1) h (by omega) (selW [0] 0 (by simp) (by simp) (by simp [encP]) (by simp [hwi]))
    · have hii : i = 4 := by omega
      subst hii
      simp -implicitDefEqProofs
      refine call0 lives_ok (by simp) (by simp) ?_
      simp -implicitDefEqProofs
      exact ret_end 0 (by simp)

theorem inputs_law (l : List Int) (hl : ∀ x ∈ l, w64 x = x) (turn : Int) (ht : w64 turn = turn) (t : Typ) (S : List Slt) (most : Int) (hm : w64 most = most) :
    Ret Try.prog 4 [.sl l.length (cellsN l), int turn, .agg (encT t), .sl S.length (cellsS S), int most] [] (bl true) [] := by
  refine ret_of_wp Try.func4 rfl c4 (rs := [.slot 10]) (by kernel_rfl) ?_
  unfold K4
  have hSm := sml_prog l hl turn t
  simp -implicitDefEqProofs [encT]
  refine call0 (prog_ok l hl turn ht t) (by simp [encT]) (by simp [encP]) ?_
  generalize progV l turn t = p at hSm
  simp -implicitDefEqProofs [encP]
  refine loopS (S := Nat) (fun i => [(3, .sl S.length (cellsS S)), (4, int most), (11, .ptr 0 0), (12, .row 1 i), (13, int i)]) (fun i => [.box (encP p), .row false 45 11 i (cellsS (S.take i))]) (fun i => i ≤ S.length ∧ i ≤ 5) (fun i => S.length - i) 0 (by simp)
    ((weak_nilslot (t := 12) (by simp) 45 11).trans (selW [1, 2] 0 (by simp) (by simp) (by simp [encP]) (by simp))) ?_
  rintro i ⟨hi, hi5⟩
  by_cases h : i < S.length ∧ i < 5
  · obtain ⟨h, h5⟩ := h
    have h5' : (i : Int) < 5 := by omega
    have htS : cellsS (S.take (i + 1)) = cellsS (S.take i) ++ encS S[i] := by
      rw [List.take_succ_eq_append_getElem h, cellsS_append]; simp [cellsS]
    have hwi : IntKind.i64.wrap ((i : Int) + 1) = (i : Int) + 1 := IntWalk.i64_in _ (by omega)
    simp -implicitDefEqProofs [h, h5', cellsS_drop h, encS]
    intro hlm
    refine ⟨⟨by simp [maxLen]; omega, by omega⟩, ?_⟩
    exact roundS (i + 1) ⟨h, h5⟩ (by omega) (selW [0, 1] 0 (by simp) (by simp) (by simp [encP, htS, encS]) (by simp [hwi]))
  · have hR : (S.take i).length = i := by simp; omega
    have hcond : ¬ ((i : Int) < S.length ∧ (i : Int) < 5) := by omega
    have hiR : i ≤ 5 := hi5
    by_cases hiS : i < S.length
    · have h5' : ¬ (i : Int) < 5 := by omega
      simp -implicitDefEqProofs [hiS, h5']
      intro hlm
      generalize hRR : S.take i = R at hR
      refine ⟨mkEnv [(4, int most), (11, .ptr 0 0), (12, .sl R.length (cellsS R))], [.box (encP p)], selW [0] 1 (by simp) (by simp) (by simp [encP]) (by simp [hR]), ?_⟩
      exact inputs_tail p hSm most R (by omega)
    · have hiS' : ¬ (i : Int) < S.length := by omega
      simp -implicitDefEqProofs [hiS, hiS']
      intro hlm
      generalize hRR : S.take i = R at hR
      refine ⟨mkEnv [(4, int most), (11, .ptr 0 0), (12, .sl R.length (cellsS R))], [.box (encP p)], selW [0] 1 (by simp) (by simp) (by simp [encP]) (by simp [hR]), ?_⟩
      exact inputs_tail p hSm most R (by omega)
end Go.Proofs.Ytbkiphnlbadhcaa
