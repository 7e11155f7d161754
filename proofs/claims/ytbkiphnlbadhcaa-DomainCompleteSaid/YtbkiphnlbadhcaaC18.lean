/-
  The law's programs of types, in which a slot can have another type.
-/
import Derived.Test.YtbkiphnlbadhcaaC17
namespace Go.Abs
def addrRow (o : Option AObj) (l n p off : Nat) : Option A := match o with
  | some (.row _ _ _ m _) => if n = m then some (.rwp l n (p + off)) else none
  | _ => none
@[simp] theorem addrRow_some {fz : Bool} {e : TypeId} {sz m : Nat} {cs : List A} {l n p off : Nat} : addrRow (some (.row fz e sz m cs)) l n p off = if n = m then some (.rwp l n (p + off)) else none := rfl
theorem addrA_rwp {σ : St} {l n p off : Nat} : addrA σ off (.rwp l n p) = addrRow σ[l]? l n p off := by
  simp only [addrA, addrRow]
  cases σ[l]? with
  | none => rfl
  | some o => cases o <;> rfl
def idxRow (o : Option AObj) (sz l n : Nat) (j : Int) (J : A → Prop) : Prop := match o with
  | some (.row _ _ s m _) => if n = m ∧ s = sz then (0 ≤ j ∧ j < n) ∧ J (.rwp l n (j.toNat * sz)) else False
  | _ => False
@[simp] theorem idxRow_some {fz : Bool} {e : TypeId} {s m : Nat} {cs : List A} {sz l n : Nat} {j : Int} {J : A → Prop} : idxRow (some (.row fz e s m cs)) sz l n j J = if n = m ∧ s = sz then (0 ≤ j ∧ j < n) ∧ J (.rwp l n (j.toNat * sz)) else False := rfl
theorem idxP_row {σ : St} {sz l n : Nat} {k : IntKind} {j : Int} {J : A → Prop} : idxP σ sz (.row l n) (.lit (.int k j)) J = idxRow σ[l]? sz l n j J := by
  simp only [idxP, idxRow]
  cases σ[l]? with
  | none => rfl
  | some o => cases o <;> rfl
end Go.Abs
namespace Go.Proofs.Ytbkiphnlbadhcaa
open Go.Abs

-- splicery/splicerylaw13.prog · results ["cell 6"]
def K8 : K :=
 K.seq (K.ops [⟨none, .box (some 5) (.tmp 2)⟩,
 ⟨none, .alloc (some 6) [(.slice none 0 0), (.slice none 0 0)]⟩])
 (K.seq (K.ops [⟨none, .mov (some 10) (.tmp 0)⟩,
 ⟨none, .call (some 11) (.func 23) [(.tmp 10)]⟩,
 ⟨none, .alloc (some 7) [(.slice none 0 0), (.slice none 0 0)]⟩,
 ⟨none, .st none (.tmp 7) (.tmp 11) 2⟩])
 (K.seq (K.seq (K.ops [⟨none, .mov (some 12) (.tmp 1)⟩,
 ⟨none, .bin (some 13) .rem (.tmp 12) (.const (.int .i64 3))⟩,
 ⟨none, .eqv (some 14) false .i (.tmp 13) (.const (.int .i64 0))⟩])
 (K.cond (.tmp 14)
 (K.seq (K.ops [⟨none, .mov (some 15) (.tmp 1)⟩,
 ⟨none, .addr (some 16) (.tmp 7) 1⟩,
 ⟨none, .ld (some 17) (.tmp 16) 1 false⟩,
 ⟨none, .len (some 18) false (.tmp 17)⟩,
 ⟨none, .call (some 19) (.func 9) [(.tmp 15), (.tmp 18)]⟩,
 ⟨none, .mov (some 8) (.tmp 19)⟩])
 (K.seq (K.ops [⟨none, .mov (some 9) (.const (.slice none 0 0))⟩])
 (K.seq (K.dops [(0, 1, ⟨none, .addr (some 20) (.tmp 7) 1⟩),
 (1, 1, ⟨none, .ld (some 21) (.tmp 20) 1 false⟩),
 (2, 0, ⟨none, .mov (some 22) (.tmp 8)⟩),
 (3, 0, ⟨none, .mov (some 23) (.tmp 9)⟩),
 (4, 0, ⟨none, .addr (some 24) (.tmp 7) 1⟩),
 (5, 0, ⟨none, .ld (some 25) (.tmp 24) 1 false⟩),
 (6, 0, ⟨none, .mov (some 26) (.tmp 8)⟩),
 (7, 0, ⟨none, .idx (some 27) (.tmp 25) (.tmp 26) 31⟩),
 (8, 0, ⟨none, .addr (some 28) (.tmp 27) 8⟩),
 (9, 0, ⟨none, .ld (some 29) (.tmp 28) 1 false⟩),
 (10, 0, ⟨none, .app (some 30) 45 11 112 (.tmp 23) (.tmp 29)⟩),
 (11, 0, ⟨none, .idx (some 31) (.tmp 21) (.tmp 22) 31⟩),
 (12, 0, ⟨none, .addr (some 32) (.tmp 31) 8⟩),
 (13, 0, ⟨none, .st none (.tmp 32) (.tmp 30) 1⟩)])
 (K.dops [(0, 0, ⟨none, .addr (some 33) (.tmp 7) 1⟩),
 (1, 0, ⟨none, .ld (some 34) (.tmp 33) 1 false⟩),
 (2, 0, ⟨none, .mov (some 35) (.tmp 8)⟩),
 (3, 0, ⟨none, .idx (some 36) (.tmp 34) (.tmp 35) 31⟩),
 (4, 0, ⟨none, .addr (some 37) (.tmp 36) 8⟩),
 (5, 0, ⟨none, .ld (some 38) (.tmp 37) 1 false⟩),
 (6, 0, ⟨none, .mov (some 39) (.tmp 1)⟩),
 (7, 0, ⟨none, .bin (some 40) .quo (.tmp 39) (.const (.int .i64 3))⟩),
 (8, 0, ⟨none, .addr (some 41) (.tmp 7) 1⟩),
 (9, 0, ⟨none, .ld (some 42) (.tmp 41) 1 false⟩),
 (10, 0, ⟨none, .mov (some 43) (.tmp 8)⟩),
 (11, 0, ⟨none, .idx (some 44) (.tmp 42) (.tmp 43) 31⟩),
 (12, 0, ⟨none, .addr (some 45) (.tmp 44) 8⟩),
 (13, 0, ⟨none, .ld (some 46) (.tmp 45) 1 false⟩),
 (14, 0, ⟨none, .len (some 47) false (.tmp 46)⟩),
 (15, 0, ⟨none, .call (some 48) (.func 9) [(.tmp 40), (.tmp 47)]⟩),
 (16, 0, ⟨none, .ld (some 49) (.tmp 5) 5 true⟩),
 (17, 0, ⟨none, .idx (some 50) (.tmp 38) (.tmp 48) 11⟩),
 (18, 0, ⟨none, .addr (some 51) (.tmp 50) 4⟩),
 (19, 0, ⟨none, .st none (.tmp 51) (.tmp 49) 5⟩)]))))
 (K.skip)))
 (K.seq (K.ops [⟨none, .ld (some 52) (.tmp 7) 2 true⟩,
 ⟨none, .st none (.tmp 6) (.tmp 52) 2⟩])
 (K.ret))))
theorem c8 : compile Try.prog Try.f8.ntmps (Try.f8.body.getD .skip) = some K8.erase := by kernel_rfl
@[simp] theorem cal8 : callable Try.prog 8 = true := by kernel_rfl


theorem modsA_plain (l : List Int) : nrm0 (modsA l) = modsA l ∧ (∀ rf g, vw rf g (modsA l) = modsA l) ∧ cellsOf (modsA l) = some [modsA l] := by
  refine ⟨by simp [modsA, encI], fun rf g => by simp [modsA, encI], by simp [modsA]⟩
@[simp] theorem nrm0_modsA (l : List Int) : nrm0 (modsA l) = modsA l := (modsA_plain l).1
@[simp] theorem vw_modsA {rf g} (l : List Int) : vw rf g (modsA l) = modsA l := (modsA_plain l).2.1 _ _
@[simp] theorem cellsOf_modsA (l : List Int) : cellsOf (modsA l) = some [modsA l] := (modsA_plain l).2.2

def typesV (l : List Int) : Prg := ⟨modsA l, modsA_plain l, defsV l⟩
def kV (l : List Int) (turn : Int) : Nat := (aroundV turn (manyV l)).toNat
def jV (l : List Int) (turn : Int) : Nat := (aroundV (turn.tdiv 3) (cntV l (kV l turn))).toNat
def newS (l : List Int) (turn : Int) (t : Typ) : Slt := { slotV l (kV l turn) (jV l turn) with typ := t }
def newD (l : List Int) (turn : Int) (t : Typ) : Dfn := { dfnV l (kV l turn) with slots := (dfnV l (kV l turn)).slots.take (jV l turn) ++ newS l turn t :: (dfnV l (kV l turn)).slots.drop (jV l turn + 1) }
def progV (l : List Int) (turn : Int) (t : Typ) : Prg := if turn.tmod 3 = 0 then ⟨modsA l, modsA_plain l, (defsV l).take (kV l turn) ++ newD l turn t :: (defsV l).drop (kV l turn + 1)⟩ else typesV l

theorem prog_ok (l : List Int) (hl : ∀ x ∈ l, w64 x = x) (turn : Int) (ht : w64 turn = turn) (t : Typ) : Ret Try.prog 8 [.sl l.length (cellsN l), int turn, .agg (encT t)] [] (.agg (encP (progV l turn t))) [] := by
  refine ret_of_wp Try.func8 rfl c8 (rs := [.cell 6 2 true]) (by kernel_rfl) ?_
  unfold K8
  obtain ⟨hm1, hm4, _⟩ := many_range hl
  simp -implicitDefEqProofs [encT]
  refine callJ (types_ok l hl) [] (by simp) (by simp) (by simp) ?_
  simp -implicitDefEqProofs
  by_cases h3 : turn.tmod 3 = 0
  · have hr := around_range ht (show (0 : Int) < manyV l by omega)
    have hk : (kV l turn : Int) = aroundV turn (manyV l) := by unfold kV; omega
    have hkn : kV l turn < manyV l := by omega
    obtain ⟨hc1, hc3, _⟩ := cnt_range hl (kV l turn)
    have hw3 : w64 (turn.tdiv 3) = turn.tdiv 3 := by
      refine w64_lit ?_
      simp only [w64, IntKind.wrap_i64] at ht
      by_cases hneg : turn < 0
      · have e : turn.tdiv 3 = -((-turn) / 3) := by
          rw [← Int.tdiv_eq_ediv_of_nonneg (by omega), Int.neg_tdiv, Int.neg_neg]
        omega
      · rw [Int.tdiv_eq_ediv_of_nonneg (by omega)]
        omega
    have hrj := around_range hw3 (show (0 : Int) < cntV l (kV l turn) by omega)
    have hj : (jV l turn : Int) = aroundV (turn.tdiv 3) (cntV l (kV l turn)) := by unfold jV; omega
    have hjn : jV l turn < cntV l (kV l turn) := by omega
    have hp : progV l turn t = ⟨modsA l, modsA_plain l, (defsV l).take (kV l turn) ++ newD l turn t :: (defsV l).drop (kV l turn + 1)⟩ := by rw [progV, if_pos h3]
    have hDl : (defsV l).length = manyV l := by simp [defsV]
    have hsplit : cellsD (defsV l) = cellsD ((defsV l).take (kV l turn)) ++ (encD (dfnV l (kV l turn)) ++ cellsD ((defsV l).drop (kV l turn + 1))) := by
      conv => lhs; rw [← List.take_append_drop (kV l turn) (defsV l), List.drop_eq_getElem_cons (by omega)]
      rw [cellsD_append]
      simp [cellsD, defsV]
    have hSl : (dfnV l (kV l turn)).slots.length = cntV l (kV l turn) := by simp [dfnV]
    have hsplitS : cellsS (dfnV l (kV l turn)).slots = cellsS ((dfnV l (kV l turn)).slots.take (jV l turn)) ++ (encS (slotV l (kV l turn) (jV l turn)) ++ cellsS ((dfnV l (kV l turn)).slots.drop (jV l turn + 1))) := by
      conv => lhs; rw [← List.take_append_drop (jV l turn) (dfnV l (kV l turn)).slots, List.drop_eq_getElem_cons (by omega)]
      rw [cellsS_append]
      simp [cellsS, dfnV]
    have hAl : (cellsD ((defsV l).take (kV l turn))).length = kV l turn * 31 := by rw [cellsD_len]; simp; omega
    have hBl : (cellsD ((defsV l).drop (kV l turn + 1))).length = (manyV l - (kV l turn + 1)) * 31 := by rw [cellsD_len]; simp [hDl]
    have hSAl : (cellsS ((dfnV l (kV l turn)).slots.take (jV l turn))).length = jV l turn * 11 := by rw [cellsS_len]; simp [hSl]; omega
    have hSBl : (cellsS ((dfnV l (kV l turn)).slots.drop (jV l turn + 1))).length = (cntV l (kV l turn) - (jV l turn + 1)) * 11 := by rw [cellsS_len]; simp [hSl]
    simp -implicitDefEqProofs [h3, lenP]
    refine call0 (around_ok turn (manyV l) (by omega)) (by simp) (by simp) ?_
    have hfin : encP (progV l turn t) = [modsA l, .sl (manyV l) (cellsD ((defsV l).take (kV l turn)) ++ (encI (dfnV l (kV l turn)).id ++ [int (dfnV l (kV l turn)).kind] ++ encI (dfnV l (kV l turn)).mod ++ [.lit (.string (dfnV l (kV l turn)).name),
        .sl (cntV l (kV l turn)) (cellsS ((dfnV l (kV l turn)).slots.take (jV l turn)) ++ (encI (slotV l (kV l turn) (jV l turn)).id ++ [.lit (.string (slotV l (kV l turn) (jV l turn)).name)] ++ encT t ++ [int (slotV l (kV l turn) (jV l turn)).most, int (slotV l (kV l turn) (jV l turn)).place] ++ cellsS ((dfnV l (kV l turn)).slots.drop (jV l turn + 1))))] ++ restD ++ cellsD ((defsV l).drop (kV l turn + 1))))] := by
      have e1 : ((dfnV l (kV l turn)).slots.take (jV l turn)).length + ((dfnV l (kV l turn)).slots.drop (jV l turn + 1)).length + 1 = cntV l (kV l turn) := by simp [hSl]; omega
      have e2 : ((defsV l).take (kV l turn)).length + ((defsV l).drop (kV l turn + 1)).length + 1 = manyV l := by simp [hDl]; omega
      rw [hp, ← e1, ← e2]
      simp [encP, newD, newS, cellsD_append, cellsS_append, cellsD, cellsS, encD, encS, encI, encT, Nat.add_assoc]
    rw [← hk, hsplit, hfin]
    have hDe : encD (dfnV l (kV l turn)) = encI (dfnV l (kV l turn)).id ++ [int (dfnV l (kV l turn)).kind] ++ encI (dfnV l (kV l turn)).mod ++ [.lit (.string (dfnV l (kV l turn)).name), .sl (cntV l (kV l turn)) (cellsS (dfnV l (kV l turn)).slots)] ++ restD := by
      rw [← hSl]; simp [encD, encI]
    rw [hDe, hsplitS]
    clear hDe hsplitS hsplit hfin hp
    have pAA := cellsD_plain ((defsV l).take (kV l turn))
    have pBB := cellsD_plain ((defsV l).drop (kV l turn + 1))
    have pSA := cellsS_plain ((dfnV l (kV l turn)).slots.take (jV l turn))
    have pSB := cellsS_plain ((dfnV l (kV l turn)).slots.drop (jV l turn + 1))
    generalize cellsD ((defsV l).take (kV l turn)) = AA at hAl pAA ⊢
    generalize cellsD ((defsV l).drop (kV l turn + 1)) = BB at hBl pBB ⊢
    generalize cellsS ((dfnV l (kV l turn)).slots.take (jV l turn)) = SA at hSAl pSA ⊢
    generalize cellsS ((dfnV l (kV l turn)).slots.drop (jV l turn + 1)) = SB at hSBl pSB ⊢
    obtain ⟨PP, hPe⟩ : ∃ X, X = AA ++ (encI (dfnV l (kV l turn)).id ++ [int (dfnV l (kV l turn)).kind] ++ encI (dfnV l (kV l turn)).mod ++ [.lit (.string (dfnV l (kV l turn)).name)]) := ⟨_, rfl⟩
    obtain ⟨RR, hRe⟩ : ∃ X, X = restD ++ BB := ⟨_, rfl⟩
    obtain ⟨SP, hSPe⟩ : ∃ X, X = SA ++ (encI (slotV l (kV l turn) (jV l turn)).id ++ [.lit (.string (slotV l (kV l turn) (jV l turn)).name)]) := ⟨_, rfl⟩
    obtain ⟨SR, hSRe⟩ : ∃ X, X = [int (slotV l (kV l turn) (jV l turn)).most, int (slotV l (kV l turn) (jV l turn)).place] ++ SB := ⟨_, rfl⟩
    have hPl : PP.length = kV l turn * 31 + 8 := by rw [hPe]; simp [hAl, encI]
    have hRl : RR.length = 22 + (manyV l - (kV l turn + 1)) * 31 := by rw [hRe]; simp [hBl]
    have hSPl : SP.length = jV l turn * 11 + 4 := by rw [hSPe]; simp [hSAl, encI]
    have hSRl : SR.length = 2 + (cntV l (kV l turn) - (jV l turn + 1)) * 11 := by rw [hSRe]; simp [hSBl]; omega
    have hP1 : nrm0L PP = PP := by rw [hPe]; simp [pAA.1, encI]
    have hP2 : ∀ rf g, vwL rf g PP = PP := fun rf g => by rw [hPe]; simp [pAA.2, encI]
    have hR1 : nrm0L RR = RR := by rw [hRe]; simp [pBB.1]
    have hR2 : ∀ rf g, vwL rf g RR = RR := fun rf g => by rw [hRe]; simp [pBB.2]
    have hSP1 : nrm0L SP = SP := by rw [hSPe]; simp [pSA.1, encI]
    have hSP2 : ∀ rf g, vwL rf g SP = SP := fun rf g => by rw [hSPe]; simp [pSA.2, encI]
    have hSR1 : nrm0L SR = SR := by rw [hSRe]; simp [pSB.1]
    have hSR2 : ∀ rf g, vwL rf g SR = SR := fun rf g => by rw [hSRe]; simp [pSB.2]
    obtain ⟨T0, hT0⟩ : ∃ X, X = encT (slotV l (kV l turn) (jV l turn)).typ := ⟨_, rfl⟩
    have hT0l : T0.length = 5 := by rw [hT0]; rfl
    have hT1 : nrm0L T0 = T0 := by rw [hT0]; simp [encT]
    have hT2 : ∀ rf g, vwL rf g T0 = T0 := fun rf g => by rw [hT0]; simp [encT]
    have hslot : SA ++ (encS (slotV l (kV l turn) (jV l turn)) ++ SB) = SP ++ (T0 ++ SR) := by rw [hSPe, hSRe, hT0]; simp [encS, encI, encT]
    have hnew : SA ++ (encI (slotV l (kV l turn) (jV l turn)).id ++ [.lit (.string (slotV l (kV l turn) (jV l turn)).name)] ++ encT t ++ [int (slotV l (kV l turn) (jV l turn)).most, int (slotV l (kV l turn) (jV l turn)).place] ++ SB) = SP ++ (encT t ++ SR) := by rw [hSPe, hSRe]; simp [encI, encT]
    have hrow : ∀ x, AA ++ (encI (dfnV l (kV l turn)).id ++ [int (dfnV l (kV l turn)).kind] ++ encI (dfnV l (kV l turn)).mod ++ [.lit (.string (dfnV l (kV l turn)).name), x] ++ restD ++ BB) = PP ++ (x :: RR) := fun x => by rw [hPe, hRe]; simp [encI]
    rw [hslot, hnew, hrow, hrow]
    have htP : ∀ X, (PP ++ X).take (kV l turn * 31 + 8) = PP := fun X => by rw [← hPl, List.take_left]
    have hdP : ∀ X, (PP ++ X).drop (kV l turn * 31 + 8) = X := fun X => by rw [← hPl, List.drop_left]
    have hdP1 : ∀ x X, (PP ++ x :: X).drop (kV l turn * 31 + 9) = X := fun x X => by rw [show kV l turn * 31 + 9 = PP.length + 1 by omega, List.drop_length_add_append]; rfl
    have htS : ∀ X, (SP ++ X).take (jV l turn * 11 + 4) = SP := fun X => by rw [← hSPl, List.take_left]
    have hdS : ∀ X, (SP ++ (T0 ++ X)).drop (jV l turn * 11 + 9) = X := fun X => by rw [show jV l turn * 11 + 9 = SP.length + 5 by omega, List.drop_length_add_append, ← hT0l, List.drop_left]
    have hkn' : (kV l turn : Int) < manyV l := by omega
    have hjn' : (jV l turn : Int) < cntV l (kV l turn) := by omega
    clear hPe hRe hSPe hSRe hrow hnew hslot
    generalize kV l turn = K at *
    generalize jV l turn = J at *
    generalize cntV l K = c at *
    generalize manyV l = N at *
    simp -implicitDefEqProofs [idxP_row, addrA_rwp, htP, hdP, hdP1, hkn', hPl, hRl]
    refine ⟨by omega, ⟨by simp [maxLen]; omega, by omega⟩, ?_⟩
    have hw3' : IntKind.i64.wrap (turn.tdiv 3) = turn.tdiv 3 := hw3
    refine dcall0 (around_ok (turn.tdiv 3) c (by omega)) (by simp [hw3']) (by simp) ?_
    rw [← hj]
    simp -implicitDefEqProofs [idxP_row, addrA_rwp, htP, hdP, hdP1, htS, hdS, hjn', hPl, hRl, hSPl, hSRl, hT0l]
    exact ret_end 2 (by simp [encT, hP1, hP2, hR1, hR2, hSP1, hSP2, hSR1, hSR2])
  · have hp : progV l turn t = typesV l := by rw [progV, if_neg h3]
    rw [hp]
    simp -implicitDefEqProofs [h3]
    exact ret_end 1 (by simp [encP, typesV, defsV])
end Go.Proofs.Ytbkiphnlbadhcaa
