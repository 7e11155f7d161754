/-
  The reference's changes, walked.
  The types of the maker's definitions are types of the program.
-/
import Derived.Test.YthglhccibdlccaaGreatDoorX44
import Derived.Test.YthglhccibdlccaaGreatDoorX21
set_option linter.unusedVariables false
set_option linter.unusedSimpArgs false
namespace Go.Proofs.YthglhccibdlccaaGreatDoor
open Go.Abs
def KChgR : K :=
 K.seq (K.ops [kO 2 0,
 kO 3 1,
 kMn 4])
 (K.seq (K.ops [kMn 5])
 (K.seq (K.ops [kG 21 2 2,
 kG 22 3 2,
 ⟨none, .bslice (some 23) 26 2 2 [(.slice none 0 0), (.slice none 0 0), (.slice none 0 0), (.slice none 0 0)] [(0, 2, (.tmp 21)), (2, 2, (.tmp 22))]⟩,
 kM 6 23])
 (K.seq (K.seq (K.ops [kMi 7 0])
 (K.block 0 (K.loop (K.seq (K.seq (K.ops [kM 24 7,
 kBi 25 24 2 .lss])
 (K.cond (.tmp 25)
 (K.skip)
 (K.exit 0)))
 (K.seq (K.block 1 (K.seq (K.ops [kM 28 6,
 kM 29 7,
 ⟨none, .bin (some 30) .sub (.const (.int .i64 1)) (.tmp 29)⟩,
 kX 31 28 30 2,
 kG 32 31 2,
 kZ 8 [(.slice none 0 0), (.slice none 0 0)],
 kS 8 32 2])
 (K.seq (K.seq (K.ops [kMi 9 0])
 (K.block 2 (K.loop (K.seq (K.seq (K.ops [kM 33 9,
 kM 34 6,
 kM 35 7,
 kX 36 34 35 2,
 kA 37 36 1,
 kL 38 37 1,
 kN 39 38,
 kB 40 33 39 .lss])
 (K.cond (.tmp 40)
 (K.skip)
 (K.exit 2)))
 (K.seq (K.block 3 (K.seq (K.dops [(0, 0, kM 44 6),
 (1, 0, kM 45 7),
 (2, 1, kX 46 44 45 2),
 (3, 1, kG 47 46 2),
 (4, 0, kM 48 6),
 (5, 0, kM 49 7),
 (6, 1, kX 50 48 49 2),
 (7, 1, kA 51 50 1),
 (8, 1, kL 52 51 1),
 (9, 0, kM 53 9),
 (10, 1, kX 54 52 53 31),
 (11, 1, kA 55 54 0),
 (12, 1, kG 56 55 3),
 (13, 1, kC 57 26 [(.tmp 47), (.tmp 56)]),
 (14, 0, kM 43 57),
 (15, 0, kE 58 43 0),
 (16, 0, kE 59 43 1),
 (17, 0, kZ 10 kz0),
 (18, 0, kS 10 58 31),
 (19, 0, kM 11 59)])
 (K.seq (K.ops [kG 61 8 2,
 kA 62 10 0,
 kG 63 62 3,
 kC 64 26 [(.tmp 61), (.tmp 63)],
 kM 60 64,
 kE 65 60 0,
 kE 66 60 1,
 kZ 12 kz0,
 kS 12 65 31,
 kM 13 66])
 (K.seq (K.ops [kM 67 13,
 kR 68 67,
 kM 69 68,
 kT 69 false (kG 70 10 31),
 kT 69 false (kG 71 12 31),
 kT 69 false (kC 72 60 [(.tmp 70), (.tmp 71)]),
 kT 69 false (kR 73 72),
 kPt 74 69 73])
 (K.cond (.tmp 74)
 (K.ops [kM 75 5,
 kA 76 10 0,
 kG 77 76 3,
 kC 78 61 [(.tmp 75), (.tmp 77)],
 kM 5 78])
 (K.skip))))))
 (K.ops [kM 41 9,
 kBi 42 41 1 .add,
 kM 9 42]))))))
 (K.seq (K.ops [kM 79 6,
 kM 80 7,
 kX 81 79 80 2,
 kG 82 81 2,
 kC 83 62 [(.tmp 82)],
 kM 14 83])
 (K.seq (K.ops [kG 84 8 2,
 kC 85 62 [(.tmp 84)],
 kM 15 85])
 (K.seq (K.ops [kMi 16 0])
 (K.block 4 (K.loop (K.seq (K.seq (K.ops [kM 86 16,
 kM 87 14,
 kN 88 87,
 kB 89 86 88 .lss])
 (K.cond (.tmp 89)
 (K.skip)
 (K.exit 4)))
 (K.seq (K.block 5 (K.seq (K.ops [kM 93 14,
 kM 94 14,
 kM 95 16,
 kX 96 94 95 15,
 kA 97 96 0,
 kG 98 97 3,
 kC 99 63 [(.tmp 93), (.tmp 98)],
 kM 92 99,
 kE 100 92 0,
 kE 101 92 1,
 kZ 17 kz1,
 kS 17 100 15,
 kM 18 101])
 (K.seq (K.ops [kM 103 15,
 kM 104 14,
 kM 105 16,
 kX 106 104 105 15,
 kA 107 106 0,
 kG 108 107 3,
 kC 109 63 [(.tmp 103), (.tmp 108)],
 kM 102 109,
 kE 110 102 0,
 kE 111 102 1,
 kZ 19 kz1,
 kS 19 110 15,
 kM 20 111])
 (K.seq (K.ops [kM 112 20,
 kR 113 112,
 kM 114 113,
 kT 114 false (kG 115 17 15),
 kT 114 false (kG 116 19 15),
 kT 114 false (kC 117 64 [(.tmp 115), (.tmp 116)]),
 kT 114 false (kR 118 117),
 kPt 119 114 118])
 (K.cond (.tmp 119)
 (K.ops [kM 120 5,
 kA 121 17 0,
 kG 122 121 3,
 kC 123 61 [(.tmp 120), (.tmp 122)],
 kM 5 123])
 (K.skip))))))
 (K.ops [kM 90 16,
 kBi 91 90 1 .add,
 kM 16 91])))))))))))
 (K.ops [kM 26 7,
 kBi 27 26 1 .add,
 kM 7 27]))))))
 (K.seq (K.ops [kM 124 5,
 kM 4 124])
 (K.ret)))))
theorem cChgR : compile Tryz.prog Tryz.f22.ntmps (Tryz.f22.body.getD .skip) = some KChgR.erase := by kernel_rfl
@[simp] theorem calChgR : callable Tryz.prog 22 = true := by kernel_rfl
theorem defV_hasL (ds : List Dfn) (x : Id) : defV ds x = match hasL Dfn.id ds x with | some d => (d, true) | none => (Dfn.zero, false) := rfl
theorem findV_hasL (l : List Exp) (x : Id) : findV l x = match hasL Exp.id l x with | some d => (d, true) | none => (Exp.zero, false) := rfl
theorem fm_take {α β : Type} (f : α → Option β) {l : List α} {i : Nat} (h : i < l.length) : (l.take (i + 1)).filterMap f = (l.take i).filterMap f ++ (match f l[i] with | some y => [y] | none => []) := by
  rw [List.take_succ_eq_append_getElem h, List.filterMap_append]
  congr 1
  simp only [List.filterMap_cons, List.filterMap_nil]
  cases f l[i] <;> rfl
theorem fm_len {α β : Type} (f : α → Option β) (l : List α) : (l.filterMap f).length ≤ l.length := List.length_filterMap_le f l
structure SmallP (p : Prg) : Prop where
  defs : p.defs.length ≤ 100
  nodes : ∀ d ∈ p.defs, (tmps d.body).length ≤ 1000000
  all : (nodesV p.defs).length ≤ 300000
def insL2 (L : List Id) : List Id := L.foldl insD []
theorem insL2_snoc (L : List Id) (x : Id) : insL2 (L ++ [x]) = insD (insL2 L) x := by simp [insL2]
theorem insL2_len (L : List Id) : (insL2 L).length ≤ L.length := by
  have := all_len L []
  simpa [insL2] using this
set_option maxHeartbeats 4000000 in
theorem changedR_ok (p q : Prg) (hp : SmallP p) (hq : SmallP q) :
    Ret Tryz.prog 22 [.agg (encP p), .agg (encP q)] [] (.sl (chgD p.defs q.defs).length (cellsI (chgD p.defs q.defs))) [] := by
  have hfin : insL2 (listR p.defs q.defs) = chgD p.defs q.defs := by rw [insL2, ← setD_eq, chgR_eq]
  rw [← hfin]
  refine ret_of_wp Tryz.func22 rfl cChgR (rs := [.slot 4]) (by kernel_rfl) ?_
  unfold KChgR
  obtain ⟨LL, hLL⟩ : ∃ LL : Nat → List Id, LL = fun n => match n with
    | 0 => []
    | 1 => outR Dfn.id sameDf p.defs q.defs ++ outR Exp.id sameNd (nodesV p.defs) (nodesV q.defs)
    | _ => listR p.defs q.defs := ⟨_, rfl⟩
  have L0 : LL 0 = [] := by simp only [hLL]
  have L2 : LL 2 = listR p.defs q.defs := by simp only [hLL]
  simp -implicitDefEqProofs [encP]
  refine loopS (S := Nat) (fun n => [(5, .sl (insL2 (LL n)).length (cellsI (insL2 (LL n)))), (6, .fsl 2 (encP p ++ encP q)), (7, int n)]) (fun _ => []) (fun n => n ≤ 2) (fun n => 2 - n) 0 (by simp)
    (selW [] 0 (by decide) (by simp) (by simp) (by simp [L0, insL2, encP])) ?_
  intro n hn
  by_cases h : n < 2
  · -- one half
    obtain ⟨P, Q, n', rP, rQ, hP, hQ, hn', hLn, hLn1, sP, sQ⟩ : ∃ (P Q : Prg) (n' : Nat) (rP rQ : List A), List.drop (n * 2) (encP p ++ encP q) = encP P ++ rP ∧ List.drop (n' * 2) (encP p ++ encP q) = encP Q ++ rQ ∧ (n' < 2 ∧ (n' : Int) = 1 - n) ∧
        (LL n).length ≤ 300100 ∧ LL (n + 1) = LL n ++ (outR Dfn.id sameDf P.defs Q.defs ++ outR Exp.id sameNd (nodesV P.defs) (nodesV Q.defs)) ∧ SmallP P ∧ SmallP Q := by
      have hn2 : n = 0 ∨ n = 1 := by omega
      rcases hn2 with rfl | rfl
      · exact ⟨p, q, 1, encP q, [], rfl, rfl, ⟨by omega, rfl⟩, by rw [L0]; simp, by rw [hLL]; rfl, hp, hq⟩
      · refine ⟨q, p, 0, [], encP q, rfl, rfl, ⟨by omega, rfl⟩, ?_, by rw [hLL]; rfl, hq, hp⟩
        rw [hLL]
        simp only [List.length_append]
        have := fm_len (oneR Dfn.id sameDf p.defs q.defs) p.defs
        have := fm_len (oneR Exp.id sameNd (nodesV p.defs) (nodesV q.defs)) (nodesV p.defs)
        have := hp.defs
        have := hp.all
        simp only [outR]
        omega
    obtain ⟨hn'1, hn'2⟩ := hn'
    have wn : IntKind.i64.wrap (1 - (n : Int)) = n' := by rw [← hn'2]; exact IntWalk.i64_in _ (by omega)
    have wn1 : IntKind.i64.wrap ((n : Int) + 1) = n + 1 := IntWalk.i64_in _ (by omega)
    have hlt2 : (n : Int) < 2 := by omega
    have hlt2' : (n' : Int) < 2 := by omega
    have hlen4 : (encP p ++ encP q).length = 4 := rfl
    have hCv : ∀ rf g, vwL rf g (encP p ++ encP q) = encP p ++ encP q := fun rf g => by simp [encP]
    generalize encP p ++ encP q = C at *
    have hb1 : n * 2 < 4 := by omega
    have hb2 : n' * 2 < 4 := by omega
    have sPd := sP.defs
    have sQd := sQ.defs
    have sPa := sP.all
    have hnl := nodesR_ok P (by omega) sP.nodes
    have hnQ := nodesR_ok Q (by omega) sQ.nodes
    simp -implicitDefEqProofs [h, wn, hn'1, hlen4, hb1, hb2, hQ, encP, hlt2, hlt2']
    -- the definitions
    refine loopS (S := Nat) (fun i => [(5, .sl (insL2 (LL n ++ (P.defs.take i).filterMap (oneR Dfn.id sameDf P.defs Q.defs))).length (cellsI (insL2 (LL n ++ (P.defs.take i).filterMap (oneR Dfn.id sameDf P.defs Q.defs))))), (6, .fsl 2 C), (7, int n), (8, .ptr 0 0), (9, int i)])
      (fun _ => [.box (encP Q)]) (fun i => i ≤ P.defs.length) (fun i => P.defs.length - i) 0 (by simp)
      (selW [0] 0 (by decide) (by simp) (by simp [encP]) (by simp [hCv])) ?_
    intro i hi
    by_cases hil : i < P.defs.length
    · have hdr := cellsD_drop hil
      have hb3 : i * 31 + 3 ≤ P.defs.length * 31 := by omega
      have wi : IntKind.i64.wrap ((i : Int) + 1) = i + 1 := IntWalk.i64_in _ (by omega)
      have hft := fm_take (oneR Dfn.id sameDf P.defs Q.defs) hil
      have hfl := fm_len (oneR Dfn.id sameDf P.defs Q.defs) (P.defs.take i)
      rw [List.length_take] at hfl
      obtain ⟨a, ha⟩ := hasL_some (idf := Dfn.id) (List.getElem_mem hil)
      have hr1 := rdef_ok P.mods P.defs P.defs[i].id (by omega)
      have hv1 : defV P.defs P.defs[i].id = (a, true) := by rw [defV_hasL, ha]
      rw [hv1] at hr1
      have hr2 := rdef_ok Q.mods Q.defs a.id (by omega)
      have h1R : oneR Dfn.id sameDf P.defs Q.defs P.defs[i] = match hasL Dfn.id Q.defs a.id with
        | none => some a.id
        | some b => if sameDf a b then none else some a.id := by simp only [oneR, ha]; cases hasL Dfn.id Q.defs a.id <;> rfl
      have hacc := insL2_len (LL n ++ (P.defs.take i).filterMap (oneR Dfn.id sameDf P.defs Q.defs))
      rw [List.length_append] at hacc
      rw [h1R] at hft
      have hins := insert_ok (insL2 (LL n ++ (P.defs.take i).filterMap (oneR Dfn.id sameDf P.defs Q.defs))) a.id (by omega)
      generalize P.defs[i] = d at *
      cases hq : hasL Dfn.id Q.defs a.id with
      | none =>
        rw [hq] at hft
        simp only at hft
        have hv2 : defV Q.defs a.id = (Dfn.zero, false) := by rw [defV_hasL, hq]
        rw [hv2] at hr2
        simp -implicitDefEqProofs [h, hlen4, hb1, hP, encP, hil, hdr, hb3, hlt2, encD]
        intros
        refine dcallF0 hr1 (by simp [encI]) (by simp) ?_
        simp -implicitDefEqProofs [encP, encD]
        refine call0 hr2 (by simp [encI]) (by simp) ?_
        simp -implicitDefEqProofs [encP, encD]
        refine call0 hins (by simp [encI]) (by simp) ?_
        simp -implicitDefEqProofs
        exact roundS (i + 1) hil (by omega) (selW [0] 0 (by decide) (by simp) (by simp [encP]) (by rw [hft]; simp [hCv, wi, ← List.append_assoc, insL2_snoc]))
      | some b =>
        rw [hq] at hft
        simp only at hft
        have hv2 : defV Q.defs a.id = (b, true) := by rw [defV_hasL, hq]
        rw [hv2] at hr2
        have hsd := sameDefR_ok a b
        cases hs : sameDf a b
        · rw [hs] at hft hsd
          simp only [Bool.false_eq_true, if_false] at hft
          simp -implicitDefEqProofs [h, hlen4, hb1, hP, encP, hil, hdr, hb3, hlt2, encD]
          intros
          refine dcallF0 hr1 (by simp [encI]) (by simp) ?_
          simp -implicitDefEqProofs [encP, encD]
          refine call0 hr2 (by simp [encI]) (by simp) ?_
          simp -implicitDefEqProofs [encP, encD]
          refine call0 hsd (by simp [encD]) (by simp) ?_
          simp -implicitDefEqProofs [encD]
          refine call0 hins (by simp [encI]) (by simp) ?_
          simp -implicitDefEqProofs
          exact roundS (i + 1) hil (by omega) (selW [0] 0 (by decide) (by simp) (by simp [encP]) (by rw [hft]; simp [hCv, wi, ← List.append_assoc, insL2_snoc]))
        · rw [hs] at hft hsd
          simp only [if_true, List.append_nil] at hft
          simp -implicitDefEqProofs [h, hlen4, hb1, hP, encP, hil, hdr, hb3, hlt2, encD]
          intros
          refine dcallF0 hr1 (by simp [encI]) (by simp) ?_
          simp -implicitDefEqProofs [encP, encD]
          refine call0 hr2 (by simp [encI]) (by simp) ?_
          simp -implicitDefEqProofs [encP, encD]
          refine call0 hsd (by simp [encD]) (by simp) ?_
          simp -implicitDefEqProofs [encD]
          exact roundS (i + 1) hil (by omega) (selW [0] 0 (by decide) (by simp) (by simp [encP]) (by rw [hft]; simp [hCv, wi]))
    · have hie : i = P.defs.length := by omega
      subst hie
      rw [List.take_length]
      have hD : P.defs.filterMap (oneR Dfn.id sameDf P.defs Q.defs) = outR Dfn.id sameDf P.defs Q.defs := rfl
      rw [hD]
      have hDl : (outR Dfn.id sameDf P.defs Q.defs).length ≤ P.defs.length := fm_len _ _
      simp -implicitDefEqProofs [h, hlen4, hb1, hP, encP, hlt2]
      intros
      refine call0 hnl (by simp [encP]) (by simp) ?_
      simp -implicitDefEqProofs [encP]
      refine call0 hnQ (by simp [encP]) (by simp) ?_
      simp -implicitDefEqProofs
      generalize hNP : nodesV P.defs = NP at *
      generalize hNQ : nodesV Q.defs = NQ at *
      have sQa : NQ.length ≤ 300000 := by rw [← hNQ]; exact sQ.all
      generalize hBD : outR Dfn.id sameDf P.defs Q.defs = BD at *
      refine loopS (S := Nat) (fun i => [(5, .sl (insL2 (LL n ++ BD ++ (NP.take i).filterMap (oneR Exp.id sameNd NP NQ))).length (cellsI (insL2 (LL n ++ BD ++ (NP.take i).filterMap (oneR Exp.id sameNd NP NQ))))), (6, .fsl 2 C), (7, int n), (14, .sl NP.length (cellsE NP)), (15, .sl NQ.length (cellsE NQ)), (16, int i)])
        (fun _ => []) (fun i => i ≤ NP.length) (fun i => NP.length - i) 0 (by simp)
        (selW [] 0 (by decide) (by simp) (by simp) (by simp [hCv])) ?_
      intro i hi
      by_cases hil : i < NP.length
      · have hdr := cellsE_drop hil
        have hb3 : i * 15 + 3 ≤ NP.length * 15 := by omega
        have wi : IntKind.i64.wrap ((i : Int) + 1) = i + 1 := IntWalk.i64_in _ (by omega)
        have hft := fm_take (oneR Exp.id sameNd NP NQ) hil
        have hfl := fm_len (oneR Exp.id sameNd NP NQ) (NP.take i)
        rw [List.length_take] at hfl
        obtain ⟨a, ha⟩ := hasL_some (idf := Exp.id) (List.getElem_mem hil)
        have hai := hasL_id ha
        have hr1 := find_ok NP NP[i].id (by omega)
        have hv1 : findV NP NP[i].id = (a, true) := by rw [findV_hasL, ha]
        rw [hv1] at hr1
        have hr2 := find_ok NQ a.id (by omega)
        have h1R : oneR Exp.id sameNd NP NQ NP[i] = match hasL Exp.id NQ a.id with
          | none => some a.id
          | some b => if sameNd a b then none else some a.id := by simp only [oneR, ha]; cases hasL Exp.id NQ a.id <;> rfl
        have hacc := insL2_len (LL n ++ BD ++ (NP.take i).filterMap (oneR Exp.id sameNd NP NQ))
        rw [List.length_append, List.length_append] at hacc
        rw [h1R] at hft
        have hins := insert_ok (insL2 (LL n ++ BD ++ (NP.take i).filterMap (oneR Exp.id sameNd NP NQ))) a.id (by omega)
        rw [← hai] at hr1
        have hdi : NP[i].id.a = a.id.a ∧ NP[i].id.b = a.id.b ∧ NP[i].id.c = a.id.c := by rw [hai]; exact ⟨rfl, rfl, rfl⟩
        obtain ⟨d1, d2, d3⟩ := hdi
        generalize NP[i] = d at *
        cases hq : hasL Exp.id NQ a.id with
        | none =>
          rw [hq] at hft
          simp only at hft
          have hv2 : findV NQ a.id = (Exp.zero, false) := by rw [findV_hasL, hq]
          rw [hv2] at hr2
          simp -implicitDefEqProofs [hil, hdr, hb3, encE, d1, d2, d3]
          intros
          refine call0 hr1 (by simp [encI]) (by simp) ?_
          simp -implicitDefEqProofs [hil, hdr, hb3, encE, d1, d2, d3]
          refine call0 hr2 (by simp [encI]) (by simp) ?_
          simp -implicitDefEqProofs [encE]
          refine call0 hins (by simp [encI]) (by simp) ?_
          simp -implicitDefEqProofs
          exact roundS (i + 1) hil (by omega) (selW [] 0 (by decide) (by simp) (by simp) (by rw [hft]; simp [hCv, wi, ← List.append_assoc, insL2_snoc]))
        | some b =>
          rw [hq] at hft
          simp only at hft
          have hv2 : findV NQ a.id = (b, true) := by rw [findV_hasL, hq]
          rw [hv2] at hr2
          have hsd := sameNodeR_ok a b
          cases hs : sameNd a b
          · rw [hs] at hft hsd
            simp only [Bool.false_eq_true, if_false] at hft
            simp -implicitDefEqProofs [hil, hdr, hb3, encE, d1, d2, d3]
            intros
            refine call0 hr1 (by simp [encI]) (by simp) ?_
            simp -implicitDefEqProofs [hil, hdr, hb3, encE, d1, d2, d3]
            refine call0 hr2 (by simp [encI]) (by simp) ?_
            simp -implicitDefEqProofs [encE]
            refine call0 hsd (by simp [encE]) (by simp) ?_
            simp -implicitDefEqProofs [encE]
            refine call0 hins (by simp [encI]) (by simp) ?_
            simp -implicitDefEqProofs
            exact roundS (i + 1) hil (by omega) (selW [] 0 (by decide) (by simp) (by simp) (by rw [hft]; simp [hCv, wi, ← List.append_assoc, insL2_snoc]))
          · rw [hs] at hft hsd
            simp only [if_true, List.append_nil] at hft
            simp -implicitDefEqProofs [hil, hdr, hb3, encE, d1, d2, d3]
            intros
            refine call0 hr1 (by simp [encI]) (by simp) ?_
            simp -implicitDefEqProofs [hil, hdr, hb3, encE, d1, d2, d3]
            refine call0 hr2 (by simp [encI]) (by simp) ?_
            simp -implicitDefEqProofs [encE]
            refine call0 hsd (by simp [encE]) (by simp) ?_
            simp -implicitDefEqProofs [encE]
            exact roundS (i + 1) hil (by omega) (selW [] 0 (by decide) (by simp) (by simp) (by rw [hft]; simp [hCv, wi]))
      · have hie : i = NP.length := by omega
        subst hie
        rw [List.take_length]
        have hE : LL n ++ BD ++ NP.filterMap (oneR Exp.id sameNd NP NQ) = LL (n + 1) := by rw [hLn1, List.append_assoc]; rfl
        rw [hE]
        simp -implicitDefEqProofs
        intros
        exact roundS (n + 1) (by omega) (by omega) (selW [] 0 (by decide) (by simp) (by simp) (by simp [hCv, wn1]))
  · have hne : n = 2 := by omega
    subst hne
    simp -implicitDefEqProofs
    exact ret_end 0 (by simp [L2])
end Go.Proofs.YthglhccibdlccaaGreatDoor
namespace Go.Proofs.YthglhccibdlccaaGreatDoor
open Go.Abs
def hdsV (mods : Int) (ps : List Pln) : List Hd := (dfns0 mods ps).map Dfn.hd
@[simp] theorem hdsV_len (mods : Int) (ps : List Pln) : (hdsV mods ps).length = ps.length := by simp [hdsV]
theorem hdsV_get (mods : Int) (ps : List Pln) {k : Nat} (h : k < ps.length) : (hdsV mods ps)[k]'(by simpa using h) = ⟨idR (mods + k), ps[k].kind, slotsV (nextV mods ps k) ps[k], ps[k].out⟩ := by
  simp only [hdsV, List.getElem_map]
  rw [dfns0_get mods ps h]
  rfl
theorem slotsV_typ {next : Int} {p : Pln} {s : Slt} (h : s ∈ slotsV next p) : s.typ ∈ p.types := by
  simp only [slotsV, List.mem_map, List.mem_range] at h
  obtain ⟨k, hk, rfl⟩ := h
  simp only [slotV, List.getD_eq_getElem?_getD, List.getElem?_eq_getElem hk, Option.getD_some]
  exact List.getElem_mem hk
theorem dfn_ok {mods : Int} {ps : List Pln} (hm : 1 ≤ mods) (hm2 : mods ≤ 2) (hps : ps.length ≤ 8) (h6 : ∀ p ∈ ps, PlnOk mods p) {k : Nat} (hk : k < ps.length) (hkd : ps[k].kind = 0 ∨ ps[k].kind = 1) {r : Nat} (ht : ∀ t ∈ ps[k].types, TyOk (hdsV mods ps) r t) :
    TyOk (hdsV mods ps) (r + 1) (tDef (idR (mods + k))) := by
  have hk' : k < (hdsV mods ps).length := by simpa using hk
  have hg := hdsV_get mods ps hk
  have hp := h6 _ (List.getElem_mem hk)
  have := TyOk.dfn (hs := hdsV mods ps) r k hk' (fun j hj => by
    rw [hg, hdsV_get mods ps (show j < ps.length by omega)]
    intro e
    have := idR_inj (by omega) (by omega) (by omega) (by omega) e
    omega) (by
    rw [hg]
    rcases hkd with h | h
    · exact .inl h
    · exact .inr ⟨h, by simp only [slotsV_len]; exact hp.t1⟩) (by rw [hg]; simp only [slotsV_len]; exact hp.t6) (fun s hs => by
    rw [hg] at hs
    exact ht _ (slotsV_typ hs))
  rw [hg] at this
  exact this
section
variable (l : List Int) (mods : Int) (hm : 1 ≤ mods) (hm2 : mods ≤ 2) (hl : ∀ x ∈ l, w64 x = x)
abbrev hsV : List Hd := hdsV mods (plansV l mods)
theorem pv0 : ∃ h : 0 < (plansV l mods).length, (plansV l mods)[0] = pPoint l mods := ⟨by simp [plansV], by simp [plansV]⟩
theorem pv1 : ∃ h : 1 < (plansV l mods).length, (plansV l mods)[1] = pEvent l mods := ⟨by simp [plansV], by simp [plansV]⟩
theorem pv2 (hh : hasH l = true) : ∃ h : 2 < (plansV l mods).length, (plansV l mods)[2] = pState l mods := ⟨by simp [plansV, hh], by simp [plansV, hh]⟩
theorem pv3 (hh : hasH l = true) : ∃ h : 3 < (plansV l mods).length, (plansV l mods)[3] = pOut mods := ⟨by simp [plansV, hh], by simp [plansV, hh]⟩
include hm hm2 hl
theorem ty_point : TyOk (hsV l mods) 2 (tPoint mods) := by
  obtain ⟨h, e⟩ := pv0 l mods
  have h8 := (plansV_len l mods).2
  have := dfn_ok hm hm2 h8 (plansV_ok l mods hm hm2 hl) h (by rw [e]; exact .inl rfl) (r := 1) (fun t ht => by
    rw [e] at ht
    obtain ⟨i, rfl⟩ := mem_tyL ht
    obtain ⟨a, b⟩ := at_range (i := 3 + i) hl (most := 3) (by omega)
    rcases simV_low a b (tPoint mods) (tPoint mods) with e | e | e <;> rw [e]
    · exact .int _
    · exact .bool _
    · exact .list _ _ (.int _))
  simpa [tPoint] using this
theorem ty_mid {r : Nat} (hr : 2 ≤ r) {x : Int} (h0 : 0 ≤ x) (h : x < 4) : TyOk (hsV l mods) r (simV x (tPoint mods) (tPoint mods)) := by
  refine TyOk.mono ?_ hr
  rcases simV_mid h0 h (tPoint mods) (tPoint mods) with e | e | e | e <;> rw [e]
  · exact .int _
  · exact .bool _
  · exact .list _ _ (.int _)
  · exact ty_point l mods hm hm2 hl
theorem ty_event : TyOk (hsV l mods) 3 (tEvent mods) := by
  obtain ⟨h, e⟩ := pv1 l mods
  have h8 := (plansV_len l mods).2
  have := dfn_ok hm hm2 h8 (plansV_ok l mods hm hm2 hl) h (by rw [e]; exact .inr rfl) (r := 2) (fun t ht => by
    rw [e] at ht
    rcases List.mem_cons.1 ht with rfl | ht
    · exact .int _
    · obtain ⟨i, rfl⟩ := mem_tyL ht
      obtain ⟨a, b⟩ := at_range (i := 7 + i) hl (most := 4) (by omega)
      exact ty_mid l mods hm hm2 hl (Nat.le_refl _) a b)
  simpa [tEvent] using this
theorem ty_state0 (hh : hasH l = true) : TyOk (hsV l mods) 3 (tDef (idR (mods + 2))) := by
  obtain ⟨h, e⟩ := pv2 l mods hh
  have h8 := (plansV_len l mods).2
  have := dfn_ok hm hm2 h8 (plansV_ok l mods hm hm2 hl) h (by rw [e]; exact .inl rfl) (r := 2) (fun t ht => by
    rw [e] at ht
    rcases List.mem_cons.1 ht with rfl | ht
    · exact .int _
    · obtain ⟨i, rfl⟩ := mem_tyL ht
      obtain ⟨a, b⟩ := at_range (i := 10 + i) hl (most := 4) (by omega)
      exact ty_mid l mods hm hm2 hl (Nat.le_refl _) a b)
  simpa using this
theorem ty_state : TyOk (hsV l mods) 3 (tState l mods) := by
  unfold tState
  split
  · rename_i hh; exact ty_state0 l mods hm hm2 hl hh
  · exact (ty_point l mods hm hm2 hl).mono (by omega)
theorem ty_out (hh : hasH l = true) : TyOk (hsV l mods) 4 (tDef (idR (mods + 3))) := by
  obtain ⟨h, e⟩ := pv3 l mods hh
  have h8 := (plansV_len l mods).2
  have := dfn_ok hm hm2 h8 (plansV_ok l mods hm hm2 hl) h (by rw [e]; exact .inl rfl) (r := 3) (fun t ht => by
    rw [e] at ht
    simp only [pOut, List.mem_cons, List.not_mem_nil, or_false] at ht
    rcases ht with rfl | rfl | rfl
    · exact ty_state0 l mods hm hm2 hl hh
    · exact .list _ _ (.int _)
    · exact .int _)
  simpa using this
omit hm hm2 hl in
theorem ty_sim {a b : Typ} (ha : TyOk (hsV l mods) 4 a) (hb : TyOk (hsV l mods) 4 b) {x : Int} (hx : w64 x = x) : TyOk (hsV l mods) 4 (simV x a b) := by
  rcases simV_cases x a b hx with e | e | e | e | e <;> rw [e]
  · exact .int _
  · exact .bool _
  · exact .list _ _ (.int _)
  · exact ha
  · exact hb
theorem plan_typs : ∀ p ∈ plansV l mods, (∀ t ∈ p.types, TyOk (hsV l mods) 4 t) ∧ TyOk (hsV l mods) 4 p.out := by
  have t1 := (ty_point l mods hm hm2 hl).mono (show 2 ≤ 4 by omega)
  have t2 := (ty_event l mods hm hm2 hl).mono (show 3 ≤ 4 by omega)
  have t3 := (ty_state l mods hm hm2 hl).mono (show 3 ≤ 4 by omega)
  have tR : TyOk (hsV l mods) 4 (tRes l mods) := ty_sim l mods t1 t1 (atV_w hl (by omega) (by omega))
  have tL : ∀ (a m n : Int), 0 < m → m ≤ 4 → ∀ t ∈ tyL l a m n (tPoint mods), TyOk (hsV l mods) 4 t := fun a m n h0 h1 t ht => by
    obtain ⟨i, rfl⟩ := mem_tyL ht
    exact ty_sim l mods t1 t1 (atV_w hl h0 (by omega))
  intro p hp
  simp only [plansV, plB, plC, plD, plE, List.mem_append, List.mem_cons] at hp
  rcases hp with ((rfl | rfl | h) | h) | rfl | h | rfl | h
  · exact ⟨tL _ _ _ (by omega) (by omega), .int _⟩
  · refine ⟨fun t ht => ?_, .int _⟩
    rcases List.mem_cons.1 ht with rfl | ht
    · exact .int _
    · exact tL _ _ _ (by omega) (by omega) t ht
  · simp at h
  · split at h
    · rename_i hh
      simp at h
      rcases h with rfl | rfl
      · refine ⟨fun t ht => ?_, .int _⟩
        rcases List.mem_cons.1 ht with rfl | ht
        · exact .int _
        · exact tL _ _ _ (by omega) (by omega) t ht
      · refine ⟨fun t ht => ?_, .int _⟩
        simp only [pOut, List.mem_cons, List.not_mem_nil, or_false] at ht
        rcases ht with rfl | rfl | rfl
        · exact (ty_state0 l mods hm hm2 hl hh).mono (by omega)
        · exact .list _ _ (.int _)
        · exact .int _
    · simp at h
  · refine ⟨fun t ht => ?_, tR⟩
    simp only [pF, fTypes, List.mem_cons] at ht
    rcases ht with rfl | ht
    · exact ty_sim l mods t1 t2 (atV_w hl (by omega) (by omega))
    · split at ht
      · simp at ht; rw [ht]; exact ty_sim l mods t1 t2 (atV_w hl (by omega) (by omega))
      · simp at ht
  · split at h
    · rename_i hh
      subst h
      refine ⟨fun t ht => ?_, ty_out l mods hm hm2 hl hh⟩
      simp only [pStep, List.mem_cons, List.not_mem_nil, or_false] at ht
      rcases ht with rfl | rfl
      · exact (ty_state0 l mods hm hm2 hl hh).mono (by omega)
      · exact t2
    · subst h
      refine ⟨fun t ht => ?_, ty_sim l mods t1 t2 (atV_w hl (by omega) (by omega))⟩
      simp only [pG, List.mem_cons, List.not_mem_nil, or_false] at ht
      rw [ht]; exact t2
  · refine ⟨fun t ht => ?_, ty_sim l mods t1 tR (atV_w hl (by omega) (by omega))⟩
    simp only [pT, List.mem_map] at ht
    obtain ⟨q, hq, rfl⟩ := ht
    simp only [inV, List.mem_cons] at hq
    rcases hq with rfl | hq
    · unfold inT0
      split
      · exact .bool _
      · split
        · exact .list _ _ (.int _)
        · split
          · exact t1
          · exact .int _
    · unfold inT1 at hq
      split at hq
      · simp at hq; rw [hq]; exact .int _
      · split at hq
        · simp at hq; rw [hq]; exact .bool _
        · simp at hq
  · split at h
    · simp at h
      subst h
      refine ⟨fun t ht => ?_, ty_sim l mods t1 t3 (atV_w hl (by omega) (by omega))⟩
      simp only [pC, List.mem_cons, List.not_mem_nil, or_false] at ht
      rw [ht]; exact t3
    · simp at h
theorem cxV (m : Mk) (hd : m.defs.map Dfn.hd = hsV l mods) (hmods : 0 < m.mods.length) (hml : m.l = l) (ho : m.own ≤ 1000) : Cx (hsV l mods) 4 m := by
  obtain ⟨n5, n8⟩ := plansV_len l mods
  refine ⟨hd, by simp; omega, by simp; omega, hmods, hml ▸ hl, ho, fun k h hk => ?_, fun k h => ?_⟩
  · have h' : k < (plansV l mods).length := by simpa using h
    have hg := hdsV_get mods (plansV l mods) h'
    rw [hg] at hk ⊢
    have hpt := plan_typs l mods hm hm2 hl _ (List.getElem_mem h')
    -- only the first four are records or variants
    have hk4 : k < 2 ∨ hasH l = true ∧ k < 4 := by
      by_cases h2 : k < 2
      · exact .inl h2
      cases hh : hasH l with
      | true =>
        refine .inr ⟨rfl, ?_⟩
        by_cases h4 : k < 4
        · exact h4
        · exfalso
          have hmem : (plansV l mods)[k] ∈ plB l mods := by
            have e : plansV l mods = [pPoint l mods, pEvent l mods, pState l mods, pOut mods] ++ plB l mods := by simp [plansV, hh]
            simp only [e]
            rw [List.getElem_append_right (by simp; omega)]
            exact List.getElem_mem _
          simp only [plB, plC, plD, plE, List.mem_cons] at hmem
          rcases hmem with e | e | e | e
          · rw [e] at hk; simp [pF] at hk
          · rw [e] at hk; split at hk <;> simp [pStep, pG] at hk
          · rw [e] at hk; simp [pT] at hk
          · split at e
            · simp at e; rw [e] at hk; simp [pC] at hk
            · simp at e
      | false =>
        exfalso
        have hmem : (plansV l mods)[k] ∈ plB l mods := by
          have e : plansV l mods = [pPoint l mods, pEvent l mods] ++ plB l mods := by simp [plansV, hh]
          simp only [e]
          rw [List.getElem_append_right (by simp; omega)]
          exact List.getElem_mem _
        simp only [plB, plC, plD, plE, List.mem_cons] at hmem
        rcases hmem with e | e | e | e
        · rw [e] at hk; simp [pF] at hk
        · rw [e] at hk; split at hk <;> simp [pStep, pG] at hk
        · rw [e] at hk; simp [pT] at hk
        · split at e
          · simp at e; rw [e] at hk; simp [pC] at hk
          · simp at e
    have hc : k = 0 ∨ k = 1 ∨ (hasH l = true ∧ k = 2) ∨ (hasH l = true ∧ k = 3) := by
      rcases hk4 with h | ⟨h, h'⟩
      · omega
      · have : k = 0 ∨ k = 1 ∨ k = 2 ∨ k = 3 := by omega
        rcases this with e | e | e | e
        · exact .inl e
        · exact .inr (.inl e)
        · exact .inr (.inr (.inl ⟨h, e⟩))
        · exact .inr (.inr (.inr ⟨h, e⟩))
    rcases hc with rfl | rfl | ⟨hh, rfl⟩ | ⟨hh, rfl⟩
    · have := (ty_point l mods hm hm2 hl).mono (show 2 ≤ 4 by omega)
      simpa [tPoint] using this
    · have := (ty_event l mods hm hm2 hl).mono (show 3 ≤ 4 by omega)
      simpa [tEvent] using this
    · exact (ty_state0 l mods hm hm2 hl hh).mono (by omega)
    · exact ty_out l mods hm hm2 hl hh
  · have h' : k < (plansV l mods).length := by simpa using h
    have hg := hdsV_get mods (plansV l mods) h'
    have hpt := plan_typs l mods hm hm2 hl _ (List.getElem_mem h')
    rw [hg]
    exact ⟨by simp only [slotsV_len]; exact (plansV_ok l mods hm hm2 hl _ (List.getElem_mem h')).t6, fun s hs => hpt.1 _ (slotsV_typ hs)⟩
end
end Go.Proofs.YthglhccibdlccaaGreatDoor
