/-
  The reference's nodes, in preorder; the first node with an ID; same nodes and definitions.
-/
import Derived.Test.YthglhccibdlccaaGreatDoorX29
import Derived.Test.YthglhccibdlccaaGreatDoorX39
import Derived.Test.YthglhccibdlccaaGreatDoorX31
set_option linter.unusedVariables false
set_option linter.unusedSimpArgs false
namespace Go.Proofs.YthglhccibdlccaaGreatDoor
open Go.Abs
def KBelow : K :=
 K.seq (K.ops [kO 1 0,
 kMn 2])
 (K.seq (K.ops [kG 5 1 15,
 ⟨none, .brow (some 6) 37 15 1 kz1 [(0, 15, (.tmp 5))]⟩,
 kM 3 6])
 (K.seq (K.seq (K.ops [kMi 4 0])
 (K.block 0 (K.loop (K.seq (K.seq (K.ops [kM 7 4,
 kA 8 1 13,
 kL 9 8 1,
 kN 10 9,
 kB 11 7 10 .lss])
 (K.cond (.tmp 11)
 (K.skip)
 (K.exit 0)))
 (K.seq (K.block 1 (K.ops [kM 14 3,
 kA 15 1 13,
 kL 16 15 1,
 kM 17 4,
 kX 18 16 17 15,
 kG 19 18 15,
 kC 20 111 [(.tmp 19)],
 kP 21 37 15 168 14 20,
 kM 3 21]))
 (K.ops [kM 12 4,
 kBi 13 12 1 .add,
 kM 4 13]))))))
 (K.seq (K.ops [kM 22 3,
 kM 2 22])
 (K.ret))))
theorem cBelow : compile Tryz.prog Tryz.f111.ntmps (Tryz.f111.body.getD .skip) = some KBelow.erase := by kernel_rfl
@[simp] theorem calBelow : callable Tryz.prog 111 = true := by kernel_rfl
def KNodesR : K :=
 K.seq (K.ops [kO 1 0,
 kMn 2])
 (K.seq (K.ops [kMn 3])
 (K.seq (K.seq (K.ops [kMi 4 0])
 (K.block 0 (K.loop (K.seq (K.seq (K.ops [kM 5 4,
 kA 6 1 1,
 kL 7 6 1,
 kN 8 7,
 kB 9 5 8 .lss])
 (K.cond (.tmp 9)
 (K.skip)
 (K.exit 0)))
 (K.seq (K.block 1 (K.seq (K.ops [kA 12 1 1,
 kL 13 12 1,
 kM 14 4,
 kX 15 13 14 31,
 kG 16 15 31,
 kC 17 25 [(.tmp 16)]])
 (K.cond (.tmp 17)
 (K.ops [kM 18 3,
 kA 19 1 1,
 kL 20 19 1,
 kM 21 4,
 kX 22 20 21 31,
 kA 23 22 14,
 kG 24 23 15,
 kC 25 111 [(.tmp 24)],
 kP 26 37 15 168 18 25,
 kM 3 26])
 (K.skip))))
 (K.ops [kM 10 4,
 kBi 11 10 1 .add,
 kM 4 11]))))))
 (K.seq (K.ops [kM 27 3,
 kM 2 27])
 (K.ret))))
theorem cNodesR : compile Tryz.prog Tryz.f62.ntmps (Tryz.f62.body.getD .skip) = some KNodesR.erase := by kernel_rfl
@[simp] theorem calNodesR : callable Tryz.prog 62 = true := by kernel_rfl
def KFindR : K :=
 K.seq (K.ops [kO 3 1,
 kZ 4 kz1,
 kMb 5 false])
 (K.seq (K.seq (K.ops [kMi 6 0])
 (K.block 0 (K.loop (K.seq (K.seq (K.ops [kM 7 6,
 kM 8 0,
 kN 9 8,
 kB 10 7 9 .lss])
 (K.cond (.tmp 10)
 (K.skip)
 (K.exit 0)))
 (K.seq (K.block 1 (K.seq (K.dops [(0, 0, kM 13 0),
 (1, 0, kM 14 6),
 (2, 0, kX 15 13 14 15),
 (3, 0, kA 16 15 0),
 (4, 0, kG 17 16 3),
 (5, 0, kG 18 3 3),
 (6, 0, ⟨none, .eqs (some 19) false [.i, .i, .i] (.tmp 17) (.tmp 18)⟩)])
 (K.cond (.tmp 19)
 (K.seq (K.ops [kM 20 0,
 kM 21 6,
 kX 22 20 21 15,
 kG 23 22 15,
 kS 4 23 15,
 kMb 5 true])
 (K.ret))
 (K.skip))))
 (K.ops [kM 11 6,
 kBi 12 11 1 .add,
 kM 6 12]))))))
 (K.seq (K.ops [⟨none, .build (some 24) kz1 []⟩,
 kS 4 24 15,
 kMb 5 false])
 (K.ret)))
theorem cFindR : compile Tryz.prog Tryz.f63.ntmps (Tryz.f63.body.getD .skip) = some KFindR.erase := by kernel_rfl
@[simp] theorem calFindR : callable Tryz.prog 63 = true := by kernel_rfl
def KSameN : K :=
 K.seq (K.ops [kO 2 0,
 kO 3 1,
 kMb 4 false])
 (K.seq (K.seq (K.ops [kA 6 2 3,
 kL 7 6 1,
 kA 8 3 3,
 kL 9 8 1,
 kQ 10 7 9 true,
 kM 11 10,
 kT 11 false (kA 12 2 4),
 kT 11 false (kL 13 12 1),
 kT 11 false (kA 14 3 4),
 kT 11 false (kL 15 14 1),
 kT 11 false (kQ 16 13 15 true),
 kPt 17 11 16,
 kM 18 17,
 kT 18 false (kA 19 2 5),
 kT 18 false (kG 20 19 3),
 kT 18 false (kA 21 3 5),
 kT 18 false (kG 22 21 3),
 ⟨some (18, false), .eqs (some 23) true [.i, .i, .i] (.tmp 20) (.tmp 22)⟩,
 kPt 24 18 23,
 kM 25 24,
 kT 25 false (kA 26 2 8),
 kT 25 false (kG 27 26 5),
 kT 25 false (kA 28 3 8),
 kT 25 false (kG 29 28 5),
 kT 25 false (kC 30 109 [(.tmp 27), (.tmp 29)]),
 kT 25 false (kR 31 30),
 kPt 32 25 31,
 kM 33 32,
 kT 33 false (kA 34 2 13),
 kT 33 false (kL 35 34 1),
 kT 33 false (kN 36 35),
 kT 33 false (kA 37 3 13),
 kT 33 false (kL 38 37 1),
 kT 33 false (kN 39 38),
 kT 33 false (kQ 40 36 39 true),
 kPt 41 33 40])
 (K.cond (.tmp 41)
 (K.seq (K.ops [kMb 4 false])
 (K.ret))
 (K.skip)))
 (K.seq (K.seq (K.ops [kMi 5 0])
 (K.block 0 (K.loop (K.seq (K.seq (K.ops [kM 42 5,
 kA 43 2 13,
 kL 44 43 1,
 kN 45 44,
 kB 46 42 45 .lss])
 (K.cond (.tmp 46)
 (K.skip)
 (K.exit 0)))
 (K.seq (K.block 1 (K.seq (K.dops [(0, 0, kA 49 2 13),
 (1, 0, kL 50 49 1),
 (2, 0, kM 51 5),
 (3, 0, kX 52 50 51 15),
 (4, 0, kA 53 52 0),
 (5, 0, kG 54 53 3),
 (6, 0, kA 55 3 13),
 (7, 0, kL 56 55 1),
 (8, 0, kM 57 5),
 (9, 0, kX 58 56 57 15),
 (10, 0, kA 59 58 0),
 (11, 0, kG 60 59 3),
 (12, 0, ⟨none, .eqs (some 61) true [.i, .i, .i] (.tmp 54) (.tmp 60)⟩)])
 (K.cond (.tmp 61)
 (K.seq (K.ops [kMb 4 false])
 (K.ret))
 (K.skip))))
 (K.ops [kM 47 5,
 kBi 48 47 1 .add,
 kM 5 48]))))))
 (K.seq (K.ops [kMb 4 true])
 (K.ret))))
theorem cSameN : compile Tryz.prog Tryz.f64.ntmps (Tryz.f64.body.getD .skip) = some KSameN.erase := by kernel_rfl
@[simp] theorem calSameN : callable Tryz.prog 64 = true := by kernel_rfl
def KSameD : K :=
 K.seq (K.ops [kO 2 0,
 kO 3 1,
 kMb 4 false])
 (K.seq (K.seq (K.ops [kA 6 2 3,
 kL 7 6 1,
 kA 8 3 3,
 kL 9 8 1,
 kQ 10 7 9 true,
 kM 11 10,
 kT 11 false (kA 12 2 9),
 kT 11 false (kG 13 12 5),
 kT 11 false (kA 14 3 9),
 kT 11 false (kG 15 14 5),
 kT 11 false (kC 16 109 [(.tmp 13), (.tmp 15)]),
 kT 11 false (kR 17 16),
 kPt 18 11 17,
 kM 19 18,
 kT 19 false (kA 20 2 8),
 kT 19 false (kL 21 20 1),
 kT 19 false (kN 22 21),
 kT 19 false (kA 23 3 8),
 kT 19 false (kL 24 23 1),
 kT 19 false (kN 25 24),
 kT 19 false (kQ 26 22 25 true),
 kPt 27 19 26])
 (K.cond (.tmp 27)
 (K.seq (K.ops [kMb 4 false])
 (K.ret))
 (K.skip)))
 (K.seq (K.seq (K.ops [kMi 5 0])
 (K.block 0 (K.loop (K.seq (K.seq (K.ops [kM 28 5,
 kA 29 2 8,
 kL 30 29 1,
 kN 31 30,
 kB 32 28 31 .lss])
 (K.cond (.tmp 32)
 (K.skip)
 (K.exit 0)))
 (K.seq (K.block 1 (K.seq (K.dops [(0, 0, kA 35 2 8),
 (1, 0, kL 36 35 1),
 (2, 0, kM 37 5),
 (3, 0, kX 38 36 37 11),
 (4, 0, kA 39 38 0),
 (5, 0, kG 40 39 3),
 (6, 0, kA 41 3 8),
 (7, 0, kL 42 41 1),
 (8, 0, kM 43 5),
 (9, 0, kX 44 42 43 11),
 (10, 0, kA 45 44 0),
 (11, 0, kG 46 45 3),
 (12, 0, ⟨none, .eqs (some 47) true [.i, .i, .i] (.tmp 40) (.tmp 46)⟩),
 (13, 0, kM 48 47),
 (14, 0, kT 48 false (kA 49 2 8)),
 (15, 0, kT 48 false (kL 50 49 1)),
 (16, 0, kT 48 false (kM 51 5)),
 (17, 0, kT 48 false (kX 52 50 51 11)),
 (18, 0, kT 48 false (kA 53 52 9)),
 (19, 0, kT 48 false (kL 54 53 1)),
 (20, 0, kT 48 false (kA 55 3 8)),
 (21, 0, kT 48 false (kL 56 55 1)),
 (22, 0, kT 48 false (kM 57 5)),
 (23, 0, kT 48 false (kX 58 56 57 11)),
 (24, 0, kT 48 false (kA 59 58 9)),
 (25, 0, kT 48 false (kL 60 59 1)),
 (26, 0, kT 48 false (kQ 61 54 60 true)),
 (27, 0, kPt 62 48 61),
 (28, 0, kM 63 62),
 (29, 0, kT 63 false (kA 64 2 8)),
 (30, 0, kT 63 false (kL 65 64 1)),
 (31, 0, kT 63 false (kM 66 5)),
 (32, 0, kT 63 false (kX 67 65 66 11)),
 (33, 0, kT 63 false (kA 68 67 4)),
 (34, 0, kT 63 false (kG 69 68 5)),
 (35, 0, kT 63 false (kA 70 3 8)),
 (36, 0, kT 63 false (kL 71 70 1)),
 (37, 0, kT 63 false (kM 72 5)),
 (38, 0, kT 63 false (kX 73 71 72 11)),
 (39, 0, kT 63 false (kA 74 73 4)),
 (40, 0, kT 63 false (kG 75 74 5)),
 (41, 0, kT 63 false (kC 76 109 [(.tmp 69), (.tmp 75)])),
 (42, 0, kT 63 false (kR 77 76)),
 (43, 0, kPt 78 63 77)])
 (K.cond (.tmp 78)
 (K.seq (K.ops [kMb 4 false])
 (K.ret))
 (K.skip))))
 (K.ops [kM 33 5,
 kBi 34 33 1 .add,
 kM 5 34]))))))
 (K.seq (K.ops [kG 79 2 31,
 kC 80 25 [(.tmp 79)],
 kR 81 80,
 kM 82 81,
 kT 82 false (kA 83 2 14),
 kT 82 false (kA 84 83 0),
 kT 82 false (kG 85 84 3),
 kT 82 false (kA 86 3 14),
 kT 82 false (kA 87 86 0),
 kT 82 false (kG 88 87 3),
 ⟨some (82, false), .eqs (some 89) false [.i, .i, .i] (.tmp 85) (.tmp 88)⟩,
 kPt 90 82 89,
 kM 4 90])
 (K.ret))))
theorem cSameD : compile Tryz.prog Tryz.f60.ntmps (Tryz.f60.body.getD .skip) = some KSameD.erase := by kernel_rfl
@[simp] theorem calSameD : callable Tryz.prog 60 = true := by kernel_rfl
def KHasB : K :=
 K.seq (K.ops [kO 1 0,
 kMb 2 false])
 (K.seq (K.ops [kA 3 1 3,
 kL 4 3 1,
 kQi 5 4 2 false,
 kM 6 5,
 kT 6 false (kA 7 1 3),
 kT 6 false (kL 8 7 1),
 kT 6 false (kQi 9 8 3 false),
 kPt 10 6 9,
 kM 11 10,
 kT 11 false (kA 12 1 3),
 kT 11 false (kL 13 12 1),
 kT 11 false (kQi 14 13 4 false),
 kPt 15 11 14,
 kM 16 15,
 kT 16 false (kA 17 1 3),
 kT 16 false (kL 18 17 1),
 kT 16 false (kQi 19 18 5 false),
 kPt 20 16 19,
 kM 2 20])
 (K.ret))
theorem cHasB : compile Tryz.prog Tryz.f25.ntmps (Tryz.f25.body.getD .skip) = some KHasB.erase := by kernel_rfl
@[simp] theorem calHasB : callable Tryz.prog 25 = true := by kernel_rfl
mutual
def belowE : Exp → List Exp
  | .mk a b c d t ks ns => .mk a b c d t ks ns :: belowL ks
def belowL : List Exp → List Exp
  | [] => []
  | e :: l => belowE e ++ belowL l
end
theorem belowE_def (e : Exp) : belowE e = e :: belowL e.kids := by cases e; simp only [belowE, Exp.kids]
theorem belowL_snoc (e : Exp) : ∀ l : List Exp, belowL (l ++ [e]) = belowL l ++ belowE e
  | [] => by simp [belowL]
  | x :: l => by simp [belowL, belowL_snoc e l]
theorem belowL_take_succ {l : List Exp} {i : Nat} (h : i < l.length) : belowL (l.take (i + 1)) = belowL (l.take i) ++ belowE l[i] := by rw [List.take_succ_eq_append_getElem h, belowL_snoc]
mutual
theorem belowE_len : ∀ e : Exp, (belowE e).length = (tmps e).length
  | .mk a b c d t ks ns => by
    have := belowL_len ks
    simp only [belowE, tmps, List.length_cons, List.length_append, List.length_nil, this]
theorem belowL_len : ∀ l : List Exp, (belowL l).length = (tmpsL l).length
  | [] => rfl
  | e :: l => by
    have := belowE_len e
    have := belowL_len l
    simp only [belowL, tmpsL, List.length_append, *]
end
mutual
theorem below_ok : ∀ (e : Exp), (tmps e).length ≤ 1000000 → Ret Tryz.prog 111 [.agg (encE e)] [] (.sl (belowE e).length (cellsE (belowE e))) []
  | .mk a b c d t l ns, hle => by
    have ih := belows_ok l
    generalize ha : Exp.mk a b c d t l ns = e at hle
    have hal : e.kids = l := by rw [← ha]; rfl
    rw [← hal] at ih
    rw [tmps_def, List.length_append, List.length_singleton] at hle
    refine ret_of_wp Tryz.func111 rfl cBelow (rs := [.slot 2]) (by kernel_rfl) ?_
    unfold KBelow
    simp -implicitDefEqProofs [encE]
    refine loopS (S := Nat) (fun i => [(1, .ptr 0 0), (3, .row 1 ((belowL (e.kids.take i)).length + 1)), (4, int i)]) (fun i => [.box (encE e), .row false 37 15 ((belowL (e.kids.take i)).length + 1) (encE e ++ cellsE (belowL (e.kids.take i)))]) (fun i => i ≤ e.kids.length) (fun i => e.kids.length - i) 0 (by simp)
      (selW [0, 1] 0 (by decide) (by simp) (by simp [encE, belowL]) (by simp [belowL])) ?_
    intro i hi
    by_cases h : i < e.kids.length
    · have hle2 : (tmps e.kids[i]).length ≤ 1000000 := by have := tmpsL_le (List.getElem_mem h); omega
      have h3 := tmpsL_take_le (l := e.kids) (i + 1)
      rw [← belowL_len, belowL_take_succ h, List.length_append] at h3
      have hb := ih e.kids[i] (List.getElem_mem h) hle2
      have hst := belowL_take_succ h
      have w1 : (belowL (e.kids.take i)).length + 1 + (belowE e.kids[i]).length ≤ 1000000 := by omega
      simp -implicitDefEqProofs [encE, h, cellsE_drop h]
      intro hl
      refine call0 hb (by simp [encE]) (by simp) ?_
      simp -implicitDefEqProofs
      refine ⟨⟨by simp [maxLen]; omega, by omega⟩, ?_⟩
      exact roundS (i + 1) h (by omega) (selW [0, 1] 0 (by decide) (by simp) (by simp [encE, hst, cellsE_append]; omega) (by simp [wrap_succ h hl, hst]; omega))
    · have hie : i = e.kids.length := by omega
      subst hie
      simp -implicitDefEqProofs [encE]
      exact fun _ => ret_end 1 (by simp [belowE_def, cellsE_cons, encE])
theorem belows_ok : ∀ (l : List Exp), ∀ x ∈ l, (tmps x).length ≤ 1000000 → Ret Tryz.prog 111 [.agg (encE x)] [] (.sl (belowE x).length (cellsE (belowE x))) []
  | [], x, hx => by simp at hx
  | z :: l, x, hx => by
    rcases List.mem_cons.1 hx with e | hx
    · rw [e]; exact below_ok z
    · exact belows_ok l x hx
end
theorem hasB_ok (d : Dfn) : Ret Tryz.prog 25 [.agg (encD d)] [] (bl (bodK d.kind)) [] := by
  refine ret_of_wp Tryz.func25 rfl cHasB (rs := [.slot 2]) (by kernel_rfl) ?_
  unfold KHasB
  by_cases h2 : d.kind = 2
  · simp -implicitDefEqProofs [encD, h2]
    exact ret_end 0 (by simp [bodK, h2])
  · by_cases h3 : d.kind = 3
    · simp -implicitDefEqProofs [encD, h3]
      exact ret_end 0 (by simp [bodK, h3])
    · by_cases h4 : d.kind = 4
      · simp -implicitDefEqProofs [encD, h4]
        exact ret_end 0 (by simp [bodK, h4])
      · simp -implicitDefEqProofs [encD, h2, h3, h4]
        exact ret_end 0 (by simp [bodK, h2, h3, h4])
def nodesV (ds : List Dfn) : List Exp := ds.flatMap fun d => if bodK d.kind then belowE d.body else []
theorem nodesV_succ {ds : List Dfn} {i : Nat} (h : i < ds.length) : nodesV (ds.take (i + 1)) = nodesV (ds.take i) ++ (if bodK ds[i].kind then belowE ds[i].body else []) := by
  rw [List.take_succ_eq_append_getElem h]
  simp only [nodesV, List.flatMap_append, List.flatMap_cons, List.flatMap_nil, List.append_nil]
theorem nodesV_le (ds : List Dfn) (B : Nat) (h : ∀ d ∈ ds, (tmps d.body).length ≤ B) : (nodesV ds).length ≤ ds.length * B := by
  induction ds with
  | nil => simp [nodesV]
  | cons d ds ih =>
    have h1 := h d (by simp)
    have h2 := ih fun d hd => h d (by simp [hd])
    have e : nodesV (d :: ds) = (if bodK d.kind then belowE d.body else []) ++ nodesV ds := by simp [nodesV]
    rw [e, List.length_append, List.length_cons, Nat.succ_mul]
    have h3 : (if bodK d.kind = true then belowE d.body else []).length ≤ B := by
      split
      · rw [belowE_len]; exact h1
      · simp
    omega
theorem nodesR_ok (p : Prg) (hd : p.defs.length ≤ 100) (hn : ∀ d ∈ p.defs, (tmps d.body).length ≤ 1000000) : Ret Tryz.prog 62 [.agg (encP p)] [] (.sl (nodesV p.defs).length (cellsE (nodesV p.defs))) [] := by
  refine ret_of_wp Tryz.func62 rfl cNodesR (rs := [.slot 2]) (by kernel_rfl) ?_
  unfold KNodesR
  simp -implicitDefEqProofs [encP]
  refine loopS (S := Nat) (fun i => [(1, .ptr 0 0), (3, .row 1 (nodesV (p.defs.take i)).length), (4, int i)]) (fun i => [.box (encP p), .row false 37 15 (nodesV (p.defs.take i)).length (cellsE (nodesV (p.defs.take i)))]) (fun i => i ≤ p.defs.length) (fun i => p.defs.length - i) 0 (by simp)
    ((weak_nilslot (t := 3) (by simp) 37 15).trans (selW [0, 1] 0 (by decide) (by simp) (by simp [encP, nodesV]) (by simp [nodesV]))) ?_
  intro i hi
  by_cases h : i < p.defs.length
  · have hdr := cellsD_drop h
    have hdr14 : List.drop (i * 31 + 14) (cellsD p.defs) = (encD p.defs[i] ++ cellsD (p.defs.drop (i + 1))).drop 14 := by rw [← List.drop_drop, hdr]
    have hb14 : i * 31 + 14 + 15 ≤ p.defs.length * 31 := by omega
    have hb31 : i * 31 + 31 ≤ p.defs.length * 31 := by omega
    have hw : IntKind.i64.wrap ((i : Int) + 1) = (i : Int) + 1 := IntWalk.i64_in _ (by omega)
    have hst := nodesV_succ h
    have hm := nodesV_le (p.defs.take i) 1000000 fun d hd' => hn d (List.mem_of_mem_take hd')
    rw [List.length_take] at hm
    have hnd := hn p.defs[i] (List.getElem_mem h)
    generalize p.defs[i] = d at *
    simp -implicitDefEqProofs [encP, h, hdr, hb31, encD]
    intro _
    refine call0 (hasB_ok d) (by simp [encD]) (by simp) ?_
    cases hk : bodK d.kind
    · rw [hk] at hst
      simp only [Bool.false_eq_true, if_false, List.append_nil] at hst
      simp -implicitDefEqProofs
      exact roundS (i + 1) h (by omega) (selW [0, 1] 0 (by decide) (by simp) (by simp [encP, hst]) (by simp [hw, hst]))
    · rw [hk] at hst
      simp only [if_true] at hst
      have hbl := belowE_len d.body
      simp -implicitDefEqProofs [encP, h, hdr14, hb14, encD]
      refine call0 (below_ok d.body hnd) (by simp [encE]) (by simp) ?_
      simp -implicitDefEqProofs
      refine ⟨⟨by simp [maxLen]; omega, by omega⟩, ?_⟩
      exact roundS (i + 1) h (by omega) (selW [0, 1] 0 (by decide) (by simp) (by simp [encP, hst, cellsE_append]) (by simp [hw, hst]))
  · have : i = p.defs.length := by omega
    subst this
    simp -implicitDefEqProofs [encP]
    exact fun _ => ret_end 1 (by simp)
theorem findE_hit {l : List Exp} {i : Nat} {x : Id} (h : i < l.length) (hn : ∀ d ∈ l.take i, d.id ≠ x) (he : l[i].id = x) : (l.find? fun d => decide (d.id = x)) = some l[i] := by
  have e : l = l.take i ++ l[i] :: l.drop (i + 1) := by rw [← List.drop_eq_getElem_cons h, List.take_append_drop]
  have h1 : ((l.take i).find? fun d => decide (d.id = x)) = none := List.find?_eq_none.2 fun d hd => by simpa using hn d hd
  have h2 : ∀ y, y = l[i] → (l.find? fun d => decide (d.id = x)) = some y := fun y hy => by
    rw [← hy] at e he
    rw [e, List.find?_append, h1]
    simp [he]
  exact h2 _ rfl
def findV (l : List Exp) (x : Id) : Exp × Bool := match l.find? fun d => decide (d.id = x) with
  | some d => (d, true)
  | none => (Exp.zero, false)
theorem find_ok (l : List Exp) (x : Id) (hL : l.length ≤ 1000000) : Ret Tryz.prog 63 [.sl l.length (cellsE l), .agg (encI x)] [] (.tup [.agg (encE (findV l x).1), bl (findV l x).2]) [] := by
  refine ret_of_wp Tryz.func63 rfl cFindR (rs := [.cell 4 15 true, .slot 5]) (by kernel_rfl) ?_
  unfold KFindR
  simp -implicitDefEqProofs [encI]
  refine loopS (S := Nat) (fun i => [(0, .sl l.length (cellsE l)), (3, .ptr 0 0), (4, .ptr 1 0), (6, int i)]) (fun _ => [.box (encI x), .box (encE Exp.zero)]) (fun i => i ≤ l.length ∧ ∀ d ∈ l.take i, d.id ≠ x) (fun i => l.length - i) 0 (by simp)
    (selW [0, 1] 0 (by decide) (by simp) (by simp [encI, encE, Exp.zero, Id.zero, Typ.zero]) (by simp)) ?_
  rintro i ⟨hi, hn⟩
  by_cases h : i < l.length
  · have hd := cellsE_drop h
    have hb3 : i * 15 + 3 ≤ l.length * 15 := by omega
    have hb15 : i * 15 + 15 ≤ l.length * 15 := by omega
    have hw : IntKind.i64.wrap ((i : Int) + 1) = (i : Int) + 1 := IntWalk.i64_in _ (by omega)
    by_cases he : l[i].id = x
    · have hv : findV l x = (l[i], true) := by unfold findV; rw [findE_hit h hn he]
      have he3 : same3 l[i].id.a l[i].id.b l[i].id.c x.a x.b x.c = true := by rw [same3_id]; exact decide_eq_true he
      simp -implicitDefEqProofs [h, hd, encI, encE, he3, hb3, hb15]
      intros; exact ret_end 0 (by simp [hv, encE])
    · have he3 : same3 l[i].id.a l[i].id.b l[i].id.c x.a x.b x.c = false := by rw [same3_id]; exact decide_eq_false he
      simp -implicitDefEqProofs [h, hd, encI, encE, he3, hb3, hb15]
      intros; exact roundS (i + 1) ⟨h, fun d hd' => by
        rw [List.take_succ_eq_append_getElem h] at hd'
        rcases List.mem_append.1 hd' with hd' | hd'
        · exact hn d hd'
        · rw [List.mem_singleton.1 hd']; exact he⟩ (by omega) (selW [0, 1] 0 (by decide) (by simp) (by simp [encI, encE, Exp.zero, Id.zero, Typ.zero]) (by simp [hw]))
  · have : i = l.length := by omega
    subst this
    rw [List.take_length] at hn
    have hv : findV l x = (Exp.zero, false) := by
      unfold findV
      rw [List.find?_eq_none.2 fun d hd => by simpa using hn d hd]
    simp -implicitDefEqProofs [encE, Exp.zero, Id.zero, Typ.zero]
    intros; exact ret_end 0 (by simp [hv, encE, Exp.zero, Id.zero, Typ.zero])
end Go.Proofs.YthglhccibdlccaaGreatDoor
