/-
  The number of nodes, their numbers, their IDs.
  The maker's plans: what definitions are to be made.
-/
import Derived.Test.YthglhccibdlccaaGreatDoorX38
set_option linter.unusedVariables false
set_option linter.unusedSimpArgs false
namespace Go.Proofs.YthglhccibdlccaaGreatDoor
open Go.Abs
def KNodM : K :=
 K.seq (K.ops [kO 1 0,
 kMi 2 0])
 (K.seq (K.ops [kMi 3 1])
 (K.seq (K.seq (K.ops [kMi 4 0])
 (K.block 0 (K.loop (K.seq (K.seq (K.ops [kM 5 4,
 kA 6 1 13,
 kL 7 6 1,
 kN 8 7,
 kB 9 5 8 .lss])
 (K.cond (.tmp 9)
 (K.skip)
 (K.exit 0)))
 (K.seq (K.block 1 (K.ops [kM 12 3,
 kA 13 1 13,
 kL 14 13 1,
 kM 15 4,
 kX 16 14 15 15,
 kG 17 16 15,
 kC 18 35 [(.tmp 17)],
 kB 19 12 18 .add,
 kM 3 19]))
 (K.ops [kM 10 4,
 kBi 11 10 1 .add,
 kM 4 11]))))))
 (K.seq (K.ops [kM 20 3,
 kM 2 20])
 (K.ret))))
theorem cNodM : compile Tryz.prog Tryz.f35.ntmps (Tryz.f35.body.getD .skip) = some KNodM.erase := by kernel_rfl
@[simp] theorem calNodM : callable Tryz.prog 35 = true := by kernel_rfl
def KNumM : K :=
 K.seq (K.ops [kO 2 0,
 kMn 4])
 (K.seq (K.seq (K.ops [kMi 5 0])
 (K.block 0 (K.loop (K.seq (K.seq (K.ops [kM 6 5,
 kA 7 2 13,
 kL 8 7 1,
 kN 9 8,
 kB 10 6 9 .lss])
 (K.cond (.tmp 10)
 (K.skip)
 (K.exit 0)))
 (K.seq (K.block 1 (K.ops [kA 13 2 13,
 kL 14 13 1,
 kM 15 5,
 kX 16 14 15 15,
 kG 17 16 15,
 kM 18 1,
 kC 19 36 [(.tmp 17), (.tmp 18)],
 kM 1 19]))
 (K.ops [kM 11 5,
 kBi 12 11 1 .add,
 kM 5 12]))))))
 (K.seq (K.ops [kM 20 1,
 kA 21 2 0,
 kA 22 21 2,
 kL 23 22 1,
 ⟨none, .bslice (some 24) 3 1 1 [(.int .i64 0)] [(0, 1, (.tmp 23))]⟩,
 kP 25 3 1 8 20 24,
 kM 4 25])
 (K.ret)))
theorem cNumM : compile Tryz.prog Tryz.f36.ntmps (Tryz.f36.body.getD .skip) = some KNumM.erase := by kernel_rfl
@[simp] theorem calNumM : callable Tryz.prog 36 = true := by kernel_rfl
def KRenM : K :=
 K.seq (K.ops [kO 2 0,
 kZ 4 kz1])
 (K.seq (K.ops [kG 7 2 15,
 kZ 5 kz1,
 kS 5 7 15])
 (K.seq (K.ops [kM 8 1,
 kA 9 2 0,
 kA 10 9 2,
 kL 11 10 1,
 kX 12 8 11 3,
 kG 13 12 3,
 kA 14 5 0,
 kS 14 13 3])
 (K.seq (K.seq (K.ops [kA 15 2 3,
 kL 16 15 1,
 kQi 17 16 2 false,
 kM 18 17,
 kT 18 true (kA 19 2 5),
 kT 18 true (kA 20 19 1),
 kT 18 true (kL 21 20 1),
 kT 18 true (kQi 22 21 0 false),
 kPf 23 18 22])
 (K.cond (.tmp 23)
 (K.ops [kM 24 1,
 kA 25 2 5,
 kA 26 25 2,
 kL 27 26 1,
 kX 28 24 27 3,
 kG 29 28 3,
 kA 30 5 5,
 kS 30 29 3])
 (K.skip)))
 (K.seq (K.ops [kA 31 5 13,
 ⟨none, .st none (.tmp 31) (.const (.slice none 0 0)) 1⟩])
 (K.seq (K.seq (K.ops [kMi 6 0])
 (K.block 0 (K.loop (K.seq (K.seq (K.ops [kM 32 6,
 kA 33 2 13,
 kL 34 33 1,
 kN 35 34,
 kB 36 32 35 .lss])
 (K.cond (.tmp 36)
 (K.skip)
 (K.exit 0)))
 (K.seq (K.block 1 (K.dops [(0, 2, kA 39 5 13),
 (1, 2001, kL 40 39 1),
 (2, 0, kA 41 2 13),
 (3, 0, kL 42 41 1),
 (4, 0, kM 43 6),
 (5, 0, kX 44 42 43 15),
 (6, 0, kG 45 44 15),
 (7, 0, kM 46 1),
 (8, 1001, kC 47 37 [(.tmp 45), (.tmp 46)]),
 (9, 0, ⟨none, .bslice (some 48) 37 15 1 kz1 [(0, 15, (.tmp 47))]⟩),
 (10, 0, kP 49 37 15 168 40 48),
 (11, 2, kA 50 5 13),
 (12, 0, kS 50 49 1)]))
 (K.ops [kM 37 6,
 kBi 38 37 1 .add,
 kM 6 38]))))))
 (K.seq (K.ops [kG 51 5 15,
 kS 4 51 15])
 (K.ret)))))))
def hRenM : Nat → Option (List (Nat × Nat)) := fun r => match r with | 9 => some [(0,2),(1,2001),(2,0),(3,0),(4,0),(5,0),(6,0),(7,0),(8,1001),(9,0),(10,0),(11,2),(12,0)] | _ => none
theorem cRenM : compileH Tryz.prog Tryz.f37.ntmps hRenM (Tryz.f37.body.getD .skip) = some KRenM.erase := by kernel_rfl
@[simp] theorem calRenM : callable Tryz.prog 37 = true := by kernel_rfl
@[simp] theorem tgtC_ld1 {d : Option Nat} {x : Operand} {n : Nat} {g : Bool} {env : Env} : tgtC 2001 (.ld d x n g) env = isAbove 1 (ev env x) := propext (tgtC_ld (by omega) (by omega))
@[simp] theorem tgtC_call1 {d : Option Nat} {x : Operand} {l : List Operand} {env : Env} : tgtC 1001 (.call d x l) env = True := rfl
@[simp] theorem seeF_2001 {σ : St} : seeF 2001 σ = σ := rfl
theorem tmps_def (e : Exp) : tmps e = tmpsL e.kids ++ [e.id.c] := by cases e; simp only [tmps, Exp.kids, Exp.id]
theorem tmpsL_take_succ {l : List Exp} {i : Nat} (h : i < l.length) : tmpsL (l.take (i + 1)) = tmpsL (l.take i) ++ tmps l[i] := by rw [List.take_succ_eq_append_getElem h, tmpsL_snoc]
theorem tmpsL_le : ∀ {l : List Exp} {e : Exp}, e ∈ l → (tmps e).length ≤ (tmpsL l).length
  | x :: l, e, h => by
    simp only [tmpsL, List.length_append]
    rcases List.mem_cons.1 h with rfl | h
    · omega
    · have := tmpsL_le h; omega
theorem tmpsL_take_le {l : List Exp} (i : Nat) : (tmpsL (l.take i)).length ≤ (tmpsL l).length := by
  have h : ∀ a b : List Exp, tmpsL (a ++ b) = tmpsL a ++ tmpsL b := fun a b => by
    induction a with
    | nil => simp [tmpsL]
    | cons x a ih => simp [tmpsL, ih]
  have := h (l.take i) (l.drop i)
  rw [List.take_append_drop] at this
  rw [this, List.length_append]
  omega
mutual
theorem nodes_ok : ∀ (e : Exp), (tmps e).length ≤ 1000000000 → Ret Tryz.prog 35 [.agg (encE e)] [] (int (tmps e).length) []
  | .mk a b c d t l ns, hle => by
    have ih := nodesL_ok l
    generalize ha : Exp.mk a b c d t l ns = e at hle
    have hal : e.kids = l := by rw [← ha]; rfl
    rw [← hal] at ih
    rw [tmps_def, List.length_append, List.length_singleton] at hle
    refine ret_of_wp Tryz.func35 rfl cNodM (rs := [.slot 2]) (by kernel_rfl) ?_
    unfold KNodM
    simp -implicitDefEqProofs [encE]
    refine loopS (S := Nat) (fun i => [(1, .ptr 0 0), (3, int ((tmpsL (e.kids.take i)).length + 1 : Nat)), (4, int i)]) (fun _ => [.box (encE e)]) (fun i => i ≤ e.kids.length) (fun i => e.kids.length - i) 0 (by simp)
      (selW [0] 0 (by decide) (by simp) (by simp [encE]) (by simp [tmpsL])) ?_
    intro i hi
    by_cases h : i < e.kids.length
    · have hle2 : (tmps e.kids[i]).length ≤ 1000000000 := by have := tmpsL_le (List.getElem_mem h); omega
      have h3 := tmpsL_take_le (l := e.kids) (i + 1)
      rw [tmpsL_take_succ h, List.length_append] at h3
      simp -implicitDefEqProofs [encE, h, cellsE_drop h]
      intro hl
      refine call0 (ih e.kids[i] (List.getElem_mem h) hle2) (by simp [encE]) (by simp) ?_
      have hw : IntKind.i64.wrap ((((tmpsL (e.kids.take i)).length : Int) + 1) + ((tmps e.kids[i]).length : Int)) = ((tmpsL (e.kids.take i)).length : Int) + 1 + (tmps e.kids[i]).length := IntWalk.i64_in _ (by omega)
      simp -implicitDefEqProofs [hw]
      exact roundS (i + 1) h (by omega) (selW [0] 0 (by decide) (by simp) (by simp [encE]) (by simp [wrap_succ h hl, tmpsL_take_succ h]; omega))
    · have hie : i = e.kids.length := by omega
      subst hie
      simp -implicitDefEqProofs [encE]
      first | exact fun _ => ret_end 0 (by simp [tmps_def]) | exact ret_end 0 (by simp [tmps_def])
theorem nodesL_ok : ∀ (l : List Exp), ∀ x ∈ l, (tmps x).length ≤ 1000000000 → Ret Tryz.prog 35 [.agg (encE x)] [] (int (tmps x).length) []
  | [], x, hx => by simp at hx
  | z :: l, x, hx => by
    rcases List.mem_cons.1 hx with e | hx
    · rw [e]; exact nodes_ok z
    · exact nodesL_ok l x hx
end
def rowI (l : List Int) : AObj := .row false 3 1 l.length (ints l)
mutual
theorem number_ok : ∀ (e : Exp) (l : List Int), l.length + (tmps e).length ≤ 1000000000 → Ret Tryz.prog 36 [.agg (encE e), .row 0 l.length] [rowI l] (.row 0 (l ++ tmps e).length) [rowI (l ++ tmps e)]
  | .mk a b c d t ks ns, l, hle => by
    have ih := numberL_ok ks
    generalize ha : Exp.mk a b c d t ks ns = e at hle
    have hal : e.kids = ks := by rw [← ha]; rfl
    rw [← hal] at ih
    rw [tmps_def, List.length_append, List.length_singleton] at hle
    refine ret_of_wp Tryz.func36 rfl cNumM (rs := [.slot 4]) (by kernel_rfl) ?_
    unfold KNumM
    simp -implicitDefEqProofs [encE, rowI]
    refine loopS (S := Nat) (fun i => [(1, .row 0 (l ++ tmpsL (e.kids.take i)).length), (2, .ptr 1 0), (5, int i)]) (fun i => [rowI (l ++ tmpsL (e.kids.take i)), .box (encE e)]) (fun i => i ≤ e.kids.length) (fun i => e.kids.length - i) 0 (by simp)
      (selW [0, 1] 0 (by decide) (by simp) (by simp [encE, rowI, tmpsL]) (by simp [tmpsL])) ?_
    intro i hi
    by_cases h : i < e.kids.length
    · have h3 := tmpsL_take_le (l := e.kids) (i + 1)
      rw [tmpsL_take_succ h, List.length_append] at h3
      have hg := ih e.kids[i] (List.getElem_mem h) (l ++ tmpsL (e.kids.take i)) (by rw [List.length_append]; omega)
      simp -implicitDefEqProofs [encE, rowI, h, cellsE_drop h]
      intro hl
      refine callJ hg [0] (by decide) (by simp [rowI, ints_append]) (by simp [encE]) ?_
      simp -implicitDefEqProofs [rowI]
      exact roundS (i + 1) h (by omega) (selW [0, 1] 0 (by decide) (by simp) (by simp [encE, rowI, tmpsL_take_succ h, ints_append]) (by simp [wrap_succ h hl, tmpsL_take_succ h]))
    · have hie : i = e.kids.length := by omega
      subst hie
      simp -implicitDefEqProofs [encE, rowI]
      intro _
      refine ⟨⟨by simp [maxLen]; omega, by omega⟩, ?_⟩
      exact ret_keep [0] 0 (by decide) (by simp) (by simp [tmps_def, ints_append]; omega) (by simp [tmps_def]; omega)
theorem numberL_ok : ∀ (ks : List Exp), ∀ x ∈ ks, ∀ (l : List Int), l.length + (tmps x).length ≤ 1000000000 → Ret Tryz.prog 36 [.agg (encE x), .row 0 l.length] [rowI l] (.row 0 (l ++ tmps x).length) [rowI (l ++ tmps x)]
  | [], x, hx => by simp at hx
  | z :: l, x, hx => by
    rcases List.mem_cons.1 hx with e | hx
    · rw [e]; exact number_ok z
    · exact numberL_ok l x hx
end
theorem number_nil (e : Exp) (hle : (tmps e).length ≤ 1000000000) : Ret Tryz.prog 36 [.agg (encE e), .nil] [] (.row 0 (tmps e).length) [rowI (tmps e)] := by
  rw [tmps_def, List.length_append, List.length_singleton] at hle
  refine ret_of_wp Tryz.func36 rfl cNumM (rs := [.slot 4]) (by kernel_rfl) ?_
  unfold KNumM
  simp -implicitDefEqProofs [encE, rowI]
  refine loopS (S := Nat) (fun i => [(1, .row 0 (tmpsL (e.kids.take i)).length), (2, .ptr 1 0), (5, int i)]) (fun i => [rowI (tmpsL (e.kids.take i)), .box (encE e)]) (fun i => i ≤ e.kids.length) (fun i => e.kids.length - i) 0 (by simp)
    ((weak_nilslot (t := 1) (by simp) 3 1).trans (selW [1, 0] 0 (by decide) (by simp) (by simp [encE, rowI, tmpsL]) (by simp [tmpsL]))) ?_
  intro i hi
  by_cases h : i < e.kids.length
  · have h3 := tmpsL_take_le (l := e.kids) (i + 1)
    rw [tmpsL_take_succ h, List.length_append] at h3
    have hg := number_ok e.kids[i] (tmpsL (e.kids.take i)) (by omega)
    simp -implicitDefEqProofs [encE, rowI, h, cellsE_drop h]
    intro hl
    refine callJ hg [0] (by decide) (by simp [rowI]) (by simp [encE]) ?_
    simp -implicitDefEqProofs [rowI]
    exact roundS (i + 1) h (by omega) (selW [0, 1] 0 (by decide) (by simp) (by simp [encE, rowI, tmpsL_take_succ h, ints_append]) (by simp [wrap_succ h hl, tmpsL_take_succ h]))
  · have hie : i = e.kids.length := by omega
    subst hie
    simp -implicitDefEqProofs [encE, rowI]
    intro _
    refine ⟨⟨by simp [maxLen]; omega, by omega⟩, ?_⟩
    exact ret_keep [0] 0 (by decide) (by simp) (by simp [tmps_def, ints_append]) (by simp [tmps_def])
mutual
def renE (f : Int → Id) : Exp → Exp
  | .mk i k n r t ks ns => .mk (f i.c) k n (if k = 2 ∧ r.b = 0 then f r.c else r) t (renEs f ks) ns
def renEs (f : Int → Id) : List Exp → List Exp
  | [] => []
  | e :: l => renE f e :: renEs f l
end
theorem renEs_map (f : Int → Id) : ∀ l : List Exp, renEs f l = l.map (renE f)
  | [] => rfl
  | e :: l => by simp only [renEs, List.map_cons, renEs_map f l]
mutual
def Exp.under (N : Nat) : Exp → Prop
  | .mk i k _ r _ ks _ => (0 ≤ i.c ∧ i.c < N) ∧ (k = 2 → r.b = 0 → 0 ≤ r.c ∧ r.c < N) ∧ ks.length ≤ 1000000000 ∧ underL N ks
def underL (N : Nat) : List Exp → Prop
  | [] => True
  | e :: l => e.under N ∧ underL N l
end
theorem underL_iff {N : Nat} : ∀ l : List Exp, underL N l ↔ ∀ e ∈ l, e.under N
  | [] => by simp [underL]
  | e :: l => by simp [underL, underL_iff l]
def idAt (ids : List Id) (c : Int) : Id := ids.getD c.toNat Id.zero
theorem idAt_get {ids : List Id} {c : Int} {j : Nat} (h : c = j) (hj : j < ids.length) : idAt ids c = ids[j] := by
  subst h
  unfold idAt
  rw [Int.toNat_natCast, List.getD_eq_getElem?_getD, List.getElem?_eq_getElem hj]
  rfl
def rowIds (ids : List Id) : AObj := .row false 29 3 ids.length (cellsI ids)
mutual
theorem renamed_ok (ids : List Id) : ∀ (e : Exp), e.under ids.length → Ret Tryz.prog 37 [.agg (encE e), .row 0 ids.length] [rowIds ids] (.agg (encE (renE (idAt ids) e))) [rowIds ids]
  | .mk a b c d t ks ns, hb => by
    have ih := renamedL_ok ids ks
    simp only [Exp.under, underL_iff] at hb
    obtain ⟨⟨hb1, hb2⟩, hb3, hkl, hb4⟩ := hb
    obtain ⟨j, hj⟩ : ∃ j : Nat, a.c = j := ⟨a.c.toNat, by omega⟩
    have hjl : j < ids.length := by omega
    have hdj := cellsI_drop hjl
    have hej := idAt_get hj hjl
    have hbj : j * 3 + 3 ≤ ids.length * 3 := by omega
    refine ret_of_wpH Tryz.func37 rfl cRenM (rs := [.cell 4 15 true]) (by kernel_rfl) ?_
    unfold KRenM
    obtain ⟨x, hx⟩ : ∃ x, x = ids[j] := ⟨_, rfl⟩
    rw [← hx] at hej hdj
    by_cases hv1 : b = 2
    · by_cases hv2 : d.b = 0
      · obtain ⟨hb5, hb6⟩ := hb3 hv1 hv2
        obtain ⟨m, hm⟩ : ∃ m : Nat, d.c = m := ⟨d.c.toNat, by omega⟩
        have hml : m < ids.length := by omega
        have hdm := cellsI_drop hml
        have hem := idAt_get hm hml
        have hbm : m * 3 + 3 ≤ ids.length * 3 := by omega
        obtain ⟨y, hy⟩ : ∃ y, y = ids[m] := ⟨_, rfl⟩
        rw [← hy] at hem hdm
        simp -implicitDefEqProofs [encE, rowIds, hj, hjl, hdj, hbj, hv1, hv2, hm, hml, hdm, hbm, encI]
        refine loopS (S := Nat) (fun i => [(1, .row 0 ids.length), (2, .ptr 1 0), (4, .ptr 2 0), (5, .ptr 3 0), (6, int i)])
          (fun i => [rowIds ids, .box (encE (.mk a b c d t ks ns)), .box (encE Exp.zero), .box [int x.a, int x.b, int x.c, int b, int c, int y.a, int y.b, int y.c, int t.k, int t.id.a, int t.id.b, int t.id.c, .sl t.kids.length (cellsT t.kids), .row 4 i, .sl ns.length (cellsN ns)], .row false 37 15 i (cellsE ((ks.map (renE (idAt ids))).take i))]) (fun i => i ≤ ks.length) (fun i => ks.length - i) 0 (by simp)
          ((weak_nilbox (l := 3) (o := 13) rfl rfl 37 15).trans (selW [0, 1, 2, 3, 4] 0 (by decide) (by simp) (by simp [rowIds, encE, Exp.zero, Id.zero, Typ.zero, hj, hv1, hv2, hm, hem]) (by simp))) ?_
        intro i hi
        by_cases h : i < ks.length
        · have hg := ih ks[i] (List.getElem_mem h) (hb4 _ (List.getElem_mem h))
          have hst := cellsE_take_succ (l := ks.map (renE (idAt ids))) (i := i) (by rw [List.length_map]; exact h)
          rw [List.getElem_map] at hst
          simp -implicitDefEqProofs [rowIds, encE, h, cellsE_drop h]
          intro hl
          refine dcallJK hg [0] (by decide) (by simp [rowIds]) (by simp [encE]) (by decide) (by simp) (by simp) ?_
          simp -implicitDefEqProofs [rowIds]
          refine ⟨⟨by omega, by omega⟩, ?_⟩
          exact roundS (i + 1) h (by omega) (selW [0, 1, 2, 3, 4] 0 (by decide) (by simp) (by rw [hst]; simp [rowIds, encE]) (by simp [wrap_succ h hl]))
        · have hie : i = ks.length := by omega
          subst hie
          have hall : List.take ks.length (ks.map (renE (idAt ids))) = ks.map (renE (idAt ids)) := List.take_of_length_le (by simp)
          simp -implicitDefEqProofs [rowIds, encE]
          intro _
          exact ret_keep [0] 1 (by decide) (by simp) (by simp) (by simp [encE, renE, renEs_map, hej, hall, hv1, hv2, hem])
      · simp -implicitDefEqProofs [encE, rowIds, hj, hjl, hdj, hbj, hv1, hv2, encI]
        refine loopS (S := Nat) (fun i => [(1, .row 0 ids.length), (2, .ptr 1 0), (4, .ptr 2 0), (5, .ptr 3 0), (6, int i)])
          (fun i => [rowIds ids, .box (encE (.mk a b c d t ks ns)), .box (encE Exp.zero), .box [int x.a, int x.b, int x.c, int b, int c, int d.a, int d.b, int d.c, int t.k, int t.id.a, int t.id.b, int t.id.c, .sl t.kids.length (cellsT t.kids), .row 4 i, .sl ns.length (cellsN ns)], .row false 37 15 i (cellsE ((ks.map (renE (idAt ids))).take i))]) (fun i => i ≤ ks.length) (fun i => ks.length - i) 0 (by simp)
          ((weak_nilbox (l := 3) (o := 13) rfl rfl 37 15).trans (selW [0, 1, 2, 3, 4] 0 (by decide) (by simp) (by simp [rowIds, encE, Exp.zero, Id.zero, Typ.zero, hj, hv1, hv2]) (by simp))) ?_
        intro i hi
        by_cases h : i < ks.length
        · have hg := ih ks[i] (List.getElem_mem h) (hb4 _ (List.getElem_mem h))
          have hst := cellsE_take_succ (l := ks.map (renE (idAt ids))) (i := i) (by rw [List.length_map]; exact h)
          rw [List.getElem_map] at hst
          simp -implicitDefEqProofs [rowIds, encE, h, cellsE_drop h]
          intro hl
          refine dcallJK hg [0] (by decide) (by simp [rowIds]) (by simp [encE]) (by decide) (by simp) (by simp) ?_
          simp -implicitDefEqProofs [rowIds]
          refine ⟨⟨by omega, by omega⟩, ?_⟩
          exact roundS (i + 1) h (by omega) (selW [0, 1, 2, 3, 4] 0 (by decide) (by simp) (by rw [hst]; simp [rowIds, encE]) (by simp [wrap_succ h hl]))
        · have hie : i = ks.length := by omega
          subst hie
          have hall : List.take ks.length (ks.map (renE (idAt ids))) = ks.map (renE (idAt ids)) := List.take_of_length_le (by simp)
          simp -implicitDefEqProofs [rowIds, encE]
          intro _
          exact ret_keep [0] 1 (by decide) (by simp) (by simp) (by simp [encE, renE, renEs_map, hej, hall, hv1, hv2])
    · simp -implicitDefEqProofs [encE, rowIds, hj, hjl, hdj, hbj, hv1, encI]
      refine loopS (S := Nat) (fun i => [(1, .row 0 ids.length), (2, .ptr 1 0), (4, .ptr 2 0), (5, .ptr 3 0), (6, int i)])
        (fun i => [rowIds ids, .box (encE (.mk a b c d t ks ns)), .box (encE Exp.zero), .box [int x.a, int x.b, int x.c, int b, int c, int d.a, int d.b, int d.c, int t.k, int t.id.a, int t.id.b, int t.id.c, .sl t.kids.length (cellsT t.kids), .row 4 i, .sl ns.length (cellsN ns)], .row false 37 15 i (cellsE ((ks.map (renE (idAt ids))).take i))]) (fun i => i ≤ ks.length) (fun i => ks.length - i) 0 (by simp)
        ((weak_nilbox (l := 3) (o := 13) rfl rfl 37 15).trans (selW [0, 1, 2, 3, 4] 0 (by decide) (by simp) (by simp [rowIds, encE, Exp.zero, Id.zero, Typ.zero, hj, hv1]) (by simp))) ?_
      intro i hi
      by_cases h : i < ks.length
      · have hg := ih ks[i] (List.getElem_mem h) (hb4 _ (List.getElem_mem h))
        have hst := cellsE_take_succ (l := ks.map (renE (idAt ids))) (i := i) (by rw [List.length_map]; exact h)
        rw [List.getElem_map] at hst
        simp -implicitDefEqProofs [rowIds, encE, h, cellsE_drop h]
        intro hl
        refine dcallJK hg [0] (by decide) (by simp [rowIds]) (by simp [encE]) (by decide) (by simp) (by simp) ?_
        simp -implicitDefEqProofs [rowIds]
        refine ⟨⟨by omega, by omega⟩, ?_⟩
        exact roundS (i + 1) h (by omega) (selW [0, 1, 2, 3, 4] 0 (by decide) (by simp) (by rw [hst]; simp [rowIds, encE]) (by simp [wrap_succ h hl]))
      · have hie : i = ks.length := by omega
        subst hie
        have hall : List.take ks.length (ks.map (renE (idAt ids))) = ks.map (renE (idAt ids)) := List.take_of_length_le (by simp)
        simp -implicitDefEqProofs [rowIds, encE]
        intro _
        exact ret_keep [0] 1 (by decide) (by simp) (by simp) (by simp [encE, renE, renEs_map, hej, hall, hv1])
theorem renamedL_ok (ids : List Id) : ∀ (ks : List Exp), ∀ x ∈ ks, x.under ids.length → Ret Tryz.prog 37 [.agg (encE x), .row 0 ids.length] [rowIds ids] (.agg (encE (renE (idAt ids) x))) [rowIds ids]
  | [], x, hx => by simp at hx
  | z :: l, x, hx => by
    rcases List.mem_cons.1 hx with e | hx
    · rw [e]; exact renamed_ok ids z
    · exact renamedL_ok ids l x hx
end
end Go.Proofs.YthglhccibdlccaaGreatDoor
namespace Go.Proofs.YthglhccibdlccaaGreatDoor
open Go.Abs
def KSim : K :=
 K.seq (K.ops [kO 4 1,
 kO 5 2,
 kZ 6 kz2])
 (K.seq (K.dops [(0, 0, ⟨none, .build (some 7) kz2 []⟩),
 (1, 0, ⟨none, .build (some 8) kz2 [(0, 1, (.const (.int .i64 1)))]⟩),
 (2, 0, ⟨none, .build (some 9) kz2 []⟩),
 (3, 0, kC 10 74 [(.tmp 9)]),
 (4, 0, kG 11 4 5),
 (5, 0, kG 12 5 5),
 (6, 0, ⟨none, .build (some 13) kz2 []⟩),
 (7, 0, ⟨none, .bslice (some 14) 33 5 6 kz11 [(0, 5, (.tmp 7)), (5, 5, (.tmp 8)), (10, 5, (.tmp 10)), (15, 5, (.tmp 11)), (20, 5, (.tmp 12)), (25, 5, (.tmp 13))]⟩),
 (8, 0, kM 15 0),
 (9, 0, kC 16 12 [(.tmp 15), (.const (.int .i64 6))]),
 (10, 0, kX 17 14 16 5),
 (11, 0, kG 18 17 5),
 (12, 0, kS 6 18 5)])
 (K.ret))
theorem cSim : compile Tryz.prog Tryz.f73.ntmps (Tryz.f73.body.getD .skip) = some KSim.erase := by kernel_rfl
@[simp] theorem calSim : callable Tryz.prog 73 = true := by kernel_rfl
def KInpU : K :=
  (K.seq (K.ops [kM 72 9,
 kM 73 10,
 kM 6 72,
 kM 7 73])
 (K.ret))
def KInpT : K :=
  (K.seq (K.ops [kM 50 0,
 kM 51 1,
 kBi 52 51 2 .add,
 kC 53 31 [(.tmp 50), (.tmp 52), (.const (.int .i64 3))],
 kM 11 53])
 (K.seq (K.seq (K.ops [kM 54 11,
 kQi 55 54 1 false])
 (K.cond (.tmp 55)
 (K.seq (K.ops [kM 56 9,
 ⟨none, .build (some 57) kz2 []⟩,
 ⟨none, .bslice (some 58) 33 5 1 kz2 [(0, 5, (.tmp 57))]⟩,
 kP 59 33 5 56 56 58,
 kM 9 59])
 (K.ops [kM 60 10,
 ⟨none, .bslice (some 61) 3 1 1 [(.int .i64 0)] [(0, 1, (.const (.int .i64 1)))]⟩,
 kP 62 3 1 8 60 61,
 kM 10 62]))
 (K.skip)))
 (K.seq (K.seq (K.ops [kM 63 11,
 kQi 64 63 2 false])
 (K.cond (.tmp 64)
 (K.seq (K.ops [kM 65 9,
 ⟨none, .build (some 66) kz2 [(0, 1, (.const (.int .i64 1)))]⟩,
 ⟨none, .bslice (some 67) 33 5 1 kz2 [(0, 5, (.tmp 66))]⟩,
 kP 68 33 5 56 65 67,
 kM 9 68])
 (K.ops [kM 69 10,
 ⟨none, .bslice (some 70) 3 1 1 [(.int .i64 0)] [(0, 1, (.const (.int .i64 0)))]⟩,
 kP 71 3 1 8 69 70,
 kM 10 71]))
 (K.skip)))
 (K.wk KInpU))))
def KInp : K :=
 K.seq (K.ops [kO 5 2,
 kMn 6,
 kMn 7])
 (K.seq (K.ops [kM 12 0,
 kM 13 1,
 kC 14 31 [(.tmp 12), (.tmp 13), (.const (.int .i64 5))],
 kM 8 14])
 (K.seq (K.ops [⟨none, .build (some 15) kz2 []⟩,
 ⟨none, .brow (some 16) 33 5 1 kz2 [(0, 5, (.tmp 15))]⟩,
 kM 9 16])
 (K.seq (K.ops [kM 17 0,
 kM 18 1,
 kBi 19 18 1 .add,
 kC 20 31 [(.tmp 17), (.tmp 19), (.const (.int .i64 3))],
 ⟨none, .bin (some 21) .add (.const (.int .i64 1)) (.tmp 20)⟩,
 ⟨none, .brow (some 22) 3 1 1 [(.int .i64 0)] [(0, 1, (.tmp 21))]⟩,
 kM 10 22])
 (K.seq (K.seq (K.ops [kM 23 8,
 kQi 24 23 1 false])
 (K.cond (.tmp 24)
 (K.seq (K.ops [kM 25 9,
 ⟨none, .build (some 26) kz2 [(0, 1, (.const (.int .i64 1)))]⟩,
 kXi 27 25 5 0,
 kS 27 26 5])
 (K.ops [kM 28 10,
 kXi 29 28 1 0,
 ⟨none, .st none (.tmp 29) (.const (.int .i64 0)) 1⟩]))
 (K.skip)))
 (K.seq (K.seq (K.ops [kM 30 8,
 kQi 31 30 2 false])
 (K.cond (.tmp 31)
 (K.seq (K.ops [kM 32 9,
 ⟨none, .build (some 33) kz2 []⟩,
 kC 34 74 [(.tmp 33)],
 kXi 35 32 5 0,
 kS 35 34 5])
 (K.ops [kM 36 10,
 kM 37 0,
 kM 38 1,
 kBi 39 38 1 .add,
 kC 40 31 [(.tmp 37), (.tmp 39), (.const (.int .i64 2))],
 ⟨none, .bin (some 41) .add (.const (.int .i64 1)) (.tmp 40)⟩,
 kXi 42 36 1 0,
 kS 42 41 1]))
 (K.skip)))
 (K.seq (K.seq (K.ops [kM 43 8,
 kQi 44 43 3 false])
 (K.cond (.tmp 44)
 (K.seq (K.ops [kM 45 9,
 kG 46 5 5,
 kXi 47 45 5 0,
 kS 47 46 5])
 (K.ops [kM 48 10,
 kXi 49 48 1 0,
 ⟨none, .st none (.tmp 49) (.const (.int .i64 1)) 1⟩]))
 (K.skip)))
 (K.wk KInpT)))))))
theorem cInp : compile Tryz.prog Tryz.f75.ntmps (Tryz.f75.body.getD .skip) = some KInp.erase := by kernel_rfl
@[simp] theorem calInp : callable Tryz.prog 75 = true := by kernel_rfl
def simV (x : Int) (one two : Typ) : Typ := [tInt, tBool, tList tInt, one, two, tInt].getD (aroundV x 6).toNat tInt
theorem simple_ok (x : Int) (one two : Typ) (hx : w64 x = x) : Ret Tryz.prog 73 [int x, .agg (encT one), .agg (encT two)] [] (.agg (encT (simV x one two))) [] := by
  obtain ⟨k0, k6⟩ := around_range (k := 6) hx (by omega)
  have ha := around_ok x 6 (by omega)
  have hk : aroundV x 6 = 0 ∨ aroundV x 6 = 1 ∨ aroundV x 6 = 2 ∨ aroundV x 6 = 3 ∨ aroundV x 6 = 4 ∨ aroundV x 6 = 5 := by omega
  unfold simV
  generalize aroundV x 6 = k at ha k0 k6 hk
  refine ret_of_wpH Tryz.func73 rfl cSim (rs := [.cell 6 5 true]) (by kernel_rfl) ?_
  unfold KSim
  simp -implicitDefEqProofs [encT]
  refine dcall0 list0 (by simp [encT, tInt]) (by simp) ?_
  simp -implicitDefEqProofs [encT]
  refine dcall0 ha (by simp) (by simp) ?_
  rcases hk with rfl | rfl | rfl | rfl | rfl | rfl
  all_goals
    simp -implicitDefEqProofs [encT, tInt, tBool, tList]
    exact ret_end 0 (by simp [encT, tInt, tBool, tList, Id.zero, cellsT_cons])
def inT0 (l : List Int) (at_ : Int) (point : Typ) : Typ × Int := if atV l at_ 5 = 1 then (tBool, 0) else if atV l at_ 5 = 2 then (tList tInt, 1 + atV l (at_ + 1) 2) else if atV l at_ 5 = 3 then (point, 1) else (tInt, 1 + atV l (at_ + 1) 3)
def inT1 (l : List Int) (at_ : Int) : List (Typ × Int) := if atV l (at_ + 2) 3 = 1 then [(tInt, 1)] else if atV l (at_ + 2) 3 = 2 then [(tBool, 0)] else []
def inV (l : List Int) (at_ : Int) (point : Typ) : List (Typ × Int) := inT0 l at_ point :: inT1 l at_
def tysA (L : List (Typ × Int)) : List A := cellsT (L.map (·.1))
def mostA (L : List (Typ × Int)) : List A := ints (L.map (·.2))
def inR (L : List (Typ × Int)) : A := .tup [.sl L.length (tysA L), .sl L.length (mostA L)]
theorem inp_tail (l : List Int) (at_ : Int) (ha : 0 ≤ at_) (ha' : at_ ≤ 1000) (hl : ∀ x ∈ l, w64 x = x) (p : Typ × Int) :
    wpK Tryz.prog 0 KInpT (fin [RS.slot 6, RS.slot 7] (RetQ 0 (inR (p :: inT1 l at_)) [])) (mkEnv [(0, .sl l.length (ints l)), (1, int at_), (9, .row 0 1), (10, .row 1 1)])
      [.row false 33 5 1 (encT p.1), .row false 3 1 1 [int p.2]] := by
  have w2 : IntKind.i64.wrap (at_ + 2) = at_ + 2 := IntWalk.i64_in _ (by omega)
  have h3 := at_ok l (at_ + 2) 3 (by omega)
  unfold inT1
  generalize atV l (at_ + 2) 3 = z at *
  have tailU : ∀ L : List (Typ × Int), wpK Tryz.prog 0 KInpU (fin [RS.slot 6, RS.slot 7] (RetQ 0 (inR L) [])) (mkEnv [(9, .sl L.length (tysA L)), (10, .sl L.length (mostA L))]) [] := fun L => by
    unfold KInpU
    simp -implicitDefEqProofs
    exact ret_end 0 (by simp [inR, tysA, mostA])
  unfold KInpT
  simp -implicitDefEqProofs [w2]
  refine call0 h3 (by simp) (by simp) ?_
  by_cases hz1 : z = 1
  · simp -implicitDefEqProofs [hz1, maxLen]
    exact ⟨_, _, selW [] 1 (by decide) (by simp) (by simp) (by simp [tysA, mostA, cellsT_cons, encT, tInt, Id.zero]), tailU _⟩
  · by_cases hz2 : z = 2
    · simp -implicitDefEqProofs [hz1, hz2, maxLen]
      exact ⟨_, _, selW [] 1 (by decide) (by simp) (by simp) (by simp [tysA, mostA, cellsT_cons, encT, tBool, Id.zero]), tailU _⟩
    · simp -implicitDefEqProofs [hz1, hz2, maxLen]
      exact ⟨_, _, selW [] 1 (by decide) (by simp) (by simp) (by simp [tysA, mostA, cellsT_cons, encT, tBool, Id.zero]), tailU _⟩
theorem inp_ok (l : List Int) (at_ : Int) (point : Typ) (ha : 0 ≤ at_) (ha' : at_ ≤ 1000) (hl : ∀ x ∈ l, w64 x = x) :
    Ret Tryz.prog 75 [.sl l.length (ints l), int at_, .agg (encT point)] [] (inR (inV l at_ point)) [] := by
  have w1 : IntKind.i64.wrap (at_ + 1) = at_ + 1 := IntWalk.i64_in _ (by omega)
  have h0 := at_ok l at_ 5 (by omega)
  have h1 := at_ok l (at_ + 1) 3 (by omega)
  have h2 := at_ok l (at_ + 1) 2 (by omega)
  have ht := inp_tail l at_ ha ha' hl
  obtain ⟨r1, r1'⟩ := at_range (i := at_ + 1) hl (most := 3) (by omega)
  obtain ⟨r2, r2'⟩ := at_range (i := at_ + 1) hl (most := 2) (by omega)
  unfold inV inT0
  generalize atV l at_ 5 = x at *
  generalize atV l (at_ + 1) 3 = y1 at *
  generalize atV l (at_ + 1) 2 = y2 at *
  have v1 : IntKind.i64.wrap (1 + y1) = 1 + y1 := IntWalk.i64_in _ (by omega)
  have v2 : IntKind.i64.wrap (1 + y2) = 1 + y2 := IntWalk.i64_in _ (by omega)
  refine ret_of_wp Tryz.func75 rfl cInp (rs := [.slot 6, .slot 7]) (by kernel_rfl) ?_
  unfold KInp
  simp -implicitDefEqProofs [encT]
  refine call0 h0 (by simp) (by simp) ?_
  simp -implicitDefEqProofs [w1]
  refine call0 h1 (by simp) (by simp) ?_
  by_cases hx1 : x = 1
  · simp -implicitDefEqProofs [v1, hx1]
    exact ⟨_, _, selW [1, 2] 0 (by decide) (by simp) (by simp [encT, tBool, Id.zero]) (by simp), ht (tBool, 0)⟩
  · by_cases hx2 : x = 2
    · simp -implicitDefEqProofs [v1, hx1, hx2]
      refine call0 list0 (by simp [encT, tInt, Id.zero]) (by simp) ?_
      simp -implicitDefEqProofs [encT, w1]
      refine call0 h2 (by simp) (by simp) ?_
      simp -implicitDefEqProofs [v2]
      exact ⟨_, _, selW [1, 2] 0 (by decide) (by simp) (by simp [encT, tList, Id.zero]) (by simp), ht (tList tInt, 1 + y2)⟩
    · by_cases hx3 : x = 3
      · simp -implicitDefEqProofs [v1, hx1, hx2, hx3]
        exact ⟨_, _, selW [1, 2] 0 (by decide) (by simp) (by simp [encT]) (by simp), ht (point, 1)⟩
      · simp -implicitDefEqProofs [v1, hx1, hx2, hx3]
        exact ⟨_, _, selW [1, 2] 0 (by decide) (by simp) (by simp [encT, tInt, Id.zero]) (by simp), ht (tInt, 1 + y1)⟩
end Go.Proofs.YthglhccibdlccaaGreatDoor
