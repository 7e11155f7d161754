/-
  The maker's literals.
  The law's examples hold.
  The maker's literals, walked.
-/
import Derived.Test.YthglhccibdlccaaGreatDoorX31
import Derived.Test.YthglhccibdlccaaGreatDoorX27
import Derived.Test.YthglhccibdlccaaGreatDoorX28
set_option linter.unusedVariables false
set_option linter.unusedSimpArgs false
namespace Go.Proofs.YthglhccibdlccaaGreatDoor
open Go.Abs
def KLit : K :=
 K.seq (K.ops [kO 6 1,
 kZ 10 kz1])
 (K.seq (K.seq (K.ops [kA 23 6 0,
 kL 24 23 1,
 kQi 25 24 0 false])
 (K.cond (.tmp 25)
 (K.seq (K.ops [kM 26 3,
 kBi 27 26 9 .rem,
 kBi 28 27 2 .sub,
 kM 11 28])
 (K.seq (K.seq (K.ops [kM 29 3,
 kBi 30 29 29 .rem,
 kQi 31 30 3 false])
 (K.cond (.tmp 31)
 (K.ops [kM 32 3,
 kBi 33 32 2 .rem,
 ⟨none, .bin (some 34) .sub (.const (.int .i64 1099511627776)) (.tmp 33)⟩,
 kM 11 34])
 (K.skip)))
 (K.seq (K.ops [kM 35 0,
 kM 36 11,
 kC 37 80 [(.tmp 35), (.const (.int .i64 0)), (.tmp 36), (.const (.slice none 0 0))],
 kS 10 37 15])
 (K.ret))))
 (K.skip)))
 (K.seq (K.seq (K.ops [kA 38 6 0,
 kL 39 38 1,
 kQi 40 39 1 false])
 (K.cond (.tmp 40)
 (K.seq (K.ops [kM 41 0,
 kM 42 3,
 kBi 43 42 2 .rem,
 kC 44 80 [(.tmp 41), (.const (.int .i64 1)), (.tmp 43), (.const (.slice none 0 0))],
 kS 10 44 15])
 (K.ret))
 (K.skip)))
 (K.seq (K.seq (K.ops [kA 45 6 0,
 kL 46 45 1,
 kQi 47 46 2 false])
 (K.cond (.tmp 47)
 (K.seq (K.ops [kMn 12])
 (K.seq (K.seq (K.ops [kMi 13 0])
 (K.block 0 (K.loop (K.seq (K.seq (K.ops [kM 48 13,
 kM 49 3,
 kBi 50 49 3 .rem,
 kB 51 48 50 .lss,
 kM 52 51,
 kT 52 true (kM 53 4),
 kT 52 true (kBi 54 53 0 .geq),
 kPf 55 52 54,
 kM 56 55,
 kT 56 true (kM 57 0),
 kT 56 true (kU 58 57),
 kT 56 true (kA 59 58 5),
 kT 56 true (kL 60 59 1),
 kT 56 true (kBi 61 60 0 .gtr),
 kPf 62 56 61])
 (K.cond (.tmp 62)
 (K.skip)
 (K.exit 0)))
 (K.seq (K.block 1 (K.ops [kM 65 12,
 kM 66 0,
 kA 67 6 4,
 kL 68 67 1,
 kXi 69 68 5 0,
 kG 70 69 5,
 kM 71 2,
 kM 72 4,
 kBi 73 72 1 .sub,
 kC 74 34 [(.tmp 66), (.tmp 70), (.tmp 71), (.tmp 73)],
 ⟨none, .bslice (some 75) 37 15 1 kz1 [(0, 15, (.tmp 74))]⟩,
 kP 76 37 15 168 65 75,
 kM 12 76]))
 (K.ops [kM 63 13,
 kBi 64 63 1 .add,
 kM 13 64]))))))
 (K.seq (K.wk (K.ops [kM 77 0,
 kM 78 12,
 kC 79 80 [(.tmp 77), (.const (.int .i64 11)), (.const (.int .i64 0)), (.tmp 78)],
 kZ 14 kz1,
 kS 14 79 15]))
 (K.seq (K.ops [kA 80 6 4,
 kL 81 80 1,
 kXi 82 81 5 0,
 kG 83 82 5,
 kA 84 14 8,
 kS 84 83 5])
 (K.seq (K.ops [kG 85 14 15,
 kS 10 85 15])
 (K.ret))))))
 (K.skip)))
 (K.seq (K.wk (K.dops [(0, 0, kM 87 0),
 (1, 0, kU 88 87),
 (2, 1, kA 89 88 0),
 (3, 1, kG 90 89 2),
 (4, 1, kA 91 6 1),
 (5, 1, kG 92 91 3),
 (6, 7, kC 93 26 [(.tmp 90), (.tmp 92)]),
 (7, 0, kM 86 93),
 (8, 0, kE 94 86 0),
 (9, 0, kE 95 86 1),
 (10, 304, ⟨none, .alr (some 15) 4 kz0⟩),
 (11, 0, kS 15 94 31),
 (12, 0, kM 16 95)]))
 (K.seq (K.seq (K.ops [kA 96 15 3,
 kL 97 96 1,
 kQi 98 97 1 false])
 (K.cond (.tmp 98)
 (K.seq (K.ops [kM 99 3,
 kA 100 15 8,
 kL 101 100 1,
 kN 102 101,
 kB 103 99 102 .rem,
 kM 17 103])
 (K.seq (K.seq (K.ops [kM 104 4,
 kBi 105 104 0 .lss])
 (K.cond (.tmp 105)
 (K.ops [kMi 17 0])
 (K.skip)))
 (K.seq (K.ops [kM 106 0,
 kA 107 15 8,
 kL 108 107 1,
 kM 109 17,
 kX 110 108 109 11,
 kA 111 110 4,
 kG 112 111 5,
 kM 113 2,
 kM 114 4,
 kBi 115 114 1 .sub,
 kC 116 34 [(.tmp 106), (.tmp 112), (.tmp 113), (.tmp 115)],
 kZ 18 kz1,
 kS 18 116 15])
 (K.seq (K.ops [kM 117 0,
 kM 118 17,
 kG 119 18 15,
 ⟨none, .bslice (some 120) 37 15 1 kz1 [(0, 15, (.tmp 119))]⟩,
 kC 121 80 [(.tmp 117), (.const (.int .i64 9)), (.tmp 118), (.tmp 120)],
 kZ 19 kz1,
 kS 19 121 15])
 (K.seq (K.ops [kA 122 15 0,
 kG 123 122 3,
 kA 124 19 5,
 kS 124 123 3])
 (K.seq (K.ops [kG 125 19 15,
 kS 10 125 15])
 (K.ret)))))))
 (K.skip)))
 (K.seq (K.ops [kMn 20])
 (K.seq (K.seq (K.ops [kMi 21 0])
 (K.block 2 (K.loop (K.seq (K.seq (K.ops [kM 126 21,
 kA 127 15 8,
 kL 128 127 1,
 kN 129 128,
 kB 130 126 129 .lss])
 (K.cond (.tmp 130)
 (K.skip)
 (K.exit 2)))
 (K.seq (K.block 3 (K.ops [kM 133 20,
 kM 134 0,
 kA 135 15 8,
 kL 136 135 1,
 kM 137 21,
 kX 138 136 137 11,
 kA 139 138 4,
 kG 140 139 5,
 kM 141 2,
 kM 142 4,
 kBi 143 142 1 .sub,
 kC 144 34 [(.tmp 134), (.tmp 140), (.tmp 141), (.tmp 143)],
 ⟨none, .bslice (some 145) 37 15 1 kz1 [(0, 15, (.tmp 144))]⟩,
 kP 146 37 15 168 133 145,
 kM 20 146]))
 (K.ops [kM 131 21,
 kBi 132 131 1 .add,
 kM 21 132]))))))
 (K.seq (K.wk (K.ops [kM 147 0,
 kM 148 20,
 kC 149 80 [(.tmp 147), (.const (.int .i64 7)), (.const (.int .i64 0)), (.tmp 148)],
 kZ 22 kz1,
 kS 22 149 15]))
 (K.seq (K.ops [kA 150 15 0,
 kG 151 150 3,
 kA 152 22 5,
 kS 152 151 3])
 (K.seq (K.ops [kG 153 22 15,
 kS 10 153 15])
 (K.ret)))))))))))
def hLit : Nat → Option (List (Nat × Nat)) := fun r => match r with | 17 => some [(0,0),(1,0),(2,1),(3,1),(4,1),(5,1),(6,7),(7,0),(8,0),(9,0),(10,304),(11,0),(12,0)] | _ => none
theorem cLit : compileH Tryz.prog Tryz.f79.ntmps hLit (Tryz.f79.body.getD .skip) = some KLit.erase := by kernel_rfl
@[simp] theorem calLit : callable Tryz.prog 79 = true := by kernel_rfl
abbrev exprF : FuncId := 34
@[simp] theorem calExpr : callable Tryz.prog 34 = true := by kernel_rfl
def Makes (hs : List Hd) (own : Int) (f : FuncId) (m : Mk) (args : List A) (env : List Bnd) (t : Typ) (c : Int) : Prop :=
  ∃ (e : Exp) (m' : Mk), Ret Tryz.prog f args (mkS m) (.agg (encE e)) (mkS m') ∧ Adv m m' c ∧ WT hs own env e t ∧ Seg m.temp m'.temp (tmps e) ∧ e.num0
def KidOk (hs : List Hd) (R : Nat) (c depth : Int) (Q : Nat → Prop) (len : Nat) : Prop :=
  ∀ (m : Mk) (r : Nat) (t : Typ) (env : List Bnd), Cx hs R m → Lim m c → TyOk hs r t → Q r → EnvOk hs R m.temp env → 0 < env.length → env.length ≤ len →
    Makes hs m.own exprF m [.ptr 0 0, .agg (encT t), .sl env.length (cellsB env), int depth] env t c
theorem Adv.zero (m : Mk) : Adv m m 0 := ⟨rfl, rfl, rfl, rfl, rfl, by omega, by omega, by omega, by omega, by omega, by omega, by omega, by omega⟩
theorem tmpsL_snoc (e : Exp) : ∀ es : List Exp, tmpsL (es ++ [e]) = tmpsL es ++ tmps e
  | [] => by simp [tmpsL]
  | x :: es => by simp [tmpsL, tmpsL_snoc e es]
theorem kids_ok {hs : List Hd} {R : Nat} {c depth : Int} {Q : Nat → Prop} {len : Nat} (hk : KidOk hs R c depth Q len) (hc : 0 ≤ c) (env : List Bnd) (h1 : 0 < env.length) (h2 : env.length ≤ len) :
    ∀ (ts : List Typ) (m : Mk), Cx hs R m → Lim m (ts.length * c) → (∀ t ∈ ts, ∃ r, TyOk hs r t ∧ Q r) → EnvOk hs R m.temp env →
      ∃ (es : List Exp) (ms : Nat → Mk), es.length = ts.length ∧ ms 0 = m ∧ (∀ j ≤ ts.length, Adv m (ms j) (j * c)) ∧ Seg m.temp (ms ts.length).temp (tmpsL es) ∧
        ∀ (j : Nat) (hj : j < es.length) (hj' : j < ts.length), Ret Tryz.prog exprF [.ptr 0 0, .agg (encT ts[j]), .sl env.length (cellsB env), int depth] (mkS (ms j)) (.agg (encE es[j])) (mkS (ms (j + 1))) ∧ WT hs m.own env es[j] ts[j] ∧ es[j].num0 := by
  intro ts
  induction ts using snocRec with
  | nil =>
    intro m hx hl ht he
    refine ⟨[], fun _ => m, rfl, rfl, fun j hj => ?_, Seg.nil, fun j hj => by simp at hj⟩
    have : j = 0 := by simpa using hj
    subst this
    exact (Adv.zero m).mono (by simp)
  | snoc ts t ih =>
    intro m hx hl ht he
    have e1 : ((ts ++ [t]).length : Int) * c = ts.length * c + c := by
      rw [List.length_append, List.length_singleton, Int.natCast_add, Int.add_mul]; simp
    rw [e1] at hl
    have hz : 0 ≤ (ts.length : Int) * c := Int.mul_nonneg (by omega) hc
    obtain ⟨es, ms, q1, q2, q3, q4, q5⟩ := ih m hx (hl.mono (by omega)) (fun t' ht' => ht t' (by simp [ht'])) he
    have a1 := q3 ts.length (Nat.le_refl _)
    obtain ⟨r, hr, hQ⟩ := ht t (by simp)
    obtain ⟨e, m', g1, g2, g3, g4, g5⟩ := hk (ms ts.length) r t env (hx.adv a1) (Lim.adv (c := ts.length * c) (c' := c) hl a1) hr hQ (he.mono a1.temp1) h1 h2
    refine ⟨es ++ [e], fun j => if j ≤ ts.length then ms j else m', by simp [q1], by simp [q2], fun j hj => ?_, ?_, fun j hj hj' => ?_⟩
    · by_cases hle : j ≤ ts.length
      · simp only [hle, if_true]; exact q3 j hle
      · have : j = ts.length + 1 := by simp at hj; omega
        subst this
        simp only [show ¬ (ts.length + 1 ≤ ts.length) by omega, if_false]
        have := a1.trans g2
        rw [show (((ts.length + 1 : Nat) : Int)) * c = ts.length * c + c by rw [Int.natCast_add, Int.add_mul]; simp]
        exact this
    · rw [tmpsL_snoc]
      simp only [List.length_append, List.length_singleton, show ¬ (ts.length + 1 ≤ ts.length) by omega, if_false]
      exact q4.append g4 a1.temp1 g2.temp1
    · simp only [List.length_append, List.length_singleton] at hj hj'
      by_cases hlt : j < ts.length
      · have hjes : j < es.length := by omega
        rw [List.getElem_append_left hjes, List.getElem_append_left hlt]
        simp only [show j ≤ ts.length by omega, if_true, show j + 1 ≤ ts.length by omega]
        exact q5 j hjes hlt
      · have : j = ts.length := by omega
        subst this
        rw [List.getElem_append_right (by omega), List.getElem_append_right (by omega)]
        simp only [Nat.le_refl, if_true, show ¬ (ts.length + 1 ≤ ts.length) by omega, if_false, Nat.sub_self, q1, List.getElem_cons_zero]
        rw [a1.own] at g3
        exact ⟨g1, g3, g5⟩
theorem kidsL_ok {hs : List Hd} {R : Nat} {c depth : Int} {Q : Nat → Prop} {len : Nat} (hk : KidOk hs R c depth Q len) (hc : 0 ≤ c) (env : List Bnd) (h1 : 0 < env.length) (h2 : env.length ≤ len) (t : Typ) {r : Nat} (hr : TyOk hs r t) (hQ : Q r)
    (m : Mk) (hx : Cx hs R m) (he : EnvOk hs R m.temp env) : ∀ (k : Nat), Lim m (k * c) →
      ∃ (es : List Exp) (ms : Nat → Mk), es.length ≤ k ∧ ms 0 = m ∧ (∀ j ≤ es.length, Adv m (ms j) (j * c)) ∧ Seg m.temp (ms es.length).temp (tmpsL es) ∧ (∀ j < es.length, 0 < (ms j).left) ∧ (es.length = k ∨ (ms es.length).left ≤ 0) ∧
        ∀ (j : Nat) (hj : j < es.length), Ret Tryz.prog exprF [.ptr 0 0, .agg (encT t), .sl env.length (cellsB env), int depth] (mkS (ms j)) (.agg (encE es[j])) (mkS (ms (j + 1))) ∧ WT hs m.own env es[j] t ∧ es[j].num0 := by
  intro k
  induction k with
  | zero =>
    intro hl
    refine ⟨[], fun _ => m, Nat.le_refl _, rfl, fun j hj => ?_, Seg.nil, fun j hj => by simp at hj, .inl rfl, fun j hj => by simp at hj⟩
    have : j = 0 := by simpa using hj
    subst this
    exact (Adv.zero m).mono (by simp)
  | succ k ih =>
    intro hl
    have e1 : (((k + 1 : Nat) : Int)) * c = k * c + c := by rw [Int.natCast_add, Int.add_mul]; simp
    rw [e1] at hl
    obtain ⟨es, ms, q0, q2, q3, q4, q6, q7, q5⟩ := ih (hl.mono (by omega))
    by_cases hdone : es.length = k ∧ 0 < (ms es.length).left
    · obtain ⟨hek, hleft⟩ := hdone
      have a1 := q3 es.length (Nat.le_refl _)
      rw [hek] at a1
      obtain ⟨e, m', g1, g2, g3, g4, g5⟩ := hk (ms k) r t env (hx.adv a1) (Lim.adv (c := k * c) (c' := c) hl a1) hr hQ (he.mono a1.temp1) h1 h2
      refine ⟨es ++ [e], fun j => if j ≤ k then ms j else m', by simp [hek], by simp [q2], fun j hj => ?_, ?_, fun j hj => ?_, .inl (by simp [hek]), fun j hj => ?_⟩
      · simp only [List.length_append, List.length_singleton, hek] at hj
        by_cases hle : j ≤ k
        · simp only [hle, if_true]; exact q3 j (by omega)
        · have : j = k + 1 := by omega
          subst this
          simp only [show ¬ (k + 1 ≤ k) by omega, if_false]
          rw [e1]
          exact a1.trans g2
      · rw [tmpsL_snoc]
        rw [hek] at q4
        simp only [List.length_append, List.length_singleton, hek, show ¬ (k + 1 ≤ k) by omega, if_false]
        exact q4.append g4 a1.temp1 g2.temp1
      · simp only [List.length_append, List.length_singleton, hek] at hj
        simp only [show j ≤ k by omega, if_true]
        by_cases e : j = k
        · subst e; rw [hek] at hleft; exact hleft
        · exact q6 j (by omega)
      · simp only [List.length_append, List.length_singleton, hek] at hj
        by_cases hlt : j < k
        · have hjes : j < es.length := by omega
          rw [List.getElem_append_left hjes]
          simp only [show j ≤ k by omega, if_true, show j + 1 ≤ k by omega]
          exact q5 j hjes
        · have : j = k := by omega
          subst this
          rw [List.getElem_append_right (by omega)]
          simp only [Nat.le_refl, if_true, show ¬ (j + 1 ≤ j) by omega, if_false, Nat.sub_self, hek, List.getElem_cons_zero]
          rw [a1.own] at g3
          exact ⟨g1, g3, g5⟩
    · refine ⟨es, ms, by omega, q2, q3, q4, q6, .inr ?_, q5⟩
      rcases q7 with q7 | q7
      · by_cases h : 0 < (ms es.length).left
        · exact (hdone ⟨q7, h⟩).elim
        · omega
      · exact q7
end Go.Proofs.YthglhccibdlccaaGreatDoor
namespace Go.Proofs.YthglhccibdlccaaGreatDoor
open Go.Abs
def KIds : K :=
 K.seq (K.ops [kMn 2])
 (K.seq (K.ops [kMn 3])
 (K.seq (K.seq (K.ops [kMi 4 0])
 (K.block 0 (K.loop (K.seq (K.seq (K.ops [kM 5 4,
 kM 6 0,
 kN 7 6,
 kB 8 5 7 .lss])
 (K.cond (.tmp 8)
 (K.skip)
 (K.exit 0)))
 (K.seq (K.block 1 (K.ops [kM 11 3,
 kM 12 0,
 kM 13 4,
 kX 14 12 13 1,
 kL 15 14 1,
 kC 16 40 [(.tmp 15)],
 ⟨none, .bslice (some 17) 29 3 1 [(.int .i64 0), (.int .i64 0), (.int .i64 0)] [(0, 3, (.tmp 16))]⟩,
 kP 18 29 3 24 11 17,
 kM 3 18]))
 (K.ops [kM 9 4,
 kBi 10 9 1 .add,
 kM 4 10]))))))
 (K.seq (K.ops [kM 19 3,
 kM 2 19])
 (K.ret))))
theorem cIds : compile Tryz.prog Tryz.f41.ntmps (Tryz.f41.body.getD .skip) = some KIds.erase := by kernel_rfl
@[simp] theorem calIds : callable Tryz.prog 41 = true := by kernel_rfl
def EIds : Entry := ⟨KIds, [.slot 2], true⟩
theorem eokIds : EntryOk Tryz.prog 41 EIds := ⟨calIds, _, _, noHint, Tryz.func41, rfl, cIds, by kernel_rfl⟩
def KSameI : K :=
 K.seq (K.ops [kMb 4 false])
 (K.seq (K.seq (K.ops [kM 6 0,
 kN 7 6,
 kM 8 1,
 kN 9 8,
 kQ 10 7 9 true])
 (K.cond (.tmp 10)
 (K.seq (K.ops [kMb 4 false])
 (K.ret))
 (K.skip)))
 (K.seq (K.seq (K.ops [kMi 5 0])
 (K.block 0 (K.loop (K.seq (K.seq (K.ops [kM 11 5,
 kM 12 0,
 kN 13 12,
 kB 14 11 13 .lss])
 (K.cond (.tmp 14)
 (K.skip)
 (K.exit 0)))
 (K.seq (K.block 1 (K.seq (K.dops [(0, 0, kM 17 0),
 (1, 0, kM 18 5),
 (2, 0, kX 19 17 18 3),
 (3, 0, kG 20 19 3),
 (4, 0, kM 21 1),
 (5, 0, kM 22 5),
 (6, 0, kX 23 21 22 3),
 (7, 0, kG 24 23 3),
 (8, 0, ⟨none, .eqs (some 25) true [.i, .i, .i] (.tmp 20) (.tmp 24)⟩)])
 (K.cond (.tmp 25)
 (K.seq (K.ops [kMb 4 false])
 (K.ret))
 (K.skip))))
 (K.ops [kM 15 5,
 kBi 16 15 1 .add,
 kM 5 16]))))))
 (K.seq (K.ops [kMb 4 true])
 (K.ret))))
theorem cSameI : compile Tryz.prog Tryz.f20.ntmps (Tryz.f20.body.getD .skip) = some KSameI.erase := by kernel_rfl
@[simp] theorem calSameI : callable Tryz.prog 20 = true := by kernel_rfl
def ESameI : Entry := ⟨KSameI, [.slot 4], false⟩
theorem eokSameI : EntryOk Tryz.prog 20 ESameI := ⟨calSameI, _, _, noHint, Tryz.func20, rfl, cSameI, by kernel_rfl⟩
def KLives : K :=
 K.seq (K.ops [kMb 0 false])
 (K.seq (K.ops [kC 12 39 [],
 kZ 1 [(.slice none 0 0), (.slice none 0 0)],
 kS 1 12 2])
 (K.seq (K.wk (K.wk (K.wk (K.dops [(0, 1, kG 14 1 2),
 (1, 1, kC 15 40 [(.const (.int .i64 1))]),
 (2, 0, ⟨none, .build (some 16) [(.int .i64 0), (.int .i64 0), (.slice none 0 0)] [(1, 1, (.const (.int .i64 2)))]⟩),
 (3, 0, ⟨none, .bslice (some 17) 47 3 1 [(.int .i64 0), (.int .i64 0), (.slice none 0 0)] [(0, 3, (.tmp 16))]⟩),
 (4, 1, kC 18 13 [(.tmp 14), (.tmp 15), (.tmp 17), (.const (.int .i64 100))]),
 (5, 0, kM 13 18),
 (6, 0, kE 19 13 0),
 (7, 0, kE 20 13 1),
 (8, 0, kE 21 13 2),
 (9, 340, ⟨none, .alr (some 2) 40 [(.int .i64 0), (.int .i64 0), (.slice none 0 0)]⟩),
 (10, 341, ⟨none, .alr (some 3) 41 [(.slice none 0 0), (.slice none 0 0)]⟩),
 (11, 0, kS 2 19 3),
 (12, 0, kS 3 20 2),
 (13, 0, kM 4 21)]))))
 (K.seq (K.wk (K.dops [(0, 1, kG 23 1 2),
 (1, 1, kC 24 40 [(.const (.int .i64 1))]),
 (2, 0, ⟨none, .build (some 25) [(.int .i64 0), (.int .i64 0), (.slice none 0 0)] [(1, 1, (.const (.int .i64 5)))]⟩),
 (3, 0, ⟨none, .bslice (some 26) 47 3 1 [(.int .i64 0), (.int .i64 0), (.slice none 0 0)] [(0, 3, (.tmp 25))]⟩),
 (4, 1, kC 27 13 [(.tmp 23), (.tmp 24), (.tmp 26), (.const (.int .i64 100))]),
 (5, 0, kM 22 27),
 (6, 0, kE 28 22 0),
 (7, 0, kE 29 22 1),
 (8, 0, kE 30 22 2),
 (9, 350, ⟨none, .alr (some 5) 50 [(.int .i64 0), (.int .i64 0), (.slice none 0 0)]⟩),
 (10, 351, ⟨none, .alr (some 6) 51 [(.slice none 0 0), (.slice none 0 0)]⟩),
 (11, 0, kS 5 28 3),
 (12, 0, kS 6 29 2),
 (13, 0, kM 7 30)]))
 (K.seq (K.ops [kC 31 39 [],
 kZ 8 [(.slice none 0 0), (.slice none 0 0)],
 kS 8 31 2])
 (K.seq (K.dops [(0, 0, kA 32 8 1),
 (1, 0, kL 33 32 1),
 (2, 0, kC 34 40 [(.const (.int .i64 17))]),
 (3, 0, ⟨none, .build (some 35) kz1 [(0, 3, (.tmp 34)), (4, 1, (.const (.int .i64 7)))]⟩),
 (4, 0, kXi 36 33 31 1),
 (5, 0, kA 37 36 14),
 (6, 0, kS 37 35 15)])
 (K.seq (K.wk (K.wk (K.ops [kG 38 1 2,
 kG 39 8 2,
 kC 40 21 [(.tmp 38), (.tmp 39)],
 kM 9 40])))
 (K.seq (K.dops [(0, 0, kA 41 3 0),
 (1, 0, kL 42 41 1),
 (2, 0, ⟨none, .bslice (some 43) 3 1 1 [(.int .i64 0)] [(0, 1, (.const (.int .i64 1)))]⟩),
 (3, 0, kC 44 41 [(.tmp 43)]),
 (4, 0, kC 45 20 [(.tmp 42), (.tmp 44)]),
 (5, 0, kM 46 45),
 (6, 0, kT 46 true (kA 47 3 1)),
 (7, 0, kT 46 true (kL 48 47 1)),
 (8, 0, ⟨some (46, true), .bslice (some 49) 3 1 5 [(.int .i64 0), (.int .i64 0), (.int .i64 0), (.int .i64 0), (.int .i64 0)] [(0, 1, (.const (.int .i64 10))), (1, 1, (.const (.int .i64 11))), (2, 1, (.const (.int .i64 12))), (3, 1, (.const (.int .i64 13))), (4, 1, (.const (.int .i64 14)))]⟩),
 (9, 0, kT 46 true (kC 50 41 [(.tmp 49)])),
 (10, 0, kT 46 true (kC 51 20 [(.tmp 48), (.tmp 50)])),
 (11, 0, kPf 52 46 51),
 (12, 0, kM 10 52)])
 (K.seq (K.dops [(0, 0, kA 53 6 0),
 (1, 0, kL 54 53 1),
 (2, 0, ⟨none, .bslice (some 55) 3 1 2 [(.int .i64 0), (.int .i64 0)] [(0, 1, (.const (.int .i64 1))), (1, 1, (.const (.int .i64 3)))]⟩),
 (3, 0, kC 56 41 [(.tmp 55)]),
 (4, 0, kC 57 20 [(.tmp 54), (.tmp 56)]),
 (5, 0, kM 58 57),
 (6, 0, kT 58 true (kA 59 6 1)),
 (7, 0, kT 58 true (kL 60 59 1)),
 (8, 0, ⟨some (58, true), .bslice (some 61) 3 1 7 [(.int .i64 0), (.int .i64 0), (.int .i64 0), (.int .i64 0), (.int .i64 0), (.int .i64 0), (.int .i64 0)] [(0, 1, (.const (.int .i64 10))), (1, 1, (.const (.int .i64 11))), (2, 1, (.const (.int .i64 12))), (3, 1, (.const (.int .i64 13))), (4, 1, (.const (.int .i64 15))), (5, 1, (.const (.int .i64 16))), (6, 1, (.const (.int .i64 17)))]⟩),
 (9, 0, kT 58 true (kC 62 41 [(.tmp 61)])),
 (10, 0, kT 58 true (kC 63 20 [(.tmp 60), (.tmp 62)])),
 (11, 0, kPf 64 58 63),
 (12, 0, kM 11 64)])
 (K.seq (K.ops [kM 65 4,
 kQi 66 65 0 false,
 kM 67 66,
 kT 67 true (kM 68 7),
 kT 67 true (kQi 69 68 0 false),
 kPf 70 67 69,
 kM 71 70,
 kT 71 true (kA 72 2 1),
 kT 71 true (kL 73 72 1),
 kT 71 true (kQi 74 73 2 false),
 kPf 75 71 74,
 kM 76 75,
 kT 76 true (kA 77 5 1),
 kT 76 true (kL 78 77 1),
 kT 76 true (kQi 79 78 5 false),
 kPf 80 76 79,
 kM 81 80,
 kT 81 true (kM 82 10),
 kPf 83 81 82,
 kM 84 83,
 kT 84 true (kM 85 11),
 kPf 86 84 85,
 kM 87 86,
 kT 87 true (kM 88 9),
 ⟨some (87, true), .bslice (some 89) 3 1 1 [(.int .i64 0)] [(0, 1, (.const (.int .i64 17)))]⟩,
 kT 87 true (kC 90 41 [(.tmp 89)]),
 kT 87 true (kC 91 20 [(.tmp 88), (.tmp 90)]),
 kPf 92 87 91,
 kM 93 92,
 kT 93 true (kG 94 3 2),
 kT 93 true (kM 95 9),
 kT 93 true (kC 96 29 [(.tmp 94), (.tmp 95)]),
 kT 93 true (kR 97 96),
 kPf 98 93 97,
 kM 99 98,
 kT 99 true (kG 100 6 2),
 kT 99 true (kM 101 9),
 kT 99 true (kC 102 29 [(.tmp 100), (.tmp 101)]),
 kPf 103 99 102,
 kM 0 103])
 (K.ret))))))))))
def hLives : Nat → Option (List (Nat × Nat)) := fun r => match r with | 2 => some [(0,1),(1,1),(2,0),(3,0),(4,1),(5,0),(6,0),(7,0),(8,0),(9,340),(10,341),(11,0),(12,0),(13,0)] | 3 => some [(0,1),(1,1),(2,0),(3,0),(4,1),(5,0),(6,0),(7,0),(8,0),(9,350),(10,351),(11,0),(12,0),(13,0)] | _ => none
theorem cLives : compileH Tryz.prog Tryz.f11.ntmps hLives (Tryz.f11.body.getD .skip) = some KLives.erase := by kernel_rfl
@[simp] theorem calLives : callable Tryz.prog 11 = true := by kernel_rfl
def ELives : Entry := ⟨KLives, [.slot 0], false⟩
theorem eokLives : EntryOk Tryz.prog 11 ELives := ⟨calLives, _, _, hLives, Tryz.func11, rfl, cLives, by kernel_rfl⟩
def tabL : List (Nat × Entry) := (11, ELives) :: (41, EIds) :: (20, ESameI) :: (40, EId) :: (88, EVar) :: (39, EEx) :: tabC
theorem tabL_ok : ∀ f e, findE f tabL = some e → EntryOk Tryz.prog f e := tab_cons eokLives (tab_cons eokIds (tab_cons eokSameI (tab_cons eokId (tab_cons eokVar (tab_cons eokEx tabC_ok)))))
def orcA : Run := fun f xs σ => match Nat.beq f 29, xs, σ with
  | true, [.agg [.sl n a, .sl m b], .sl k c], [] => (match decI a, decI b, decI c with
    | some la, some lb, some lc => if n = la.length ∧ m = lb.length ∧ k = lc.length ∧ (la ++ lb).length ≤ 1000000 then some (bl (lc.any fun x => decide (x ∈ la ++ lb)), []) else none
    | _, _, _ => none)
  | _, _, _ => none
@[simp] theorem calAsksA : callable Tryz.prog 29 = true := by kernel_rfl
theorem orcA_ok : CallsOk Tryz.prog orcA := by
  intro f xs σ r σ' h
  unfold orcA at h
  split at h <;> try (cases h; done)
  rename_i n a m b k c hf
  split at h <;> try (cases h; done)
  rename_i la lb lc h1 h2 h3
  split at h <;> try (cases h; done)
  rename_i hc
  cases h
  have hf' := Nat.eq_of_beq_eq_true hf
  subst hf'
  refine ⟨calAsksA, ?_⟩
  rw [decI_sound h1, decI_sound h2, decI_sound h3, hc.1, hc.2.1, hc.2.2.1]
  exact asks_ok ⟨la, lb⟩ lc (la ++ lb) rfl hc.2.2.2
theorem ex_chg : chgD exP.defs exQ.defs = [⟨0, 1, 17⟩] := by
  rw [chgD, setD_eq]
  kernel_rfl
@[simp] theorem calChgA : callable Tryz.prog 21 = true := by kernel_rfl
def orcC : Run := orcT [(21, [.agg (encP exP), .agg (encP exQ)], .sl 1 (cellsI [⟨0, 1, 17⟩]))]
theorem orcC_ok : CallsOk Tryz.prog orcC := orcT_ok fun p hp => by
  rw [List.mem_singleton] at hp
  subst hp
  refine ⟨calChgA, ?_⟩
  have := changed_ok exP exQ (by decide) (by decide) (by decide) (by decide)
  rw [ex_chg] at this
  exact this
def orcL : Run := orE orcS (orE orcA orcC)
theorem orcL_ok : CallsOk Tryz.prog orcL := orE_ok orcS_ok (orE_ok orcA_ok orcC_ok)
set_option maxRecDepth 100000 in
theorem lives_ok : Ret Tryz.prog 11 [] [] (bl true) [] := runPl_ok (lf := 20) (n := 50) tabL_ok orcL_ok (by kernel_rfl)
end Go.Proofs.YthglhccibdlccaaGreatDoor
namespace Go.Proofs.YthglhccibdlccaaGreatDoor
open Go.Abs
abbrev litF : FuncId := 79
theorem findH {hs : List Hd} {R : Nat} {m : Mk} (hx : Cx hs R m) {k : Nat} (hk : k < hs.length) (h1 : ∀ (j : Nat) (hj : j < k), hs[j].id ≠ hs[k].id) : ∃ h : k < m.defs.length, defV m.defs hs[k].id = (m.defs[k], true) ∧ m.defs[k].hd = hs[k] := by
  have hl := hx.dlen
  have h : k < m.defs.length := by omega
  have hg := hx.get h
  refine ⟨h, ?_, hg.symm⟩
  unfold defV
  rw [findD_hit h (fun d hd => ?_) (by rw [hg]; rfl)]
  rw [List.mem_take_iff_getElem] at hd
  obtain ⟨j, hj, rfl⟩ := hd
  have hjl : j < m.defs.length := by omega
  have := h1 j (by omega)
  rw [hx.get hjl] at this
  exact this
set_option maxHeartbeats 1000000 in
theorem lit_int {hs : List Hd} {R : Nat} {m : Mk} {env : List Bnd} (hl : Lim m 1) (x depth : Int) (hx0 : 0 ≤ x) (hx1 : x ≤ 65536) : Makes hs m.own litF m [.ptr 0 0, .agg (encT tInt), .sl env.length (cellsB env), int x, int depth] env tInt 1 := by
  have e9 : x.tmod 9 = x % 9 := tmN hx0
  have e29 : x.tmod 29 = x % 29 := tmN hx0
  have e2 : x.tmod 2 = x % 2 := tmN hx0
  have key : ∀ n, -1099511627776 ≤ n → n ≤ 1099511627776 → (∀ (K : Prop), K → K) → Ret Tryz.prog litF [.ptr 0 0, .agg (encT tInt), .sl env.length (cellsB env), int x, int depth] (mkS m) (.agg (encE (.mk ⟨0, 0, m.temp⟩ 0 n Id.zero Typ.zero [] []))) (mkS { m with temp := m.temp + 1, left := m.left - 1 }) → Makes hs m.own litF m [.ptr 0 0, .agg (encT tInt), .sl env.length (cellsB env), int x, int depth] env tInt 1 := fun n q1 q2 _ h =>
    ⟨_, _, h, adv_node m, .int _ _ _ q1 q2, by simp only [tmps, tmpsL, List.nil_append]; exact Seg.one _, num0_leaf⟩
  have w1 : IntKind.i64.wrap (x.tmod 9 - 2) = x.tmod 9 - 2 := IntWalk.i64_in _ (by omega)
  have w2 : IntKind.i64.wrap (1099511627776 - x.tmod 2) = 1099511627776 - x.tmod 2 := IntWalk.i64_in _ (by omega)
  obtain ⟨l1, l2, l3, l4, l5, l6, l7, l8⟩ := hl
  by_cases h29 : x.tmod 29 = 3
  · refine key (1099511627776 - x.tmod 2) (by omega) (by omega) (fun _ h => h) ?_
    refine ret_of_wpH Tryz.func79 rfl cLit (rs := [.cell 10 15 true]) (by kernel_rfl) ?_
    unfold KLit
    simp -implicitDefEqProofs [mkS, mkB, encT, tInt, w1, w2, h29]
    refine callJ (node_ok m 0 (1099511627776 - x.tmod 2) [] l3 (by omega) (by omega) l6) [0, 1] (by decide) (by simp [mkS, mkB]) (by simp) ?_
    simp -implicitDefEqProofs [mkS, mkB]
    exact ret_keep [0, 1] 0 (by decide) (by simp) (by simp) (by simp)
  · refine key (x.tmod 9 - 2) (by omega) (by omega) (fun _ h => h) ?_
    refine ret_of_wpH Tryz.func79 rfl cLit (rs := [.cell 10 15 true]) (by kernel_rfl) ?_
    unfold KLit
    simp -implicitDefEqProofs [mkS, mkB, encT, tInt, w1, w2, h29]
    refine callJ (node_ok m 0 (x.tmod 9 - 2) [] l3 (by omega) (by omega) l6) [0, 1] (by decide) (by simp [mkS, mkB]) (by simp) ?_
    simp -implicitDefEqProofs [mkS, mkB]
    exact ret_keep [0, 1] 0 (by decide) (by simp) (by simp) (by simp)
theorem lit_bool {hs : List Hd} {m : Mk} {env : List Bnd} (hl : Lim m 1) (x depth : Int) (hx0 : 0 ≤ x) : Makes hs m.own litF m [.ptr 0 0, .agg (encT tBool), .sl env.length (cellsB env), int x, int depth] env tBool 1 := by
  have e2 : x.tmod 2 = x % 2 := tmN hx0
  obtain ⟨l1, l2, l3, l4, l5, l6, l7, l8⟩ := hl
  refine ⟨.mk ⟨0, 0, m.temp⟩ 1 (x.tmod 2) Id.zero Typ.zero [] [], _, ?_, adv_node m, .bool _ _ _ (by omega), by simp only [tmps, tmpsL, List.nil_append]; exact Seg.one _, num0_leaf⟩
  refine ret_of_wpH Tryz.func79 rfl cLit (rs := [.cell 10 15 true]) (by kernel_rfl) ?_
  unfold KLit
  simp -implicitDefEqProofs [mkS, mkB, encT, tBool]
  refine callJ (node_ok m 1 (x.tmod 2) [] l3 (by omega) (by omega) l6) [0, 1] (by decide) (by simp [mkS, mkB]) (by simp) ?_
  simp -implicitDefEqProofs [mkS, mkB]
  exact ret_keep [0, 1] 0 (by decide) (by simp) (by simp) (by simp)
set_option maxHeartbeats 1000000 in
theorem lit_list {hs : List Hd} {R : Nat} {m : Mk} {env : List Bnd} {c depth : Int} {Q : Nat → Prop} {len : Nat} (hc : 0 ≤ c) (hl : Lim m (2 * c + 1)) (x : Int) (hx0 : 0 ≤ x) (t : Typ) {r : Nat} (hr : TyOk hs r t) (hQ : Q r)
    (hk : KidOk hs R c (depth - 1) Q len) (hx : Cx hs R m) (he : EnvOk hs R m.temp env) (h1 : 0 < env.length) (h2 : env.length ≤ len) (hd1 : -1000 ≤ depth) (hd2 : depth ≤ 1000) :
    Makes hs m.own litF m [.ptr 0 0, .agg (encT (tList t)), .sl env.length (cellsB env), int x, int depth] env (tList t) (2 * c + 1) := by
  have e3 : x.tmod 3 = x % 3 := tmN hx0
  have wd : IntKind.i64.wrap (depth - 1) = depth - 1 := IntWalk.i64_in _ (by omega)
  -- how many kids at most
  obtain ⟨K, hK, hK2⟩ : ∃ K : Nat, (K : Int) = (if 0 ≤ depth then x.tmod 3 else 0) ∧ K ≤ 2 := by
    by_cases h : 0 ≤ depth
    · exact ⟨(x % 3).toNat, by rw [if_pos h, e3]; omega, by omega⟩
    · exact ⟨0, by rw [if_neg h]; rfl, by omega⟩
  have hKc : (K : Int) * c ≤ 2 * c := Int.mul_le_mul_of_nonneg_right (by omega) hc
  obtain ⟨es, ms, q0, q2, q3, q4, q6, q7, q5⟩ := kidsL_ok hk hc env h1 h2 t hr hQ m hx he K (hl.mono (by omega))
  have ha := q3 es.length (Nat.le_refl _)
  have hec : (es.length : Int) * c ≤ 2 * c := Int.mul_le_mul_of_nonneg_right (by omega) hc
  have ha2 := ha.mono hec
  have hln := Lim.adv (c := 2 * c) (c' := 1) hl ha2
  obtain ⟨l1, l2, l3, l4, l5, l6, l7, l8⟩ := hln
  refine ⟨.mk ⟨0, 0, (ms es.length).temp⟩ 11 0 Id.zero t es [], { ms es.length with temp := (ms es.length).temp + 1, left := (ms es.length).left - 1 }, ?_, ha2.trans (adv_node _), .list _ _ _ _ fun j hj => (q5 j hj).2.1,
    by simp only [tmps]; exact q4.append (Seg.one _) ha.temp1 (by omega), num0_mk (num0_all rfl fun j hj => (q5 j hj).2.2)⟩
  refine ret_of_wpH Tryz.func79 rfl cLit (rs := [.cell 10 15 true]) (by kernel_rfl) ?_
  unfold KLit
  simp -implicitDefEqProofs [mkS, mkB, encT, tList]
  refine loopS (S := Nat) (fun i => [(0, .ptr 0 0), (2, .sl env.length (cellsB env)), (3, int x), (4, int depth), (6, .ptr 2 0), (10, .ptr 3 0), (12, .row 4 i), (13, int i)])
    (fun i => mkS (ms i) ++ [.box (encT (tList t)), .box (encE Exp.zero), .row false 37 15 i (cellsE (es.take i))]) (fun i => i ≤ es.length) (fun i => es.length - i) 0 (by simp)
    ((weak_nilslot (t := 12) (by simp) 37 15).trans (selW [0, 1, 2, 3, 4] 0 (by decide) (by simp) (by simp [mkS, mkB, encT, tList, q2, encE, Exp.zero, Id.zero, Typ.zero]) (by simp))) ?_
  intro i hi
  have hms := q3 i hi
  by_cases hi2 : i < es.length
  · obtain ⟨g1, _, _⟩ := q5 i hi2
    have c2 : 0 ≤ depth := by
      by_cases h : 0 ≤ depth
      · exact h
      · rw [if_neg h] at hK; omega
    have c1 : (i : Int) < x.tmod 3 := by rw [if_pos c2] at hK; omega
    have c3 := q6 i hi2
    have hst : cellsE (es.take (i + 1)) = cellsE (es.take i) ++ encE es[i] := cellsE_take_succ hi2
    have hw : IntKind.i64.wrap ((i : Int) + 1) = (i : Int) + 1 := IntWalk.i64_in _ (by omega)
    simp -implicitDefEqProofs [mkS, mkB, encT, tList, c1, c2, c3, wd, cellsT_cons]
    refine callJ g1 [0, 1] (by decide) (by simp [mkS, mkB]) (by simp [encT]) ?_
    simp -implicitDefEqProofs [mkS, mkB]
    refine ⟨⟨by simp [maxLen]; omega, by omega⟩, ?_⟩
    exact roundS (i + 1) hi2 (by omega) (selW [0, 1, 2, 3, 4] 0 (by decide) (by simp) (by simp [mkS, mkB, encT, tList, encE, Exp.zero, Id.zero, Typ.zero, hst]) (by simp [hw]))
  · have hie : i = es.length := by omega
    subst hie
    have hexit : ¬ ((es.length : Int) < x.tmod 3 ∧ 0 ≤ depth ∧ 0 < (ms es.length).left) := fun hh => by
      rcases q7 with q7 | q7
      · rw [if_pos hh.2.1] at hK; omega
      · omega
    by_cases c1 : (es.length : Int) < x.tmod 3
    · by_cases c2 : 0 ≤ depth
      · have c3 : ¬ 0 < (ms es.length).left := fun h => hexit ⟨c1, c2, h⟩
        simp -implicitDefEqProofs [mkS, mkB, encT, tList, c1, c2, c3, cellsT_cons]
        refine ⟨mkEnv [(0, .ptr 0 0), (6, .ptr 2 0), (10, .ptr 3 0), (12, .sl es.length (cellsE es))], mkS (ms es.length) ++ [.box (encT (tList t)), .box (encE Exp.zero)], selW [0, 1, 2, 3] 1 (by decide) (by simp) (by simp [mkS, mkB, encT, tList, encE, Exp.zero, Id.zero, Typ.zero, cellsT_cons]) (by simp), ?_⟩
        simp -implicitDefEqProofs [mkS, mkB, encT, tList]
        refine callJ (node_ok (ms es.length) 11 0 es l3 (by omega) (by omega) l6) [0, 1] (by decide) (by simp [mkS, mkB]) (by simp) ?_
        simp -implicitDefEqProofs [mkS, mkB, encT, tList, encE, cellsT_cons]
        exact ret_keep [0, 1] 0 (by decide) (by simp) (by simp) (by simp [encE])
      · simp -implicitDefEqProofs [mkS, mkB, encT, tList, c1, c2, cellsT_cons]
        refine ⟨mkEnv [(0, .ptr 0 0), (6, .ptr 2 0), (10, .ptr 3 0), (12, .sl es.length (cellsE es))], mkS (ms es.length) ++ [.box (encT (tList t)), .box (encE Exp.zero)], selW [0, 1, 2, 3] 1 (by decide) (by simp) (by simp [mkS, mkB, encT, tList, encE, Exp.zero, Id.zero, Typ.zero, cellsT_cons]) (by simp), ?_⟩
        simp -implicitDefEqProofs [mkS, mkB, encT, tList]
        refine callJ (node_ok (ms es.length) 11 0 es l3 (by omega) (by omega) l6) [0, 1] (by decide) (by simp [mkS, mkB]) (by simp) ?_
        simp -implicitDefEqProofs [mkS, mkB, encT, tList, encE, cellsT_cons]
        exact ret_keep [0, 1] 0 (by decide) (by simp) (by simp) (by simp [encE])
    · simp -implicitDefEqProofs [mkS, mkB, encT, tList, c1, cellsT_cons]
      refine ⟨mkEnv [(0, .ptr 0 0), (6, .ptr 2 0), (10, .ptr 3 0), (12, .sl es.length (cellsE es))], mkS (ms es.length) ++ [.box (encT (tList t)), .box (encE Exp.zero)], selW [0, 1, 2, 3] 1 (by decide) (by simp) (by simp [mkS, mkB, encT, tList, encE, Exp.zero, Id.zero, Typ.zero, cellsT_cons]) (by simp), ?_⟩
      simp -implicitDefEqProofs [mkS, mkB, encT, tList]
      refine callJ (node_ok (ms es.length) 11 0 es l3 (by omega) (by omega) l6) [0, 1] (by decide) (by simp [mkS, mkB]) (by simp) ?_
      simp -implicitDefEqProofs [mkS, mkB, encT, tList, encE, cellsT_cons]
      exact ret_keep [0, 1] 0 (by decide) (by simp) (by simp) (by simp [encE])
end Go.Proofs.YthglhccibdlccaaGreatDoor
