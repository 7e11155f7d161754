/-
  The maker's operations.
-/
import Derived.Test.YthglhccibdlccaaGreatDoorX33
set_option linter.unusedVariables false
set_option linter.unusedSimpArgs false
namespace Go.Proofs.YthglhccibdlccaaGreatDoor
open Go.Abs
def KOpM : K :=
 K.seq (K.ops [kO 6 1,
 kZ 10 kz1])
 (K.seq (K.seq (K.ops [kA 16 6 0,
 kL 17 16 1,
 kQi 18 17 0 false])
 (K.cond (.tmp 18)
 (K.seq (K.seq (K.ops [kM 19 3,
 kBi 20 19 6 .rem,
 kQi 21 20 5 false])
 (K.cond (.tmp 21)
 (K.seq (K.ops [kM 22 0,
 kM 23 0,
 ⟨none, .build (some 24) kz2 []⟩,
 kC 25 74 [(.tmp 24)],
 kM 26 2,
 kM 27 4,
 kBi 28 27 1 .sub,
 kC 29 34 [(.tmp 23), (.tmp 25), (.tmp 26), (.tmp 28)],
 ⟨none, .bslice (some 30) 37 15 1 kz1 [(0, 15, (.tmp 29))]⟩,
 kC 31 80 [(.tmp 22), (.const (.int .i64 4)), (.const (.int .i64 11)), (.tmp 30)],
 kS 10 31 15])
 (K.ret))
 (K.skip)))
 (K.seq (K.ops [kM 32 0,
 kG 33 6 5,
 kM 34 2,
 kM 35 4,
 kBi 36 35 1 .sub,
 kC 37 34 [(.tmp 32), (.tmp 33), (.tmp 34), (.tmp 36)],
 kZ 11 kz1,
 kS 11 37 15])
 (K.seq (K.dops [(0, 0, kM 38 0),
 (1, 0, ⟨none, .bslice (some 39) 3 1 5 [(.int .i64 0), (.int .i64 0), (.int .i64 0), (.int .i64 0), (.int .i64 0)] [(0, 1, (.const (.int .i64 0))), (1, 1, (.const (.int .i64 1))), (2, 1, (.const (.int .i64 2))), (3, 1, (.const (.int .i64 3))), (4, 1, (.const (.int .i64 4)))]⟩),
 (2, 0, kM 40 3),
 (3, 0, kBi 41 40 5 .rem),
 (4, 2, kX 42 39 41 1),
 (5, 2, kL 43 42 1),
 (6, 2002, kG 44 11 15),
 (7, 0, kM 45 0),
 (8, 0, kG 46 6 5),
 (9, 0, kM 47 2),
 (10, 0, kM 48 4),
 (11, 0, kBi 49 48 1 .sub),
 (12, 1002, kC 50 34 [(.tmp 45), (.tmp 46), (.tmp 47), (.tmp 49)]),
 (13, 0, ⟨none, .bslice (some 51) 37 15 2 kz6 [(0, 15, (.tmp 44)), (15, 15, (.tmp 50))]⟩),
 (14, 4, kC 52 80 [(.tmp 38), (.const (.int .i64 4)), (.tmp 43), (.tmp 51)]),
 (15, 0, kS 10 52 15)])
 (K.ret))))
 (K.skip)))
 (K.seq (K.seq (K.ops [kA 53 6 0,
 kL 54 53 1,
 kQi 55 54 1 false])
 (K.cond (.tmp 55)
 (K.seq (K.seq (K.ops [kM 56 3,
 kBi 57 56 6 .rem,
 kQi 58 57 0 false])
 (K.cond (.tmp 58)
 (K.seq (K.ops [kM 59 0,
 kM 60 0,
 kG 61 6 5,
 kM 62 2,
 kM 63 4,
 kBi 64 63 1 .sub,
 kC 65 34 [(.tmp 60), (.tmp 61), (.tmp 62), (.tmp 64)],
 ⟨none, .bslice (some 66) 37 15 1 kz1 [(0, 15, (.tmp 65))]⟩,
 kC 67 80 [(.tmp 59), (.const (.int .i64 4)), (.const (.int .i64 9)), (.tmp 66)],
 kS 10 67 15])
 (K.ret))
 (K.skip)))
 (K.seq (K.ops [⟨none, .build (some 68) kz2 []⟩,
 kZ 12 kz2,
 kS 12 68 5])
 (K.seq (K.ops [kMi 13 5])
 (K.seq (K.seq (K.ops [kM 69 3,
 kBi 70 69 6 .rem,
 kQi 71 70 2 false])
 (K.cond (.tmp 71)
 (K.ops [kMi 13 6])
 (K.skip)))
 (K.seq (K.seq (K.ops [kM 72 3,
 kBi 73 72 6 .rem,
 kQi 74 73 3 false])
 (K.cond (.tmp 74)
 (K.seq (K.ops [kMi 13 6])
 (K.ops [kM 75 2,
 kM 76 3,
 kBi 77 76 6 .quo,
 kM 78 2,
 kN 79 78,
 kB 80 77 79 .rem,
 kX 81 75 80 9,
 kA 82 81 4,
 kG 83 82 5,
 kS 12 83 5]))
 (K.skip)))
 (K.seq (K.seq (K.ops [kM 84 3,
 kBi 85 84 6 .rem,
 kBi 86 85 4 .geq])
 (K.cond (.tmp 86)
 (K.seq (K.ops [⟨none, .bslice (some 87) 3 1 2 [(.int .i64 0), (.int .i64 0)] [(0, 1, (.const (.int .i64 7))), (1, 1, (.const (.int .i64 8)))]⟩,
 kM 88 3,
 kBi 89 88 6 .rem,
 kBi 90 89 4 .sub,
 kX 91 87 90 1,
 kL 92 91 1,
 kM 13 92])
 (K.ops [kG 93 6 5,
 kS 12 93 5]))
 (K.skip)))
 (K.seq (K.ops [kM 94 0,
 kG 95 12 5,
 kM 96 2,
 kM 97 4,
 kBi 98 97 1 .sub,
 kC 99 34 [(.tmp 94), (.tmp 95), (.tmp 96), (.tmp 98)],
 kZ 14 kz1,
 kS 14 99 15])
 (K.seq (K.dops [(0, 0, kM 100 0),
 (1, 0, kM 101 13),
 (2, 2002, kG 102 14 15),
 (3, 0, kM 103 0),
 (4, 0, kG 104 12 5),
 (5, 0, kM 105 2),
 (6, 0, kM 106 4),
 (7, 0, kBi 107 106 1 .sub),
 (8, 1002, kC 108 34 [(.tmp 103), (.tmp 104), (.tmp 105), (.tmp 107)]),
 (9, 0, ⟨none, .bslice (some 109) 37 15 2 kz6 [(0, 15, (.tmp 102)), (15, 15, (.tmp 108))]⟩),
 (10, 4, kC 110 80 [(.tmp 100), (.const (.int .i64 4)), (.tmp 101), (.tmp 109)]),
 (11, 0, kS 10 110 15)])
 (K.ret)))))))))
 (K.skip)))
 (K.seq (K.seq (K.ops [kA 111 6 0,
 kL 112 111 1,
 kQi 113 112 2 false,
 kM 114 113,
 kT 114 true (kM 115 3),
 kT 114 true (kBi 116 115 2 .rem),
 kT 114 true (kQi 117 116 0 false),
 kPf 118 114 117])
 (K.cond (.tmp 118)
 (K.seq (K.ops [kM 119 0,
 kG 120 6 5,
 kM 121 2,
 kM 122 4,
 kBi 123 122 1 .sub,
 kC 124 34 [(.tmp 119), (.tmp 120), (.tmp 121), (.tmp 123)],
 kZ 15 kz1,
 kS 15 124 15])
 (K.seq (K.dops [(0, 0, kM 125 0),
 (1, 2002, kG 126 15 15),
 (2, 0, kM 127 0),
 (3, 0, kG 128 6 5),
 (4, 0, kM 129 2),
 (5, 0, kM 130 4),
 (6, 0, kBi 131 130 1 .sub),
 (7, 1002, kC 132 34 [(.tmp 127), (.tmp 128), (.tmp 129), (.tmp 131)]),
 (8, 0, ⟨none, .bslice (some 133) 37 15 2 kz6 [(0, 15, (.tmp 126)), (15, 15, (.tmp 132))]⟩),
 (9, 4, kC 134 80 [(.tmp 125), (.const (.int .i64 4)), (.const (.int .i64 10)), (.tmp 133)]),
 (10, 0, kS 10 134 15)])
 (K.ret)))
 (K.skip)))
 (K.seq (K.ops [kM 135 0,
 kG 136 6 5,
 kM 137 2,
 kM 138 3,
 kBi 139 138 2 .quo,
 kM 140 4,
 kC 141 79 [(.tmp 135), (.tmp 136), (.tmp 137), (.tmp 139), (.tmp 140)],
 kS 10 141 15])
 (K.ret)))))
def hOpM : Nat → Option (List (Nat × Nat)) := fun r => match r with | 5 => some [(0,0),(1,0),(2,0),(3,0),(4,2),(5,2),(6,2002),(7,0),(8,0),(9,0),(10,0),(11,0),(12,1002),(13,0),(14,4),(15,0)] | 20 => some [(0,0),(1,0),(2,2002),(3,0),(4,0),(5,0),(6,0),(7,0),(8,1002),(9,0),(10,4),(11,0)] | 23 => some [(0,0),(1,2002),(2,0),(3,0),(4,0),(5,0),(6,0),(7,1002),(8,0),(9,4),(10,0)] | _ => none
theorem cOpM : compileH Tryz.prog Tryz.f86.ntmps hOpM (Tryz.f86.body.getD .skip) = some KOpM.erase := by kernel_rfl
@[simp] theorem calOpM : callable Tryz.prog 86 = true := by kernel_rfl
@[simp] theorem tgtC_ld2 {d : Option Nat} {x : Operand} {n : Nat} {g : Bool} {env : Env} : tgtC 2002 (.ld d x n g) env = isAbove 2 (ev env x) := propext (tgtC_ld (by omega) (by omega))
@[simp] theorem tgtC_call2 {d : Option Nat} {x : Operand} {l : List Operand} {env : Env} : tgtC 1002 (.call d x l) env = True := rfl
@[simp] theorem isAbove_ptr {c l o : Nat} : isAbove c (.ptr l o) = (c ≤ l) := rfl
abbrev opF : FuncId := 86
theorem two_ok {hs : List Hd} {R : Nat} {c depth : Int} {Q : Nat → Prop} {len : Nat} (hk : KidOk hs R c depth Q len) {m : Mk} {env : List Bnd} (hx : Cx hs R m) {c' : Int} (hl : Lim m (2 * c + c')) (hc : 0 ≤ c) (hc' : 0 ≤ c') (he : EnvOk hs R m.temp env) (h1 : 0 < env.length) (h2 : env.length ≤ len)
    (t u : Typ) {r r' : Nat} (ht : TyOk hs r t) (hu : TyOk hs r' u) (hQ : Q r) (hQ' : Q r') :
    ∃ (a b : Exp) (m1 m2 : Mk), Ret Tryz.prog exprF [.ptr 0 0, .agg (encT t), .sl env.length (cellsB env), int depth] (mkS m) (.agg (encE a)) (mkS m1) ∧
      Ret Tryz.prog exprF [.ptr 0 0, .agg (encT u), .sl env.length (cellsB env), int depth] (mkS m1) (.agg (encE b)) (mkS m2) ∧
      Adv m m2 (2 * c) ∧ WT hs m.own env a t ∧ WT hs m.own env b u ∧ Seg m.temp m2.temp (tmps a ++ tmps b) ∧ a.num0 ∧ b.num0 ∧ Lim m2 c' := by
  obtain ⟨a, m1, g1, g2, g3, g4, g5⟩ := hk m r t env hx (hl.mono (by omega)) ht hQ he h1 h2
  have hl1 : Lim m1 (c + c') := Lim.adv (c := c) (hl.mono (by omega)) g2
  obtain ⟨b, m2, k1, k2, k3, k4, k5⟩ := hk m1 r' u env (hx.adv g2) (hl1.mono (by omega)) hu hQ' (he.mono g2.temp1) h1 h2
  rw [g2.own] at k3
  exact ⟨a, b, m1, m2, g1, k1, (g2.trans k2).mono (by omega), g3, k3, g4.append k4 g2.temp1 k2.temp1, g5, k5, Lim.adv hl1 k2⟩
theorem seg_two {a b : Exp} {t0 t1 : Int} {k n : Int} (h : Seg t0 t1 (tmps a ++ tmps b)) (h1 : t0 ≤ t1) : Seg t0 (t1 + 1) (tmps (.mk ⟨0, 0, t1⟩ k n Id.zero Typ.zero [a, b] [])) := by
  simp only [tmps, tmpsL, List.append_nil]
  exact h.append (Seg.one _) h1 (by omega)
theorem num0_two {a b : Exp} {c k n : Int} (h1 : a.num0) (h2 : b.num0) : (Exp.mk ⟨0, 0, c⟩ k n Id.zero Typ.zero [a, b] []).num0 := num0_mk (by simp [h1, h2])
theorem num0_one {a : Exp} {c k n : Int} {r : Id} (h1 : a.num0) : (Exp.mk ⟨0, 0, c⟩ k n r Typ.zero [a] []).num0 := num0_mk (by simp [h1])
theorem seg_one {a : Exp} {t0 t1 : Int} {k n : Int} {r : Id} (h : Seg t0 t1 (tmps a)) (h1 : t0 ≤ t1) : Seg t0 (t1 + 1) (tmps (.mk ⟨0, 0, t1⟩ k n r Typ.zero [a] [])) := by
  simp only [tmps, tmpsL, List.append_nil]
  exact h.append (Seg.one _) h1 (by omega)
theorem list0 : Ret Tryz.prog 74 [.agg (encT tInt)] [] (.agg (encT (tList tInt))) [] := list_ok tInt
set_option maxHeartbeats 2000000 in
theorem op_int {hs : List Hd} {R : Nat} {m : Mk} {env : List Bnd} {c depth : Int} {len : Nat} (hc : 0 ≤ c) (hl2 : Lim m (2 * c + 1)) (x : Int) (hx0 : 0 ≤ x) (hx1 : x ≤ 65536)
    (hk : KidOk hs R c (depth - 1) (fun r => r ≤ R) len) (hR : 1 ≤ R) (hx : Cx hs R m) (he : EnvOk hs R m.temp env) (h1 : 0 < env.length) (h2 : env.length ≤ len) (h3 : env.length ≤ 1000) (hd1 : -1000 ≤ depth) (hd2 : depth ≤ 1000) :
    Makes hs m.own opF m [.ptr 0 0, .agg (encT tInt), .sl env.length (cellsB env), int x, int depth] env tInt (2 * c + 1) := by
  have e6 : x.tmod 6 = x % 6 := tmN hx0
  have e5 : x.tmod 5 = x % 5 := tmN hx0
  have wd : IntKind.i64.wrap (depth - 1) = depth - 1 := IntWalk.i64_in _ (by omega)
  by_cases h6 : x.tmod 6 = 5
  · obtain ⟨a, m1, g1, k2, k3, k4, k5⟩ := hk m 1 (tList tInt) env hx (hl2.mono (by omega)) (.list _ _ (.int _)) hR he h1 h2
    obtain ⟨l1, l2, l3, l4, l5, l6, l7, l8⟩ := Lim.adv (c := c) (c' := 1) (hl2.mono (by omega)) k2
    refine ⟨.mk ⟨0, 0, m1.temp⟩ 4 11 Id.zero Typ.zero [a] [], { m1 with temp := m1.temp + 1, left := m1.left - 1 }, ?_, (k2.trans (adv_node _)).mono (by omega), .len _ _ _ _ k3, seg_one k4 k2.temp1, num0_one k5⟩
    refine ret_of_wpH Tryz.func86 rfl cOpM (rs := [.cell 10 15 true]) (by kernel_rfl) ?_
    unfold KOpM
    simp -implicitDefEqProofs [mkS, mkB, encT, tInt, h6]
    refine call0 list0 (by simp [encT, tInt]) (by simp) ?_
    simp -implicitDefEqProofs [mkS, mkB, encT, wd]
    refine callJ g1 [0, 1] (by decide) (by simp [mkS, mkB]) (by simp [encT, tList]) ?_
    simp -implicitDefEqProofs [mkS, mkB]
    refine callJ (node_ok m1 4 11 [a] l3 (by omega) (by omega) l6) [0, 1] (by decide) (by simp [mkS, mkB]) (by simp [cellsE_cons]) ?_
    simp -implicitDefEqProofs [mkS, mkB]
    exact ret_keep [0, 1] 0 (by decide) (by simp) (by simp) (by simp [encE, cellsE_cons])
  · obtain ⟨a, b, m1, m2, g1, g2, k2, k3, k3', k4, k5, k6, hln⟩ := two_ok (t := tInt) (u := tInt) (c' := 1) hk hx hl2 hc (by omega) he h1 h2 (.int 0) (.int 0) (by omega) (by omega)
    obtain ⟨l1, l2, l3, l4, l5, l6, l7, l8⟩ := hln
    obtain ⟨rest, hA⟩ : ∃ rest, List.drop (x.tmod 5).toNat [A.lit (.int .i64 0), A.lit (.int .i64 1), A.lit (.int .i64 2), A.lit (.int .i64 3), A.lit (.int .i64 4)] = A.lit (.int .i64 (x.tmod 5)) :: rest := by
      have : x.tmod 5 = 0 ∨ x.tmod 5 = 1 ∨ x.tmod 5 = 2 ∨ x.tmod 5 = 3 ∨ x.tmod 5 = 4 := by omega
      rcases this with e | e | e | e | e <;> rw [e] <;> exact ⟨_, rfl⟩
    have a0 : 0 ≤ x.tmod 5 := by omega
    have a1 : (x.tmod 5).toNat < 5 := by omega
    have a1' : x.tmod 5 < 5 := by omega
    refine ⟨.mk ⟨0, 0, m2.temp⟩ 4 (x.tmod 5) Id.zero Typ.zero [a, b] [], { m2 with temp := m2.temp + 1, left := m2.left - 1 }, ?_, k2.trans (adv_node _), .arith _ _ _ _ _ a0 (by omega) k3 k3', seg_two k4 k2.temp1, num0_two k5 k6⟩
    refine ret_of_wpH Tryz.func86 rfl cOpM (rs := [.cell 10 15 true]) (by kernel_rfl) ?_
    unfold KOpM
    simp -implicitDefEqProofs [mkS, mkB, encT, tInt, h6, wd]
    refine callJ g1 [0, 1] (by decide) (by simp [mkS, mkB]) (by simp [encT]) ?_
    simp -implicitDefEqProofs [mkS, mkB, encT, hA, a0, a1, a1', wd]
    refine dcallJK g2 [0, 1] (by decide) (by simp [mkS, mkB]) (by simp [encT]) (by decide) (by simp) (by simp [mkS]) ?_
    simp -implicitDefEqProofs [mkS, mkB]
    refine dcallJX (node_ok m2 4 (x.tmod 5) [a, b] l3 (by omega) (by omega) l6) [0, 1] (by decide) (by simp [mkS, mkB]) (by simp [cellsE_cons]) ?_
    simp -implicitDefEqProofs [mkS, mkB, encE, cellsE_cons]
    exact ret_keep [0, 1] 0 (by decide) (by simp) (by simp) (by simp [encE, cellsE_cons])
set_option maxHeartbeats 4000000 in
theorem op_bool {hs : List Hd} {R : Nat} {m : Mk} {env : List Bnd} {c depth : Int} {len : Nat} (hc : 0 ≤ c) (hl2 : Lim m (2 * c + 1)) (x : Int) (hx0 : 0 ≤ x) (hx1 : x ≤ 65536)
    (hk : KidOk hs R c (depth - 1) (fun r => r ≤ R) len) (hR : 1 ≤ R) (hx : Cx hs R m) (he : EnvOk hs R m.temp env) (h1 : 0 < env.length) (h2 : env.length ≤ len) (h3 : env.length ≤ 1000) (hd1 : -1000 ≤ depth) (hd2 : depth ≤ 1000) :
    Makes hs m.own opF m [.ptr 0 0, .agg (encT tBool), .sl env.length (cellsB env), int x, int depth] env tBool (2 * c + 1) := by
  have e6 : x.tmod 6 = x % 6 := tmN hx0
  have d6 : x.tdiv 6 = x / 6 := tdN hx0
  have wd : IntKind.i64.wrap (depth - 1) = depth - 1 := IntWalk.i64_in _ (by omega)
  have w0 : IntKind.i64.wrap 0 = 0 := IntWalk.i64_in _ (by omega)
  have w1 : IntKind.i64.wrap 1 = 1 := IntWalk.i64_in _ (by omega)
  have : x.tmod 6 = 0 ∨ x.tmod 6 = 1 ∨ x.tmod 6 = 2 ∨ x.tmod 6 = 3 ∨ x.tmod 6 = 4 ∨ x.tmod 6 = 5 := by omega
  rcases this with e | e | e | e | e | e
  · obtain ⟨a, m1, g1, k2, k3, k4, k5⟩ := hk m 0 tBool env hx (hl2.mono (by omega)) (.bool _) (by omega) he h1 h2
    obtain ⟨l1, l2, l3, l4, l5, l6, l7, l8⟩ := Lim.adv (c := c) (c' := 1) (hl2.mono (by omega)) k2
    refine ⟨.mk ⟨0, 0, m1.temp⟩ 4 9 Id.zero Typ.zero [a] [], { m1 with temp := m1.temp + 1, left := m1.left - 1 }, ?_, (k2.trans (adv_node _)).mono (by omega), .not _ _ _ k3, seg_one k4 k2.temp1, num0_one k5⟩
    refine ret_of_wpH Tryz.func86 rfl cOpM (rs := [.cell 10 15 true]) (by kernel_rfl) ?_
    unfold KOpM
    simp -implicitDefEqProofs [mkS, mkB, encT, tBool, e, wd]
    refine callJ g1 [0, 1] (by decide) (by simp [mkS, mkB]) (by simp [encT]) ?_
    simp -implicitDefEqProofs [mkS, mkB]
    refine callJ (node_ok m1 4 9 [a] l3 (by omega) (by omega) l6) [0, 1] (by decide) (by simp [mkS, mkB]) (by simp [cellsE_cons]) ?_
    simp -implicitDefEqProofs [mkS, mkB]
    exact ret_keep [0, 1] 0 (by decide) (by simp) (by simp) (by simp [encE, cellsE_cons])
  · obtain ⟨a, b, m1, m2, g1, g2, k2, k3, k3', k4, k5, k6, hln⟩ := two_ok (t := tInt) (u := tInt) (c' := 1) hk hx hl2 hc (by omega) he h1 h2 (.int 0) (.int 0) (by omega) (by omega)
    obtain ⟨l1, l2, l3, l4, l5, l6, l7, l8⟩ := hln
    refine ⟨.mk ⟨0, 0, m2.temp⟩ 4 5 Id.zero Typ.zero [a, b] [], { m2 with temp := m2.temp + 1, left := m2.left - 1 }, ?_, k2.trans (adv_node _), .less _ _ _ _ k3 k3', seg_two k4 k2.temp1, num0_two k5 k6⟩
    refine ret_of_wpH Tryz.func86 rfl cOpM (rs := [.cell 10 15 true]) (by kernel_rfl) ?_
    unfold KOpM
    simp -implicitDefEqProofs [mkS, mkB, encT, tBool, e, wd]
    refine callJ g1 [0, 1] (by decide) (by simp [mkS, mkB]) (by simp [encT]) ?_
    simp -implicitDefEqProofs [mkS, mkB, encT, wd]
    refine dcallJK g2 [0, 1] (by decide) (by simp [mkS, mkB]) (by simp [encT]) (by decide) (by simp) (by simp [mkS]) ?_
    simp -implicitDefEqProofs [mkS, mkB]
    refine dcallJX (node_ok m2 4 5 [a, b] l3 (by omega) (by omega) l6) [0, 1] (by decide) (by simp [mkS, mkB]) (by simp [cellsE_cons]) ?_
    simp -implicitDefEqProofs [mkS, mkB, encE, cellsE_cons]
    exact ret_keep [0, 1] 0 (by decide) (by simp) (by simp) (by simp [encE, cellsE_cons])
  · obtain ⟨a, b, m1, m2, g1, g2, k2, k3, k3', k4, k5, k6, hln⟩ := two_ok (t := tInt) (u := tInt) (c' := 1) hk hx hl2 hc (by omega) he h1 h2 (.int 0) (.int 0) (by omega) (by omega)
    obtain ⟨l1, l2, l3, l4, l5, l6, l7, l8⟩ := hln
    refine ⟨.mk ⟨0, 0, m2.temp⟩ 4 6 Id.zero Typ.zero [a, b] [], { m2 with temp := m2.temp + 1, left := m2.left - 1 }, ?_, k2.trans (adv_node _), .same _ _ _ _ tInt k3 k3', seg_two k4 k2.temp1, num0_two k5 k6⟩
    refine ret_of_wpH Tryz.func86 rfl cOpM (rs := [.cell 10 15 true]) (by kernel_rfl) ?_
    unfold KOpM
    simp -implicitDefEqProofs [mkS, mkB, encT, tBool, e, wd]
    refine callJ g1 [0, 1] (by decide) (by simp [mkS, mkB]) (by simp [encT]) ?_
    simp -implicitDefEqProofs [mkS, mkB, encT, wd]
    refine dcallJK g2 [0, 1] (by decide) (by simp [mkS, mkB]) (by simp [encT]) (by decide) (by simp) (by simp [mkS]) ?_
    simp -implicitDefEqProofs [mkS, mkB]
    refine dcallJX (node_ok m2 4 6 [a, b] l3 (by omega) (by omega) l6) [0, 1] (by decide) (by simp [mkS, mkB]) (by simp [cellsE_cons]) ?_
    simp -implicitDefEqProofs [mkS, mkB, encE, cellsE_cons]
    exact ret_keep [0, 1] 0 (by decide) (by simp) (by simp) (by simp [encE, cellsE_cons])
  · obtain ⟨j, hj, e1⟩ : ∃ j : Nat, j < env.length ∧ (x.tdiv 6).tmod (env.length : Int) = j := by
      have q0 : 0 ≤ x.tdiv 6 := by omega
      have q1 := Int.emod_lt_of_pos (x.tdiv 6) (b := (env.length : Int)) (by omega)
      have q2 := Int.emod_nonneg (x.tdiv 6) (b := (env.length : Int)) (by omega)
      exact ⟨((x.tdiv 6) % env.length).toNat, by omega, by rw [tmN q0]; omega⟩
    have hdr := cellsB_drop hj
    have hdr4 : List.drop (j * 9 + 4) (cellsB env) = (encB env[j] ++ cellsB (env.drop (j + 1))).drop 4 := by rw [← List.drop_drop, hdr]
    have hb4 : j * 9 + 4 + 5 ≤ env.length * 9 := by omega
    have hne : ¬ ((env.length : Int) = 0) := by omega
    have hnil : env ≠ [] := fun e => by rw [e] at h1; simp at h1
    have htu := he.typs env[j] (List.getElem_mem hj)
    have w6 : IntKind.i64.wrap (x.tdiv 6) = x.tdiv 6 := IntWalk.i64_in _ (by omega)
    obtain ⟨a, b, m1, m2, g1, g2, k2, k3, k3', k4, k5, k6, hln⟩ := two_ok (t := env[j].typ) (u := env[j].typ) (c' := 1) hk hx hl2 hc (by omega) he h1 h2 htu htu (by omega) (by omega)
    obtain ⟨l1, l2, l3, l4, l5, l6, l7, l8⟩ := hln
    refine ⟨.mk ⟨0, 0, m2.temp⟩ 4 6 Id.zero Typ.zero [a, b] [], { m2 with temp := m2.temp + 1, left := m2.left - 1 }, ?_, k2.trans (adv_node _), .same _ _ _ _ env[j].typ k3 k3', seg_two k4 k2.temp1, num0_two k5 k6⟩
    refine ret_of_wpH Tryz.func86 rfl cOpM (rs := [.cell 10 15 true]) (by kernel_rfl) ?_
    unfold KOpM
    simp -implicitDefEqProofs [mkS, mkB, encT, tBool, e, wd, e1, hne, hnil, hj, hdr4, hb4, encB, w6]
    intro _
    refine callJ g1 [0, 1] (by decide) (by simp [mkS, mkB]) (by simp [encT]) ?_
    simp -implicitDefEqProofs [mkS, mkB, encT, wd]
    refine dcallJK g2 [0, 1] (by decide) (by simp [mkS, mkB]) (by simp [encT]) (by decide) (by simp) (by simp [mkS]) ?_
    simp -implicitDefEqProofs [mkS, mkB]
    refine dcallJX (node_ok m2 4 6 [a, b] l3 (by omega) (by omega) l6) [0, 1] (by decide) (by simp [mkS, mkB]) (by simp [cellsE_cons]) ?_
    simp -implicitDefEqProofs [mkS, mkB, encE, cellsE_cons]
    exact ret_keep [0, 1] 0 (by decide) (by simp) (by simp) (by simp [encE, cellsE_cons])
  · obtain ⟨a, b, m1, m2, g1, g2, k2, k3, k3', k4, k5, k6, hln⟩ := two_ok (t := tBool) (u := tBool) (c' := 1) hk hx hl2 hc (by omega) he h1 h2 (.bool 0) (.bool 0) (by omega) (by omega)
    obtain ⟨l1, l2, l3, l4, l5, l6, l7, l8⟩ := hln
    refine ⟨.mk ⟨0, 0, m2.temp⟩ 4 7 Id.zero Typ.zero [a, b] [], { m2 with temp := m2.temp + 1, left := m2.left - 1 }, ?_, k2.trans (adv_node _), .andor _ _ _ _ _ (.inl rfl) k3 k3', seg_two k4 k2.temp1, num0_two k5 k6⟩
    refine ret_of_wpH Tryz.func86 rfl cOpM (rs := [.cell 10 15 true]) (by kernel_rfl) ?_
    unfold KOpM
    simp -implicitDefEqProofs [mkS, mkB, encT, tBool, e, wd, w0]
    refine callJ g1 [0, 1] (by decide) (by simp [mkS, mkB]) (by simp [encT]) ?_
    simp -implicitDefEqProofs [mkS, mkB, encT, wd]
    refine dcallJK g2 [0, 1] (by decide) (by simp [mkS, mkB]) (by simp [encT]) (by decide) (by simp) (by simp [mkS]) ?_
    simp -implicitDefEqProofs [mkS, mkB]
    refine dcallJX (node_ok m2 4 7 [a, b] l3 (by omega) (by omega) l6) [0, 1] (by decide) (by simp [mkS, mkB]) (by simp [cellsE_cons]) ?_
    simp -implicitDefEqProofs [mkS, mkB, encE, cellsE_cons]
    exact ret_keep [0, 1] 0 (by decide) (by simp) (by simp) (by simp [encE, cellsE_cons])
  · obtain ⟨a, b, m1, m2, g1, g2, k2, k3, k3', k4, k5, k6, hln⟩ := two_ok (t := tBool) (u := tBool) (c' := 1) hk hx hl2 hc (by omega) he h1 h2 (.bool 0) (.bool 0) (by omega) (by omega)
    obtain ⟨l1, l2, l3, l4, l5, l6, l7, l8⟩ := hln
    refine ⟨.mk ⟨0, 0, m2.temp⟩ 4 8 Id.zero Typ.zero [a, b] [], { m2 with temp := m2.temp + 1, left := m2.left - 1 }, ?_, k2.trans (adv_node _), .andor _ _ _ _ _ (.inr rfl) k3 k3', seg_two k4 k2.temp1, num0_two k5 k6⟩
    refine ret_of_wpH Tryz.func86 rfl cOpM (rs := [.cell 10 15 true]) (by kernel_rfl) ?_
    unfold KOpM
    simp -implicitDefEqProofs [mkS, mkB, encT, tBool, e, wd, w1]
    refine callJ g1 [0, 1] (by decide) (by simp [mkS, mkB]) (by simp [encT]) ?_
    simp -implicitDefEqProofs [mkS, mkB, encT, wd]
    refine dcallJK g2 [0, 1] (by decide) (by simp [mkS, mkB]) (by simp [encT]) (by decide) (by simp) (by simp [mkS]) ?_
    simp -implicitDefEqProofs [mkS, mkB]
    refine dcallJX (node_ok m2 4 8 [a, b] l3 (by omega) (by omega) l6) [0, 1] (by decide) (by simp [mkS, mkB]) (by simp [cellsE_cons]) ?_
    simp -implicitDefEqProofs [mkS, mkB, encE, cellsE_cons]
    exact ret_keep [0, 1] 0 (by decide) (by simp) (by simp) (by simp [encE, cellsE_cons])
set_option maxHeartbeats 2000000 in
theorem op_join {hs : List Hd} {R : Nat} {m : Mk} {env : List Bnd} {c depth : Int} {len : Nat} (hc : 0 ≤ c) (hl2 : Lim m (2 * c + 1)) (x : Int) (hx0 : 0 ≤ x) (hx1 : x ≤ 65536)
    (hk : KidOk hs R c (depth - 1) (fun r => r ≤ R) len) (hR : 1 ≤ R) (hx : Cx hs R m) (he : EnvOk hs R m.temp env) (h1 : 0 < env.length) (h2 : env.length ≤ len) (h3 : env.length ≤ 1000) (hd1 : -1000 ≤ depth) (hd2 : depth ≤ 1000) (t : Typ) (ht : TyOk hs R (tList t)) (h5 : x.tmod 2 = 0) :
    Makes hs m.own opF m [.ptr 0 0, .agg (encT (tList t)), .sl env.length (cellsB env), int x, int depth] env (tList t) (2 * c + 1) := by
  have wd : IntKind.i64.wrap (depth - 1) = depth - 1 := IntWalk.i64_in _ (by omega)
  obtain ⟨a, b, m1, m2, g1, g2, k2, k3, k3', k4, k5, k6, hln⟩ := two_ok (t := (tList t)) (u := (tList t)) (c' := 1) hk hx hl2 hc (by omega) he h1 h2 ht ht (by omega) (by omega)
  obtain ⟨l1, l2, l3, l4, l5, l6, l7, l8⟩ := hln
  refine ⟨.mk ⟨0, 0, m2.temp⟩ 4 10 Id.zero Typ.zero [a, b] [], { m2 with temp := m2.temp + 1, left := m2.left - 1 }, ?_, k2.trans (adv_node _), .join _ _ _ _ _ k3 k3', seg_two k4 k2.temp1, num0_two k5 k6⟩
  refine ret_of_wpH Tryz.func86 rfl cOpM (rs := [.cell 10 15 true]) (by kernel_rfl) ?_
  unfold KOpM
  simp -implicitDefEqProofs [mkS, mkB, encT, tList, h5, wd]
  refine callJ g1 [0, 1] (by decide) (by simp [mkS, mkB]) (by simp [encT, tList]) ?_
  simp -implicitDefEqProofs [mkS, mkB, encT, wd]
  refine dcallJK g2 [0, 1] (by decide) (by simp [mkS, mkB]) (by simp [encT, tList]) (by decide) (by simp) (by simp [mkS]) ?_
  simp -implicitDefEqProofs [mkS, mkB]
  refine dcallJX (node_ok m2 4 10 [a, b] l3 (by omega) (by omega) l6) [0, 1] (by decide) (by simp [mkS, mkB]) (by simp [cellsE_cons]) ?_
  simp -implicitDefEqProofs [mkS, mkB, encE, cellsE_cons]
  exact ret_keep [0, 1] 0 (by decide) (by simp) (by simp) (by simp [encE, cellsE_cons])
theorem op_lit {hs : List Hd} {R : Nat} {m : Mk} {env : List Bnd} {c depth : Int} {len : Nat} (hc : 0 ≤ c) (hl2 : Lim m (2 * c + 1)) (x : Int) (hx0 : 0 ≤ x) (hx1 : x ≤ 65536)
    (hk : KidOk hs R c (depth - 1) (fun r => r ≤ R) len) (hR : 1 ≤ R) (hx : Cx hs R m) (he : EnvOk hs R m.temp env) (h1 : 0 < env.length) (h2 : env.length ≤ len) (h3 : env.length ≤ 1000) (hd1 : -1000 ≤ depth) (hd2 : depth ≤ 1000) (t : Typ) (ht : TyOk hs R t) (h4 : t.k ≠ 0) (h5 : t.k ≠ 1) (h6 : t.k ≠ 2 ∨ x.tmod 2 ≠ 0) (hl : Lim m (6 * c + 1)) :
    Makes hs m.own opF m [.ptr 0 0, .agg (encT t), .sl env.length (cellsB env), int x, int depth] env t (6 * c + 1) := by
  have d2 : x.tdiv 2 = x / 2 := tdN hx0
  have w2 : IntKind.i64.wrap (x.tdiv 2) = x.tdiv 2 := IntWalk.i64_in _ (by omega)
  obtain ⟨e, m', g1, g2⟩ := lit_ok hc hl (x.tdiv 2) (by omega) (by omega) t ht (fun r' h => by omega) hk hx he h1 h2 hd1 hd2
  refine ⟨e, m', ?_, g2⟩
  refine ret_of_wpH Tryz.func86 rfl cOpM (rs := [.cell 10 15 true]) (by kernel_rfl) ?_
  unfold KOpM
  by_cases h2 : t.k = 2
  · have h7 : x.tmod 2 ≠ 0 := h6.resolve_left (fun h => h h2)
    simp -implicitDefEqProofs [mkS, mkB, encT, h2, h7, w2]
    refine callJ g1 [0, 1] (by decide) (by simp [mkS, mkB]) (by simp [encT, h2]) ?_
    simp -implicitDefEqProofs [mkS, mkB]
    exact ret_keep [0, 1] 0 (by decide) (by simp) (by simp) (by simp [encE])
  · simp -implicitDefEqProofs [mkS, mkB, encT, h2, h4, h5, w2]
    refine callJ g1 [0, 1] (by decide) (by simp [mkS, mkB]) (by simp [encT]) ?_
    simp -implicitDefEqProofs [mkS, mkB]
    exact ret_keep [0, 1] 0 (by decide) (by simp) (by simp) (by simp [encE])
theorem op_ok {hs : List Hd} {R : Nat} {m : Mk} {env : List Bnd} {c depth : Int} {len : Nat} (hc : 0 ≤ c) (hl : Lim m (7 * c + 7)) (x : Int) (hx0 : 0 ≤ x) (hx1 : x ≤ 65536)
    (hk : KidOk hs R c (depth - 1) (fun r => r ≤ R) len) (hR : 1 ≤ R) (hx : Cx hs R m) (he : EnvOk hs R m.temp env) (h1 : 0 < env.length) (h2 : env.length ≤ len) (h3 : env.length ≤ 1000) (hd1 : -1000 ≤ depth) (hd2 : depth ≤ 1000) (t : Typ) (ht : TyOk hs R t) :
    Makes hs m.own opF m [.ptr 0 0, .agg (encT t), .sl env.length (cellsB env), int x, int depth] env t (7 * c + 7) := by
  have hlit := fun h4 h5 h6 => (op_lit (hl := hl.mono (by omega)) hc (hl.mono (by omega)) x hx0 hx1 hk hR hx he h1 h2 h3 hd1 hd2 t ht h4 h5 h6).mono (show 6 * c + 1 ≤ 7 * c + 7 by omega)
  cases ht with
  | int r => exact (op_int hc (hl.mono (by omega)) x hx0 hx1 hk hR hx he h1 h2 h3 hd1 hd2).mono (by omega)
  | bool r => exact (op_bool hc (hl.mono (by omega)) x hx0 hx1 hk hR hx he h1 h2 h3 hd1 hd2).mono (by omega)
  | list r t h =>
    by_cases h5 : x.tmod 2 = 0
    · exact (op_join hc (hl.mono (by omega)) x hx0 hx1 hk hR hx he h1 h2 h3 hd1 hd2 t (.list _ _ h) h5).mono (by omega)
    · exact hlit (by simp) (by simp) (.inr h5)
  | dfn r k h h1 h2 h3 h4 => exact hlit (by simp) (by simp) (.inl (by simp))
end Go.Proofs.YthglhccibdlccaaGreatDoor
