/-
  The maker's matches.
  The maker's fields and calls.
-/
import Derived.Test.YthglhccibdlccaaGreatDoorX34
set_option linter.unusedVariables false
set_option linter.unusedSimpArgs false
namespace Go.Proofs.YthglhccibdlccaaGreatDoor
open Go.Abs
def KMtM : K :=
 K.seq (K.ops [kO 6 1,
 kZ 10 kz1])
 (K.seq (K.ops [kM 16 0,
 kM 17 3,
 kC 18 118 [(.tmp 16), (.const (.int .i64 1)), (.tmp 17)],
 kM 11 18])
 (K.seq (K.seq (K.ops [kM 19 11,
 kBi 20 19 0 .lss])
 (K.cond (.tmp 20)
 (K.seq (K.ops [kM 21 0,
 kG 22 6 5,
 kM 23 2,
 kM 24 3,
 kM 25 4,
 kC 26 86 [(.tmp 21), (.tmp 22), (.tmp 23), (.tmp 24), (.tmp 25)],
 kS 10 26 15])
 (K.ret))
 (K.skip)))
 (K.seq (K.ops [kM 27 0,
 kU 28 27,
 kA 29 28 0,
 kA 30 29 1,
 kL 31 30 1,
 kM 32 11,
 kX 33 31 32 31,
 kG 34 33 31,
 kZ 12 kz0,
 kS 12 34 31])
 (K.seq (K.ops [kM 35 0,
 kA 36 12 0,
 kG 37 36 3,
 kC 38 72 [(.tmp 37)],
 kM 39 2,
 kM 40 4,
 kBi 41 40 2 .sub,
 kC 42 34 [(.tmp 35), (.tmp 38), (.tmp 39), (.tmp 41)],
 ⟨none, .brow (some 43) 37 15 1 kz1 [(0, 15, (.tmp 42))]⟩,
 kM 13 43])
 (K.seq (K.ops [kM 44 0,
 kC 45 80 [(.tmp 44), (.const (.int .i64 10)), (.const (.int .i64 0)), (.const (.slice none 0 0))],
 kZ 14 kz1,
 kS 14 45 15])
 (K.seq (K.ops [kA 46 12 0,
 kG 47 46 3,
 kA 48 14 5,
 kS 48 47 3])
 (K.seq (K.seq (K.ops [kMi 15 0])
 (K.block 0 (K.loop (K.seq (K.seq (K.ops [kM 49 15,
 kA 50 12 8,
 kL 51 50 1,
 kN 52 51,
 kB 53 49 52 .lss])
 (K.cond (.tmp 53)
 (K.skip)
 (K.exit 0)))
 (K.seq (K.block 1 (K.seq (K.dops [(0, 0, kM 56 13),
 (1, 0, kM 57 0),
 (2, 0, kG 58 6 5),
 (3, 0, kM 59 2),
 (4, 0, kA 60 14 0),
 (5, 0, kG 61 60 3),
 (6, 0, kM 62 15),
 (7, 0, kA 63 12 8),
 (8, 0, kL 64 63 1),
 (9, 0, kM 65 15),
 (10, 0, kX 66 64 65 11),
 (11, 0, kA 67 66 4),
 (12, 0, kG 68 67 5),
 (13, 0, ⟨none, .build (some 69) kz7 [(0, 3, (.tmp 61)), (3, 1, (.tmp 62)), (4, 5, (.tmp 68))]⟩),
 (14, 0, kC 70 82 [(.tmp 59), (.tmp 69)]),
 (15, 0, kM 71 4),
 (16, 0, kBi 72 71 1 .sub),
 (17, 4, kC 73 34 [(.tmp 57), (.tmp 58), (.tmp 70), (.tmp 72)]),
 (18, 0, ⟨none, .bslice (some 74) 37 15 1 kz1 [(0, 15, (.tmp 73))]⟩),
 (19, 0, kP 75 37 15 168 56 74),
 (20, 0, kM 13 75)])
 (K.dops [(0, 2, kA 76 14 14),
 (1, 2002, kL 77 76 1),
 (2, 0, kM 78 0),
 (3, 1002, kC 79 81 [(.tmp 78)]),
 (4, 0, ⟨none, .bslice (some 80) 9 1 1 [(.string ⟨#[]⟩)] [(0, 1, (.tmp 79))]⟩),
 (5, 0, kP 81 9 1 16 77 80),
 (6, 2, kA 82 14 14),
 (7, 0, kS 82 81 1)])))
 (K.ops [kM 54 15,
 kBi 55 54 1 .add,
 kM 15 55]))))))
 (K.seq (K.wk (K.ops [kM 83 13,
 kA 84 14 13,
 kS 84 83 1]))
 (K.seq (K.ops [kG 85 14 15,
 kS 10 85 15])
 (K.ret))))))))))
def hMtM : Nat → Option (List (Nat × Nat)) := fun r => match r with | 11 => some [(0,0),(1,0),(2,0),(3,0),(4,0),(5,0),(6,0),(7,0),(8,0),(9,0),(10,0),(11,0),(12,0),(13,0),(14,0),(15,0),(16,0),(17,4),(18,0),(19,0),(20,0)] | 12 => some [(0,2),(1,2002),(2,0),(3,1002),(4,0),(5,0),(6,2),(7,0)] | _ => none
theorem cMtM : compileH Tryz.prog Tryz.f83.ntmps hMtM (Tryz.f83.body.getD .skip) = some KMtM.erase := by kernel_rfl
@[simp] theorem calMtM : callable Tryz.prog 83 = true := by kernel_rfl
abbrev matchF : FuncId := 83
theorem node_nil (m : Mk) (kind n : Int) (h0 : 0 ≤ m.temp) (h1 : m.temp ≤ 1000000000000000) (h2 : -1000000000000000 ≤ m.left) (h3 : m.left ≤ 1000000000000000) :
    Ret Tryz.prog 80 [.ptr 0 0, int kind, int n, .sl 0 []] (mkS m) (.agg [int 0, int 0, int m.temp, int kind, int n, int 0, int 0, int 0, int 0, int 0, int 0, int 0, .nil, .sl 0 [], .nil]) (mkS { m with temp := m.temp + 1, left := m.left - 1 }) := by
  refine ret_of_wp Tryz.func80 rfl cNode (rs := [.cell 8 15 true]) (by kernel_rfl) ?_
  unfold KNode
  have w1 : IntKind.i64.wrap (m.temp + 1) = m.temp + 1 := IntWalk.i64_in _ (by omega)
  have w2 : IntKind.i64.wrap m.temp = m.temp := IntWalk.i64_in _ (by omega)
  have w3 : IntKind.i64.wrap (m.left - 1) = m.left - 1 := IntWalk.i64_in _ (by omega)
  simp -implicitDefEqProofs [mkS, mkB, w1, w2, w3]
  exact ret_keep [0, 1] 0 (by decide) (by simp) (by simp) (by simp)
def styp (hd : Hd) (j : Nat) : Typ := match hd.slots[j]? with
  | some s => s.typ
  | none => tInt
theorem styp_eq {hd : Hd} {j : Nat} (h : j < hd.slots.length) : styp hd j = hd.slots[j].typ := by unfold styp; rw [List.getElem?_eq_getElem h]
theorem styp_ok {hs : List Hd} {R : Nat} {hd : Hd} (h : ∀ s ∈ hd.slots, TyOk hs R s.typ) (j : Nat) : TyOk hs R (styp hd j) := by
  unfold styp
  split
  · rename_i s hs
    exact h s (List.mem_of_getElem? hs)
  · exact .int _
set_option maxHeartbeats 4000000 in
theorem match_ok {hs : List Hd} {R : Nat} {m : Mk} {env : List Bnd} {c depth : Int} {len : Nat} (hc : 0 ≤ c) (hl : Lim m (7 * c + 7)) (x : Nat) (hx1 : x ≤ 65536) (hk : KidOk hs R c (depth - 1) (fun r => r ≤ R) len) (hk2 : KidOk hs R c (depth - 2) (fun r => r ≤ R) len)
    (hx : Cx hs R m) (he : EnvOk hs R m.temp env) (h1 : 0 < env.length) (h2 : env.length + 1 ≤ len) (h3 : env.length ≤ 1000) (hd1 : -1000 ≤ depth) (hd2 : depth ≤ 1000) (t : Typ) (ht : TyOk hs R t)
    (hop : Makes hs m.own opF m [.ptr 0 0, .agg (encT t), .sl env.length (cellsB env), int x, int depth] env t (7 * c + 7)) :
    Makes hs m.own matchF m [.ptr 0 0, .agg (encT t), .sl env.length (cellsB env), int x, int depth] env t (7 * c + 7) := by
  have hdl := hx.dlen
  have hd100 := hx.len
  have hd0 := hx.len0
  have wd : IntKind.i64.wrap (depth - 1) = depth - 1 := IntWalk.i64_in _ (by omega)
  have wd2 : IntKind.i64.wrap (depth - 2) = depth - 2 := IntWalk.i64_in _ (by omega)
  rcases of_spec m 1 x with hof | ⟨k, hkm, hof, hkind, hvis⟩
  · obtain ⟨e, m', g1, g2⟩ := hop
    refine ⟨e, m', ?_, g2⟩
    refine ret_of_wpH Tryz.func83 rfl cMtM (rs := [.cell 10 15 true]) (by kernel_rfl) ?_
    unfold KMtM
    simp -implicitDefEqProofs [mkS, mkB, encT]
    refine callJ (ofM_ok m 1 x (by omega) (by omega) (by omega) hx.mods) [0, 1] (by decide) (by simp [mkS, mkB]) (by simp) ?_
    simp -implicitDefEqProofs [mkS, mkB, hof]
    refine callJ g1 [0, 1] (by decide) (by simp [mkS, mkB]) (by simp [encT]) ?_
    simp -implicitDefEqProofs [mkS, mkB]
    exact ret_keep [0, 1] 0 (by decide) (by simp) (by simp) (by simp [encE])
  · have hks : k < hs.length := by omega
    have hget := hx.get hkm
    generalize hD : m.defs[k] = D at hget hkind
    have eid : hs[k].id = D.id := by rw [hget]; rfl
    have eslots : hs[k].slots = D.slots := by rw [hget]; rfl
    have ekind : hs[k].kind = 1 := by rw [hget]; exact hkind
    obtain ⟨hs6, hsT⟩ := hx.slots k hks
    have hDl : D.slots.length ≤ 6 := by rw [← eslots]; exact hs6
    obtain ⟨a, m1, g1, g2, g3, g4, g5⟩ := hk2 m R (tDef hs[k].id) env hx (hl.mono (by omega)) (hx.typs k hks (.inr ekind)) (Nat.le_refl _) he h1 (by omega)
    have hl1 : Lim m1 (6 * c + 7) := Lim.adv (c := c) (hl.mono (by omega)) g2
    obtain ⟨l1, l2, l3, l4, l5, l6, l7, l8⟩ := hl1
    obtain ⟨mA, hmA⟩ : ∃ mA : Mk, mA = { m1 with temp := m1.temp + 1, left := m1.left - 1 } := ⟨_, rfl⟩
    have aA : Adv m1 mA 1 := hmA ▸ adv_node m1
    have tA : mA.temp = m1.temp + 1 := by rw [hmA]
    have hlA : Lim mA (6 * c + 6) := Lim.adv (c := 1) ⟨l1, by omega, l3, by omega, by omega, l6, l7, by omega⟩ aA
    have hsc : ((D.slots.length : Int)) * (c + 1) ≤ 6 * (c + 1) := Int.mul_le_mul_of_nonneg_right (by omega) (by omega)
    obtain ⟨es, ns, ms, q0, q1, q2, q3, q4, q5⟩ := kidsN_ok hk hc (fun j => env ++ [⟨⟨0, 0, m1.temp⟩, j, styp hs[k] j⟩]) t ht (Nat.le_refl R) mA ((hx.adv g2).adv aA)
      (fun j => ((he.mono g2.temp1).mono aA.temp1).snoc m1.temp j _ (styp_ok hsT j) (fun b hb e => by
        have hb' := he.new b hb (by rw [e])
        rw [e] at hb'
        have := g2.temp1
        simp only at hb'
        omega) (by omega)) (fun j => by simp) (fun j => by simp; omega) D.slots.length (hlA.mono (by omega))
    have aE := q3 D.slots.length (Nat.le_refl _)
    have eown : mA.own = m.own := aA.own.trans g2.own
    refine ⟨.mk ⟨0, 0, m1.temp⟩ 10 0 hs[k].id Typ.zero (a :: es) ns, ms D.slots.length, ?_, ((g2.trans aA).trans aE).mono (by omega), ?_, ?_, num0_mk ?_⟩
    rotate_left
    · refine .mtch _ _ k hks a es t ns (by omega) ekind (by rw [eslots, q0]) g3 fun j hj => ?_
      have := (q5 j hj (by omega)).elim fun mm h => h.2.2.1
      rw [eown, styp_eq (by rw [eslots]; omega)] at this
      exact this
    · simp only [tmps, tmpsL]
      have s1 : Seg m1.temp (m1.temp + 1) [m1.temp] := Seg.one _
      have s2 := s1.append (b := m1.temp + 1) (tA ▸ q4) (by omega) (tA ▸ aE.temp1)
      have s3 := g4.append s2 g2.temp1 (by have := aE.temp1; omega)
      refine s3.perm ?_
      rw [List.append_assoc]
      exact List.Perm.append_left _ List.perm_append_comm
    · intro e' he'
      rcases List.mem_cons.1 he' with rfl | he'
      · exact g5
      · exact num0_all rfl (fun j hj => (q5 j hj (by omega)).elim fun mm h => h.2.2.2) e' he'
    refine ret_of_wpH Tryz.func83 rfl cMtM (rs := [.cell 10 15 true]) (by kernel_rfl) ?_
    unfold KMtM
    have hdr := cellsD_drop hkm
    rw [hD] at hdr
    have hb31 : k * 31 + 31 ≤ m.defs.length * 31 := by omega
    have hnk : ¬ ((k : Int) < 0) := by omega
    simp -implicitDefEqProofs [mkS, mkB, encT]
    refine callJ (ofM_ok m 1 x (by omega) (by omega) (by omega) hx.mods) [0, 1] (by decide) (by simp [mkS, mkB]) (by simp) ?_
    simp -implicitDefEqProofs [mkS, mkB, hof, hnk, hkm, hdr, hb31, encD]
    refine call0 (of_ok D.id) (by simp [encI]) (by simp) ?_
    simp -implicitDefEqProofs [mkS, mkB, wd2]
    rw [eid] at g1
    refine callJ g1 [0, 1] (by decide) (by simp [mkS, mkB]) (by simp [encT, tDef]) ?_
    simp -implicitDefEqProofs [mkS, mkB]
    refine callJ (node_nil m1 10 0 l3 (by omega) (by omega) l6) [0, 1] (by decide) (by simp [mkS, mkB]) (by simp) ?_
    simp -implicitDefEqProofs [mkS, mkB, encD]
    refine loopS (S := Nat) (fun i => [(0, .ptr 0 0), (2, .sl env.length (cellsB env)), (4, int depth), (6, .ptr 2 0), (10, .ptr 3 0), (12, .ptr 4 0), (13, .row 5 (i + 1)), (14, .ptr 6 0), (15, int i)])
      (fun i => mkS (ms i) ++ [.box (encT t), .box (encE Exp.zero), .box (encD D), .row false 37 15 (i + 1) (encE a ++ cellsE (es.take i)), .box [int 0, int 0, int m1.temp, int 10, int 0, int D.id.a, int D.id.b, int D.id.c, int 0, int 0, int 0, int 0, .sl 0 [], .sl 0 [], .row 7 i], .row false 9 1 i (cellsN (ns.take i))]) (fun i => i ≤ es.length) (fun i => es.length - i) 0 (by simp)
      ((weak_nilbox (l := 6) (o := 14) rfl rfl 9 1).trans (selW [0, 1, 2, 3, 4, 5, 6, 7] 0 (by decide) (by simp) (by simp [mkS, mkB, encT, q2, hmA, encE, Exp.zero, Id.zero, Typ.zero, encD]) (by simp))) ?_
    intro i hi
    by_cases hi2 : i < es.length
    · have hid : i < D.slots.length := by omega
      have hin : i < ns.length := by omega
      obtain ⟨mm, g1', g2', _, _⟩ := q5 i hi2 hin
      have hsty : styp hs[k] i = D.slots[i].typ := by rw [styp_eq (by rw [eslots]; exact hid)]; simp only [eslots]
      have hst : cellsE (es.take (i + 1)) = cellsE (es.take i) ++ encE es[i] := cellsE_take_succ hi2
      have hsn : cellsN (ns.take (i + 1)) = cellsN (ns.take i) ++ encN ns[i] := by unfold cellsN; rw [List.take_succ_eq_append_getElem hin, List.flatMap_append]; simp
      have hw : IntKind.i64.wrap ((i : Int) + 1) = (i : Int) + 1 := IntWalk.i64_in _ (by omega)
      have hdS : List.drop (i * 11 + 4) (cellsS D.slots) = (encS D.slots[i] ++ cellsS (D.slots.drop (i + 1))).drop 4 := by rw [← List.drop_drop, cellsS_drop hid]
      have hbS : i * 11 + 4 + 5 ≤ D.slots.length * 11 := by omega
      simp -implicitDefEqProofs [mkS, mkB, encD, encT, hid, hdS, hbS, encS, wd]
      intro _
      refine dcall0 (with_ok env ⟨⟨0, 0, m1.temp⟩, i, styp hs[k] i⟩ (by omega)) (by simp [encB, hsty]) (by simp) ?_
      simp -implicitDefEqProofs [mkS, mkB, wd]
      refine dcallJX g1' [0, 1] (by decide) (by simp [mkS, mkB]) (by simp [encT]) ?_
      simp -implicitDefEqProofs [mkS, mkB]
      refine ⟨⟨by simp [maxLen]; omega, by omega⟩, ?_⟩
      refine dcallJK g2' [0, 1] (by decide) (by simp [mkS, mkB]) (by simp) (by decide) (by simp) (by simp [mkS]) ?_
      simp -implicitDefEqProofs [mkS, mkB]
      refine ⟨⟨by simp [maxLen]; omega, by omega⟩, ?_⟩
      exact roundS (i + 1) hi2 (by omega) (selW [0, 1, 2, 3, 4, 5, 6, 7] 0 (by decide) (by simp) (by simp [mkS, mkB, encT, encE, Exp.zero, Id.zero, Typ.zero, encD, hst, hsn, encN]) (by simp [hw]))
    · have hie : i = es.length := by omega
      subst hie
      have hid : ¬ es.length < D.slots.length := by omega
      have hnl : List.take es.length ns = ns := List.take_of_length_le (by omega)
      simp -implicitDefEqProofs [mkS, mkB, encD, hid]
      intro _
      refine ⟨mkEnv [(0, .ptr 0 0), (10, .ptr 3 0), (13, .sl (es.length + 1) (cellsE (a :: es))), (14, .ptr 4 0)], mkS (ms es.length) ++ [.box (encT t), .box (encE Exp.zero), .box [int 0, int 0, int m1.temp, int 10, int 0, int D.id.a, int D.id.b, int D.id.c, int 0, int 0, int 0, int 0, .sl 0 [], .sl 0 [], .sl es.length (cellsN ns)]], selW [0, 1, 2, 3, 6] 1 (by decide) (by simp) (by simp [mkS, mkB, encT, encE, Exp.zero, Id.zero, Typ.zero, hnl]) (by simp [cellsE_cons]), ?_⟩
      simp -implicitDefEqProofs [mkS, mkB]
      exact ret_keep [0, 1] 0 (by decide) (by simp) (by simp [q0]) (by simp [encE, Id.zero, Typ.zero, eid, q0, q1])
end Go.Proofs.YthglhccibdlccaaGreatDoor
namespace Go.Proofs.YthglhccibdlccaaGreatDoor
open Go.Abs
def KFdM : K :=
 K.seq (K.ops [kO 6 1,
 kZ 10 kz1])
 (K.seq (K.seq (K.ops [kMi 11 0])
 (K.block 0 (K.loop (K.seq (K.seq (K.ops [kM 16 11,
 kM 17 0,
 kU 18 17,
 kA 19 18 0,
 kA 20 19 1,
 kL 21 20 1,
 kN 22 21,
 kB 23 16 22 .lss])
 (K.cond (.tmp 23)
 (K.skip)
 (K.exit 0)))
 (K.seq (K.block 1 (K.seq (K.ops [kM 26 3,
 kM 27 11,
 kB 28 26 27 .add,
 kM 29 0,
 kU 30 29,
 kA 31 30 0,
 kA 32 31 1,
 kL 33 32 1,
 kN 34 33,
 kB 35 28 34 .rem,
 kM 12 35])
 (K.seq (K.ops [kM 36 0,
 kU 37 36,
 kA 38 37 0,
 kA 39 38 1,
 kL 40 39 1,
 kM 41 12,
 kX 42 40 41 31,
 kG 43 42 31,
 kZ 13 kz0,
 kS 13 43 31])
 (K.seq (K.ops [kMi 14 0])
 (K.block 2 (K.loop (K.seq (K.seq (K.ops [kM 44 14,
 kA 45 13 8,
 kL 46 45 1,
 kN 47 46,
 kB 48 44 47 .lss,
 kM 49 48,
 kT 49 true (kA 50 13 3),
 kT 49 true (kL 51 50 1),
 kT 49 true (kQi 52 51 0 false),
 kPf 53 49 52,
 kM 54 53,
 kT 54 true (kM 55 0),
 kT 54 true (kM 56 12),
 kT 54 true (kC 57 119 [(.tmp 55), (.tmp 56)]),
 kPf 58 54 57])
 (K.cond (.tmp 58)
 (K.skip)
 (K.exit 2)))
 (K.seq (K.block 3 (K.seq (K.dops [(0, 0, kA 61 13 8),
 (1, 0, kL 62 61 1),
 (2, 0, kM 63 14),
 (3, 0, kX 64 62 63 11),
 (4, 0, kA 65 64 4),
 (5, 0, kG 66 65 5),
 (6, 0, kG 67 6 5),
 (7, 0, kC 68 109 [(.tmp 66), (.tmp 67)])])
 (K.cond (.tmp 68)
 (K.seq (K.ops [kM 69 0,
 kM 70 14,
 kM 71 0,
 kA 72 13 0,
 kG 73 72 3,
 kC 74 72 [(.tmp 73)],
 kM 75 2,
 kM 76 4,
 kBi 77 76 1 .sub,
 kC 78 34 [(.tmp 71), (.tmp 74), (.tmp 75), (.tmp 77)],
 ⟨none, .bslice (some 79) 37 15 1 kz1 [(0, 15, (.tmp 78))]⟩,
 kC 80 80 [(.tmp 69), (.const (.int .i64 8)), (.tmp 70), (.tmp 79)],
 kZ 15 kz1,
 kS 15 80 15])
 (K.seq (K.ops [kA 81 13 0,
 kG 82 81 3,
 kA 83 15 5,
 kS 83 82 3])
 (K.seq (K.ops [kG 84 15 15,
 kS 10 84 15])
 (K.ret))))
 (K.skip))))
 (K.ops [kM 59 14,
 kBi 60 59 1 .add,
 kM 14 60])))))))))
 (K.ops [kM 24 11,
 kBi 25 24 1 .add,
 kM 11 25]))))))
 (K.seq (K.ops [kM 85 0,
 kG 86 6 5,
 kM 87 2,
 kM 88 3,
 kM 89 4,
 kC 90 86 [(.tmp 85), (.tmp 86), (.tmp 87), (.tmp 88), (.tmp 89)],
 kS 10 90 15])
 (K.ret)))
theorem cFdM : compile Tryz.prog Tryz.f84.ntmps (Tryz.f84.body.getD .skip) = some KFdM.erase := by kernel_rfl
@[simp] theorem calFdM : callable Tryz.prog 84 = true := by kernel_rfl
abbrev fieldF : FuncId := 84
theorem least {p : Nat → Bool} : ∀ {n : Nat}, (∃ i, i < n ∧ p i = true) → ∃ i, i < n ∧ p i = true ∧ ∀ j < i, p j = false
  | 0, ⟨i, hi, _⟩ => by omega
  | n + 1, ⟨i, hi, hp⟩ => by
    by_cases h : ∃ i, i < n ∧ p i = true
    · obtain ⟨j, h1, h2, h3⟩ := least h
      exact ⟨j, by omega, h2, h3⟩
    · have hin : i = n := by
        by_cases e : i = n
        · exact e
        · exact (h ⟨i, by omega, hp⟩).elim
      subst hin
      refine ⟨i, by omega, hp, fun j hj => ?_⟩
      cases hpj : p j
      · rfl
      · exact (h ⟨j, hj, hpj⟩).elim
def fldB (m : Mk) (t : Typ) (k : Nat) : Bool := match m.defs[k]? with
  | some d => decide (d.kind = 0) && (visV m k && d.slots.any fun s => sameT s.typ t)
  | none => false
set_option maxHeartbeats 4000000 in
theorem field_ok {hs : List Hd} {R : Nat} {m : Mk} {env : List Bnd} {c depth : Int} {len : Nat} (hc : 0 ≤ c) (hl : Lim m (7 * c + 7)) (x : Nat) (hx1 : x ≤ 65536) (hk : KidOk hs R c (depth - 1) (fun r => r ≤ R) len)
    (hx : Cx hs R m) (he : EnvOk hs R m.temp env) (h1 : 0 < env.length) (h2 : env.length ≤ len) (h3 : env.length ≤ 1000) (hd1 : -1000 ≤ depth) (hd2 : depth ≤ 1000) (t : Typ) (ht : TyOk hs R t)
    (hop : Makes hs m.own opF m [.ptr 0 0, .agg (encT t), .sl env.length (cellsB env), int x, int depth] env t (7 * c + 7)) :
    Makes hs m.own fieldF m [.ptr 0 0, .agg (encT t), .sl env.length (cellsB env), int x, int depth] env t (7 * c + 7) := by
  have hdl := hx.dlen
  have hd100 := hx.len
  have hd0 := hx.len0
  have hN : 0 < m.defs.length := by omega
  have wd : IntKind.i64.wrap (depth - 1) = depth - 1 := IntWalk.i64_in _ (by omega)
  -- where the search ends, and what comes of it
  obtain ⟨i0, e, m', hi0, hlow, hfull, hhit, hA, hW, hS, hZ⟩ : ∃ (i0 : Nat) (e : Exp) (m' : Mk), i0 ≤ m.defs.length ∧ (∀ i < i0, fldB m t ((x + i) % m.defs.length) = false) ∧
      (i0 = m.defs.length → Ret Tryz.prog opF [.ptr 0 0, .agg (encT t), .sl env.length (cellsB env), int x, int depth] (mkS m) (.agg (encE e)) (mkS m')) ∧
      (∀ (hlt : i0 < m.defs.length) (D : Dfn), m.defs[(x + i0) % m.defs.length]? = some D → D.kind = 0 ∧ visV m ((x + i0) % m.defs.length) = true ∧ ∃ (j0 : Nat) (hj0 : j0 < D.slots.length) (a : Exp) (m1 : Mk), sameT D.slots[j0].typ t = true ∧ (∀ (j : Nat) (hj : j < j0), sameT D.slots[j].typ t = false) ∧
        Ret Tryz.prog exprF [.ptr 0 0, .agg (encT (tDef D.id)), .sl env.length (cellsB env), int (depth - 1)] (mkS m) (.agg (encE a)) (mkS m1) ∧ Lim m1 1 ∧
        e = .mk ⟨0, 0, m1.temp⟩ 8 j0 D.id Typ.zero [a] [] ∧ m' = { m1 with temp := m1.temp + 1, left := m1.left - 1 }) ∧
      Adv m m' (7 * c + 7) ∧ WT hs m.own env e t ∧ Seg m.temp m'.temp (tmps e) ∧ e.num0 := by
    by_cases hex : ∃ i, i < m.defs.length ∧ fldB m t ((x + i) % m.defs.length) = true
    · obtain ⟨i0, hi0, hp, hlow⟩ := least hex
      have hkm := Nat.mod_lt (x + i0) hN
      generalize hkk : (x + i0) % m.defs.length = k at hkm hp
      have hks : k < hs.length := by omega
      have hget := hx.get hkm
      unfold fldB at hp
      rw [List.getElem?_eq_getElem hkm] at hp
      simp only [Bool.and_eq_true, decide_eq_true_eq] at hp
      generalize hD : m.defs[k] = D at hget hp
      obtain ⟨hkind, hvis, hany⟩ := hp
      have eid : hs[k].id = D.id := by rw [hget]; rfl
      have eslots : hs[k].slots = D.slots := by rw [hget]; rfl
      have ekind : hs[k].kind = 0 := by rw [hget]; exact hkind
      obtain ⟨j0, hj0, hpj, hlj⟩ := least (p := fun j => match D.slots[j]? with | some s => sameT s.typ t | none => false) (n := D.slots.length) (by
        rw [List.any_eq_true] at hany
        obtain ⟨s, hs1, hs2⟩ := hany
        obtain ⟨j, hj, rfl⟩ := List.getElem_of_mem hs1
        exact ⟨j, hj, by simp only [List.getElem?_eq_getElem hj]; exact hs2⟩)
      simp only [List.getElem?_eq_getElem hj0] at hpj
      obtain ⟨a, m1, g1, g2, g3, g4, g5⟩ := hk m R (tDef hs[k].id) env hx (hl.mono (by omega)) (hx.typs k hks (.inl ekind)) (Nat.le_refl _) he h1 h2
      refine ⟨i0, .mk ⟨0, 0, m1.temp⟩ 8 j0 D.id Typ.zero [a] [], { m1 with temp := m1.temp + 1, left := m1.left - 1 }, by omega, hlow, fun h => by omega, fun hlt D' hD' => ?_, (g2.trans (adv_node _)).mono (by omega), ?_, seg_one g4 g2.temp1, num0_one g5⟩
      · rw [hkk, List.getElem?_eq_getElem hkm, hD] at hD'
        injection hD' with hD'
        subst hD'
        rw [hkk]
        refine ⟨hkind, hvis, j0, hj0, a, m1, hpj, fun j hj => ?_, by rw [← eid]; exact g1, Lim.adv (c := c) (hl.mono (by omega)) g2, rfl, rfl⟩
        have := hlj j hj
        simp only [List.getElem?_eq_getElem (show j < D.slots.length by omega)] at this
        exact this
      · have hjs : j0 < hs[k].slots.length := by rw [eslots]; exact hj0
        have := WT.field (own := m.own) env ⟨0, 0, m1.temp⟩ k hks j0 hjs a ekind g3
        rw [eid] at this
        have e2 : hs[k].slots[j0].typ = t := by
          rw [← (sameT_iff _ _).1 hpj]
          simp only [eslots]
        rw [e2] at this
        exact this
    · obtain ⟨e, m', g1, g2, g3, g4, g5⟩ := hop
      refine ⟨m.defs.length, e, m', Nat.le_refl _, fun i hi => ?_, fun _ => g1, fun h => by omega, g2, g3, g4, g5⟩
      cases hp : fldB m t ((x + i) % m.defs.length)
      · rfl
      · exact (hex ⟨i, hi, hp⟩).elim
  refine ⟨e, m', ?_, hA, hW, hS, hZ⟩
  refine ret_of_wpH Tryz.func84 rfl cFdM (rs := [.cell 10 15 true]) (by kernel_rfl) ?_
  unfold KFdM
  simp -implicitDefEqProofs [mkS, mkB, encT]
  refine loopS (S := Nat) (fun i => [(0, .ptr 0 0), (2, .sl env.length (cellsB env)), (3, int x), (4, int depth), (6, .ptr 2 0), (10, .ptr 3 0), (11, int i)])
    (fun _ => mkS m ++ [.box (encT t), .box (encE Exp.zero)]) (fun i => i ≤ i0) (fun i => i0 - i) 0 (by simp)
    (selW [0, 1, 2, 3] 0 (by decide) (by simp) (by simp [mkS, mkB, encT, encE, Exp.zero, Id.zero, Typ.zero]) (by simp)) ?_
  intro i hi
  by_cases h : i < m.defs.length
  · have hkm := Nat.mod_lt (x + i) hN
    have w1 : IntKind.i64.wrap ((x : Int) + i) = (x : Int) + i := IntWalk.i64_in _ (by omega)
    have w2 : IntKind.i64.wrap ((i : Int) + 1) = (i : Int) + 1 := IntWalk.i64_in _ (by omega)
    have e1 : Int.tmod ((x : Int) + i) (m.defs.length : Int) = (((x + i) % m.defs.length : Nat) : Int) := by rw [tmN (by omega)]; simp
    have hnil : m.defs ≠ [] := fun e => by rw [e] at hN; simp at hN
    have hne : ¬ ((m.defs.length : Int) = 0) := by omega
    have hlow' := fun hlt : i < i0 => hlow i hlt
    have hhit' : i = i0 → _ := fun e => hhit (by omega) m.defs[(x + i) % m.defs.length] (by rw [← e, List.getElem?_eq_getElem hkm])
    unfold fldB at hlow'
    rw [List.getElem?_eq_getElem hkm] at hlow'
    have hsl : m.defs[(x + i) % m.defs.length].slots.length ≤ 6 := by
      have := (hx.slots ((x + i) % m.defs.length) (by omega)).1
      rw [hx.get hkm] at this
      exact this
    generalize hkk : (x + i) % m.defs.length = k at hkm e1 hlow' hhit' hsl
    generalize hD : m.defs[k] = D at hlow' hhit' hsl
    have hdr := cellsD_drop hkm
    rw [hD] at hdr
    have hb31 : k * 31 + 31 ≤ m.defs.length * 31 := by omega
    simp -implicitDefEqProofs [mkS, mkB, h, w1, e1, hne, hkm, hdr, hb31, encD, hnil]
    by_cases hlt : i < i0
    · have hno := hlow' hlt
      refine loopS (S := Nat) (fun j => [(0, .ptr 0 0), (2, .sl env.length (cellsB env)), (3, int x), (4, int depth), (6, .ptr 2 0), (10, .ptr 3 0), (11, int i), (12, int k), (13, .ptr 4 0), (14, int j)])
        (fun _ => mkS m ++ [.box (encT t), .box (encE Exp.zero), .box (encD D)]) (fun j => j ≤ D.slots.length) (fun j => D.slots.length - j) 0 (by simp)
        (selW [0, 1, 2, 3, 4] 0 (by decide) (by simp) (by simp [mkS, mkB, encT, encE, Exp.zero, Id.zero, Typ.zero, encD]) (by simp)) ?_
      intro j hj
      by_cases hjl : j < D.slots.length
      · have hdS : List.drop (j * 11 + 4) (cellsS D.slots) = (encS D.slots[j] ++ cellsS (D.slots.drop (j + 1))).drop 4 := by rw [← List.drop_drop, cellsS_drop hjl]
        have hbS : j * 11 + 4 + 5 ≤ D.slots.length * 11 := by omega
        by_cases hkd : D.kind = 0
        · simp -implicitDefEqProofs [mkS, mkB, encD, encT, hjl, hkd]
          intro _
          refine callJ (vis_ok m k hkm hx.mods) [0, 1] (by decide) (by simp [mkS, mkB]) (by simp) ?_
          cases hv : visV m k
          · simp -implicitDefEqProofs [mkS, mkB]
            exact roundS (i + 1) (by omega) (by omega) (selW [0, 1, 2, 3] 0 (by decide) (by simp) (by simp [mkS, mkB, encT, encE, Exp.zero, Id.zero, Typ.zero]) (by simp [w2]))
          · have hsf : sameT D.slots[j].typ t = false := by
              simp only [hkd, hv, decide_true, Bool.true_and] at hno
              rw [List.any_eq_false] at hno
              simpa using hno D.slots[j] (List.getElem_mem hjl)
            have hw : IntKind.i64.wrap ((j : Int) + 1) = (j : Int) + 1 := IntWalk.i64_in _ (by omega)
            simp -implicitDefEqProofs [mkS, mkB, encD, encT, hjl, hdS, hbS, encS]
            refine dcall0 (sameTy_ok D.slots[j].typ t) (by simp [encT]) (by simp) ?_
            rw [hsf]
            simp -implicitDefEqProofs [mkS, mkB]
            exact roundS (j + 1) hjl (by omega) (selW [0, 1, 2, 3, 4] 0 (by decide) (by simp) (by simp [mkS, mkB, encT, encE, Exp.zero, Id.zero, Typ.zero, encD, hkd]) (by simp [hw]))
        · simp -implicitDefEqProofs [mkS, mkB, encD, encT, hjl, hkd]
          intro _
          exact roundS (i + 1) (by omega) (by omega) (selW [0, 1, 2, 3] 0 (by decide) (by simp) (by simp [mkS, mkB, encT, encE, Exp.zero, Id.zero, Typ.zero]) (by simp [w2]))
      · simp -implicitDefEqProofs [mkS, mkB, encD, encT, hjl]
        intro _
        exact roundS (i + 1) (by omega) (by omega) (selW [0, 1, 2, 3] 0 (by decide) (by simp) (by simp [mkS, mkB, encT, encE, Exp.zero, Id.zero, Typ.zero]) (by simp [w2]))
    · have hie : i = i0 := by omega
      subst hie
      obtain ⟨hkd, hv, j0, hj0, a, m1, hj1, hj2, g1, hln, he1, he2⟩ := hhit' rfl
      rw [hkk] at hv
      obtain ⟨l1, l2, l3, l4, l5, l6, l7, l8⟩ := hln
      subst he1 he2
      refine loopS (S := Nat) (fun j => [(0, .ptr 0 0), (2, .sl env.length (cellsB env)), (3, int x), (4, int depth), (6, .ptr 2 0), (10, .ptr 3 0), (11, int i), (12, int k), (13, .ptr 4 0), (14, int j)])
        (fun _ => mkS m ++ [.box (encT t), .box (encE Exp.zero), .box (encD D)]) (fun j => j ≤ j0) (fun j => j0 - j) 0 (by simp)
        (selW [0, 1, 2, 3, 4] 0 (by decide) (by simp) (by simp [mkS, mkB, encT, encE, Exp.zero, Id.zero, Typ.zero, encD]) (by simp)) ?_
      intro j hj
      have hjl : j < D.slots.length := by omega
      have hdS : List.drop (j * 11 + 4) (cellsS D.slots) = (encS D.slots[j] ++ cellsS (D.slots.drop (j + 1))).drop 4 := by rw [← List.drop_drop, cellsS_drop hjl]
      have hbS : j * 11 + 4 + 5 ≤ D.slots.length * 11 := by omega
      have hw : IntKind.i64.wrap ((j : Int) + 1) = (j : Int) + 1 := IntWalk.i64_in _ (by omega)
      simp -implicitDefEqProofs [mkS, mkB, encD, encT, hjl, hkd]
      intro _
      refine callJ (vis_ok m k hkm hx.mods) [0, 1] (by decide) (by simp [mkS, mkB]) (by simp) ?_
      rw [hv]
      simp -implicitDefEqProofs [mkS, mkB, encD, encT, hjl, hdS, hbS, encS]
      refine dcall0 (sameTy_ok D.slots[j].typ t) (by simp [encT]) (by simp) ?_
      by_cases hjj : j < j0
      · rw [hj2 j hjj]
        simp -implicitDefEqProofs [mkS, mkB]
        exact roundS (j + 1) hjj (by omega) (selW [0, 1, 2, 3, 4] 0 (by decide) (by simp) (by simp [mkS, mkB, encT, encE, Exp.zero, Id.zero, Typ.zero, encD, hkd]) (by simp [hw]))
      · have hje : j = j0 := by omega
        subst hje
        rw [hj1]
        simp -implicitDefEqProofs [mkS, mkB]
        refine call0 (of_ok D.id) (by simp [encI]) (by simp) ?_
        simp -implicitDefEqProofs [mkS, mkB, wd]
        refine callJ g1 [0, 1] (by decide) (by simp [mkS, mkB]) (by simp [encT, tDef]) ?_
        simp -implicitDefEqProofs [mkS, mkB]
        refine callJ (node_ok m1 8 j [a] l3 (by omega) (by omega) l6) [0, 1] (by decide) (by simp [mkS, mkB]) (by simp [cellsE_cons]) ?_
        simp -implicitDefEqProofs [mkS, mkB, encE]
        exact ret_keep [0, 1] 0 (by decide) (by simp) (by simp) (by simp [encE, cellsE_cons])
  · have hii : i = m.defs.length := by omega
    have hi0' : i0 = m.defs.length := by omega
    subst hii
    simp -implicitDefEqProofs [mkS, mkB, encT]
    refine callJ (hfull hi0') [0, 1] (by decide) (by simp [mkS, mkB]) (by simp [encT]) ?_
    simp -implicitDefEqProofs [mkS, mkB]
    exact ret_keep [0, 1] 0 (by decide) (by simp) (by simp) (by simp [encE])
end Go.Proofs.YthglhccibdlccaaGreatDoor
