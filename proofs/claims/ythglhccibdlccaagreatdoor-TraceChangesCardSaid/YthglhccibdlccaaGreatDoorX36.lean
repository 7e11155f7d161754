/-
  The maker's calls.
-/
import Derived.Test.YthglhccibdlccaaGreatDoorX35
set_option linter.unusedVariables false
set_option linter.unusedSimpArgs false
namespace Go.Proofs.YthglhccibdlccaaGreatDoor
open Go.Abs
def KClM : K :=
 K.seq (K.ops [kO 6 1,
 kZ 10 kz1])
 (K.seq (K.seq (K.ops [kMi 11 0])
 (K.block 0 (K.loop (K.seq (K.seq (K.ops [kM 16 11,
 kM 17 0,
 kU 18 17,
 kA 19 18 0,
 kA 20 19 1,
 kL 21 20 1,
 kN 22 21,
 kB 23 16 22 .lss])
 (K.cond (.tmp 23)
 (K.skip)
 (K.exit 0)))
 (K.seq (K.block 1 (K.seq (K.ops [kM 26 0,
 kU 27 26,
 kA 28 27 0,
 kA 29 28 1,
 kL 30 29 1,
 kM 31 11,
 kX 32 30 31 31,
 kG 33 32 31,
 kZ 12 kz0,
 kS 12 33 31])
 (K.seq (K.ops [kA 34 12 3,
 kL 35 34 1,
 kQi 36 35 2 false,
 kM 37 36,
 kT 37 true (kM 38 0),
 kT 37 true (kM 39 11),
 kT 37 true (kC 40 119 [(.tmp 38), (.tmp 39)]),
 kPf 41 37 40,
 kM 42 41,
 kT 42 true (kA 43 12 9),
 kT 42 true (kG 44 43 5),
 kT 42 true (kG 45 6 5),
 kT 42 true (kC 46 109 [(.tmp 44), (.tmp 45)]),
 kPf 47 42 46])
 (K.cond (.tmp 47)
 (K.seq (K.ops [kMn 13])
 (K.seq (K.seq (K.ops [kMi 14 0])
 (K.block 2 (K.loop (K.seq (K.seq (K.ops [kM 48 14,
 kA 49 12 8,
 kL 50 49 1,
 kN 51 50,
 kB 52 48 51 .lss])
 (K.cond (.tmp 52)
 (K.skip)
 (K.exit 2)))
 (K.seq (K.block 3 (K.ops [kM 55 13,
 kM 56 0,
 kA 57 12 8,
 kL 58 57 1,
 kM 59 14,
 kX 60 58 59 11,
 kA 61 60 4,
 kG 62 61 5,
 kM 63 2,
 kM 64 4,
 kBi 65 64 1 .sub,
 kC 66 34 [(.tmp 56), (.tmp 62), (.tmp 63), (.tmp 65)],
 ⟨none, .bslice (some 67) 37 15 1 kz1 [(0, 15, (.tmp 66))]⟩,
 kP 68 37 15 168 55 67,
 kM 13 68]))
 (K.ops [kM 53 14,
 kBi 54 53 1 .add,
 kM 14 54]))))))
 (K.seq (K.wk (K.ops [kM 69 0,
 kM 70 13,
 kC 71 80 [(.tmp 69), (.const (.int .i64 3)), (.const (.int .i64 0)), (.tmp 70)],
 kZ 15 kz1,
 kS 15 71 15]))
 (K.seq (K.ops [kA 72 12 0,
 kG 73 72 3,
 kA 74 15 5,
 kS 74 73 3])
 (K.seq (K.ops [kG 75 15 15,
 kS 10 75 15])
 (K.ret))))))
 (K.skip)))))
 (K.ops [kM 24 11,
 kBi 25 24 1 .add,
 kM 11 25]))))))
 (K.seq (K.ops [kM 76 0,
 kG 77 6 5,
 kM 78 2,
 kM 79 3,
 kM 80 4,
 kC 81 86 [(.tmp 76), (.tmp 77), (.tmp 78), (.tmp 79), (.tmp 80)],
 kS 10 81 15])
 (K.ret)))
theorem cClM : compile Tryz.prog Tryz.f85.ntmps (Tryz.f85.body.getD .skip) = some KClM.erase := by kernel_rfl
@[simp] theorem calClM : callable Tryz.prog 85 = true := by kernel_rfl
abbrev callF : FuncId := 85
def calB (m : Mk) (t : Typ) (k : Nat) : Bool := match m.defs[k]? with
  | some d => decide (d.kind = 2) && (visV m k && sameT d.res t)
  | none => false
set_option maxHeartbeats 4000000 in
theorem call_ok {hs : List Hd} {R : Nat} {m : Mk} {env : List Bnd} {c depth : Int} {len : Nat} (hc : 0 ≤ c) (hl : Lim m (7 * c + 7)) (x : Nat) (hk : KidOk hs R c (depth - 1) (fun r => r ≤ R) len)
    (hx : Cx hs R m) (he : EnvOk hs R m.temp env) (h1 : 0 < env.length) (h2 : env.length ≤ len) (hd1 : -1000 ≤ depth) (hd2 : depth ≤ 1000) (t : Typ)
    (hop : Makes hs m.own opF m [.ptr 0 0, .agg (encT t), .sl env.length (cellsB env), int x, int depth] env t (7 * c + 7)) :
    Makes hs m.own callF m [.ptr 0 0, .agg (encT t), .sl env.length (cellsB env), int x, int depth] env t (7 * c + 7) := by
  have hdl := hx.dlen
  have hd100 := hx.len
  have hd0 := hx.len0
  have hN : 0 < m.defs.length := by omega
  have wd : IntKind.i64.wrap (depth - 1) = depth - 1 := IntWalk.i64_in _ (by omega)
  obtain ⟨i0, e, m', hi0, hlow, hfull, hhit, hA, hW, hS, hZ⟩ : ∃ (i0 : Nat) (e : Exp) (m' : Mk), i0 ≤ m.defs.length ∧ (∀ i < i0, calB m t i = false) ∧
      (i0 = m.defs.length → Ret Tryz.prog opF [.ptr 0 0, .agg (encT t), .sl env.length (cellsB env), int x, int depth] (mkS m) (.agg (encE e)) (mkS m')) ∧
      (∀ (D : Dfn), m.defs[i0]? = some D → D.kind = 2 ∧ visV m i0 = true ∧ D.res = t ∧ ∃ (es : List Exp) (ms : Nat → Mk), es.length = D.slots.length ∧ ms 0 = m ∧ Lim (ms es.length) 1 ∧
        (∀ (j : Nat) (hj : j < es.length) (hj' : j < D.slots.length), Ret Tryz.prog exprF [.ptr 0 0, .agg (encT D.slots[j].typ), .sl env.length (cellsB env), int (depth - 1)] (mkS (ms j)) (.agg (encE es[j])) (mkS (ms (j + 1)))) ∧
        e = .mk ⟨0, 0, (ms es.length).temp⟩ 3 0 D.id Typ.zero es [] ∧ m' = { ms es.length with temp := (ms es.length).temp + 1, left := (ms es.length).left - 1 }) ∧
      Adv m m' (7 * c + 7) ∧ WT hs m.own env e t ∧ Seg m.temp m'.temp (tmps e) ∧ e.num0 := by
    by_cases hex : ∃ i, i < m.defs.length ∧ calB m t i = true
    · obtain ⟨k, hkm, hp, hlow⟩ := least hex
      have hks : k < hs.length := by omega
      have hget := hx.get hkm
      unfold calB at hp
      rw [List.getElem?_eq_getElem hkm] at hp
      simp only [Bool.and_eq_true, decide_eq_true_eq] at hp
      generalize hD : m.defs[k] = D at hget hp
      obtain ⟨hkind, hvis, hst⟩ := hp
      have hres := (sameT_iff _ _).1 hst
      have eid : hs[k].id = D.id := by rw [hget]; rfl
      have eslots : hs[k].slots = D.slots := by rw [hget]; rfl
      have eres : hs[k].res = D.res := by rw [hget]; rfl
      have ekind : hs[k].kind = 2 := by rw [hget]; exact hkind
      obtain ⟨hs6, hsT⟩ := hx.slots k hks
      rw [eslots] at hs6 hsT
      have hsc : ((D.slots.length : Int)) * c ≤ 6 * c := Int.mul_le_mul_of_nonneg_right (by omega) hc
      obtain ⟨es, ms, q1, q2, q3, q4, q5⟩ := kids_ok hk hc env h1 h2 (D.slots.map (·.typ)) m hx (hl.mono (by rw [List.length_map]; omega)) (fun t ht => by
        obtain ⟨s, hs', rfl⟩ := List.mem_map.1 ht
        exact ⟨R, hsT s hs', Nat.le_refl _⟩) he
      rw [List.length_map] at q1 q3 q4
      have ha := (q3 D.slots.length (Nat.le_refl _)).mono hsc
      have hl1 : Lim (ms es.length) 1 := by rw [q1]; exact Lim.adv (c := 6 * c) (c' := 1) (hl.mono (by omega)) ha
      refine ⟨k, .mk ⟨0, 0, (ms es.length).temp⟩ 3 0 D.id Typ.zero es [], { ms es.length with temp := (ms es.length).temp + 1, left := (ms es.length).left - 1 }, by omega, hlow, fun h => by omega, fun D' hD' => ?_, by rw [q1]; exact (ha.trans (adv_node _)).mono (by omega), ?_,
        by simp only [tmps]; rw [q1]; exact q4.append (Seg.one _) ha.temp1 (by omega), num0_mk (num0_all rfl fun j hj => (q5 j hj (by rw [List.length_map]; omega)).2.2)⟩
      · rw [List.getElem?_eq_getElem hkm, hD] at hD'
        injection hD' with hD'
        subst hD'
        refine ⟨hkind, hvis, hres, es, ms, q1, q2, hl1, fun j hj hj' => ?_, rfl, rfl⟩
        have := (q5 j hj (by rw [List.length_map]; omega)).1
        rw [List.getElem_map] at this
        exact this
      · have := WT.call (own := m.own) env ⟨0, 0, (ms es.length).temp⟩ k hks es (vis_own hvis) ekind (by rw [eslots, q1]) (fun j hj => by
          have := (q5 j hj (by rw [List.length_map]; omega)).2.1
          rw [List.getElem_map] at this
          simpa only [eslots] using this)
        rw [eid, eres, hres] at this
        exact this
    · obtain ⟨e, m', g1, g2, g3, g4, g5⟩ := hop
      refine ⟨m.defs.length, e, m', Nat.le_refl _, fun i hi => ?_, fun _ => g1, (fun D h => by rw [List.getElem?_eq_none (Nat.le_refl _)] at h; cases h), g2, g3, g4, g5⟩
      cases hp : calB m t i
      · rfl
      · exact (hex ⟨i, hi, hp⟩).elim
  refine ⟨e, m', ?_, hA, hW, hS, hZ⟩
  refine ret_of_wpH Tryz.func85 rfl cClM (rs := [.cell 10 15 true]) (by kernel_rfl) ?_
  unfold KClM
  simp -implicitDefEqProofs [mkS, mkB, encT]
  refine loopS (S := Nat) (fun i => [(0, .ptr 0 0), (2, .sl env.length (cellsB env)), (3, int x), (4, int depth), (6, .ptr 2 0), (10, .ptr 3 0), (11, int i)])
    (fun _ => mkS m ++ [.box (encT t), .box (encE Exp.zero)]) (fun i => i ≤ i0) (fun i => i0 - i) 0 (by simp)
    (selW [0, 1, 2, 3] 0 (by decide) (by simp) (by simp [mkS, mkB, encT, encE, Exp.zero, Id.zero, Typ.zero]) (by simp)) ?_
  intro i hi
  by_cases h : i < m.defs.length
  · have w2 : IntKind.i64.wrap ((i : Int) + 1) = (i : Int) + 1 := IntWalk.i64_in _ (by omega)
    have hlow' := fun hlt : i < i0 => hlow i hlt
    have hhit' : i = i0 → _ := fun e => hhit m.defs[i] (by rw [← e, List.getElem?_eq_getElem h])
    unfold calB at hlow'
    rw [List.getElem?_eq_getElem h] at hlow'
    have hsl : m.defs[i].slots.length ≤ 6 := by
      have := (hx.slots i (by omega)).1
      rw [hx.get h] at this
      exact this
    have hdr := cellsD_drop h
    have hb31 : i * 31 + 31 ≤ m.defs.length * 31 := by omega
    generalize m.defs[i] = D at hlow' hhit' hsl hdr
    by_cases hlt : i < i0
    · have hno := hlow' hlt
      simp only at hno
      by_cases hkd : D.kind = 2
      · simp -implicitDefEqProofs [mkS, mkB, h, hdr, hb31, encD, hkd]
        refine callJ (vis_ok m i h hx.mods) [0, 1] (by decide) (by simp [mkS, mkB]) (by simp) ?_
        cases hv : visV m i
        · simp -implicitDefEqProofs [mkS, mkB]
          exact roundS (i + 1) (by omega) (by omega) (selW [0, 1, 2, 3] 0 (by decide) (by simp) (by simp [mkS, mkB, encT, encE, Exp.zero, Id.zero, Typ.zero]) (by simp [w2]))
        · have hsf : sameT D.res t = false := by simpa [hkd, hv] using hno
          simp -implicitDefEqProofs [mkS, mkB, encD, encT]
          refine call0 (sameTy_ok D.res t) (by simp [encT]) (by simp) ?_
          rw [hsf]
          simp -implicitDefEqProofs [mkS, mkB]
          exact roundS (i + 1) (by omega) (by omega) (selW [0, 1, 2, 3] 0 (by decide) (by simp) (by simp [mkS, mkB, encT, encE, Exp.zero, Id.zero, Typ.zero]) (by simp [w2]))
      · simp -implicitDefEqProofs [mkS, mkB, h, hdr, hb31, encD, hkd]
        exact roundS (i + 1) (by omega) (by omega) (selW [0, 1, 2, 3] 0 (by decide) (by simp) (by simp [mkS, mkB, encT, encE, Exp.zero, Id.zero, Typ.zero]) (by simp [w2]))
    · have hie : i = i0 := by omega
      subst hie
      obtain ⟨hkd, hv, hres, es, ms, q1, q2, hln, g1, he1, he2⟩ := hhit' rfl
      obtain ⟨l1, l2, l3, l4, l5, l6, l7, l8⟩ := hln
      subst he1 he2
      simp -implicitDefEqProofs [mkS, mkB, h, hdr, hb31, encD, hkd]
      refine callJ (vis_ok m i h hx.mods) [0, 1] (by decide) (by simp [mkS, mkB]) (by simp) ?_
      rw [hv]
      simp -implicitDefEqProofs [mkS, mkB, encD, encT]
      refine call0 (sameTy_ok D.res t) (by simp [encT]) (by simp) ?_
      rw [show sameT D.res t = true from (sameT_iff _ _).2 hres]
      simp -implicitDefEqProofs [mkS, mkB]
      refine loopS (S := Nat) (fun j => [(0, .ptr 0 0), (2, .sl env.length (cellsB env)), (4, int depth), (10, .ptr 3 0), (12, .ptr 4 0), (13, .row 5 j), (14, int j)])
        (fun j => mkS (ms j) ++ [.box (encT t), .box (encE Exp.zero), .box (encD D), .row false 37 15 j (cellsE (es.take j))]) (fun j => j ≤ es.length) (fun j => es.length - j) 0 (by simp)
        ((weak_nilslot (t := 13) (by simp) 37 15).trans (selW [0, 1, 2, 3, 4, 5] 0 (by decide) (by simp) (by simp [mkS, mkB, encT, q2, encE, Exp.zero, Id.zero, Typ.zero, encD, hkd]) (by simp))) ?_
      intro j hj
      by_cases hj2 : j < es.length
      · have hjd : j < D.slots.length := by omega
        have g1' := g1 j hj2 hjd
        have hst : cellsE (es.take (j + 1)) = cellsE (es.take j) ++ encE es[j] := cellsE_take_succ hj2
        have hw : IntKind.i64.wrap ((j : Int) + 1) = (j : Int) + 1 := IntWalk.i64_in _ (by omega)
        have hdS : List.drop (j * 11 + 4) (cellsS D.slots) = (encS D.slots[j] ++ cellsS (D.slots.drop (j + 1))).drop 4 := by rw [← List.drop_drop, cellsS_drop hjd]
        have hbS : j * 11 + 4 + 5 ≤ D.slots.length * 11 := by omega
        simp -implicitDefEqProofs [mkS, mkB, encD, hjd, hdS, hbS, encS, wd]
        intro _
        refine callJ g1' [0, 1] (by decide) (by simp [mkS, mkB]) (by simp [encT]) ?_
        simp -implicitDefEqProofs [mkS, mkB]
        refine ⟨⟨by simp [maxLen]; omega, by omega⟩, ?_⟩
        exact roundS (j + 1) hj2 (by omega) (selW [0, 1, 2, 3, 4, 5] 0 (by decide) (by simp) (by simp [mkS, mkB, encT, encE, Exp.zero, Id.zero, Typ.zero, hst, encD]) (by simp [hw]))
      · have hje : j = es.length := by omega
        subst hje
        have hid : ¬ es.length < D.slots.length := by omega
        simp -implicitDefEqProofs [mkS, mkB, encD, hid]
        intro _
        refine ⟨mkEnv [(0, .ptr 0 0), (10, .ptr 3 0), (12, .ptr 4 0), (13, .sl es.length (cellsE es))], mkS (ms es.length) ++ [.box (encT t), .box (encE Exp.zero), .box (encD D)], selW [0, 1, 2, 3, 4] 1 (by decide) (by simp) (by simp [mkS, mkB, encT, encE, Exp.zero, Id.zero, Typ.zero, encD]) (by simp), ?_⟩
        simp -implicitDefEqProofs [mkS, mkB]
        refine callJ (node_ok (ms es.length) 3 0 es l3 (by omega) (by omega) l6) [0, 1] (by decide) (by simp [mkS, mkB]) (by simp) ?_
        simp -implicitDefEqProofs [mkS, mkB, encE, encD]
        exact ret_keep [0, 1] 0 (by decide) (by simp) (by simp) (by simp [encE])
  · have hii : i = m.defs.length := by omega
    have hi0' : i0 = m.defs.length := by omega
    subst hii
    simp -implicitDefEqProofs [mkS, mkB, encT]
    refine callJ (hfull hi0') [0, 1] (by decide) (by simp [mkS, mkB]) (by simp [encT]) ?_
    simp -implicitDefEqProofs [mkS, mkB]
    exact ret_keep [0, 1] 0 (by decide) (by simp) (by simp) (by simp [encE])
end Go.Proofs.YthglhccibdlccaaGreatDoor
