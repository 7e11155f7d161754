/-
  The maker's literals of variants and records; all literals.
-/
import Derived.Test.YthglhccibdlccaaGreatDoorX32
import Derived.Test.YthglhccibdlccaaGreatDoorX31
set_option linter.unusedVariables false
set_option linter.unusedSimpArgs false
namespace Go.Proofs.YthglhccibdlccaaGreatDoor
open Go.Abs
theorem put_keepsR {σ τ : St} (hk : KeepsR σ τ) {j : Nat} {o : AObj} (h : σ[j]? = some o) (hn : o ≠ AObj.rsv) : putAll τ [j] [o] = τ := by
  have h1 := hk j o h hn
  have hlt : j < τ.length := by
    by_cases hl : j < τ.length
    · exact hl
    · rw [List.getElem?_eq_none (by omega)] at h1; cases h1
  rw [List.getElem?_eq_getElem hlt] at h1
  simp only [putAll]
  injection h1 with h1
  rw [← h1, List.append_nil]
  exact List.set_getElem_self hlt
theorem Makes.mono {hs : List Hd} {own : Int} {f : FuncId} {m : Mk} {args : List A} {env : List Bnd} {t : Typ} {c c' : Int} (h : Makes hs own f m args env t c) (hc : c ≤ c') : Makes hs own f m args env t c' := by
  obtain ⟨e, m', h1, h2, h3, h4, h5⟩ := h
  exact ⟨e, m', h1, h2.mono hc, h3, h4, h5⟩
theorem kidsN_ok {hs : List Hd} {R : Nat} {c depth : Int} {Q : Nat → Prop} {len : Nat} (hk : KidOk hs R c depth Q len) (hc : 0 ≤ c) (envs : Nat → List Bnd) (t : Typ) {r : Nat} (hr : TyOk hs r t) (hQ : Q r)
    (m : Mk) (hx : Cx hs R m) (he : ∀ j, EnvOk hs R m.temp (envs j)) (h1 : ∀ j, 0 < (envs j).length) (h2 : ∀ j, (envs j).length ≤ len) : ∀ (k : Nat), Lim m (k * (c + 1)) →
      ∃ (es : List Exp) (ns : List ByteArray) (ms : Nat → Mk), es.length = k ∧ ns.length = k ∧ ms 0 = m ∧ (∀ j ≤ k, Adv m (ms j) (j * (c + 1))) ∧ Seg m.temp (ms k).temp (tmpsL es) ∧
        ∀ (j : Nat) (hj : j < es.length) (hj' : j < ns.length), ∃ mm : Mk, Ret Tryz.prog exprF [.ptr 0 0, .agg (encT t), .sl (envs j).length (cellsB (envs j)), int depth] (mkS (ms j)) (.agg (encE es[j])) (mkS mm) ∧
          Ret Tryz.prog 81 [.ptr 0 0] (mkS mm) (.lit (.string ns[j])) (mkS (ms (j + 1))) ∧ WT hs m.own (envs j) es[j] t ∧ es[j].num0 := by
  intro k
  induction k with
  | zero =>
    intro hl
    refine ⟨[], [], fun _ => m, rfl, rfl, rfl, fun j hj => ?_, Seg.nil, fun j hj => by simp at hj⟩
    have : j = 0 := by simpa using hj
    subst this
    exact (Adv.zero m).mono (by simp)
  | succ k ih =>
    intro hl
    have e1 : (((k + 1 : Nat) : Int)) * (c + 1) = k * (c + 1) + (c + 1) := by rw [Int.natCast_add, Int.add_mul]; simp
    rw [e1] at hl
    obtain ⟨es, ns, ms, q0, q1, q2, q3, q4, q5⟩ := ih (hl.mono (by omega))
    have a1 := q3 k (Nat.le_refl _)
    have hl1 := Lim.adv (c := k * (c + 1)) (c' := c + 1) hl a1
    obtain ⟨e, mm, g1, g2, g3, g4, g5⟩ := hk (ms k) r t (envs k) (hx.adv a1) (hl1.mono (by omega)) hr hQ ((he k).mono a1.temp1) (h1 k) (h2 k)
    have hl2 := Lim.adv (c := c) (c' := 1) hl1 g2
    obtain ⟨s, hs⟩ := name_ok mm hl2.name1 (by have := hl2.name2; omega)
    have a2 := g2.trans (adv_name mm)
    refine ⟨es ++ [e], ns ++ [s], fun j => if j ≤ k then ms j else { mm with name := mm.name + 1 }, by simp [q0], by simp [q1], by simp [q2], fun j hj => ?_, ?_, fun j hj hj' => ?_⟩
    · by_cases hle : j ≤ k
      · simp only [hle, if_true]; exact q3 j hle
      · have : j = k + 1 := by omega
        subst this
        simp only [show ¬ (k + 1 ≤ k) by omega, if_false]
        rw [e1]
        exact a1.trans a2
    · rw [tmpsL_snoc]
      simp only [show ¬ (k + 1 ≤ k) by omega, if_false]
      exact q4.append g4 a1.temp1 g2.temp1
    · simp only [List.length_append, List.length_singleton, q0] at hj
      by_cases hlt : j < k
      · have hjes : j < es.length := by omega
        have hjns : j < ns.length := by omega
        rw [List.getElem_append_left hjes, List.getElem_append_left hjns]
        simp only [show j ≤ k by omega, if_true, show j + 1 ≤ k by omega]
        exact q5 j hjes hjns
      · have : j = k := by omega
        subst this
        rw [List.getElem_append_right (by omega), List.getElem_append_right (by omega)]
        simp only [Nat.le_refl, if_true, show ¬ (j + 1 ≤ j) by omega, if_false, Nat.sub_self, q0, q1, List.getElem_cons_zero]
        rw [a1.own] at g3
        exact ⟨mm, g1, hs, g3, g5⟩
theorem lit_case {hs : List Hd} {R : Nat} {m : Mk} {env : List Bnd} {c depth : Int} {Q : Nat → Prop} {len : Nat} (hc : 0 ≤ c) (hl : Lim m (c + 1)) (x : Int) (hx0 : 0 ≤ x) (hx1 : x ≤ 65536) (k : Nat) (h : k < hs.length) (h1 : ∀ (j : Nat) (hj : j < k), hs[j].id ≠ hs[k].id)
    (h2 : hs[k].kind = 1) (h3 : 0 < hs[k].slots.length) (h3' : hs[k].slots.length ≤ 6) {r : Nat} (h4 : ∀ s ∈ hs[k].slots, TyOk hs r s.typ) (hQ : Q r)
    (hk : KidOk hs R c (depth - 1) Q len) (hx : Cx hs R m) (he : EnvOk hs R m.temp env) (h5 : 0 < env.length) (h6 : env.length ≤ len) (hd1 : -1000 ≤ depth) (hd2 : depth ≤ 1000) :
    Makes hs m.own litF m [.ptr 0 0, .agg (encT (tDef hs[k].id)), .sl env.length (cellsB env), int x, int depth] env (tDef hs[k].id) (c + 1) := by
  obtain ⟨hm, hdv, hhd⟩ := findH hx h h1
  generalize hD : m.defs[k] = D at hdv hhd
  have eid : D.id = hs[k].id := by rw [← hhd]; rfl
  have eslots : D.slots = hs[k].slots := by rw [← hhd]; rfl
  have ekind : D.kind = 1 := by rw [← h2, ← hhd]; rfl
  have hdl := hx.dlen
  have hd100 := hx.len
  have wd : IntKind.i64.wrap (depth - 1) = depth - 1 := IntWalk.i64_in _ (by omega)
  obtain ⟨j, hj, hj1⟩ : ∃ j : Nat, j < D.slots.length ∧ (j : Int) = if depth < 0 then 0 else x.tmod D.slots.length := by
    rw [eslots]
    by_cases hd : depth < 0
    · exact ⟨0, h3, by rw [if_pos hd]; rfl⟩
    · refine ⟨(x % hs[k].slots.length).toNat, ?_, ?_⟩
      · have := Int.emod_lt_of_pos x (b := (hs[k].slots.length : Int)) (by omega)
        have := Int.emod_nonneg x (b := (hs[k].slots.length : Int)) (by omega)
        omega
      · rw [if_neg hd, tmN hx0]
        have := Int.emod_nonneg x (b := (hs[k].slots.length : Int)) (by omega)
        omega
  have hjs : j < hs[k].slots.length := by rw [← eslots]; exact hj
  have hty : D.slots[j].typ = hs[k].slots[j].typ := by simp only [eslots]
  obtain ⟨e, m', g1, g2, g3, g4, g5⟩ := hk m r D.slots[j].typ env hx (hl.mono (by omega)) (by rw [hty]; exact h4 _ (List.getElem_mem hjs)) hQ he h5 h6
  have hln := Lim.adv (c := c) (c' := 1) hl g2
  obtain ⟨l1, l2, l3, l4, l5, l6, l7, l8⟩ := hln
  refine ⟨.mk ⟨0, 0, m'.temp⟩ 9 j hs[k].id Typ.zero [e] [], { m' with temp := m'.temp + 1, left := m'.left - 1 }, ?_, g2.trans (adv_node _), .case _ _ k h j hjs e h2 (hty ▸ g3), by simp only [tmps, tmpsL, List.append_nil]; exact g4.append (Seg.one _) g2.temp1 (by omega), num0_mk (by simpa using g5)⟩
  refine ret_of_wpH Tryz.func79 rfl cLit (rs := [.cell 10 15 true]) (by kernel_rfl) ?_
  unfold KLit
  simp -implicitDefEqProofs [mkS, mkB, encT]
  refine ⟨_, _, weak_rsvs 1, ?_⟩
  simp -implicitDefEqProofs [mkS, mkB, encT, List.replicate]
  refine dcallHR (rdef_row m.mods m.defs hs[k].id (by omega)) [1] (by decide) (by simp [rowD]) (by simp [rowD]) (by simp [encI]) (fun τ hτ => by
    have := put_keepsR hτ (j := 1) (o := .row false 39 31 m.defs.length (cellsD m.defs)) (by simp) (by simp)
    simpa [rowD] using this) ?_
  rw [hdv]
  have hnil : D.slots ≠ [] := fun e => by rw [e] at hj; simp at hj
  have hdS : List.drop (j * 11 + 4) (cellsS D.slots) = (encS D.slots[j] ++ cellsS (D.slots.drop (j + 1))).drop 4 := by rw [← List.drop_drop, cellsS_drop hj]
  have hbS : j * 11 + 4 + 5 ≤ D.slots.length * 11 := by omega
  by_cases hd : depth < 0
  · have hj0 : j = 0 := by rw [if_pos hd] at hj1; omega
    subst hj0
    simp only [Nat.zero_mul, Nat.zero_add] at hdS hbS
    simp -implicitDefEqProofs [mkS, mkB, encD, ekind, hnil, hd, hj, hdS, hbS, encS, wd]
    intro _
    refine callJ g1 [0, 1] (by decide) (by simp [mkS, mkB]) (by simp [encT]) ?_
    simp -implicitDefEqProofs [mkS, mkB]
    refine callJ (node_ok m' 9 0 [e] l3 (by omega) (by omega) l6) [0, 1] (by decide) (by simp [mkS, mkB]) (by simp [cellsE_cons]) ?_
    simp -implicitDefEqProofs [mkS, mkB, encE]
    exact ret_keep [0, 1] 0 (by decide) (by simp) (by simp) (by simp [encE, cellsE_cons, eid])
  · rw [if_neg hd] at hj1
    simp -implicitDefEqProofs [mkS, mkB, encD, ekind, hnil, hd, ← hj1, hj, hdS, hbS, encS, wd]
    intro _
    refine callJ g1 [0, 1] (by decide) (by simp [mkS, mkB]) (by simp [encT]) ?_
    simp -implicitDefEqProofs [mkS, mkB]
    refine callJ (node_ok m' 9 j [e] l3 (by omega) (by omega) l6) [0, 1] (by decide) (by simp [mkS, mkB]) (by simp [cellsE_cons]) ?_
    simp -implicitDefEqProofs [mkS, mkB, encE]
    exact ret_keep [0, 1] 0 (by decide) (by simp) (by simp) (by simp [encE, cellsE_cons, eid])
set_option maxHeartbeats 2000000 in
theorem lit_rec {hs : List Hd} {R : Nat} {m : Mk} {env : List Bnd} {c depth : Int} {Q : Nat → Prop} {len : Nat} (hc : 0 ≤ c) (hl : Lim m (6 * c + 1)) (x : Int) (k : Nat) (h : k < hs.length) (h1 : ∀ (j : Nat) (hj : j < k), hs[j].id ≠ hs[k].id)
    (h2 : hs[k].kind = 0) (h3' : hs[k].slots.length ≤ 6) {r : Nat} (h4 : ∀ s ∈ hs[k].slots, TyOk hs r s.typ) (hQ : Q r)
    (hk : KidOk hs R c (depth - 1) Q len) (hx : Cx hs R m) (he : EnvOk hs R m.temp env) (h5 : 0 < env.length) (h6 : env.length ≤ len) (hd1 : -1000 ≤ depth) (hd2 : depth ≤ 1000) :
    Makes hs m.own litF m [.ptr 0 0, .agg (encT (tDef hs[k].id)), .sl env.length (cellsB env), int x, int depth] env (tDef hs[k].id) (6 * c + 1) := by
  obtain ⟨hm, hdv, hhd⟩ := findH hx h h1
  generalize hD : m.defs[k] = D at hdv hhd
  have eid : D.id = hs[k].id := by rw [← hhd]; rfl
  have eslots : D.slots = hs[k].slots := by rw [← hhd]; rfl
  have ekind : D.kind = 0 := by rw [← h2, ← hhd]; rfl
  have hdl := hx.dlen
  have hd100 := hx.len
  have wd : IntKind.i64.wrap (depth - 1) = depth - 1 := IntWalk.i64_in _ (by omega)
  have hS6 : D.slots.length ≤ 6 := by rw [eslots]; exact h3'
  have hsc : ((D.slots.length : Int)) * c ≤ 6 * c := Int.mul_le_mul_of_nonneg_right (by omega) hc
  obtain ⟨es, ms, q1, q2, q3, q4, q5⟩ := kids_ok hk hc env h5 h6 (D.slots.map (·.typ)) m hx (hl.mono (by rw [List.length_map]; omega)) (fun t ht => by
    obtain ⟨s, hs', rfl⟩ := List.mem_map.1 ht
    exact ⟨r, h4 s (eslots ▸ hs'), hQ⟩) he
  rw [List.length_map] at q1 q3 q4
  have ha := (q3 D.slots.length (Nat.le_refl _)).mono hsc
  obtain ⟨l1, l2, l3, l4, l5, l6, l7, l8⟩ := Lim.adv (c := 6 * c) (c' := 1) hl ha
  refine ⟨.mk ⟨0, 0, (ms es.length).temp⟩ 7 0 hs[k].id Typ.zero es [], { ms es.length with temp := (ms es.length).temp + 1, left := (ms es.length).left - 1 }, ?_, q1 ▸ ha.trans (adv_node _), .record _ _ k h es h2 (by rw [← eslots, q1]) fun j hj => ?_,
    by simp only [tmps]; rw [q1]; exact q4.append (Seg.one _) ha.temp1 (by omega), num0_mk (num0_all rfl fun j hj => (q5 j hj (by rw [List.length_map]; omega)).2.2)⟩
  · rw [← eid] at hdv ⊢
    refine ret_of_wpH Tryz.func79 rfl cLit (rs := [.cell 10 15 true]) (by kernel_rfl) ?_
    unfold KLit
    simp -implicitDefEqProofs [mkS, mkB, encT]
    refine ⟨_, _, weak_rsvs 1, ?_⟩
    simp -implicitDefEqProofs [mkS, mkB, encT, List.replicate]
    refine dcallHR (rdef_row m.mods m.defs D.id (by omega)) [1] (by decide) (by simp [rowD]) (by simp [rowD]) (by simp [encI]) (fun τ hτ => by
      have := put_keepsR hτ (j := 1) (o := .row false 39 31 m.defs.length (cellsD m.defs)) (by simp) (by simp)
      simpa [rowD] using this) ?_
    rw [hdv]
    simp -implicitDefEqProofs [mkS, mkB, encD, ekind]
    refine loopS (S := Nat) (fun i => [(0, .ptr 0 0), (2, .sl env.length (cellsB env)), (4, int depth), (6, .ptr 2 0), (10, .ptr 3 0), (15, .ptr 4 0), (20, .row 5 i), (21, int i)])
      (fun i => mkS (ms i) ++ [.box (encT (tDef D.id)), .box (encE Exp.zero), .box (encD D), .row false 37 15 i (cellsE (es.take i))]) (fun i => i ≤ es.length) (fun i => es.length - i) 0 (by simp)
      ((weak_nilslot (t := 20) (by simp) 37 15).trans (selW [0, 1, 2, 3, 4, 5] 0 (by decide) (by simp) (by simp [mkS, mkB, encT, tDef, q2, encE, Exp.zero, Id.zero, Typ.zero, encD, ekind]) (by simp))) ?_
    intro i hi
    have hms := q3 i (by omega)
    by_cases hi2 : i < es.length
    · have hid : i < D.slots.length := by omega
      obtain ⟨g1, _, _⟩ := q5 i hi2 (by rw [List.length_map]; omega)
      rw [List.getElem_map] at g1
      have hst : cellsE (es.take (i + 1)) = cellsE (es.take i) ++ encE es[i] := cellsE_take_succ hi2
      have hw : IntKind.i64.wrap ((i : Int) + 1) = (i : Int) + 1 := IntWalk.i64_in _ (by omega)
      have hdS : List.drop (i * 11 + 4) (cellsS D.slots) = (encS D.slots[i] ++ cellsS (D.slots.drop (i + 1))).drop 4 := by rw [← List.drop_drop, cellsS_drop hid]
      have hbS : i * 11 + 4 + 5 ≤ D.slots.length * 11 := by omega
      simp -implicitDefEqProofs [mkS, mkB, encD, hid, hdS, hbS, encS, wd]
      intro _
      refine callJ g1 [0, 1] (by decide) (by simp [mkS, mkB]) (by simp [encT]) ?_
      simp -implicitDefEqProofs [mkS, mkB]
      refine ⟨⟨by simp [maxLen]; omega, by omega⟩, ?_⟩
      exact roundS (i + 1) hi2 (by omega) (selW [0, 1, 2, 3, 4, 5] 0 (by decide) (by simp) (by simp [mkS, mkB, encT, tDef, encE, Exp.zero, Id.zero, Typ.zero, hst, encD]) (by simp [hw]))
    · have hie : i = es.length := by omega
      subst hie
      have hid : ¬ es.length < D.slots.length := by omega
      rw [← q1] at l3 l4 l5 l6
      simp -implicitDefEqProofs [mkS, mkB, encD, hid]
      intro _
      refine ⟨mkEnv [(0, .ptr 0 0), (10, .ptr 3 0), (15, .ptr 4 0), (20, .sl es.length (cellsE es))], mkS (ms es.length) ++ [.box (encT (tDef D.id)), .box (encE Exp.zero), .box (encD D)], selW [0, 1, 2, 3, 4] 1 (by decide) (by simp) (by simp [mkS, mkB, encT, tDef, encE, Exp.zero, Id.zero, Typ.zero, encD]) (by simp), ?_⟩
      simp -implicitDefEqProofs [mkS, mkB]
      refine callJ (node_ok (ms es.length) 7 0 es l3 (by omega) (by omega) l6) [0, 1] (by decide) (by simp [mkS, mkB]) (by simp) ?_
      simp -implicitDefEqProofs [mkS, mkB, encE, encD]
      exact ret_keep [0, 1] 0 (by decide) (by simp) (by simp) (by simp [encE])
  · have := (q5 j hj (by rw [List.length_map]; omega)).2.1
    rw [List.getElem_map] at this
    simpa only [eslots] using this
theorem lit_ok {hs : List Hd} {R : Nat} {m : Mk} {env : List Bnd} {c depth : Int} {Q : Nat → Prop} {len : Nat} (hc : 0 ≤ c) (hl : Lim m (6 * c + 1)) (x : Int) (hx0 : 0 ≤ x) (hx1 : x ≤ 65536) (t : Typ) {r : Nat} (hr : TyOk hs r t) (hQ : ∀ r' < r, Q r')
    (hk : KidOk hs R c (depth - 1) Q len) (hx : Cx hs R m) (he : EnvOk hs R m.temp env) (h5 : 0 < env.length) (h6 : env.length ≤ len) (hd1 : -1000 ≤ depth) (hd2 : depth ≤ 1000) :
    Makes hs m.own litF m [.ptr 0 0, .agg (encT t), .sl env.length (cellsB env), int x, int depth] env t (6 * c + 1) := by
  cases hr with
  | int r => exact (lit_int (R := R) (hl.mono (by omega)) x depth hx0 hx1).mono (by omega)
  | bool r => exact (lit_bool (hl.mono (by omega)) x depth hx0).mono (by omega)
  | list r t h => exact (lit_list hc (hl.mono (by omega)) x hx0 t h (hQ r (by omega)) hk hx he h5 h6 hd1 hd2).mono (by omega)
  | dfn r k h h1 h2 h3 h4 =>
    rcases h2 with h2 | ⟨h2, h2'⟩
    · exact lit_rec hc hl x k h h1 h2 h3 h4 (hQ r (by omega)) hk hx he h5 h6 hd1 hd2
    · exact (lit_case hc (hl.mono (by omega)) x hx0 hx1 k h h1 h2 h2' h3 h4 (hQ r (by omega)) hk hx he h5 h6 hd1 hd2).mono (by omega)
end Go.Proofs.YthglhccibdlccaaGreatDoor
