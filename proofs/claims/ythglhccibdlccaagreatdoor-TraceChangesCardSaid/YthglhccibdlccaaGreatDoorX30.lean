/-
  trace.differ: the IDs that only one of two maps has, or whose things differ; in some order.
-/
import Derived.Test.YthglhccibdlccaaGreatDoorX29
import Derived.Test.YthglhccibdlccaaGreatDoorX21
set_option linter.unusedVariables false
set_option linter.unusedSimpArgs false
namespace Go.Proofs.YthglhccibdlccaaGreatDoor
open Go.Abs
def selF {α : Type} (idf : α → Id) (D : List α) (c : α → Bool) (met : List Nat) : List Id := met.filterMap fun i => (D[i]?).bind fun x => if c x then some (idf x) else none
theorem selF_snoc {α : Type} {idf : α → Id} {D : List α} {c : α → Bool} {met : List Nat} {i : Nat} {x : α} (h : D[i]? = some x) : selF idf D c (met ++ [i]) = if c x then selF idf D c met ++ [idf x] else selF idf D c met := by
  simp only [selF, List.filterMap_append, List.filterMap_cons, List.filterMap_nil, h, Option.bind_some]
  cases c x <;> simp
theorem fm_congr {α β : Type} {f g : α → Option β} : ∀ {l : List α}, (∀ x ∈ l, f x = g x) → l.filterMap f = l.filterMap g
  | [], _ => rfl
  | x :: l, h => by rw [List.filterMap_cons, List.filterMap_cons, h x (List.mem_cons_self ..), fm_congr fun y hy => h y (List.mem_cons_of_mem _ hy)]
theorem selF_range {α : Type} {idf : α → Id} {c : α → Bool} (D : List α) : selF idf D c (List.range D.length) = (D.filter c).map idf := by
  induction D using snocRec with
  | nil => rfl
  | snoc D y ih =>
    have h1 : selF idf (D ++ [y]) c (List.range D.length) = selF idf D c (List.range D.length) := by
      unfold selF
      refine fm_congr fun i hi => ?_
      rw [List.getElem?_append_left (List.mem_range.1 hi)]
    rw [List.length_append, List.length_singleton, List.range_succ, selF_snoc (x := y) (by simp), h1, ih, List.filter_append, List.map_append]
    cases hc : c y <;> simp [hc]
structure Met (n : Nat) (met : List Nat) : Prop where
  nd : met.Nodup
  lt : ∀ i ∈ met, i < n
theorem Met.snoc {n : Nat} {met : List Nat} (h : Met n met) {i : Nat} (hi : i < n) (hn : i ∉ met) : Met n (met ++ [i]) := by
  refine ⟨?_, fun j hj => ?_⟩
  · rw [List.nodup_append]
    refine ⟨h.nd, by simp, fun a ha b hb => ?_⟩
    simp only [List.mem_singleton] at hb
    subst hb
    exact fun e => hn (e ▸ ha)
  · rcases List.mem_append.1 hj with hj | hj
    · exact h.lt j hj
    · rw [List.mem_singleton.1 hj]; exact hi
theorem Met.le {n : Nat} {met : List Nat} (h : Met n met) : met.length ≤ n := by
  have := h.nd.length_le_of_subset (l₂ := List.range n) fun i hi => List.mem_range.2 (h.lt i hi)
  simpa using this
theorem Met.perm {n : Nat} {met : List Nat} (h : Met n met) (ha : ∀ i, i < n → i ∈ met) : met.Perm (List.range n) :=
  (List.perm_ext_iff_of_nodup h.nd List.nodup_range).2 fun i => ⟨fun hi => List.mem_range.2 (h.lt i hi), fun hi => ha i (List.mem_range.1 hi)⟩
theorem Met.sel {α : Type} {idf : α → Id} {c : α → Bool} {D : List α} {met : List Nat} (h : Met D.length met) (ha : ∀ i, i < D.length → i ∈ met) : (selF idf D c met).Perm ((D.filter c).map idf) := by
  rw [← selF_range]
  exact (h.perm ha).filterMap _
theorem mapL_get {α : Type} {idf : α → Id} {enc : α → List A} {D : List α} {i : Nat} {p : List Int × A} (h : (mapL idf enc D)[i]? = some p) : ∃ x, D[i]? = some x ∧ p = (keyI (idf x), .agg (enc x)) := by
  rw [mapL, List.getElem?_map, Option.map_eq_some_iff] at h
  obtain ⟨x, hx, rfl⟩ := h
  exact ⟨x, hx, rfl⟩
@[simp] theorem mapL_len {α : Type} {idf : α → Id} {enc : α → List A} {D : List α} : (mapL idf enc D).length = D.length := by simp [mapL]
def cD1 {α : Type} (idf : α → Id) (D2 : List α) (same : α → α → Bool) (x : α) : Bool := match hasL idf D2 (idf x) with
  | some y => !same x y
  | none => true
def cD2 {α : Type} (idf : α → Id) (D1 : List α) (y : α) : Bool := (hasL idf D1 (idf y)).isNone
def difL {α : Type} (idf : α → Id) (same : α → α → Bool) (D1 D2 : List α) : List Id := (D1.filter (cD1 idf D2 same)).map idf ++ (D2.filter (cD2 idf D1)).map idf
def KDifD : K :=
 K.seq (K.ops [kMn 6])
 (K.seq (K.ops [kMn 7])
 (K.seq (K.seq (K.ops [kM 15 0,
 ⟨none, .mop (some 16) .rng [(.tmp 15)]⟩])
 (K.block 0 (K.loop (K.seq (K.ops [⟨none, .mop (some 17) .nxt [(.tmp 16)]⟩,
 kE 18 17 0])
 (K.seq (K.cond (.tmp 18)
 (K.skip)
 (K.exit 0))
 (K.block 1 (K.seq (K.ops [⟨none, .mop (some 19) .ent [(.tmp 16)]⟩,
 kE 20 19 0,
 kE 21 19 1,
 kZ 8 [(.int .i64 0), (.int .i64 0), (.int .i64 0)],
 kZ 9 kz0,
 kS 8 20 3,
 kS 9 21 31])
 (K.seq (K.ops [kM 23 1,
 kG 24 8 3,
 ⟨none, .mop (some 25) (.get 3 (.agg #[(.int .i64 0), (.int .i64 0), (.int .i64 0), (.int .i64 0), (.int .i64 0), (.int .i64 0), (.int .i64 0), (.string ⟨#[]⟩), (.slice none 0 0), (.int .i64 0), (.int .i64 0), (.int .i64 0), (.int .i64 0), (.slice none 0 0), (.int .i64 0), (.int .i64 0), (.int .i64 0), (.int .i64 0), (.int .i64 0), (.int .i64 0), (.int .i64 0), (.int .i64 0), (.int .i64 0), (.int .i64 0), (.int .i64 0), (.int .i64 0), (.slice none 0 0), (.slice none 0 0), (.slice none 0 0), (.int .i64 0), (.slice none 0 0)]) true) [(.tmp 23), (.tmp 24)]⟩,
 kM 22 25,
 kE 26 22 0,
 kE 27 22 1,
 kZ 10 kz0,
 kS 10 26 31,
 kM 11 27])
 (K.seq (K.ops [kM 28 11,
 kR 29 28,
 kM 30 29,
 kT 30 false (kM 31 2),
 kT 30 false (kG 32 9 31),
 kT 30 false (kG 33 10 31),
 ⟨some (30, false), .call (some 34) (.tmp 31) [(.tmp 32), (.tmp 33)]⟩,
 kT 30 false (kR 35 34),
 kPt 36 30 35])
 (K.cond (.tmp 36)
 (K.ops [kM 37 7,
 kG 38 8 3,
 ⟨none, .bslice (some 39) 29 3 1 [(.int .i64 0), (.int .i64 0), (.int .i64 0)] [(0, 3, (.tmp 38))]⟩,
 kP 40 29 3 24 37 39,
 kM 7 40])
 (K.skip)))))))))))
 (K.seq (K.seq (K.ops [kM 41 1,
 ⟨none, .mop (some 42) .rng [(.tmp 41)]⟩])
 (K.block 2 (K.loop (K.seq (K.ops [⟨none, .mop (some 43) .nxt [(.tmp 42)]⟩,
 kE 44 43 0])
 (K.seq (K.cond (.tmp 44)
 (K.skip)
 (K.exit 2))
 (K.block 3 (K.seq (K.ops [⟨none, .mop (some 45) .ent [(.tmp 42)]⟩,
 kE 46 45 0,
 kZ 12 [(.int .i64 0), (.int .i64 0), (.int .i64 0)],
 kS 12 46 3])
 (K.seq (K.ops [kM 48 0,
 kG 49 12 3,
 ⟨none, .mop (some 50) (.get 3 (.agg #[(.int .i64 0), (.int .i64 0), (.int .i64 0), (.int .i64 0), (.int .i64 0), (.int .i64 0), (.int .i64 0), (.string ⟨#[]⟩), (.slice none 0 0), (.int .i64 0), (.int .i64 0), (.int .i64 0), (.int .i64 0), (.slice none 0 0), (.int .i64 0), (.int .i64 0), (.int .i64 0), (.int .i64 0), (.int .i64 0), (.int .i64 0), (.int .i64 0), (.int .i64 0), (.int .i64 0), (.int .i64 0), (.int .i64 0), (.int .i64 0), (.slice none 0 0), (.slice none 0 0), (.slice none 0 0), (.int .i64 0), (.slice none 0 0)]) true) [(.tmp 48), (.tmp 49)]⟩,
 kM 47 50,
 kE 51 47 0,
 kE 52 47 1,
 kZ 13 kz0,
 kS 13 51 31,
 kM 14 52])
 (K.seq (K.ops [kM 53 14,
 kR 54 53])
 (K.cond (.tmp 54)
 (K.ops [kM 55 7,
 kG 56 12 3,
 ⟨none, .bslice (some 57) 29 3 1 [(.int .i64 0), (.int .i64 0), (.int .i64 0)] [(0, 3, (.tmp 56))]⟩,
 kP 58 29 3 24 55 57,
 kM 7 58])
 (K.skip)))))))))))
 (K.seq (K.ops [kM 59 7,
 kM 6 59])
 (K.ret)))))
theorem cDifD : compile Tryz.prog Tryz.f56.ntmps (Tryz.f56.body.getD .skip) = some KDifD.erase := by kernel_rfl
@[simp] theorem calDifD : callable Tryz.prog 56 = true := by kernel_rfl
set_option maxRecDepth 100000 in
theorem differD_ok (g : FuncId) (hcal : callable Tryz.prog g = true) (same : Dfn → Dfn → Bool) (hs : ∀ x y, Ret Tryz.prog g [.agg (encD x), .agg (encD y)] [] (bl (same x y)) []) (D1 D2 : List Dfn) (hl1 : D1.length ≤ 1000000) (hl2 : D2.length ≤ 1000000) :
    CallA Tryz.prog 56 [.map 0, .map 1, .clo g [] []] [.mp true 3 (mapL Dfn.id encD D1), .mp true 3 (mapL Dfn.id encD D2)] fun o τ => ∃ l : List Id, l.Perm (difL Dfn.id same D1 D2) ∧ o = .ret (.row 2 l.length) ∧
      τ = [.mp true 3 (mapL Dfn.id encD D1), .mp true 3 (mapL Dfn.id encD D2), .row false 29 3 l.length (cellsI l)] := by
  refine callQ_of_wp Tryz.func56 rfl cDifD (rs := [.slot 6]) (by kernel_rfl) ?_
  unfold KDifD
  simp -implicitDefEqProofs
  refine loopS (S := List Nat) (fun met => [(0, .map 0), (1, .map 1), (2, .clo g [] []), (7, .row 3 (selF Dfn.id D1 (cD1 Dfn.id D2 same) met).length), (16, .ptr 2 0)])
    (fun met => [.mp true 3 (mapL Dfn.id encD D1), .mp true 3 (mapL Dfn.id encD D2), .it 0 D1.length met, .row false 29 3 (selF Dfn.id D1 (cD1 Dfn.id D2 same) met).length (cellsI (selF Dfn.id D1 (cD1 Dfn.id D2 same) met))])
    (fun met => Met D1.length met) (fun met => D1.length - met.length) [] ⟨by simp, by simp⟩
    ((weak_nilslot (t := 7) (by simp) 29 3).trans (selW [0, 1, 2, 3] 0 (by decide) (by simp) (by simp [selF]) (by simp [selF]))) ?_
  intro met hmet
  simp -implicitDefEqProofs
  have hkb : ∀ d : Id, keyB (keyI d) = .agg [.lit (.int .i64 d.a), .lit (.int .i64 d.b), .lit (.int .i64 d.c)] := fun _ => rfl
  refine ⟨fun i ks v hi hp => ?_, fun hall => ?_⟩
  · obtain ⟨x, hx, e⟩ := mapL_get hp
    cases e
    refine ⟨_, _, hp, ?_⟩
    have hin : i < D1.length := (List.getElem?_eq_some_iff.1 hx).1
    have hm := hmet.snoc hin hi
    have hle := hm.le
    have hle0 := hmet.le
    rw [List.length_append, List.length_singleton] at hle
    have hsel := selF_snoc (idf := Dfn.id) (c := cD1 Dfn.id D2 same) (met := met) hx
    have hsl : (selF Dfn.id D1 (cD1 Dfn.id D2 same) met).length ≤ met.length := List.length_filterMap_le _ _
    have hf := findI_mapL (i := x.id) (enc := encD) (idf := Dfn.id) D2
    generalize selF Dfn.id D1 (cD1 Dfn.id D2 same) met = L at hsel hsl ⊢
    simp only [keyI] at hf
    cases hh : hasL Dfn.id D2 x.id with
    | none =>
      rw [hh] at hf
      simp only [Option.map_none] at hf
      have hc : cD1 Dfn.id D2 same x = true := by simp [cD1, hh]
      rw [if_pos hc] at hsel
      simp -implicitDefEqProofs [hkb, encD, hf]
      refine ⟨⟨by simp [maxLen]; omega, by omega⟩, ?_⟩
      exact roundS (met ++ [i]) hm (by simp; omega) (selW [0, 1, 2, 3] 0 (by decide) (by simp) (by simp [hsel, cellsI_append]) (by simp [hsel]))
    | some y =>
      rw [hh] at hf
      simp only [Option.map_some] at hf
      simp -implicitDefEqProofs [hkb, encD, hf, hcal]
      refine call0 (hs x y) (by simp [encD]) (by simp) ?_
      cases hxy : same x y with
      | false =>
        have hc : cD1 Dfn.id D2 same x = true := by simp [cD1, hh, hxy]
        rw [if_pos hc] at hsel
        simp -implicitDefEqProofs
        refine ⟨⟨by simp [maxLen]; omega, by omega⟩, ?_⟩
        exact roundS (met ++ [i]) hm (by simp; omega) (selW [0, 1, 2, 3] 0 (by decide) (by simp) (by simp [hsel, cellsI_append]) (by simp [hsel]))
      | true =>
        have hc : cD1 Dfn.id D2 same x = false := by simp [cD1, hh, hxy]
        rw [if_neg (by simp [hc])] at hsel
        simp -implicitDefEqProofs
        exact roundS (met ++ [i]) hm (by simp; omega) (selW [0, 1, 2, 3] 0 (by decide) (by simp) (by simp [hsel]) (by simp [hsel]))
  · have hperm := hmet.sel (idf := Dfn.id) (c := cD1 Dfn.id D2 same) hall
    generalize selF Dfn.id D1 (cD1 Dfn.id D2 same) met = L at hperm ⊢
    have hL : L.length ≤ D1.length := by rw [hperm.length_eq, List.length_map]; exact List.length_filter_le _ _
    refine loopS (S := List Nat) (fun met => [(0, .map 0), (1, .map 1), (7, .row 2 (L ++ selF Dfn.id D2 (cD2 Dfn.id D1) met).length), (42, .ptr 3 0)])
      (fun met => [.mp true 3 (mapL Dfn.id encD D1), .mp true 3 (mapL Dfn.id encD D2), .row false 29 3 (L ++ selF Dfn.id D2 (cD2 Dfn.id D1) met).length (cellsI (L ++ selF Dfn.id D2 (cD2 Dfn.id D1) met)), .it 1 D2.length met])
      (fun met => Met D2.length met) (fun met => D2.length - met.length) [] ⟨by simp, by simp⟩
      (selW [0, 1, 3, 4] 0 (by decide) (by simp) (by simp [selF]) (by simp [selF])) ?_
    clear hmet hall met
    intro met hmet
    simp -implicitDefEqProofs
    refine ⟨fun i ks v hi hp => ?_, fun hall => ?_⟩
    · obtain ⟨x, hx, e⟩ := mapL_get hp
      cases e
      refine ⟨_, _, hp, ?_⟩
      have hin : i < D2.length := (List.getElem?_eq_some_iff.1 hx).1
      have hm := hmet.snoc hin hi
      have hle := hm.le
      have hle0 := hmet.le
      rw [List.length_append, List.length_singleton] at hle
      have hsel := selF_snoc (idf := Dfn.id) (c := cD2 Dfn.id D1) (met := met) hx
      have hsl : (selF Dfn.id D2 (cD2 Dfn.id D1) met).length ≤ met.length := List.length_filterMap_le _ _
      have hf := findI_mapL (i := x.id) (enc := encD) (idf := Dfn.id) D1
      generalize selF Dfn.id D2 (cD2 Dfn.id D1) met = M at hsel hsl ⊢
      simp only [keyI] at hf
      cases hh : hasL Dfn.id D1 x.id with
      | none =>
        rw [hh] at hf
        simp only [Option.map_none] at hf
        have hc : cD2 Dfn.id D1 x = true := by simp [cD2, hh]
        rw [if_pos hc] at hsel
        simp -implicitDefEqProofs [hkb, hf]
        refine ⟨⟨by simp [maxLen]; omega, by omega⟩, ?_⟩
        exact roundS (met ++ [i]) hm (by simp; omega) (selW [0, 1, 2, 3] 0 (by decide) (by simp) (by simp [hsel, cellsI_append, Nat.add_assoc]) (by simp [hsel, Nat.add_assoc]))
      | some y =>
        rw [hh] at hf
        simp only [Option.map_some] at hf
        have hc : cD2 Dfn.id D1 x = false := by simp [cD2, hh]
        rw [if_neg (by simp [hc])] at hsel
        simp -implicitDefEqProofs [hkb, encD, hf]
        exact roundS (met ++ [i]) hm (by simp; omega) (selW [0, 1, 2, 3] 0 (by decide) (by simp) (by simp [hsel]) (by simp [hsel]))
    · have hperm2 := hmet.sel (idf := Dfn.id) (c := cD2 Dfn.id D1) hall
      generalize selF Dfn.id D2 (cD2 Dfn.id D1) met = M at hperm2 ⊢
      refine ⟨L ++ M, hperm.append hperm2, ?_⟩
      exact ret_keep [0, 1, 2] 0 (by decide) (by simp) (by simp) (by simp)
def KDifE : K :=
 K.seq (K.ops [kMn 6])
 (K.seq (K.ops [kMn 7])
 (K.seq (K.seq (K.ops [kM 15 0,
 ⟨none, .mop (some 16) .rng [(.tmp 15)]⟩])
 (K.block 0 (K.loop (K.seq (K.ops [⟨none, .mop (some 17) .nxt [(.tmp 16)]⟩,
 kE 18 17 0])
 (K.seq (K.cond (.tmp 18)
 (K.skip)
 (K.exit 0))
 (K.block 1 (K.seq (K.ops [⟨none, .mop (some 19) .ent [(.tmp 16)]⟩,
 kE 20 19 0,
 kE 21 19 1,
 kZ 8 [(.int .i64 0), (.int .i64 0), (.int .i64 0)],
 kZ 9 kz1,
 kS 8 20 3,
 kS 9 21 15])
 (K.seq (K.ops [kM 23 1,
 kG 24 8 3,
 ⟨none, .mop (some 25) (.get 3 (.agg #[(.int .i64 0), (.int .i64 0), (.int .i64 0), (.int .i64 0), (.int .i64 0), (.int .i64 0), (.int .i64 0), (.int .i64 0), (.int .i64 0), (.int .i64 0), (.int .i64 0), (.int .i64 0), (.slice none 0 0), (.slice none 0 0), (.slice none 0 0)]) true) [(.tmp 23), (.tmp 24)]⟩,
 kM 22 25,
 kE 26 22 0,
 kE 27 22 1,
 kZ 10 kz1,
 kS 10 26 15,
 kM 11 27])
 (K.seq (K.ops [kM 28 11,
 kR 29 28,
 kM 30 29,
 kT 30 false (kM 31 2),
 kT 30 false (kG 32 9 15),
 kT 30 false (kG 33 10 15),
 ⟨some (30, false), .call (some 34) (.tmp 31) [(.tmp 32), (.tmp 33)]⟩,
 kT 30 false (kR 35 34),
 kPt 36 30 35])
 (K.cond (.tmp 36)
 (K.ops [kM 37 7,
 kG 38 8 3,
 ⟨none, .bslice (some 39) 29 3 1 [(.int .i64 0), (.int .i64 0), (.int .i64 0)] [(0, 3, (.tmp 38))]⟩,
 kP 40 29 3 24 37 39,
 kM 7 40])
 (K.skip)))))))))))
 (K.seq (K.seq (K.ops [kM 41 1,
 ⟨none, .mop (some 42) .rng [(.tmp 41)]⟩])
 (K.block 2 (K.loop (K.seq (K.ops [⟨none, .mop (some 43) .nxt [(.tmp 42)]⟩,
 kE 44 43 0])
 (K.seq (K.cond (.tmp 44)
 (K.skip)
 (K.exit 2))
 (K.block 3 (K.seq (K.ops [⟨none, .mop (some 45) .ent [(.tmp 42)]⟩,
 kE 46 45 0,
 kZ 12 [(.int .i64 0), (.int .i64 0), (.int .i64 0)],
 kS 12 46 3])
 (K.seq (K.ops [kM 48 0,
 kG 49 12 3,
 ⟨none, .mop (some 50) (.get 3 (.agg #[(.int .i64 0), (.int .i64 0), (.int .i64 0), (.int .i64 0), (.int .i64 0), (.int .i64 0), (.int .i64 0), (.int .i64 0), (.int .i64 0), (.int .i64 0), (.int .i64 0), (.int .i64 0), (.slice none 0 0), (.slice none 0 0), (.slice none 0 0)]) true) [(.tmp 48), (.tmp 49)]⟩,
 kM 47 50,
 kE 51 47 0,
 kE 52 47 1,
 kZ 13 kz1,
 kS 13 51 15,
 kM 14 52])
 (K.seq (K.ops [kM 53 14,
 kR 54 53])
 (K.cond (.tmp 54)
 (K.ops [kM 55 7,
 kG 56 12 3,
 ⟨none, .bslice (some 57) 29 3 1 [(.int .i64 0), (.int .i64 0), (.int .i64 0)] [(0, 3, (.tmp 56))]⟩,
 kP 58 29 3 24 55 57,
 kM 7 58])
 (K.skip)))))))))))
 (K.seq (K.ops [kM 59 7,
 kM 6 59])
 (K.ret)))))
theorem cDifE : compile Tryz.prog Tryz.f58.ntmps (Tryz.f58.body.getD .skip) = some KDifE.erase := by kernel_rfl
@[simp] theorem calDifE : callable Tryz.prog 58 = true := by kernel_rfl
set_option maxRecDepth 100000 in
theorem differE_ok (g : FuncId) (hcal : callable Tryz.prog g = true) (same : Exp → Exp → Bool) (hs : ∀ x y, Ret Tryz.prog g [.agg (encE x), .agg (encE y)] [] (bl (same x y)) []) (D1 D2 : List Exp) (hl1 : D1.length ≤ 1000000) (hl2 : D2.length ≤ 1000000) :
    CallA Tryz.prog 58 [.map 0, .map 1, .clo g [] []] [.mp true 3 (mapL Exp.id encE D1), .mp true 3 (mapL Exp.id encE D2)] fun o τ => ∃ l : List Id, l.Perm (difL Exp.id same D1 D2) ∧ o = .ret (.row 2 l.length) ∧
      τ = [.mp true 3 (mapL Exp.id encE D1), .mp true 3 (mapL Exp.id encE D2), .row false 29 3 l.length (cellsI l)] := by
  refine callQ_of_wp Tryz.func58 rfl cDifE (rs := [.slot 6]) (by kernel_rfl) ?_
  unfold KDifE
  simp -implicitDefEqProofs
  refine loopS (S := List Nat) (fun met => [(0, .map 0), (1, .map 1), (2, .clo g [] []), (7, .row 3 (selF Exp.id D1 (cD1 Exp.id D2 same) met).length), (16, .ptr 2 0)])
    (fun met => [.mp true 3 (mapL Exp.id encE D1), .mp true 3 (mapL Exp.id encE D2), .it 0 D1.length met, .row false 29 3 (selF Exp.id D1 (cD1 Exp.id D2 same) met).length (cellsI (selF Exp.id D1 (cD1 Exp.id D2 same) met))])
    (fun met => Met D1.length met) (fun met => D1.length - met.length) [] ⟨by simp, by simp⟩
    ((weak_nilslot (t := 7) (by simp) 29 3).trans (selW [0, 1, 2, 3] 0 (by decide) (by simp) (by simp [selF]) (by simp [selF]))) ?_
  intro met hmet
  simp -implicitDefEqProofs
  have hkb : ∀ d : Id, keyB (keyI d) = .agg [.lit (.int .i64 d.a), .lit (.int .i64 d.b), .lit (.int .i64 d.c)] := fun _ => rfl
  refine ⟨fun i ks v hi hp => ?_, fun hall => ?_⟩
  · obtain ⟨x, hx, e⟩ := mapL_get hp
    cases e
    refine ⟨_, _, hp, ?_⟩
    have hin : i < D1.length := (List.getElem?_eq_some_iff.1 hx).1
    have hm := hmet.snoc hin hi
    have hle := hm.le
    have hle0 := hmet.le
    rw [List.length_append, List.length_singleton] at hle
    have hsel := selF_snoc (idf := Exp.id) (c := cD1 Exp.id D2 same) (met := met) hx
    have hsl : (selF Exp.id D1 (cD1 Exp.id D2 same) met).length ≤ met.length := List.length_filterMap_le _ _
    have hf := findI_mapL (i := x.id) (enc := encE) (idf := Exp.id) D2
    generalize selF Exp.id D1 (cD1 Exp.id D2 same) met = L at hsel hsl ⊢
    simp only [keyI] at hf
    cases hh : hasL Exp.id D2 x.id with
    | none =>
      rw [hh] at hf
      simp only [Option.map_none] at hf
      have hc : cD1 Exp.id D2 same x = true := by simp [cD1, hh]
      rw [if_pos hc] at hsel
      simp -implicitDefEqProofs [hkb, encE, hf]
      refine ⟨⟨by simp [maxLen]; omega, by omega⟩, ?_⟩
      exact roundS (met ++ [i]) hm (by simp; omega) (selW [0, 1, 2, 3] 0 (by decide) (by simp) (by simp [hsel, cellsI_append]) (by simp [hsel]))
    | some y =>
      rw [hh] at hf
      simp only [Option.map_some] at hf
      simp -implicitDefEqProofs [hkb, encE, hf, hcal]
      refine call0 (hs x y) (by simp [encE]) (by simp) ?_
      cases hxy : same x y with
      | false =>
        have hc : cD1 Exp.id D2 same x = true := by simp [cD1, hh, hxy]
        rw [if_pos hc] at hsel
        simp -implicitDefEqProofs
        refine ⟨⟨by simp [maxLen]; omega, by omega⟩, ?_⟩
        exact roundS (met ++ [i]) hm (by simp; omega) (selW [0, 1, 2, 3] 0 (by decide) (by simp) (by simp [hsel, cellsI_append]) (by simp [hsel]))
      | true =>
        have hc : cD1 Exp.id D2 same x = false := by simp [cD1, hh, hxy]
        rw [if_neg (by simp [hc])] at hsel
        simp -implicitDefEqProofs
        exact roundS (met ++ [i]) hm (by simp; omega) (selW [0, 1, 2, 3] 0 (by decide) (by simp) (by simp [hsel]) (by simp [hsel]))
  · have hperm := hmet.sel (idf := Exp.id) (c := cD1 Exp.id D2 same) hall
    generalize selF Exp.id D1 (cD1 Exp.id D2 same) met = L at hperm ⊢
    have hL : L.length ≤ D1.length := by rw [hperm.length_eq, List.length_map]; exact List.length_filter_le _ _
    refine loopS (S := List Nat) (fun met => [(0, .map 0), (1, .map 1), (7, .row 2 (L ++ selF Exp.id D2 (cD2 Exp.id D1) met).length), (42, .ptr 3 0)])
      (fun met => [.mp true 3 (mapL Exp.id encE D1), .mp true 3 (mapL Exp.id encE D2), .row false 29 3 (L ++ selF Exp.id D2 (cD2 Exp.id D1) met).length (cellsI (L ++ selF Exp.id D2 (cD2 Exp.id D1) met)), .it 1 D2.length met])
      (fun met => Met D2.length met) (fun met => D2.length - met.length) [] ⟨by simp, by simp⟩
      (selW [0, 1, 3, 4] 0 (by decide) (by simp) (by simp [selF]) (by simp [selF])) ?_
    clear hmet hall met
    intro met hmet
    simp -implicitDefEqProofs
    refine ⟨fun i ks v hi hp => ?_, fun hall => ?_⟩
    · obtain ⟨x, hx, e⟩ := mapL_get hp
      cases e
      refine ⟨_, _, hp, ?_⟩
      have hin : i < D2.length := (List.getElem?_eq_some_iff.1 hx).1
      have hm := hmet.snoc hin hi
      have hle := hm.le
      have hle0 := hmet.le
      rw [List.length_append, List.length_singleton] at hle
      have hsel := selF_snoc (idf := Exp.id) (c := cD2 Exp.id D1) (met := met) hx
      have hsl : (selF Exp.id D2 (cD2 Exp.id D1) met).length ≤ met.length := List.length_filterMap_le _ _
      have hf := findI_mapL (i := x.id) (enc := encE) (idf := Exp.id) D1
      generalize selF Exp.id D2 (cD2 Exp.id D1) met = M at hsel hsl ⊢
      simp only [keyI] at hf
      cases hh : hasL Exp.id D1 x.id with
      | none =>
        rw [hh] at hf
        simp only [Option.map_none] at hf
        have hc : cD2 Exp.id D1 x = true := by simp [cD2, hh]
        rw [if_pos hc] at hsel
        simp -implicitDefEqProofs [hkb, hf]
        refine ⟨⟨by simp [maxLen]; omega, by omega⟩, ?_⟩
        exact roundS (met ++ [i]) hm (by simp; omega) (selW [0, 1, 2, 3] 0 (by decide) (by simp) (by simp [hsel, cellsI_append, Nat.add_assoc]) (by simp [hsel, Nat.add_assoc]))
      | some y =>
        rw [hh] at hf
        simp only [Option.map_some] at hf
        have hc : cD2 Exp.id D1 x = false := by simp [cD2, hh]
        rw [if_neg (by simp [hc])] at hsel
        simp -implicitDefEqProofs [hkb, encE, hf]
        exact roundS (met ++ [i]) hm (by simp; omega) (selW [0, 1, 2, 3] 0 (by decide) (by simp) (by simp [hsel]) (by simp [hsel]))
    · have hperm2 := hmet.sel (idf := Exp.id) (c := cD2 Exp.id D1) hall
      generalize selF Exp.id D2 (cD2 Exp.id D1) met = M at hperm2 ⊢
      refine ⟨L ++ M, hperm.append hperm2, ?_⟩
      exact ret_keep [0, 1, 2] 0 (by decide) (by simp) (by simp) (by simp)
end Go.Proofs.YthglhccibdlccaaGreatDoor
