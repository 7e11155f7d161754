/-
  trace.set, Join and Asks; the law's lists of IDs.
  The maker of programs: its state, its small functions.
-/
import Derived.Test.YthglhccibdlccaaGreatDoorX26
set_option linter.unusedVariables false
set_option linter.unusedSimpArgs false
namespace Go.Proofs.YthglhccibdlccaaGreatDoor
open Go.Abs
theorem compactNil_ok : Ret Tryz.prog 97 [.sl 0 []] [] (.sl 0 []) [] := by
  refine ret_of_wp Tryz.func97 rfl cCompact (rs := [.slot 2]) (by kernel_rfl) ?_
  unfold KCompact
  simp -implicitDefEqProofs
  exact ret_end 0 (by simp)
def KSet : K :=
 K.seq (K.ops [kMn 2])
 (K.seq (K.ops [kM 4 0,
 kC 5 94 [(.tmp 4)],
 kM 3 5])
 (K.seq (K.ops [kM 6 3,
 kC 7 95 [(.tmp 6), (.func 96)]])
 (K.seq (K.ops [kM 8 3,
 kC 9 97 [(.tmp 8)],
 kM 2 9])
 (K.ret))))
theorem cSet : compile Tryz.prog Tryz.f48.ntmps (Tryz.f48.body.getD .skip) = some KSet.erase := by kernel_rfl
@[simp] theorem calSet : callable Tryz.prog 48 = true := by kernel_rfl
theorem set_ok (l : List Id) (hb : l.length ≤ 1000000) : Ret Tryz.prog 48 [.sl l.length (cellsI l)] [] (.sl (setD l).length (cellsI (setD l))) [] := by
  refine ret_of_wp Tryz.func48 rfl cSet (rs := [.slot 2]) (by kernel_rfl) ?_
  unfold KSet
  simp -implicitDefEqProofs
  by_cases h : l = []
  · subst h
    refine callJ cloneNil_ok [] (by simp) (by simp) (by simp) ?_
    simp -implicitDefEqProofs
    refine callJ (sortNil_ok (.clo 96 [] [])) [] (by simp) (by simp) (by simp) ?_
    simp -implicitDefEqProofs
    refine callJ compactNil_ok [] (by simp) (by simp) (by simp) ?_
    simp -implicitDefEqProofs
    exact ret_end 0 (by simp [setD, sortL, compD])
  · refine callJ (cloneIds_ok l h hb) [] (by simp) (by simp) (by simp) ?_
    simp -implicitDefEqProofs
    refine callJ (sortIds_ok l (by omega)) [0] (by simp) (by simp) (by simp) ?_
    have hp := (sortD_perm l).length_eq
    simp -implicitDefEqProofs
    have hc := compact_ok (sortL cmpD l) (by omega)
    rw [hp] at hc
    refine callJ hc [0] (by simp) (by simp) (by simp) ?_
    have hle := compD_len (sortL cmpD l)
    simp -implicitDefEqProofs [compA]
    by_cases hcc : compD (sortL cmpD l) = sortL cmpD l
    · simp -implicitDefEqProofs [hcc, hp]
      exact ret_end 1 (by simp [setD, hcc, hp, zerosI])
    · simp -implicitDefEqProofs [hcc, hp]
      have h0 : (compD (sortL cmpD l)).length ≠ 0 := fun e => by
        have h1 := List.eq_nil_of_length_eq_zero e
        obtain ⟨x, hx⟩ := List.exists_mem_of_ne_nil l h
        have := (compD_mem (x := x) (sortL cmpD l)).2 ((sortD_perm l).mem_iff.2 hx)
        rw [h1] at this
        simp at this
      exact ret_end 1 (by simp [setD, h0, cellsI_append])
@[simp] theorem calTJoin : callable Tryz.prog 30 = true := by kernel_rfl
def KAsks : K :=
 K.seq (K.ops [kO 2 0,
 kMb 4 false])
 (K.seq (K.ops [⟨none, .mop (some 8) (.mk 3) []⟩,
 kZ 5 [(.map none)],
 kS 5 8 1])
 (K.seq (K.seq (K.ops [kA 9 2 0,
 kL 10 9 1,
 kA 11 2 1,
 kL 12 11 1,
 ⟨none, .bslice (some 13) 45 1 2 [(.slice none 0 0), (.slice none 0 0)] [(0, 1, (.tmp 10)), (1, 1, (.tmp 12))]⟩,
 kC 14 69 [(.tmp 13)],
 kN 15 14,
 kMi 16 0])
 (K.block 0 (K.loop (K.seq (K.ops [kB 17 16 15 .lss])
 (K.seq (K.cond (.tmp 17)
 (K.skip)
 (K.exit 0))
 (K.seq (K.block 1 (K.seq (K.ops [kX 18 14 16 3,
 kG 19 18 3,
 kZ 7 [(.int .i64 0), (.int .i64 0), (.int .i64 0)],
 kS 7 19 3])
 (K.ops [kL 20 5 1,
 kG 21 7 3,
 ⟨none, .mop none (.set 3) [(.tmp 20), (.tmp 21), (.const (.bool true))]⟩])))
 (K.ops [kBi 22 16 1 .add,
 kM 16 22])))))))
 (K.seq (K.ops [kM 23 1,
 ⟨none, .clo (some 24) 71 [] [(.tmp 5)]⟩,
 kC 25 70 [(.tmp 23), (.tmp 24)],
 kM 4 25])
 (K.ret))))
theorem cAsks : compile Tryz.prog Tryz.f29.ntmps (Tryz.f29.body.getD .skip) = some KAsks.erase := by kernel_rfl
@[simp] theorem calAsks : callable Tryz.prog 29 = true := by kernel_rfl
def KAsksC : K :=
 K.seq (K.ops [kO 2 0,
 kMb 3 false])
 (K.seq (K.ops [kL 4 1 1,
 kG 5 2 3,
 ⟨none, .mop (some 6) (.get 3 (.bool false) false) [(.tmp 4), (.tmp 5)]⟩,
 kM 3 6])
 (K.ret))
theorem cAsksC : compile Tryz.prog Tryz.f71.ntmps (Tryz.f71.body.getD .skip) = some KAsksC.erase := by kernel_rfl
@[simp] theorem calAsksC : callable Tryz.prog 71 = true := by kernel_rfl
def KIndexF : K :=
 K.seq (K.ops [kMi 4 0])
 (K.seq (K.seq (K.ops [kM 6 0,
 kN 7 6,
 kMi 8 0])
 (K.block 0 (K.loop (K.seq (K.ops [kB 9 8 7 .lss])
 (K.seq (K.cond (.tmp 9)
 (K.skip)
 (K.exit 0))
 (K.seq (K.block 1 (K.seq (K.ops [kM 10 8,
 kM 5 10])
 (K.seq (K.ops [kM 11 1,
 kM 12 0,
 kM 13 5,
 kX 14 12 13 3,
 kG 15 14 3,
 ⟨none, .call (some 16) (.tmp 11) [(.tmp 15)]⟩])
 (K.cond (.tmp 16)
 (K.seq (K.ops [kM 17 5,
 kM 4 17])
 (K.ret))
 (K.skip)))))
 (K.ops [kBi 18 8 1 .add,
 kM 8 18])))))))
 (K.seq (K.ops [⟨none, .mov (some 4) (.const (.int .i64 (-1)))⟩])
 (K.ret)))
theorem cIndexF : compile Tryz.prog Tryz.f117.ntmps (Tryz.f117.body.getD .skip) = some KIndexF.erase := by kernel_rfl
@[simp] theorem calIndexF : callable Tryz.prog 117 = true := by kernel_rfl
def KContF : K :=
 K.seq (K.ops [kMb 4 false])
 (K.seq (K.ops [kM 5 0,
 kM 6 1,
 kC 7 117 [(.tmp 5), (.tmp 6)],
 kBi 8 7 0 .geq,
 kM 4 8])
 (K.ret))
theorem cContF : compile Tryz.prog Tryz.f70.ntmps (Tryz.f70.body.getD .skip) = some KContF.erase := by kernel_rfl
@[simp] theorem calContF : callable Tryz.prog 70 = true := by kernel_rfl
def mapS (l : List Id) : List (List Int × A) := l.foldl (fun es d => putI (keyI d) (.lit (.bool true)) es) []
theorem mapS_snoc (l : List Id) (x : Id) : mapS (l ++ [x]) = putI (keyI x) (.lit (.bool true)) (mapS l) := by simp [mapS, List.foldl_append]
theorem keyI_inj {x y : Id} : keyI x = keyI y ↔ x = y := by simp [keyI, Id.eq_iff]
theorem findI_put {ks ks' : List Int} {v : A} : ∀ (es : List (List Int × A)), findI ks (putI ks' v es) = if ks' = ks then some v else findI ks es
  | [] => by simp [putI, findI]
  | p :: es => by
    simp only [putI]
    by_cases h : p.1 = ks'
    · simp only [h, if_true, findI]
      by_cases h' : ks' = ks <;> simp [h']
    · simp only [h, if_false, findI]
      by_cases h' : p.1 = ks
      · simp only [h', if_true]
        have : ¬ ks' = ks := fun e => h (h'.trans e.symm)
        simp [this]
      · simp only [h', if_false, findI_put es]
theorem findI_mapS (x : Id) (l : List Id) : findI (keyI x) (mapS l) = if x ∈ l then some (.lit (.bool true)) else none := by
  induction l using snocRec with
  | nil => simp [mapS, findI]
  | snoc l y ih =>
    rw [mapS_snoc, findI_put, ih]
    by_cases h : y = x
    · subst h; simp
    · have : ¬ keyI y = keyI x := fun e => h (keyI_inj.1 e)
      have h' : ¬ x = y := fun e => h e.symm
      simp [this, h']
theorem mapS_bnd (l : List Id) (k : Nat) : ∀ p ∈ mapS l, p.2.bnd k = true := by
  induction l using snocRec with
  | nil => simp [mapS]
  | snoc l y ih =>
    rw [mapS_snoc]
    have : ∀ es : List (List Int × A), (∀ p ∈ es, p.2.bnd k = true) → ∀ p ∈ putI (keyI y) (.lit (.bool true)) es, p.2.bnd k = true := by
      intro es
      induction es with
      | nil => intro _ p hp; simp [putI] at hp; subst hp; rfl
      | cons q es ih =>
        intro h p hp
        simp only [putI] at hp
        split at hp
        · rcases List.mem_cons.1 hp with rfl | hp
          · rfl
          · exact h p (List.mem_cons_of_mem _ hp)
        · rcases List.mem_cons.1 hp with rfl | hp
          · exact h _ (List.mem_cons_self ..)
          · exact ih (fun p hp => h p (List.mem_cons_of_mem _ hp)) p hp
    exact this _ ih
@[simp] theorem mapS_vw {rf : Bool → Nat → Nat → A} {g : Nat → Option Nat} (l : List Id) : ((mapS l).map fun p => (p.1, vw rf g p.2)) = mapS l := by
  have h := mapS_bnd l 0
  generalize mapS l = es at h
  induction es with
  | nil => rfl
  | cons p es ih =>
    rw [List.map_cons, ih fun q hq => h q (List.mem_cons_of_mem _ hq), vw_bnd (k := 0) (fun l hl => by omega) p.2 (h p (List.mem_cons_self ..))]
theorem asks1_ok (l : List Id) (x : Id) : Ret Tryz.prog 71 [.agg (encI x), .ptr 0 0] [.box [.map 1], .mp true 3 (mapS l)] (bl (decide (x ∈ l))) [.box [.map 1], .mp true 3 (mapS l)] := by
  refine ret_of_wp Tryz.func71 rfl cAsksC (rs := [.slot 3]) (by kernel_rfl) ?_
  unfold KAsksC
  have hf := findI_mapS x l
  simp only [keyI] at hf
  simp -implicitDefEqProofs [encI]
  have hr : getR (Value.bool false) false (findI [x.a, x.b, x.c] (mapS l)) = .lit (.bool (decide (x ∈ l))) := by
    rw [hf]
    by_cases h : x ∈ l <;> simp [getR, h, ofConst, ofCell]
  rw [hr]
  exact ret_keep [0, 1] 0 (by decide) (by simp) (by simp) (by simp)
def idxI (l ids : List Id) : Int := match ids.findIdx? (fun x => decide (x ∈ l)) with
  | some i => i
  | none => -1
theorem idxI_nonneg (l ids : List Id) : decide (0 ≤ idxI l ids) = ids.any fun x => decide (x ∈ l) := by
  unfold idxI
  cases h : ids.findIdx? (fun x => decide (x ∈ l)) with
  | none =>
    rw [List.findIdx?_eq_none_iff] at h
    have : (ids.any fun x => decide (x ∈ l)) = false := by rw [List.any_eq_false]; exact fun x hx => by simpa using h x hx
    rw [this]; rfl
  | some i =>
    have h' := List.findIdx?_eq_some_iff_getElem.1 h
    obtain ⟨hi, h1, _⟩ := h'
    have : (ids.any fun x => decide (x ∈ l)) = true := by rw [List.any_eq_true]; exact ⟨_, List.getElem_mem hi, h1⟩
    rw [this]; simp
theorem indexF_ok (l ids : List Id) : Ret Tryz.prog 117 [.sl ids.length (cellsI ids), .clo 71 [] [.ptr 0 0]] [.box [.map 1], .mp true 3 (mapS l)] (int (idxI l ids)) [.box [.map 1], .mp true 3 (mapS l)] := by
  refine ret_of_wp Tryz.func117 rfl cIndexF (rs := [.slot 4]) (by kernel_rfl) ?_
  unfold KIndexF
  simp -implicitDefEqProofs
  intro hl
  refine loopS (S := Nat) (fun i => [(0, .sl ids.length (cellsI ids)), (1, .clo 71 [] [.ptr 0 0]), (7, int ids.length), (8, int i)]) (fun i => [.box [.map 1], .mp true 3 (mapS l)]) (fun i => i ≤ ids.length ∧ ∀ x ∈ ids.take i, x ∉ l) (fun i => ids.length - i) 0 (by simp)
    (selW [0, 1] 0 (by decide) (by simp) (by simp) (by simp)) ?_
  rintro i ⟨hi, hn⟩
  by_cases h : i < ids.length
  · simp -implicitDefEqProofs [h, cellsI_drop h]
    refine callJ (asks1_ok l ids[i]) [0, 1] (by simp) (by simp) (by simp [encI]) ?_
    simp -implicitDefEqProofs
    by_cases hx : ids[i] ∈ l
    · have : idxI l ids = i := by
        unfold idxI
        rw [List.findIdx?_eq_some_iff_getElem.2 ⟨h, by simpa using hx, fun j hj => by
          have := hn ids[j] (by rw [List.mem_take_iff_getElem]; exact ⟨j, by omega, rfl⟩)
          simpa using this⟩]
      simp -implicitDefEqProofs [hx]
      exact ret_keep [0, 1] 0 (by decide) (by simp) (by simp) (by simp [this])
    · simp -implicitDefEqProofs [hx]
      exact roundS (i + 1) ⟨h, fun x hx' => by
        rw [List.take_succ_eq_append_getElem h] at hx'
        rcases List.mem_append.1 hx' with hx' | hx'
        · exact hn x hx'
        · rw [List.mem_singleton.1 hx']; exact hx⟩ (by omega) (selW [0, 1] 0 (by decide) (by simp) (by simp) (by simp [wrap_succ h hl]))
  · have : i = ids.length := by omega
    subst this
    rw [List.take_length] at hn
    have : idxI l ids = -1 := by
      unfold idxI
      rw [List.findIdx?_eq_none_iff.2 fun x hx => by simpa using hn x hx]
    simp -implicitDefEqProofs
    exact ret_keep [0, 1] 0 (by decide) (by simp) (by simp) (by simp [this])
theorem contF_ok (l ids : List Id) : Ret Tryz.prog 70 [.sl ids.length (cellsI ids), .clo 71 [] [.ptr 0 0]] [.box [.map 1], .mp true 3 (mapS l)] (bl (ids.any fun x => decide (x ∈ l))) [.box [.map 1], .mp true 3 (mapS l)] := by
  refine ret_of_wp Tryz.func70 rfl cContF (rs := [.slot 4]) (by kernel_rfl) ?_
  unfold KContF
  simp -implicitDefEqProofs
  refine callJ (indexF_ok l ids) [0, 1] (by simp) (by simp) (by simp) ?_
  simp -implicitDefEqProofs
  exact ret_keep [0, 1] 0 (by decide) (by simp) (by simp) (by rw [← idxI_nonneg]; simp)
theorem asks_ok (t : Trc) (ids l : List Id) (hl : l = t.defs ++ t.nodes) (h : l.length ≤ 1000000) : Ret Tryz.prog 29 [.agg (encTr t), .sl ids.length (cellsI ids)] [] (bl (ids.any fun x => decide (x ∈ l))) [] := by
  refine ret_of_wp Tryz.func29 rfl cAsks (rs := [.slot 4]) (by kernel_rfl) ?_
  unfold KAsks
  have e1 : [t.defs, t.nodes].flatten = l := by simp [hl]
  simp -implicitDefEqProofs [encTr]
  refine call0 (concatIds_ok [t.defs, t.nodes] (by rw [totL, e1]; exact h)) (by simp [cellsL]) (by simp) ?_
  rw [totL, e1]
  simp -implicitDefEqProofs
  intro hlm
  refine loopS (S := Nat) (fun i => [(1, .sl ids.length (cellsI ids)), (5, .ptr 0 0), (14, .sl l.length (cellsI l)), (15, int l.length), (16, int i)]) (fun i => [.box [.map 1], .mp true 3 (mapS (l.take i))]) (fun i => i ≤ l.length) (fun i => l.length - i) 0 (by simp)
    (selW [2, 1] 0 (by simp) (by simp) (by simp [mapS]) (by simp)) ?_
  intro i hi
  by_cases h : i < l.length
  · have hs := mapS_snoc (l.take i) l[i]
    rw [← List.take_succ_eq_append_getElem h, keyI] at hs
    simp -implicitDefEqProofs [h, cellsI_drop h]
    rw [← hs]
    exact roundS (i + 1) h (by omega) (selW [0, 1] 0 (by simp) (by simp) (by simp) (by simp [wrap_succ h hlm]))
  · have : i = l.length := by omega
    subst this
    simp -implicitDefEqProofs
    refine callJ (contF_ok l ids) [0, 1] (by simp) (by simp) (by simp) ?_
    simp -implicitDefEqProofs
    exact ret_end 0 (by simp)
end Go.Proofs.YthglhccibdlccaaGreatDoor
namespace Go.Proofs.YthglhccibdlccaaGreatDoor
open Go.Abs
def KAt : K :=
 K.seq (K.ops [kMi 6 0])
 (K.seq (K.seq (K.ops [kM 7 1,
 kBi 8 7 0 .lss,
 kM 9 8,
 kT 9 false (kM 10 1),
 kT 9 false (kM 11 0),
 kT 9 false (kN 12 11),
 kT 9 false (kB 13 10 12 .geq),
 kPt 14 9 13])
 (K.cond (.tmp 14)
 (K.seq (K.ops [kMi 6 0])
 (K.ret))
 (K.skip)))
 (K.seq (K.ops [kM 15 0,
 kM 16 1,
 kX 17 15 16 1,
 kL 18 17 1,
 kM 19 2,
 kC 20 12 [(.tmp 18), (.tmp 19)],
 kM 6 20])
 (K.ret)))
theorem cAt : compile Tryz.prog Tryz.f31.ntmps (Tryz.f31.body.getD .skip) = some KAt.erase := by kernel_rfl
@[simp] theorem calAt : callable Tryz.prog 31 = true := by kernel_rfl
def KRID : K :=
 K.seq (K.ops [kZ 2 [(.int .i64 0), (.int .i64 0), (.int .i64 0)]])
 (K.seq (K.ops [kM 3 0,
 kBi 4 3 32 .quo,
 ⟨none, .bin (some 5) .add (.const (.int .i64 1)) (.tmp 4)⟩,
 kM 6 0,
 kBi 7 6 32 .rem,
 ⟨none, .build (some 8) [(.int .i64 0), (.int .i64 0), (.int .i64 0)] [(1, 1, (.tmp 5)), (2, 1, (.tmp 7))]⟩,
 kS 2 8 3])
 (K.ret))
theorem cRID : compile Tryz.prog Tryz.f32.ntmps (Tryz.f32.body.getD .skip) = some KRID.erase := by kernel_rfl
@[simp] theorem calRID : callable Tryz.prog 32 = true := by kernel_rfl
def KOf : K :=
 K.seq (K.ops [kO 1 0,
 kZ 2 kz2])
 (K.seq (K.ops [kG 3 1 3,
 ⟨none, .build (some 4) kz2 [(0, 1, (.const (.int .i64 3))), (1, 3, (.tmp 3))]⟩,
 kS 2 4 5])
 (K.ret))
theorem cOf : compile Tryz.prog Tryz.f72.ntmps (Tryz.f72.body.getD .skip) = some KOf.erase := by kernel_rfl
@[simp] theorem calOf : callable Tryz.prog 72 = true := by kernel_rfl
def KList : K :=
 K.seq (K.ops [kO 1 0,
 kZ 2 kz2])
 (K.seq (K.ops [kG 3 1 5,
 ⟨none, .bslice (some 4) 33 5 1 kz2 [(0, 5, (.tmp 3))]⟩,
 ⟨none, .build (some 5) kz2 [(0, 1, (.const (.int .i64 2))), (4, 1, (.tmp 4))]⟩,
 kS 2 5 5])
 (K.ret))
theorem cList : compile Tryz.prog Tryz.f74.ntmps (Tryz.f74.body.getD .skip) = some KList.erase := by kernel_rfl
@[simp] theorem calList : callable Tryz.prog 74 = true := by kernel_rfl
def KSameTy : K :=
 K.seq (K.ops [kO 2 0,
 kO 3 1,
 kMb 4 false])
 (K.seq (K.seq (K.ops [kA 6 2 0,
 kL 7 6 1,
 kA 8 3 0,
 kL 9 8 1,
 kQ 10 7 9 true,
 kM 11 10,
 kT 11 false (kA 12 2 1),
 kT 11 false (kG 13 12 3),
 kT 11 false (kA 14 3 1),
 kT 11 false (kG 15 14 3),
 ⟨some (11, false), .eqs (some 16) true [.i, .i, .i] (.tmp 13) (.tmp 15)⟩,
 kPt 17 11 16,
 kM 18 17,
 kT 18 false (kA 19 2 4),
 kT 18 false (kL 20 19 1),
 kT 18 false (kN 21 20),
 kT 18 false (kA 22 3 4),
 kT 18 false (kL 23 22 1),
 kT 18 false (kN 24 23),
 kT 18 false (kQ 25 21 24 true),
 kPt 26 18 25])
 (K.cond (.tmp 26)
 (K.seq (K.ops [kMb 4 false])
 (K.ret))
 (K.skip)))
 (K.seq (K.seq (K.ops [kMi 5 0])
 (K.block 0 (K.loop (K.seq (K.seq (K.ops [kM 27 5,
 kA 28 2 4,
 kL 29 28 1,
 kN 30 29,
 kB 31 27 30 .lss])
 (K.cond (.tmp 31)
 (K.skip)
 (K.exit 0)))
 (K.seq (K.block 1 (K.seq (K.dops [(0, 0, kA 34 2 4),
 (1, 0, kL 35 34 1),
 (2, 0, kM 36 5),
 (3, 0, kX 37 35 36 5),
 (4, 0, kG 38 37 5),
 (5, 0, kA 39 3 4),
 (6, 0, kL 40 39 1),
 (7, 0, kM 41 5),
 (8, 0, kX 42 40 41 5),
 (9, 0, kG 43 42 5),
 (10, 0, kC 44 109 [(.tmp 38), (.tmp 43)]),
 (11, 0, kR 45 44)])
 (K.cond (.tmp 45)
 (K.seq (K.ops [kMb 4 false])
 (K.ret))
 (K.skip))))
 (K.ops [kM 32 5,
 kBi 33 32 1 .add,
 kM 5 33]))))))
 (K.seq (K.ops [kMb 4 true])
 (K.ret))))
theorem cSameTy : compile Tryz.prog Tryz.f109.ntmps (Tryz.f109.body.getD .skip) = some KSameTy.erase := by kernel_rfl
@[simp] theorem calSameTy : callable Tryz.prog 109 = true := by kernel_rfl
def KNum : K :=
 K.seq (K.ops [kMi 4 0])
 (K.seq (K.ops [kM 5 0,
 kU 6 5,
 kA 7 6 3,
 kL 8 7 1,
 kBi 9 8 1 .add,
 kU 10 5,
 kA 11 10 3,
 kS 11 9 1])
 (K.seq (K.dops [(0, 0, kM 12 0),
 (1, 0, kU 13 12),
 (2, 0, kA 14 13 2),
 (3, 0, kL 15 14 1),
 (4, 0, kM 16 0),
 (5, 0, kU 17 16),
 (6, 0, kA 18 17 3),
 (7, 0, kL 19 18 1),
 (8, 0, kBi 20 19 1 .sub),
 (9, 0, kM 21 1),
 (10, 0, kC 22 31 [(.tmp 15), (.tmp 20), (.tmp 21)]),
 (11, 0, kM 4 22)])
 (K.ret)))
theorem cNum : compile Tryz.prog Tryz.f76.ntmps (Tryz.f76.body.getD .skip) = some KNum.erase := by kernel_rfl
@[simp] theorem calNum : callable Tryz.prog 76 = true := by kernel_rfl
def KNode : K :=
 K.seq (K.ops [kZ 8 kz1])
 (K.seq (K.ops [kM 9 0,
 kU 10 9,
 kA 11 10 4,
 kL 12 11 1,
 kBi 13 12 1 .add,
 kU 14 9,
 kA 15 14 4,
 kS 15 13 1])
 (K.seq (K.ops [kM 16 0,
 kU 17 16,
 kA 18 17 5,
 kL 19 18 1,
 kBi 20 19 1 .sub,
 kU 21 16,
 kA 22 21 5,
 kS 22 20 1])
 (K.seq (K.ops [kM 23 0,
 kU 24 23,
 kA 25 24 4,
 kL 26 25 1,
 kBi 27 26 1 .sub,
 ⟨none, .build (some 28) [(.int .i64 0), (.int .i64 0), (.int .i64 0)] [(2, 1, (.tmp 27))]⟩,
 kM 29 1,
 kM 30 2,
 kM 31 3,
 ⟨none, .build (some 32) kz1 [(0, 3, (.tmp 28)), (3, 1, (.tmp 29)), (4, 1, (.tmp 30)), (13, 1, (.tmp 31))]⟩,
 kS 8 32 15])
 (K.ret))))
theorem cNode : compile Tryz.prog Tryz.f80.ntmps (Tryz.f80.body.getD .skip) = some KNode.erase := by kernel_rfl
@[simp] theorem calNode : callable Tryz.prog 80 = true := by kernel_rfl
def KName : K :=
 K.seq (K.ops [⟨none, .mov (some 2) (.const (.string ⟨#[]⟩))⟩])
 (K.seq (K.ops [kM 3 0,
 kU 4 3,
 kA 5 4 10,
 kL 6 5 1,
 kBi 7 6 1 .add,
 kU 8 3,
 kA 9 8 10,
 kS 9 7 1])
 (K.seq (K.dops [(0, 0, ⟨none, .bslice (some 10) 9 1 3 kz12 [(0, 1, (.const (.string ⟨#[117]⟩))), (1, 1, (.const (.string ⟨#[118]⟩))), (2, 1, (.const (.string ⟨#[119]⟩)))]⟩),
 (1, 0, kM 11 0),
 (2, 0, kU 12 11),
 (3, 0, kA 13 12 10),
 (4, 0, kL 14 13 1),
 (5, 0, kBi 15 14 3 .rem),
 (6, 0, kX 16 10 15 1),
 (7, 0, kL 17 16 1),
 (8, 0, ⟨none, .bslice (some 18) 9 1 8 [(.string ⟨#[]⟩), (.string ⟨#[]⟩), (.string ⟨#[]⟩), (.string ⟨#[]⟩), (.string ⟨#[]⟩), (.string ⟨#[]⟩), (.string ⟨#[]⟩), (.string ⟨#[]⟩)] [(0, 1, (.const (.string ⟨#[]⟩))), (1, 1, (.const (.string ⟨#[49]⟩))), (2, 1, (.const (.string ⟨#[50]⟩))), (3, 1, (.const (.string ⟨#[51]⟩))), (4, 1, (.const (.string ⟨#[52]⟩))), (5, 1, (.const (.string ⟨#[53]⟩))), (6, 1, (.const (.string ⟨#[54]⟩))), (7, 1, (.const (.string ⟨#[55]⟩)))]⟩),
 (9, 0, kM 19 0),
 (10, 0, kU 20 19),
 (11, 0, kA 21 20 10),
 (12, 0, kL 22 21 1),
 (13, 0, kBi 23 22 3 .quo),
 (14, 0, kBi 24 23 8 .rem),
 (15, 0, kX 25 18 24 1),
 (16, 0, kL 26 25 1),
 (17, 0, kB 27 17 26 .add),
 (18, 0, kM 2 27)])
 (K.ret)))
theorem cName : compile Tryz.prog Tryz.f81.ntmps (Tryz.f81.body.getD .skip) = some KName.erase := by kernel_rfl
@[simp] theorem calName : callable Tryz.prog 81 = true := by kernel_rfl
def KVis : K :=
 K.seq (K.ops [kMb 4 false])
 (K.seq (K.ops [kM 6 0,
 kU 7 6,
 kA 8 7 0,
 kA 9 8 1,
 kL 10 9 1,
 kM 11 1,
 kX 12 10 11 31,
 kG 13 12 31,
 kZ 5 kz0,
 kS 5 13 31])
 (K.seq (K.dops [(0, 0, kM 14 1),
 (1, 0, kM 15 0),
 (2, 0, kU 16 15),
 (3, 0, kA 17 16 6),
 (4, 0, kL 18 17 1),
 (5, 0, kB 19 14 18 .lss),
 (6, 0, kM 20 19),
 (7, 0, kT 20 true (kA 21 5 4)),
 (8, 0, kT 20 true (kG 22 21 3)),
 (9, 0, kT 20 true (kM 23 0)),
 (10, 0, kT 20 true (kU 24 23)),
 (11, 0, kT 20 true (kA 25 24 7)),
 (12, 0, kT 20 true (kG 26 25 3)),
 (13, 0, ⟨some (20, true), .eqs (some 27) false [.i, .i, .i] (.tmp 22) (.tmp 26)⟩),
 (14, 0, kT 20 true (kM 28 27)),
 (15, 0, kT 28 false (kA 29 5 4)),
 (16, 0, kT 28 false (kG 30 29 3)),
 (17, 0, kT 28 false (kM 31 0)),
 (18, 0, kT 28 false (kU 32 31)),
 (19, 0, kT 28 false (kA 33 32 0)),
 (20, 0, kT 28 false (kA 34 33 0)),
 (21, 0, kT 28 false (kL 35 34 1)),
 (22, 0, kT 28 false (kXi 36 35 6 0)),
 (23, 0, kT 28 false (kA 37 36 0)),
 (24, 0, kT 28 false (kG 38 37 3)),
 (25, 0, ⟨some (28, false), .eqs (some 39) false [.i, .i, .i] (.tmp 30) (.tmp 38)⟩),
 (26, 0, kT 20 true (kPt 40 28 39)),
 (27, 0, kPf 41 20 40),
 (28, 0, kM 4 41)])
 (K.ret)))
theorem cVis : compile Tryz.prog Tryz.f119.ntmps (Tryz.f119.body.getD .skip) = some KVis.erase := by kernel_rfl
@[simp] theorem calVis : callable Tryz.prog 119 = true := by kernel_rfl
def KOfM : K :=
 K.seq (K.ops [kMi 6 0])
 (K.seq (K.ops [kM 10 0,
 kU 11 10,
 kA 12 11 0,
 kA 13 12 1,
 kL 14 13 1,
 kN 15 14,
 kM 7 15])
 (K.seq (K.seq (K.ops [kMi 8 0])
 (K.block 0 (K.loop (K.seq (K.seq (K.ops [kM 16 8,
 kM 17 7,
 kB 18 16 17 .lss])
 (K.cond (.tmp 18)
 (K.skip)
 (K.exit 0)))
 (K.seq (K.block 1 (K.seq (K.ops [kM 21 2,
 kM 22 8,
 kB 23 21 22 .add,
 kM 24 7,
 kB 25 23 24 .rem,
 kM 9 25])
 (K.seq (K.ops [kM 26 0,
 kU 27 26,
 kA 28 27 0,
 kA 29 28 1,
 kL 30 29 1,
 kM 31 9,
 kX 32 30 31 31,
 kA 33 32 3,
 kL 34 33 1,
 kM 35 1,
 kQ 36 34 35 false,
 kM 37 36,
 kT 37 true (kM 38 0),
 kT 37 true (kM 39 9),
 kT 37 true (kC 40 119 [(.tmp 38), (.tmp 39)]),
 kPf 41 37 40])
 (K.cond (.tmp 41)
 (K.seq (K.ops [kM 42 9,
 kM 6 42])
 (K.ret))
 (K.skip)))))
 (K.ops [kM 19 8,
 kBi 20 19 1 .add,
 kM 8 20]))))))
 (K.seq (K.ops [⟨none, .mov (some 6) (.const (.int .i64 (-1)))⟩])
 (K.ret))))
theorem cOfM : compile Tryz.prog Tryz.f118.ntmps (Tryz.f118.body.getD .skip) = some KOfM.erase := by kernel_rfl
@[simp] theorem calOfM : callable Tryz.prog 118 = true := by kernel_rfl
def KVarM : K :=
 K.seq (K.ops [kO 3 1,
 kZ 4 kz1])
 (K.seq (K.ops [kM 6 0,
 kA 7 3 3,
 kL 8 7 1,
 kC 9 80 [(.tmp 6), (.const (.int .i64 2)), (.tmp 8), (.const (.slice none 0 0))],
 kZ 5 kz1,
 kS 5 9 15])
 (K.seq (K.ops [kA 10 3 0,
 kG 11 10 3,
 kA 12 5 5,
 kS 12 11 3])
 (K.seq (K.ops [kG 13 5 15,
 kS 4 13 15])
 (K.ret))))
theorem cVarM : compile Tryz.prog Tryz.f78.ntmps (Tryz.f78.body.getD .skip) = some KVarM.erase := by kernel_rfl
@[simp] theorem calVarM : callable Tryz.prog 78 = true := by kernel_rfl
def KFitting : K :=
 K.seq (K.ops [kO 3 1,
 kMn 4])
 (K.seq (K.ops [kMn 5])
 (K.seq (K.seq (K.ops [kMi 6 0])
 (K.block 0 (K.loop (K.seq (K.seq (K.ops [kM 7 6,
 kM 8 0,
 kN 9 8,
 kB 10 7 9 .lss])
 (K.cond (.tmp 10)
 (K.skip)
 (K.exit 0)))
 (K.seq (K.block 1 (K.seq (K.dops [(0, 0, kM 13 0),
 (1, 0, kM 14 6),
 (2, 0, kX 15 13 14 9),
 (3, 0, kA 16 15 4),
 (4, 0, kG 17 16 5),
 (5, 0, kG 18 3 5),
 (6, 0, kC 19 109 [(.tmp 17), (.tmp 18)])])
 (K.cond (.tmp 19)
 (K.ops [kM 20 5,
 kM 21 0,
 kM 22 6,
 kX 23 21 22 9,
 kG 24 23 9,
 ⟨none, .bslice (some 25) 96 9 1 kz7 [(0, 9, (.tmp 24))]⟩,
 kP 26 96 9 88 20 25,
 kM 5 26])
 (K.skip))))
 (K.ops [kM 11 6,
 kBi 12 11 1 .add,
 kM 6 12]))))))
 (K.seq (K.ops [kM 27 5,
 kM 4 27])
 (K.ret))))
theorem cFitting : compile Tryz.prog Tryz.f77.ntmps (Tryz.f77.body.getD .skip) = some KFitting.erase := by kernel_rfl
@[simp] theorem calFitting : callable Tryz.prog 77 = true := by kernel_rfl
def KWithB : K :=
 K.seq (K.ops [kO 3 1,
 kMn 4])
 (K.seq (K.ops [kMn 5])
 (K.seq (K.dops [(3, 1, kG 9 3 9),
 (4, 0, ⟨none, .bslice (some 10) 96 9 1 kz7 [(0, 9, (.tmp 9))]⟩),
 (0, 0, kM 6 5),
 (1, 0, kM 7 0),
 (2, 0, kP 8 96 9 88 6 7),
 (5, 0, kP 11 96 9 88 8 10),
 (6, 0, kM 4 11)])
 (K.ret)))
def hWithB : Nat → Option (List (Nat × Nat)) := fun r => match r with | 2 => some [(3,1),(4,0),(0,0),(1,0),(2,0),(5,0),(6,0)] | _ => none
theorem cWithB : compileH Tryz.prog Tryz.f82.ntmps hWithB (Tryz.f82.body.getD .skip) = some KWithB.erase := by kernel_rfl
@[simp] theorem calWithB : callable Tryz.prog 82 = true := by kernel_rfl
def atV (l : List Int) (i most : Int) : Int := if i < 0 ∨ (l.length : Int) ≤ i then 0 else aroundV (l.getD i.toNat 0) most
theorem at_ok (l : List Int) (i most : Int) (hm : 0 < most) : Ret Tryz.prog 31 [.sl l.length (ints l), int i, int most] [] (int (atV l i most)) [] := by
  refine ret_of_wp Tryz.func31 rfl cAt (rs := [.slot 6]) (by kernel_rfl) ?_
  unfold KAt
  by_cases h : i < 0
  · simp -implicitDefEqProofs [h]
    exact ret_end 0 (by simp [atV, h])
  by_cases h2 : (l.length : Int) ≤ i
  · simp -implicitDefEqProofs [h, h2]
    exact fun _ => ret_end 0 (by simp [atV, h2])
  · obtain ⟨j, rfl⟩ : ∃ j : Nat, i = j := ⟨i.toNat, by omega⟩
    have hj : j < l.length := by omega
    have hd := ints_drop hj
    simp -implicitDefEqProofs [h, h2, hj, hd]
    intro _
    refine call0 (around_ok l[j] most hm) (by simp) (by simp) ?_
    simp -implicitDefEqProofs
    exact ret_end 0 (by simp [atV, hj, h, show ¬ l.length ≤ j by omega])
theorem at_range {l : List Int} {i most : Int} (hl : ∀ x ∈ l, w64 x = x) (hm : 0 < most) : 0 ≤ atV l i most ∧ atV l i most < most := by
  unfold atV
  split
  · omega
  · rename_i h
    have hj : i.toNat < l.length := by omega
    rw [List.getD_eq_getElem?_getD, List.getElem?_eq_getElem hj]
    exact around_range (hl _ (List.getElem_mem hj)) hm
def idR (k : Int) : Id := ⟨0, IntKind.i64.wrap (1 + IntKind.i64.wrap (k.tdiv 32)), k.tmod 32⟩
theorem id_ok (k : Int) : Ret Tryz.prog 32 [int k] [] (.agg (encI (idR k))) [] := by
  refine ret_of_wp Tryz.func32 rfl cRID (rs := [.cell 2 3 true]) (by kernel_rfl) ?_
  unfold KRID
  simp -implicitDefEqProofs
  exact ret_end 0 (by simp [encI, idR])
theorem of_ok (d : Id) : Ret Tryz.prog 72 [.agg (encI d)] [] (.agg (encT (.mk 3 d []))) [] := by
  refine ret_of_wp Tryz.func72 rfl cOf (rs := [.cell 2 5 true]) (by kernel_rfl) ?_
  unfold KOf
  simp -implicitDefEqProofs [encI]
  exact ret_end 0 (by simp [encT])
theorem list_ok (t : Typ) : Ret Tryz.prog 74 [.agg (encT t)] [] (.agg (encT (.mk 2 ⟨0, 0, 0⟩ [t]))) [] := by
  refine ret_of_wp Tryz.func74 rfl cList (rs := [.cell 2 5 true]) (by kernel_rfl) ?_
  unfold KList
  simp -implicitDefEqProofs [encT]
  exact ret_end 0 (by simp [encT, cellsT_cons])
mutual
theorem sameTy_ok : ∀ (a b : Typ), Ret Tryz.prog 109 [.agg (encT a), .agg (encT b)] [] (bl (sameT a b)) []
  | .mk k i l, b => by
    have ih := sameTys_ok l
    generalize ha : Typ.mk k i l = a
    have hal : a.kids = l := by rw [← ha]; rfl
    rw [← hal] at ih
    refine ret_of_wp Tryz.func109 rfl cSameTy (rs := [.slot 4]) (by kernel_rfl) ?_
    unfold KSameTy
    have hd := sameT_def a b
    by_cases h1 : a.k = b.k
    · by_cases h2 : a.id = b.id
      · by_cases h3 : a.kids.length = b.kids.length
        · simp -implicitDefEqProofs [encT, h1, h2, h3]
          intro hl
          refine loopS (S := Nat) (fun j => [(2, .ptr 0 0), (3, .ptr 1 0), (5, int j)]) (fun _ => [.box (encT a), .box (encT b)]) (fun j => j ≤ a.kids.length ∧ ∀ (m : Nat) (hm : m < j) (hma : m < a.kids.length) (hmb : m < b.kids.length), sameT a.kids[m] b.kids[m] = true) (fun j => a.kids.length - j) 0 (by simp)
            (selW [0, 1] 0 (by decide) (by simp) (by simp [encT, h1, h2, h3]) (by simp)) ?_
          rintro j ⟨hj, hs⟩
          by_cases h : j < a.kids.length
          · have hb : j < b.kids.length := by omega
            simp -implicitDefEqProofs [encT, h, cellsT_drop h, cellsT_drop hb, hb]
            intro hl'
            refine dcall0 (ih a.kids[j] (List.getElem_mem h) b.kids[j]) (by simp [encT]) (by simp) ?_
            cases hab : sameT a.kids[j] b.kids[j]
            · have : allS sameT a.kids b.kids = false := by
                rw [← Bool.not_eq_true, allS_iff h3]
                intro hh
                have := hh j h
                rw [hab] at this
                cases this
              simp -implicitDefEqProofs
              exact ret_end 0 (by simp [hd, this])
            · simp -implicitDefEqProofs
              exact roundS (j + 1) ⟨h, fun m hm hma hmb => by
                by_cases e : m = j
                · subst e; exact hab
                · exact hs m (by omega) hma hmb⟩ (by omega) (selW [0, 1] 0 (by decide) (by simp) (by simp [encT]) (by simp [wrap_succ h (show a.kids.length ≤ maxLen by omega)]))
          · have hj' : j = a.kids.length := by omega
            have : allS sameT a.kids b.kids = true := (allS_iff h3).2 fun m hm => hs m (by omega) hm (by omega)
            simp -implicitDefEqProofs [encT, h]
            first | exact fun _ => ret_end 0 (by simp [hd, h1, h2, this]) | exact ret_end 0 (by simp [hd, h1, h2, this])
        · have h4 := allS_len (same := sameT) h3
          have h5 : ¬ ((a.kids.length : Int) = b.kids.length) := by omega
          simp -implicitDefEqProofs [encT, h1, h2, h3, h5]
          first | exact fun _ _ => ret_end 0 (by simp [hd, h4]) | exact fun _ => ret_end 0 (by simp [hd, h4]) | exact ret_end 0 (by simp [hd, h4])
      · have h3 : same3 a.id.a a.id.b a.id.c b.id.a b.id.b b.id.c = false := by rw [same3_id]; exact decide_eq_false h2
        simp -implicitDefEqProofs [encT, h1, h3]
        exact ret_end 0 (by simp [hd, h2])
    · simp -implicitDefEqProofs [encT, h1]
      exact ret_end 0 (by simp [hd, h1])
theorem sameTys_ok : ∀ (l : List Typ), ∀ x ∈ l, ∀ y : Typ, Ret Tryz.prog 109 [.agg (encT x), .agg (encT y)] [] (bl (sameT x y)) []
  | [], x, hx, _ => by simp at hx
  | z :: l, x, hx, y => by
    rcases List.mem_cons.1 hx with e | hx
    · rw [e]; exact sameTy_ok z y
    · exact sameTys_ok l x hx y
end
structure Mk where
  mods : List Md
  defs : List Dfn
  l : List Int
  at_ : Int
  temp : Int
  left : Int
  own : Int
  home : Id
  name : Int
def mkB (m : Mk) : List A := [.sl m.mods.length (cellsM m.mods), .row 1 m.defs.length, .sl m.l.length (ints m.l), int m.at_, int m.temp, int m.left, int m.own, int m.home.a, int m.home.b, int m.home.c, int m.name]
def mkS (m : Mk) : St := [.box (mkB m), .row false 39 31 m.defs.length (cellsD m.defs)]
theorem num_ok (m : Mk) (n : Int) (hn : 0 < n) (h0 : 0 ≤ m.at_) (h1 : m.at_ ≤ 1000000000000000) :
    Ret Tryz.prog 76 [.ptr 0 0, int n] (mkS m) (int (atV m.l m.at_ n)) (mkS { m with at_ := m.at_ + 1 }) := by
  refine ret_of_wp Tryz.func76 rfl cNum (rs := [.slot 4]) (by kernel_rfl) ?_
  unfold KNum
  have w1 : IntKind.i64.wrap (m.at_ + 1) = m.at_ + 1 := IntWalk.i64_in _ (by omega)
  have w2 : IntKind.i64.wrap m.at_ = m.at_ := IntWalk.i64_in _ (by omega)
  simp -implicitDefEqProofs [mkS, mkB, w1, w2]
  refine dcall0 (at_ok m.l m.at_ n hn) (by simp) (by simp) ?_
  simp -implicitDefEqProofs
  exact ret_keep [0, 1] 0 (by decide) (by simp) (by simp) (by simp)
theorem node_ok (m : Mk) (kind n : Int) (kids : List Exp) (h0 : 0 ≤ m.temp) (h1 : m.temp ≤ 1000000000000000) (h2 : -1000000000000000 ≤ m.left) (h3 : m.left ≤ 1000000000000000) :
    Ret Tryz.prog 80 [.ptr 0 0, int kind, int n, .sl kids.length (cellsE kids)] (mkS m) (.agg (encE (.mk ⟨0, 0, m.temp⟩ kind n Id.zero Typ.zero kids []))) (mkS { m with temp := m.temp + 1, left := m.left - 1 }) := by
  refine ret_of_wp Tryz.func80 rfl cNode (rs := [.cell 8 15 true]) (by kernel_rfl) ?_
  unfold KNode
  have w1 : IntKind.i64.wrap (m.temp + 1) = m.temp + 1 := IntWalk.i64_in _ (by omega)
  have w2 : IntKind.i64.wrap m.temp = m.temp := IntWalk.i64_in _ (by omega)
  have w3 : IntKind.i64.wrap (m.left - 1) = m.left - 1 := IntWalk.i64_in _ (by omega)
  simp -implicitDefEqProofs [mkS, mkB, w1, w2, w3]
  exact ret_keep [0, 1] 0 (by decide) (by simp) (by simp) (by simp [encE, Typ.zero, Id.zero, Typ.kids, Typ.k, Typ.id])
end Go.Proofs.YthglhccibdlccaaGreatDoor
