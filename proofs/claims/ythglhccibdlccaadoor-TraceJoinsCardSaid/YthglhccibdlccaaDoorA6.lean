/-
  trace.set, Join and Asks; the law's lists of IDs.
-/
import Derived.Test.YthglhccibdlccaaDoorA5
namespace Go.Proofs.YthglhccibdlccaaDoor
open Go.Abs

theorem compactNil_ok : Ret Tryd.prog 28 [.sl 0 []] [] (.sl 0 []) [] := by
  refine ret_of_wp Tryd.func28 rfl cCompact (rs := [.slot 2]) (by kernel_rfl) ?_
  unfold KCompact
  simp -implicitDefEqProofs
  exact ret_end 0 (by simp)

-- splicery/trace.set · results ["2"]
def KSet : K :=
 K.seq (K.ops [⟨none, .mov (some 2) (.const (.slice none 0 0))⟩])
 (K.seq (K.ops [⟨none, .mov (some 4) (.tmp 0)⟩,
 ⟨none, .call (some 5) (.func 25) [(.tmp 4)]⟩,
 ⟨none, .mov (some 3) (.tmp 5)⟩])
 (K.seq (K.ops [⟨none, .mov (some 6) (.tmp 3)⟩,
 ⟨none, .call (some 7) (.func 26) [(.tmp 6), (.func 27)]⟩])
 (K.seq (K.ops [⟨none, .mov (some 8) (.tmp 3)⟩,
 ⟨none, .call (some 9) (.func 28) [(.tmp 8)]⟩,
 ⟨none, .mov (some 2) (.tmp 9)⟩])
 (K.ret))))
theorem cSet : compile Tryd.prog Tryd.f14.ntmps (Tryd.f14.body.getD .skip) = some KSet.erase := by kernel_rfl
@[simp] theorem calSet : callable Tryd.prog 14 = true := by kernel_rfl

theorem set_ok (l : List Id) (hb : l.length ≤ 1000000) : Ret Tryd.prog 14 [.sl l.length (cellsI l)] [] (.sl (setD l).length (cellsI (setD l))) [] := by
  refine ret_of_wp Tryd.func14 rfl cSet (rs := [.slot 2]) (by kernel_rfl) ?_
  unfold KSet
  simp -implicitDefEqProofs
  by_cases h : l = []
  · subst h
    refine callJ cloneNil_ok [] (by simp) (by simp) (by simp) ?_
    simp -implicitDefEqProofs
    refine callJ (sortNil_ok (.clo 27 [] [])) [] (by simp) (by simp) (by simp) ?_
    simp -implicitDefEqProofs
    refine callJ compactNil_ok [] (by simp) (by simp) (by simp) ?_
    simp -implicitDefEqProofs
    exact ret_end 0 (by simp [setD, sortL, compD])
  · refine callJ (cloneIds_ok l h hb) [] (by simp) (by simp) (by simp) ?_
    simp -implicitDefEqProofs
    refine callJ (sortIds_ok l (by omega)) [0] (by simp) (by simp) (by simp) ?_
    have hp := (sortD_perm l).length_eq
    simp -implicitDefEqProofs
    have hc := compact_ok (sortL cmpD l) (by omega)
    rw [hp] at hc
    refine callJ hc [0] (by simp) (by simp) (by simp) ?_
    have hle := compD_len (sortL cmpD l)
    simp -implicitDefEqProofs [compA]
    by_cases hcc : compD (sortL cmpD l) = sortL cmpD l
    · simp -implicitDefEqProofs [hcc, hp]
      exact ret_end 1 (by simp [setD, hcc, hp, zerosI])
    · simp -implicitDefEqProofs [hcc, hp]
      have h0 : (compD (sortL cmpD l)).length ≠ 0 := fun e => by
        have h1 := List.eq_nil_of_length_eq_zero e
        obtain ⟨x, hx⟩ := List.exists_mem_of_ne_nil l h
        have := (compD_mem (x := x) (sortL cmpD l)).2 ((sortD_perm l).mem_iff.2 hx)
        rw [h1] at this
        simp at this
      exact ret_end 1 (by simp [setD, h0, cellsI_append])

-- splicery/trace.Join · results ["cell 4"]
def KTJoin : K :=
 K.seq (K.ops [⟨none, .box (some 2) (.tmp 0)⟩,
 ⟨none, .box (some 3) (.tmp 1)⟩,
 ⟨none, .alloc (some 4) [(.slice none 0 0), (.slice none 0 0)]⟩])
 (K.seq (K.dops [(0, 0, ⟨none, .addr (some 5) (.tmp 2) 0⟩),
 (1, 0, ⟨none, .ld (some 6) (.tmp 5) 1 false⟩),
 (2, 0, ⟨none, .addr (some 7) (.tmp 3) 0⟩),
 (3, 0, ⟨none, .ld (some 8) (.tmp 7) 1 false⟩),
 (4, 0, ⟨none, .bslice (some 9) 23 1 2 [(.slice none 0 0), (.slice none 0 0)] [(0, 1, (.tmp 6)), (1, 1, (.tmp 8))]⟩),
 (5, 0, ⟨none, .call (some 10) (.func 15) [(.tmp 9)]⟩),
 (6, 0, ⟨none, .call (some 11) (.func 14) [(.tmp 10)]⟩),
 (7, 0, ⟨none, .addr (some 12) (.tmp 2) 1⟩),
 (8, 0, ⟨none, .ld (some 13) (.tmp 12) 1 false⟩),
 (9, 0, ⟨none, .addr (some 14) (.tmp 3) 1⟩),
 (10, 0, ⟨none, .ld (some 15) (.tmp 14) 1 false⟩),
 (11, 0, ⟨none, .bslice (some 16) 23 1 2 [(.slice none 0 0), (.slice none 0 0)] [(0, 1, (.tmp 13)), (1, 1, (.tmp 15))]⟩),
 (12, 0, ⟨none, .call (some 17) (.func 15) [(.tmp 16)]⟩),
 (13, 0, ⟨none, .call (some 18) (.func 14) [(.tmp 17)]⟩),
 (14, 0, ⟨none, .build (some 19) [(.slice none 0 0), (.slice none 0 0)] [(0, 1, (.tmp 11)), (1, 1, (.tmp 18))]⟩),
 (15, 0, ⟨none, .st none (.tmp 4) (.tmp 19) 2⟩)])
 (K.ret))
theorem cTJoin : compile Tryd.prog Tryd.f7.ntmps (Tryd.f7.body.getD .skip) = some KTJoin.erase := by kernel_rfl
@[simp] theorem calTJoin : callable Tryd.prog 7 = true := by kernel_rfl
-- splicery/trace.Asks · results ["4"]
def KAsks : K :=
 K.seq (K.ops [⟨none, .box (some 2) (.tmp 0)⟩,
 ⟨none, .mov (some 4) (.const (.bool false))⟩])
 (K.seq (K.ops [⟨none, .mop (some 8) (.mk 3) []⟩,
 ⟨none, .alloc (some 5) [(.map none)]⟩,
 ⟨none, .st none (.tmp 5) (.tmp 8) 1⟩])
 (K.seq (K.seq (K.ops [⟨none, .addr (some 9) (.tmp 2) 0⟩,
 ⟨none, .ld (some 10) (.tmp 9) 1 false⟩,
 ⟨none, .addr (some 11) (.tmp 2) 1⟩,
 ⟨none, .ld (some 12) (.tmp 11) 1 false⟩,
 ⟨none, .bslice (some 13) 23 1 2 [(.slice none 0 0), (.slice none 0 0)] [(0, 1, (.tmp 10)), (1, 1, (.tmp 12))]⟩,
 ⟨none, .call (some 14) (.func 15) [(.tmp 13)]⟩,
 ⟨none, .len (some 15) false (.tmp 14)⟩,
 ⟨none, .mov (some 16) (.const (.int .i64 0))⟩])
 (K.block 0 (K.loop (K.seq (K.ops [⟨none, .bin (some 17) .lss (.tmp 16) (.tmp 15)⟩])
 (K.seq (K.cond (.tmp 17)
 (K.skip)
 (K.exit 0))
 (K.seq (K.block 1 (K.seq (K.ops [⟨none, .idx (some 18) (.tmp 14) (.tmp 16) 3⟩,
 ⟨none, .ld (some 19) (.tmp 18) 3 true⟩,
 ⟨none, .alloc (some 7) [(.int .i64 0), (.int .i64 0), (.int .i64 0)]⟩,
 ⟨none, .st none (.tmp 7) (.tmp 19) 3⟩])
 (K.ops [⟨none, .ld (some 20) (.tmp 5) 1 false⟩,
 ⟨none, .ld (some 21) (.tmp 7) 3 true⟩,
 ⟨none, .mop none (.set 3) [(.tmp 20), (.tmp 21), (.const (.bool true))]⟩])))
 (K.ops [⟨none, .bin (some 22) .add (.tmp 16) (.const (.int .i64 1))⟩,
 ⟨none, .mov (some 16) (.tmp 22)⟩])))))))
 (K.seq (K.ops [⟨none, .mov (some 23) (.tmp 1)⟩,
 ⟨none, .clo (some 24) 18 [] [(.tmp 5)]⟩,
 ⟨none, .call (some 25) (.func 17) [(.tmp 23), (.tmp 24)]⟩,
 ⟨none, .mov (some 4) (.tmp 25)⟩])
 (K.ret))))
theorem cAsks : compile Tryd.prog Tryd.f9.ntmps (Tryd.f9.body.getD .skip) = some KAsks.erase := by kernel_rfl
@[simp] theorem calAsks : callable Tryd.prog 9 = true := by kernel_rfl
-- splicery/trace.Asks$1 · results ["3"]
def KAsksC : K :=
 K.seq (K.ops [⟨none, .box (some 2) (.tmp 0)⟩,
 ⟨none, .mov (some 3) (.const (.bool false))⟩])
 (K.seq (K.ops [⟨none, .ld (some 4) (.tmp 1) 1 false⟩,
 ⟨none, .ld (some 5) (.tmp 2) 3 true⟩,
 ⟨none, .mop (some 6) (.get 3 (.bool false) false) [(.tmp 4), (.tmp 5)]⟩,
 ⟨none, .mov (some 3) (.tmp 6)⟩])
 (K.ret))
theorem cAsksC : compile Tryd.prog Tryd.f18.ntmps (Tryd.f18.body.getD .skip) = some KAsksC.erase := by kernel_rfl
@[simp] theorem calAsksC : callable Tryd.prog 18 = true := by kernel_rfl
-- slices.IndexFunc[[]splicery/api.ID,splicery/api.ID] · results ["4"]
def KIndexF : K :=
 K.seq (K.ops [⟨none, .mov (some 4) (.const (.int .i64 0))⟩])
 (K.seq (K.seq (K.ops [⟨none, .mov (some 6) (.tmp 0)⟩,
 ⟨none, .len (some 7) false (.tmp 6)⟩,
 ⟨none, .mov (some 8) (.const (.int .i64 0))⟩])
 (K.block 0 (K.loop (K.seq (K.ops [⟨none, .bin (some 9) .lss (.tmp 8) (.tmp 7)⟩])
 (K.seq (K.cond (.tmp 9)
 (K.skip)
 (K.exit 0))
 (K.seq (K.block 1 (K.seq (K.ops [⟨none, .mov (some 10) (.tmp 8)⟩,
 ⟨none, .mov (some 5) (.tmp 10)⟩])
 (K.seq (K.ops [⟨none, .mov (some 11) (.tmp 1)⟩,
 ⟨none, .mov (some 12) (.tmp 0)⟩,
 ⟨none, .mov (some 13) (.tmp 5)⟩,
 ⟨none, .idx (some 14) (.tmp 12) (.tmp 13) 3⟩,
 ⟨none, .ld (some 15) (.tmp 14) 3 true⟩,
 ⟨none, .call (some 16) (.tmp 11) [(.tmp 15)]⟩])
 (K.cond (.tmp 16)
 (K.seq (K.ops [⟨none, .mov (some 17) (.tmp 5)⟩,
 ⟨none, .mov (some 4) (.tmp 17)⟩])
 (K.ret))
 (K.skip)))))
 (K.ops [⟨none, .bin (some 18) .add (.tmp 8) (.const (.int .i64 1))⟩,
 ⟨none, .mov (some 8) (.tmp 18)⟩])))))))
 (K.seq (K.ops [⟨none, .mov (some 4) (.const (.int .i64 (-1)))⟩])
 (K.ret)))
theorem cIndexF : compile Tryd.prog Tryd.f31.ntmps (Tryd.f31.body.getD .skip) = some KIndexF.erase := by kernel_rfl
@[simp] theorem calIndexF : callable Tryd.prog 31 = true := by kernel_rfl
-- slices.ContainsFunc[[]splicery/api.ID,splicery/api.ID] · results ["4"]
def KContF : K :=
 K.seq (K.ops [⟨none, .mov (some 4) (.const (.bool false))⟩])
 (K.seq (K.ops [⟨none, .mov (some 5) (.tmp 0)⟩,
 ⟨none, .mov (some 6) (.tmp 1)⟩,
 ⟨none, .call (some 7) (.func 31) [(.tmp 5), (.tmp 6)]⟩,
 ⟨none, .bin (some 8) .geq (.tmp 7) (.const (.int .i64 0))⟩,
 ⟨none, .mov (some 4) (.tmp 8)⟩])
 (K.ret))
theorem cContF : compile Tryd.prog Tryd.f17.ntmps (Tryd.f17.body.getD .skip) = some KContF.erase := by kernel_rfl
@[simp] theorem calContF : callable Tryd.prog 17 = true := by kernel_rfl

theorem join_ok (a b : Trc) (h1 : a.defs.length + b.defs.length ≤ 1000000) (h2 : a.nodes.length + b.nodes.length ≤ 1000000) :
    Ret Tryd.prog 7 [.agg (encTr a), .agg (encTr b)] [] (.agg (encTr ⟨setD (a.defs ++ b.defs), setD (a.nodes ++ b.nodes)⟩)) [] := by
  refine ret_of_wp Tryd.func7 rfl cTJoin (rs := [.cell 4 2 true]) (by kernel_rfl) ?_
  unfold KTJoin
  have e1 : [a.defs, b.defs].flatten = a.defs ++ b.defs := by simp
  have e2 : [a.nodes, b.nodes].flatten = a.nodes ++ b.nodes := by simp
  simp -implicitDefEqProofs [encTr]
  refine dcall0 (concatIds_ok [a.defs, b.defs] (by rw [totL, e1, List.length_append]; exact h1)) (by simp [cellsL]) (by simp) ?_
  rw [totL, e1]
  simp -implicitDefEqProofs
  refine dcall0 (set_ok (a.defs ++ b.defs) (by rw [List.length_append]; exact h1)) (by simp) (by simp) ?_
  simp -implicitDefEqProofs
  refine dcall0 (concatIds_ok [a.nodes, b.nodes] (by rw [totL, e2, List.length_append]; exact h2)) (by simp [cellsL]) (by simp) ?_
  rw [totL, e2]
  simp -implicitDefEqProofs
  refine dcall0 (set_ok (a.nodes ++ b.nodes) (by rw [List.length_append]; exact h2)) (by simp) (by simp) ?_
  simp -implicitDefEqProofs
  exact ret_end 0 (by simp)

/-- A set of IDs as a map. -/
def mapS (l : List Id) : List (List Int × A) := l.foldl (fun es d => putI (keyI d) (.lit (.bool true)) es) []
theorem mapS_snoc (l : List Id) (x : Id) : mapS (l ++ [x]) = putI (keyI x) (.lit (.bool true)) (mapS l) := by simp [mapS, List.foldl_append]
theorem keyI_inj {x y : Id} : keyI x = keyI y ↔ x = y := by simp [keyI, Id.eq_iff]
theorem findI_put {ks ks' : List Int} {v : A} : ∀ (es : List (List Int × A)), findI ks (putI ks' v es) = if ks' = ks then some v else findI ks es
  | [] => by simp [putI, findI]
  | p :: es => by
    simp only [putI]
    by_cases h : p.1 = ks'
    · simp only [h, if_true, findI]
      by_cases h' : ks' = ks <;> simp [h']
    · simp only [h, if_false, findI]
      by_cases h' : p.1 = ks
      · simp only [h', if_true]
        have : ¬ ks' = ks := fun e => h (h'.trans e.symm)
        simp [this]
      · simp only [h', if_false, findI_put es]
theorem findI_mapS (x : Id) (l : List Id) : findI (keyI x) (mapS l) = if x ∈ l then some (.lit (.bool true)) else none := by
  induction l using snocRec with
  | nil => simp [mapS, findI]
  | snoc l y ih =>
    rw [mapS_snoc, findI_put, ih]
    by_cases h : y = x
    · subst h; simp
    · have : ¬ keyI y = keyI x := fun e => h (keyI_inj.1 e)
      have h' : ¬ x = y := fun e => h e.symm
      simp [this, h']
theorem mapS_bnd (l : List Id) (k : Nat) : ∀ p ∈ mapS l, p.2.bnd k = true := by
  induction l using snocRec with
  | nil => simp [mapS]
  | snoc l y ih =>
    rw [mapS_snoc]
    have : ∀ es : List (List Int × A), (∀ p ∈ es, p.2.bnd k = true) → ∀ p ∈ putI (keyI y) (.lit (.bool true)) es, p.2.bnd k = true := by
      intro es
      induction es with
      | nil => intro _ p hp; simp [putI] at hp; subst hp; rfl
      | cons q es ih =>
        intro h p hp
        simp only [putI] at hp
        split at hp
        · rcases List.mem_cons.1 hp with rfl | hp
          · rfl
          · exact h p (List.mem_cons_of_mem _ hp)
        · rcases List.mem_cons.1 hp with rfl | hp
          · exact h _ (List.mem_cons_self ..)
          · exact ih (fun p hp => h p (List.mem_cons_of_mem _ hp)) p hp
    exact this _ ih
@[simp] theorem mapS_vw {rf : Bool → Nat → Nat → A} {g : Nat → Option Nat} (l : List Id) : ((mapS l).map fun p => (p.1, vw rf g p.2)) = mapS l := by
  have h := mapS_bnd l 0
  generalize mapS l = es at h
  induction es with
  | nil => rfl
  | cons p es ih =>
    rw [List.map_cons, ih fun q hq => h q (List.mem_cons_of_mem _ hq), vw_bnd (k := 0) (fun l hl => by omega) p.2 (h p (List.mem_cons_self ..))]

theorem asks1_ok (l : List Id) (x : Id) : Ret Tryd.prog 18 [.agg (encI x), .ptr 0 0] [.box [.map 1], .mp true 3 (mapS l)] (bl (decide (x ∈ l))) [.box [.map 1], .mp true 3 (mapS l)] := by
  refine ret_of_wp Tryd.func18 rfl cAsksC (rs := [.slot 3]) (by kernel_rfl) ?_
  unfold KAsksC
  have hf := findI_mapS x l
  simp only [keyI] at hf
  simp -implicitDefEqProofs [encI]
  have hr : getR (Value.bool false) false (findI [x.a, x.b, x.c] (mapS l)) = .lit (.bool (decide (x ∈ l))) := by
    rw [hf]
    by_cases h : x ∈ l <;> simp [getR, h, ofConst, ofCell]
  rw [hr]
  exact ret_keep [0, 1] 0 (by decide) (by simp) (by simp) (by simp)

/-- The first place at which something is in a list. -/
def idxI (l ids : List Id) : Int := match ids.findIdx? (fun x => decide (x ∈ l)) with
  | some i => i
  | none => -1
theorem idxI_nonneg (l ids : List Id) : decide (0 ≤ idxI l ids) = ids.any fun x => decide (x ∈ l) := by
  unfold idxI
  cases h : ids.findIdx? (fun x => decide (x ∈ l)) with
  | none =>
    rw [List.findIdx?_eq_none_iff] at h
    have : (ids.any fun x => decide (x ∈ l)) = false := by rw [List.any_eq_false]; exact fun x hx => by simpa using h x hx
    rw [this]; rfl
  | some i =>
    have h' := List.findIdx?_eq_some_iff_getElem.1 h
    obtain ⟨hi, h1, _⟩ := h'
    have : (ids.any fun x => decide (x ∈ l)) = true := by rw [List.any_eq_true]; exact ⟨_, List.getElem_mem hi, h1⟩
    rw [this]; simp
theorem indexF_ok (l ids : List Id) : Ret Tryd.prog 31 [.sl ids.length (cellsI ids), .clo 18 [] [.ptr 0 0]] [.box [.map 1], .mp true 3 (mapS l)] (int (idxI l ids)) [.box [.map 1], .mp true 3 (mapS l)] := by
  refine ret_of_wp Tryd.func31 rfl cIndexF (rs := [.slot 4]) (by kernel_rfl) ?_
  unfold KIndexF
  simp -implicitDefEqProofs
  intro hl
  refine loopS (S := Nat) (fun i => [(0, .sl ids.length (cellsI ids)), (1, .clo 18 [] [.ptr 0 0]), (7, int ids.length), (8, int i)]) (fun i => [.box [.map 1], .mp true 3 (mapS l)]) (fun i => i ≤ ids.length ∧ ∀ x ∈ ids.take i, x ∉ l) (fun i => ids.length - i) 0 (by simp)
    (selW [0, 1] 0 (by decide) (by simp) (by simp) (by simp)) ?_
  rintro i ⟨hi, hn⟩
  by_cases h : i < ids.length
  · simp -implicitDefEqProofs [h, cellsI_drop h]
    refine callJ (asks1_ok l ids[i]) [0, 1] (by simp) (by simp) (by simp [encI]) ?_
    simp -implicitDefEqProofs
    by_cases hx : ids[i] ∈ l
    · have : idxI l ids = i := by
        unfold idxI
        rw [List.findIdx?_eq_some_iff_getElem.2 ⟨h, by simpa using hx, fun j hj => by
          have := hn ids[j] (by rw [List.mem_take_iff_getElem]; exact ⟨j, by omega, rfl⟩)
          simpa using this⟩]
      simp -implicitDefEqProofs [hx]
      exact ret_keep [0, 1] 0 (by decide) (by simp) (by simp) (by simp [this])
    · simp -implicitDefEqProofs [hx]
      exact roundS (i + 1) ⟨h, fun x hx' => by
        rw [List.take_succ_eq_append_getElem h] at hx'
        rcases List.mem_append.1 hx' with hx' | hx'
        · exact hn x hx'
        · rw [List.mem_singleton.1 hx']; exact hx⟩ (by omega) (selW [0, 1] 0 (by decide) (by simp) (by simp) (by simp [wrap_succ h hl]))
  · have : i = ids.length := by omega
    subst this
    rw [List.take_length] at hn
    have : idxI l ids = -1 := by
      unfold idxI
      rw [List.findIdx?_eq_none_iff.2 fun x hx => by simpa using hn x hx]
    simp -implicitDefEqProofs
    exact ret_keep [0, 1] 0 (by decide) (by simp) (by simp) (by simp [this])
theorem contF_ok (l ids : List Id) : Ret Tryd.prog 17 [.sl ids.length (cellsI ids), .clo 18 [] [.ptr 0 0]] [.box [.map 1], .mp true 3 (mapS l)] (bl (ids.any fun x => decide (x ∈ l))) [.box [.map 1], .mp true 3 (mapS l)] := by
  refine ret_of_wp Tryd.func17 rfl cContF (rs := [.slot 4]) (by kernel_rfl) ?_
  unfold KContF
  simp -implicitDefEqProofs
  refine callJ (indexF_ok l ids) [0, 1] (by simp) (by simp) (by simp) ?_
  simp -implicitDefEqProofs
  exact ret_keep [0, 1] 0 (by decide) (by simp) (by simp) (by rw [← idxI_nonneg]; simp)

theorem asks_ok (t : Trc) (ids l : List Id) (hl : l = t.defs ++ t.nodes) (h : l.length ≤ 1000000) : Ret Tryd.prog 9 [.agg (encTr t), .sl ids.length (cellsI ids)] [] (bl (ids.any fun x => decide (x ∈ l))) [] := by
  refine ret_of_wp Tryd.func9 rfl cAsks (rs := [.slot 4]) (by kernel_rfl) ?_
  unfold KAsks
  have e1 : [t.defs, t.nodes].flatten = l := by simp [hl]
  simp -implicitDefEqProofs [encTr]
  refine call0 (concatIds_ok [t.defs, t.nodes] (by rw [totL, e1]; exact h)) (by simp [cellsL]) (by simp) ?_
  rw [totL, e1]
  simp -implicitDefEqProofs
  intro hlm
  refine loopS (S := Nat) (fun i => [(1, .sl ids.length (cellsI ids)), (5, .ptr 0 0), (14, .sl l.length (cellsI l)), (15, int l.length), (16, int i)]) (fun i => [.box [.map 1], .mp true 3 (mapS (l.take i))]) (fun i => i ≤ l.length) (fun i => l.length - i) 0 (by simp)
    (selW [2, 1] 0 (by simp) (by simp) (by simp [mapS]) (by simp)) ?_
  intro i hi
  by_cases h : i < l.length
  · have hs := mapS_snoc (l.take i) l[i]
    rw [← List.take_succ_eq_append_getElem h, keyI] at hs
    simp -implicitDefEqProofs [h, cellsI_drop h]
    rw [← hs]
    exact roundS (i + 1) h (by omega) (selW [0, 1] 0 (by simp) (by simp) (by simp) (by simp [wrap_succ h hlm]))
  · have : i = l.length := by omega
    subst this
    simp -implicitDefEqProofs
    refine callJ (contF_ok l ids) [0, 1] (by simp) (by simp) (by simp) ?_
    simp -implicitDefEqProofs
    exact ret_end 0 (by simp)
end Go.Proofs.YthglhccibdlccaaDoor
