/-
  trace.read: the first definition and the first node of each ID.
  The maker's functions without recursion.
-/
import Derived.Test.YthglhccibdlccaaGreatDoorX26
import Derived.Test.YthglhccibdlccaaGreatDoorX27
set_option linter.unusedVariables false
set_option linter.unusedSimpArgs false
namespace Go.Proofs.YthglhccibdlccaaGreatDoor
open Go.Abs
def KRead : K :=
 K.seq (K.ops [kO 1 0,
 kZ 2 [(.map none), (.map none)]])
 (K.seq (K.ops [⟨none, .mop (some 9) (.mk 3) []⟩,
 ⟨none, .mop (some 10) (.mk 3) []⟩,
 ⟨none, .build (some 11) [(.map none), (.map none)] [(0, 1, (.tmp 9)), (1, 1, (.tmp 10))]⟩,
 kZ 3 [(.map none), (.map none)],
 kS 3 11 2])
 (K.seq (K.ops [kZ 4 [.nilFunc]])
 (K.seq (K.ops [⟨none, .clo (some 12) 103 [] [(.tmp 3), (.tmp 4)]⟩,
 kS 4 12 1])
 (K.seq (K.seq (K.ops [kA 13 1 1,
 kL 14 13 1,
 kN 15 14,
 kMi 16 0])
 (K.block 0 (K.loop (K.seq (K.ops [kB 17 16 15 .lss])
 (K.seq (K.cond (.tmp 17)
 (K.skip)
 (K.exit 0))
 (K.seq (K.block 1 (K.seq (K.ops [kX 18 14 16 31,
 kG 19 18 31,
 kZ 6 kz0,
 kS 6 19 31])
 (K.seq (K.seq (K.ops [kA 21 3 0,
 kL 22 21 1,
 kA 23 6 0,
 kG 24 23 3,
 ⟨none, .mop (some 25) (.get 3 (.agg #[(.int .i64 0), (.int .i64 0), (.int .i64 0), (.int .i64 0), (.int .i64 0), (.int .i64 0), (.int .i64 0), (.string ⟨#[]⟩), (.slice none 0 0), (.int .i64 0), (.int .i64 0), (.int .i64 0), (.int .i64 0), (.slice none 0 0), (.int .i64 0), (.int .i64 0), (.int .i64 0), (.int .i64 0), (.int .i64 0), (.int .i64 0), (.int .i64 0), (.int .i64 0), (.int .i64 0), (.int .i64 0), (.int .i64 0), (.int .i64 0), (.slice none 0 0), (.slice none 0 0), (.slice none 0 0), (.int .i64 0), (.slice none 0 0)]) true) [(.tmp 22), (.tmp 24)]⟩,
 kM 20 25,
 kE 26 20 0,
 kE 27 20 1,
 kZ 7 kz0,
 kS 7 26 31,
 kM 8 27])
 (K.seq (K.ops [kM 28 8,
 kR 29 28])
 (K.cond (.tmp 29)
 (K.ops [kA 30 3 0,
 kL 31 30 1,
 kA 32 6 0,
 kG 33 32 3,
 kG 34 6 31,
 ⟨none, .mop none (.set 3) [(.tmp 31), (.tmp 33), (.tmp 34)]⟩])
 (K.skip))))
 (K.seq (K.ops [kG 35 6 31,
 kC 36 43 [(.tmp 35)]])
 (K.cond (.tmp 36)
 (K.ops [kL 37 4 1,
 kA 38 6 14,
 kG 39 38 15,
 ⟨none, .call (some 40) (.tmp 37) [(.tmp 39)]⟩])
 (K.skip))))))
 (K.ops [kBi 41 16 1 .add,
 kM 16 41])))))))
 (K.seq (K.ops [kG 42 3 2,
 kS 2 42 2])
 (K.ret))))))
theorem cRead : compile Tryz.prog Tryz.f55.ntmps (Tryz.f55.body.getD .skip) = some KRead.erase := by kernel_rfl
@[simp] theorem calRead : callable Tryz.prog 55 = true := by kernel_rfl
def KVisit : K :=
 K.seq (K.ops [kO 3 0])
 (K.seq (K.seq (K.ops [kA 9 1 1,
 kL 10 9 1,
 kA 11 3 0,
 kG 12 11 3,
 ⟨none, .mop (some 13) (.get 3 (.agg #[(.int .i64 0), (.int .i64 0), (.int .i64 0), (.int .i64 0), (.int .i64 0), (.int .i64 0), (.int .i64 0), (.int .i64 0), (.int .i64 0), (.int .i64 0), (.int .i64 0), (.int .i64 0), (.slice none 0 0), (.slice none 0 0), (.slice none 0 0)]) true) [(.tmp 10), (.tmp 12)]⟩,
 kM 8 13,
 kE 14 8 0,
 kE 15 8 1,
 kZ 4 kz1,
 kS 4 14 15,
 kM 5 15])
 (K.seq (K.ops [kM 16 5,
 kR 17 16])
 (K.cond (.tmp 17)
 (K.ops [kA 18 1 1,
 kL 19 18 1,
 kA 20 3 0,
 kG 21 20 3,
 kG 22 3 15,
 ⟨none, .mop none (.set 3) [(.tmp 19), (.tmp 21), (.tmp 22)]⟩])
 (K.skip))))
 (K.seq (K.ops [kA 23 3 13,
 kL 24 23 1,
 kN 25 24,
 kMi 26 0])
 (K.block 0 (K.loop (K.seq (K.ops [kB 27 26 25 .lss])
 (K.seq (K.cond (.tmp 27)
 (K.skip)
 (K.exit 0))
 (K.seq (K.block 1 (K.seq (K.ops [kX 28 24 26 15,
 kG 29 28 15,
 kZ 7 kz1,
 kS 7 29 15])
 (K.ops [kL 30 2 1,
 kG 31 7 15,
 ⟨none, .call (some 32) (.tmp 30) [(.tmp 31)]⟩])))
 (K.ops [kBi 33 26 1 .add,
 kM 26 33]))))))))
theorem cVisit : compile Tryz.prog Tryz.f103.ntmps (Tryz.f103.body.getD .skip) = some KVisit.erase := by kernel_rfl
@[simp] theorem calVisit : callable Tryz.prog 103 = true := by kernel_rfl
def zE : List A := [.lit (.int .i64 0), .lit (.int .i64 0), .lit (.int .i64 0), .lit (.int .i64 0), .lit (.int .i64 0), .lit (.int .i64 0), .lit (.int .i64 0), .lit (.int .i64 0), .lit (.int .i64 0), .lit (.int .i64 0), .lit (.int .i64 0), .lit (.int .i64 0), .nil, .nil, .nil]
def zD : List A := [.lit (.int .i64 0), .lit (.int .i64 0), .lit (.int .i64 0), .lit (.int .i64 0), .lit (.int .i64 0), .lit (.int .i64 0), .lit (.int .i64 0), .lit (.string ⟨#[]⟩), .nil, .lit (.int .i64 0), .lit (.int .i64 0), .lit (.int .i64 0), .lit (.int .i64 0), .nil, .lit (.int .i64 0), .lit (.int .i64 0), .lit (.int .i64 0), .lit (.int .i64 0), .lit (.int .i64 0), .lit (.int .i64 0), .lit (.int .i64 0), .lit (.int .i64 0), .lit (.int .i64 0), .lit (.int .i64 0), .lit (.int .i64 0), .lit (.int .i64 0), .nil, .nil, .nil, .lit (.int .i64 0), .nil]
@[simp] theorem getR_some {z : Value} {a : A} : getR z true (some a) = .tup [a, .lit (.bool true)] := rfl
@[simp] theorem getR_noneE : getR (.agg #[(.int .i64 0), (.int .i64 0), (.int .i64 0), (.int .i64 0), (.int .i64 0), (.int .i64 0), (.int .i64 0), (.int .i64 0), (.int .i64 0), (.int .i64 0), (.int .i64 0), (.int .i64 0), (.slice none 0 0), (.slice none 0 0), (.slice none 0 0)]) true none = .tup [.agg zE, .lit (.bool false)] := by kernel_rfl
@[simp] theorem getR_noneD : getR (.agg #[(.int .i64 0), (.int .i64 0), (.int .i64 0), (.int .i64 0), (.int .i64 0), (.int .i64 0), (.int .i64 0), (.string ⟨#[]⟩), (.slice none 0 0), (.int .i64 0), (.int .i64 0), (.int .i64 0), (.int .i64 0), (.slice none 0 0), (.int .i64 0), (.int .i64 0), (.int .i64 0), (.int .i64 0), (.int .i64 0), (.int .i64 0), (.int .i64 0), (.int .i64 0), (.int .i64 0), (.int .i64 0), (.int .i64 0), (.int .i64 0), (.slice none 0 0), (.slice none 0 0), (.slice none 0 0), (.int .i64 0), (.slice none 0 0)]) true none = .tup [.agg zD, .lit (.bool false)] := by kernel_rfl
@[simp] theorem zE_len : zE.length = 15 := rfl
@[simp] theorem zD_len : zD.length = 31 := rfl
def mapL {α : Type} (idf : α → Id) (enc : α → List A) (l : List α) : List (List Int × A) := l.map fun x => (keyI (idf x), .agg (enc x))
def hasL {α : Type} (idf : α → Id) (l : List α) (i : Id) : Option α := l.find? fun x => decide (idf x = i)
theorem findI_mapL {α : Type} {idf : α → Id} {enc : α → List A} {i : Id} : ∀ (l : List α), findI (keyI i) (mapL idf enc l) = (hasL idf l i).map fun x => .agg (enc x)
  | [] => rfl
  | x :: l => by
    simp only [mapL, List.map_cons, findI, hasL, List.find?_cons]
    by_cases h : idf x = i
    · simp [h]
    · have h' : ¬ keyI (idf x) = keyI i := fun e => h (keyI_inj.1 e)
      simp only [h', if_false, h, decide_false]
      exact findI_mapL l
theorem putI_mapL {α : Type} {idf : α → Id} {enc : α → List A} {x : α} : ∀ (l : List α), hasL idf l (idf x) = none → putI (keyI (idf x)) (.agg (enc x)) (mapL idf enc l) = mapL idf enc (l ++ [x])
  | [], _ => rfl
  | y :: l, h => by
    simp only [hasL, List.find?_cons] at h
    split at h
    · cases h
    · rename_i hy
      have h' : ¬ keyI (idf y) = keyI (idf x) := fun e => by
        have := keyI_inj.1 e
        simp [this] at hy
      simp only [mapL, List.map_cons, putI, h', if_false, List.cons_append]
      congr 1
      exact putI_mapL l h
@[simp] theorem mapL_vw {α : Type} {idf : α → Id} {enc : α → List A} {rf : Bool → Nat → Nat → A} {g : Nat → Option Nat} (hp : ∀ x, Plain (enc x)) (l : List α) : ((mapL idf enc l).map fun p => (p.1, vw rf g p.2)) = mapL idf enc l := by
  simp only [mapL, List.map_map]
  refine List.map_congr_left fun x _ => ?_
  simp [(hp x).2]
@[simp] theorem mapE_vw {rf : Bool → Nat → Nat → A} {g : Nat → Option Nat} (l : List Exp) : ((mapL Exp.id encE l).map fun p => (p.1, vw rf g p.2)) = mapL Exp.id encE l := mapL_vw encE_plain l
@[simp] theorem mapD_vw {rf : Bool → Nat → Nat → A} {g : Nat → Option Nat} (l : List Dfn) : ((mapL Dfn.id encD l).map fun p => (p.1, vw rf g p.2)) = mapL Dfn.id encD l := mapL_vw encD_plain l
def insL {α : Type} (idf : α → Id) (l : List α) (x : α) : List α := if (hasL idf l (idf x)).isSome then l else l ++ [x]
mutual
def visE : Exp → List Exp → List Exp
  | .mk i k n r t l nm, N => visEs l (insL Exp.id N (.mk i k n r t l nm))
def visEs : List Exp → List Exp → List Exp
  | [], N => N
  | e :: l, N => visEs l (visE e N)
end
theorem visE_def (e : Exp) (N : List Exp) : visE e N = visEs e.kids (insL Exp.id N e) := by cases e; simp only [visE, Exp.kids]
theorem visEs_snoc (x : Exp) : ∀ (l : List Exp) (N : List Exp), visEs (l ++ [x]) N = visE x (visEs l N)
  | [], N => by simp only [List.nil_append, visEs]
  | e :: l, N => by simp only [List.cons_append, visEs, visEs_snoc x l]
def visS (D : List Dfn) (N : List Exp) : St := [.box [.map 2, .map 3], .box [.clo 103 [] [.ptr 0 0, .ptr 1 0]], .mp true 3 (mapL Dfn.id encD D), .mp true 3 (mapL Exp.id encE N)]
mutual
theorem visit_ok : ∀ (e : Exp) (D : List Dfn) (N : List Exp), Ret Tryz.prog 103 [.agg (encE e), .ptr 0 0, .ptr 1 0] (visS D N) (.tup []) (visS D (visE e N))
  | .mk i k n r t l nm, D, N => by
    have ih := visits_ok l
    generalize ha : Exp.mk i k n r t l nm = e
    have hal : e.kids = l := by rw [← ha]; rfl
    rw [← hal] at ih
    refine ret_of_wp Tryz.func103 rfl cVisit (rs := []) (by kernel_rfl) ?_
    unfold KVisit
    have hf := findI_mapL (i := e.id) (enc := encE) (idf := Exp.id) N
    simp only [keyI] at hf
    cases hh : hasL Exp.id N e.id with
    | some x =>
      rw [hh] at hf
      simp only [Option.map_some] at hf
      have hins : insL Exp.id N e = N := by simp [insL, hh]
      simp -implicitDefEqProofs [visS, encE, hf]
      intro hl
      refine loopS (S := Nat) (fun i => [(1, .ptr 0 0), (2, .ptr 1 0), (24, .sl e.kids.length (cellsE e.kids)), (25, int e.kids.length), (26, int i)]) (fun i => visS D (visEs (e.kids.take i) (insL Exp.id N e))) (fun i => i ≤ e.kids.length) (fun i => e.kids.length - i) 0 (by simp)
        (selW [0, 1, 2, 3] 0 (by decide) (by simp) (by simp [visS, visEs, hins]) (by simp)) ?_
      intro i hi
      by_cases h : i < e.kids.length
      · have hlt : i * 15 < e.kids.length * 15 := by omega
        have hsn := visEs_snoc e.kids[i] (e.kids.take i) (insL Exp.id N e)
        rw [← List.take_succ_eq_append_getElem h] at hsn
        simp -implicitDefEqProofs [visS, h, cellsE_drop h, encE]
        refine callJ (ih e.kids[i] (List.getElem_mem h) D (visEs (e.kids.take i) (insL Exp.id N e))) [0, 1, 2, 3] (by simp) (by simp [visS]) (by simp [encE]) ?_
        simp -implicitDefEqProofs [visS]
        exact roundS (i + 1) h (by omega) (selW [0, 1, 2, 3] 0 (by decide) (by simp) (by simp [visS, hsn]) (by simp [wrap_succ h hl]))
      · have hil : i = e.kids.length := by omega
        subst hil
        rw [List.take_length, ← visE_def]
        simp -implicitDefEqProofs [visS]
        exact ret_keep [0, 1, 2, 3] 0 (by decide) (by simp) (by simp) (by simp)
    | none =>
      rw [hh] at hf
      simp only [Option.map_none] at hf
      have hp := putI_mapL (enc := encE) (idf := Exp.id) (x := e) N hh
      simp only [keyI] at hp
      have hins : insL Exp.id N e = N ++ [e] := by simp [insL, hh]
      simp only [encE] at hp
      simp -implicitDefEqProofs [visS, encE, hf, hp]
      intro hl
      refine loopS (S := Nat) (fun i => [(1, .ptr 0 0), (2, .ptr 1 0), (24, .sl e.kids.length (cellsE e.kids)), (25, int e.kids.length), (26, int i)]) (fun i => visS D (visEs (e.kids.take i) (insL Exp.id N e))) (fun i => i ≤ e.kids.length) (fun i => e.kids.length - i) 0 (by simp)
        (selW [0, 1, 2, 3] 0 (by decide) (by simp) (by simp [visS, visEs, hins]) (by simp)) ?_
      intro i hi
      by_cases h : i < e.kids.length
      · have hlt : i * 15 < e.kids.length * 15 := by omega
        have hsn := visEs_snoc e.kids[i] (e.kids.take i) (insL Exp.id N e)
        rw [← List.take_succ_eq_append_getElem h] at hsn
        simp -implicitDefEqProofs [visS, h, cellsE_drop h, encE]
        refine callJ (ih e.kids[i] (List.getElem_mem h) D (visEs (e.kids.take i) (insL Exp.id N e))) [0, 1, 2, 3] (by simp) (by simp [visS]) (by simp [encE]) ?_
        simp -implicitDefEqProofs [visS]
        exact roundS (i + 1) h (by omega) (selW [0, 1, 2, 3] 0 (by decide) (by simp) (by simp [visS, hsn]) (by simp [wrap_succ h hl]))
      · have hil : i = e.kids.length := by omega
        subst hil
        rw [List.take_length, ← visE_def]
        simp -implicitDefEqProofs [visS]
        exact ret_keep [0, 1, 2, 3] 0 (by decide) (by simp) (by simp) (by simp)
theorem visits_ok : ∀ (l : List Exp), ∀ x ∈ l, ∀ (D : List Dfn) (N : List Exp), Ret Tryz.prog 103 [.agg (encE x), .ptr 0 0, .ptr 1 0] (visS D N) (.tup []) (visS D (visE x N))
  | [], x, hx, _, _ => by simp at hx
  | z :: l, x, hx, D, N => by
    rcases List.mem_cons.1 hx with e | hx
    · rw [e]; exact visit_ok z D N
    · exact visits_ok l x hx D N
end
def fstD (l : List Dfn) : List Dfn := l.foldl (insL Dfn.id) []
def nodS (N : List Exp) (d : Dfn) : List Exp := if bodK d.kind then visE d.body N else N
def nodD (l : List Dfn) : List Exp := l.foldl nodS []
theorem fstD_succ {l : List Dfn} {i : Nat} (h : i < l.length) : fstD (l.take (i + 1)) = insL Dfn.id (fstD (l.take i)) l[i] := by
  rw [fstD, List.take_succ_eq_append_getElem h, List.foldl_append]; rfl
theorem nodD_succ {l : List Dfn} {i : Nat} (h : i < l.length) : nodD (l.take (i + 1)) = nodS (nodD (l.take i)) l[i] := by
  rw [nodD, List.take_succ_eq_append_getElem h, List.foldl_append]; rfl
set_option maxRecDepth 100000 in
theorem read_ok (p : Prg) : Ret Tryz.prog 55 [.agg (encP p)] [] (.agg [.map 0, .map 1]) [.mp true 3 (mapL Dfn.id encD (fstD p.defs)), .mp true 3 (mapL Exp.id encE (nodD p.defs))] := by
  refine ret_of_wp Tryz.func55 rfl cRead (rs := [.cell 2 2 true]) (by kernel_rfl) ?_
  unfold KRead
  simp -implicitDefEqProofs [encP]
  intro hl
  generalize p.defs = l at hl ⊢
  refine loopS (S := Nat) (fun i => [(2, .ptr 4 0), (3, .ptr 0 0), (4, .ptr 1 0), (14, .sl l.length (cellsD l)), (15, int l.length), (16, int i)]) (fun i => visS (fstD (l.take i)) (nodD (l.take i)) ++ [.box [.lit (.map none), .lit (.map none)]]) (fun i => i ≤ l.length) (fun i => l.length - i) 0 (by simp)
    (selW [4, 5, 2, 3, 1] 0 (by decide) (by simp) (by simp [visS, fstD, nodD, mapL]) (by simp)) ?_
  intro i hi
  by_cases h : i < l.length
  · have hlt : i * 31 < l.length * 31 := by omega
    have h1 := fstD_succ h
    have h2 := nodD_succ h
    generalize fstD (l.take i) = D at h1 ⊢
    generalize nodD (l.take i) = N at h2 ⊢
    generalize hd : l[i] = d at h1 h2
    have hcd := cellsD_drop h
    rw [hd] at hcd
    have hf := findI_mapL (i := d.id) (enc := encD) (idf := Dfn.id) D
    simp only [keyI] at hf
    cases hh : hasL Dfn.id D d.id with
    | some x =>
      rw [hh] at hf
      simp only [Option.map_some] at hf
      have hins : insL Dfn.id D d = D := by simp [insL, hh]
      rw [hins] at h1
      simp -implicitDefEqProofs [visS, h, hcd, encD, hf]
      refine call0 (bodied_ok d) (by simp [encD]) (by simp) ?_
      cases hb : bodK d.kind with
      | true =>
        rw [nodS, if_pos hb] at h2
        simp -implicitDefEqProofs
        refine callJ (visit_ok d.body D N) [0, 1, 2, 3] (by simp) (by simp [visS]) (by simp [encE]) ?_
        simp -implicitDefEqProofs [visS]
        exact roundS (i + 1) h (by omega) (selW [0, 1, 2, 3, 4] 0 (by decide) (by simp) (by simp [visS, h1, h2]) (by simp [wrap_succ h hl]))
      | false =>
        rw [nodS, if_neg (by simp [hb])] at h2
        simp -implicitDefEqProofs
        exact roundS (i + 1) h (by omega) (selW [0, 1, 2, 3, 4] 0 (by decide) (by simp) (by simp [visS, h1, h2]) (by simp [wrap_succ h hl]))
    | none =>
      rw [hh] at hf
      simp only [Option.map_none] at hf
      have hp := putI_mapL (enc := encD) (idf := Dfn.id) (x := d) D hh
      simp only [keyI, encD] at hp
      have hins : insL Dfn.id D d = D ++ [d] := by simp [insL, hh]
      rw [hins] at h1
      simp -implicitDefEqProofs [visS, h, hcd, encD, hf, hp]
      refine call0 (bodied_ok d) (by simp [encD]) (by simp) ?_
      cases hb : bodK d.kind with
      | true =>
        rw [nodS, if_pos hb] at h2
        simp -implicitDefEqProofs
        refine callJ (visit_ok d.body (D ++ [d]) N) [0, 1, 2, 3] (by simp) (by simp [visS]) (by simp [encE]) ?_
        simp -implicitDefEqProofs [visS]
        exact roundS (i + 1) h (by omega) (selW [0, 1, 2, 3, 4] 0 (by decide) (by simp) (by simp [visS, h1, h2]) (by simp [wrap_succ h hl]))
      | false =>
        rw [nodS, if_neg (by simp [hb])] at h2
        simp -implicitDefEqProofs
        exact roundS (i + 1) h (by omega) (selW [0, 1, 2, 3, 4] 0 (by decide) (by simp) (by simp [visS, h1, h2]) (by simp [wrap_succ h hl]))
  · have hil : i = l.length := by omega
    subst hil
    simp -implicitDefEqProofs [visS]
    exact ret_keep [2, 3] 0 (by decide) (by simp) (by simp) (by simp)
end Go.Proofs.YthglhccibdlccaaGreatDoor
namespace Go.Proofs.YthglhccibdlccaaGreatDoor
open Go.Abs
def KRDef : K :=
 K.seq (K.ops [kO 2 0,
 kO 3 1,
 kZ 4 kz0,
 kMb 5 false])
 (K.seq (K.seq (K.ops [kMi 6 0])
 (K.block 0 (K.loop (K.seq (K.seq (K.ops [kM 7 6,
 kA 8 2 1,
 kL 9 8 1,
 kN 10 9,
 kB 11 7 10 .lss])
 (K.cond (.tmp 11)
 (K.skip)
 (K.exit 0)))
 (K.seq (K.block 1 (K.seq (K.dops [(0, 0, kA 14 2 1),
 (1, 0, kL 15 14 1),
 (2, 0, kM 16 6),
 (3, 0, kX 17 15 16 31),
 (4, 0, kA 18 17 0),
 (5, 0, kG 19 18 3),
 (6, 0, kG 20 3 3),
 (7, 0, ⟨none, .eqs (some 21) false [.i, .i, .i] (.tmp 19) (.tmp 20)⟩)])
 (K.cond (.tmp 21)
 (K.seq (K.ops [kA 22 2 1,
 kL 23 22 1,
 kM 24 6,
 kX 25 23 24 31,
 kG 26 25 31,
 kS 4 26 31,
 kMb 5 true])
 (K.ret))
 (K.skip))))
 (K.ops [kM 12 6,
 kBi 13 12 1 .add,
 kM 6 13]))))))
 (K.seq (K.ops [⟨none, .build (some 27) kz0 []⟩,
 kS 4 27 31,
 kMb 5 false])
 (K.ret)))
theorem cRDef : compile Tryz.prog Tryz.f26.ntmps (Tryz.f26.body.getD .skip) = some KRDef.erase := by kernel_rfl
@[simp] theorem calRDef : callable Tryz.prog 26 = true := by kernel_rfl
structure Bnd where
  id : Id
  n : Int
  typ : Typ
def encB (b : Bnd) : List A := [.lit (.int .i64 b.id.a), .lit (.int .i64 b.id.b), .lit (.int .i64 b.id.c), .lit (.int .i64 b.n), .lit (.int .i64 b.typ.k), .lit (.int .i64 b.typ.id.a), .lit (.int .i64 b.typ.id.b), .lit (.int .i64 b.typ.id.c), .sl b.typ.kids.length (cellsT b.typ.kids)]
theorem encB_plain (b : Bnd) : Plain (encB b) := by
  have h1 := cellsT_plain b.typ.kids
  exact ⟨by simp [encB, h1.1], fun rf g => by simp [encB, h1.2]⟩
def cellsB (l : List Bnd) : List A := l.flatMap encB
theorem cellsB_plain (l : List Bnd) : Plain (cellsB l) := flat_plain encB_plain l
@[simp] theorem nrm0_cellsB (l : List Bnd) : nrm0L (cellsB l) = cellsB l := (cellsB_plain l).1
@[simp] theorem vw_cellsB {rf g} (l : List Bnd) : vwL rf g (cellsB l) = cellsB l := (cellsB_plain l).2 _ _
@[simp] theorem cellsB_nil : cellsB [] = [] := rfl
theorem cellsB_cons (x : Bnd) (l : List Bnd) : cellsB (x :: l) = encB x ++ cellsB l := rfl
theorem cellsB_append (l l' : List Bnd) : cellsB (l ++ l') = cellsB l ++ cellsB l' := by simp only [cellsB, List.flatMap_append]
@[simp] theorem cellsB_len (l : List Bnd) : (cellsB l).length = l.length * 9 := by rw [cellsB, flat_len (k := 9) (fun _ => rfl)]
theorem cellsB_drop {l : List Bnd} {i : Nat} (h : i < l.length) : (cellsB l).drop (i * 9) = encB l[i] ++ cellsB (l.drop (i + 1)) := by rw [cellsB, cellsB, flat_drop (k := 9) (fun _ => rfl) h]
theorem cellsB_take_succ {l : List Bnd} {i : Nat} (h : i < l.length) : cellsB (l.take (i + 1)) = cellsB (l.take i) ++ encB l[i] := by rw [cellsB, cellsB, flat_take_succ (k := 9) (fun _ => rfl) h]
@[simp] theorem encB_len (d : Bnd) : (encB d).length = 9 := rfl
@[simp] theorem encB_all (d : Bnd) : (encB d).take 9 = encB d := List.take_of_length_le (Nat.le_refl _)
@[simp] theorem encB_take (d : Bnd) (l : List A) : (encB d ++ l).take 9 = encB d := by rw [List.take_append_of_le_length (by simp)]; exact List.take_of_length_le (by simp)
@[simp] theorem nrm0_encB (d : Bnd) : nrm0L (encB d) = encB d := (encB_plain d).1
@[simp] theorem vw_encB (d : Bnd) {rf g} : vwL rf g (encB d) = encB d := (encB_plain d).2 _ _
theorem tmN {x k : Int} (h : 0 ≤ x) : x.tmod k = x % k := Int.tmod_eq_emod_of_nonneg h
theorem tdN {x k : Int} (h : 0 ≤ x) : x.tdiv k = x / k := Int.tdiv_eq_ediv_of_nonneg h
theorem name_ok (m : Mk) (h0 : 0 ≤ m.name) (h1 : m.name ≤ 1000000000000000) :
    ∃ s : ByteArray, Ret Tryz.prog 81 [.ptr 0 0] (mkS m) (.lit (.string s)) (mkS { m with name := m.name + 1 }) := by
  have w1 : IntKind.i64.wrap (m.name + 1) = m.name + 1 := IntWalk.i64_in _ (by omega)
  have e1 : (m.name + 1).tmod 3 = (m.name + 1) % 3 := tmN (by omega)
  have e2 : (m.name + 1).tdiv 3 = (m.name + 1) / 3 := tdN (by omega)
  have e3 : ((m.name + 1).tdiv 3).tmod 8 = ((m.name + 1) / 3) % 8 := by rw [e2]; exact tmN (by omega)
  have w2 : IntKind.i64.wrap ((m.name + 1).tdiv 3) = (m.name + 1).tdiv 3 := IntWalk.i64_in _ (by rw [e2]; omega)
  have a0 : 0 ≤ (m.name + 1).tmod 3 := by omega
  have a1 : (m.name + 1).tmod 3 < 3 := by omega
  have b0 : 0 ≤ ((m.name + 1).tdiv 3).tmod 8 := by omega
  have b1 : ((m.name + 1).tdiv 3).tmod 8 < 8 := by omega
  have hA : ∃ s1 rest, s1.size ≤ 10 ∧ List.drop ((m.name + 1).tmod 3).toNat [A.lit (.string ⟨#[117]⟩), A.lit (.string ⟨#[118]⟩), A.lit (.string ⟨#[119]⟩)] = A.lit (.string s1) :: rest := by
    have : ((m.name + 1).tmod 3).toNat = 0 ∨ ((m.name + 1).tmod 3).toNat = 1 ∨ ((m.name + 1).tmod 3).toNat = 2 := by omega
    rcases this with e | e | e <;> rw [e] <;> exact ⟨_, _, by decide, rfl⟩
  have hB : ∃ s1 rest, s1.size ≤ 10 ∧ List.drop (((m.name + 1).tdiv 3).tmod 8).toNat [A.lit (.string ⟨#[]⟩), A.lit (.string ⟨#[49]⟩), A.lit (.string ⟨#[50]⟩), A.lit (.string ⟨#[51]⟩), A.lit (.string ⟨#[52]⟩), A.lit (.string ⟨#[53]⟩), A.lit (.string ⟨#[54]⟩), A.lit (.string ⟨#[55]⟩)] = A.lit (.string s1) :: rest := by
    generalize ((m.name + 1).tdiv 3).tmod 8 = b at b0 b1
    have : b.toNat = 0 ∨ b.toNat = 1 ∨ b.toNat = 2 ∨ b.toNat = 3 ∨ b.toNat = 4 ∨ b.toNat = 5 ∨ b.toNat = 6 ∨ b.toNat = 7 := by omega
    rcases this with e | e | e | e | e | e | e | e <;> rw [e] <;> exact ⟨_, _, by decide, rfl⟩
  obtain ⟨sa, ra, hsa, hA⟩ := hA
  obtain ⟨sb, rb, hsb, hB⟩ := hB
  refine ⟨sa ++ sb, ?_⟩
  refine ret_of_wp Tryz.func81 rfl cName (rs := [.slot 2]) (by kernel_rfl) ?_
  unfold KName
  have h3 : ((m.name + 1).tmod 3).toNat < 3 := by omega
  have h8 : (((m.name + 1).tdiv 3).tmod 8).toNat < 8 := by omega
  simp -implicitDefEqProofs [mkS, mkB, w1, w2, hA, hB, a0, a1, b0, b1, h3, h8]
  refine ⟨by omega, ?_⟩
  exact ret_keep [0, 1] 0 (by decide) (by simp) (by simp) (by simp)
theorem var_ok (m : Mk) (b : Bnd) (h0 : 0 ≤ m.temp) (h1 : m.temp ≤ 1000000000000000) (h2 : -1000000000000000 ≤ m.left) (h3 : m.left ≤ 1000000000000000) :
    Ret Tryz.prog 78 [.ptr 0 0, .agg (encB b)] (mkS m) (.agg (encE (.mk ⟨0, 0, m.temp⟩ 2 b.n b.id Typ.zero [] []))) (mkS { m with temp := m.temp + 1, left := m.left - 1 }) := by
  refine ret_of_wp Tryz.func78 rfl cVarM (rs := [.cell 4 15 true]) (by kernel_rfl) ?_
  unfold KVarM
  simp -implicitDefEqProofs [mkS, mkB, encB]
  refine callJ (node_ok m 2 b.n [] h0 h1 h2 h3) [0, 1] (by decide) (by simp [mkS, mkB]) (by simp) ?_
  simp -implicitDefEqProofs [mkS, mkB, encE]
  exact ret_keep [0, 1] 0 (by decide) (by simp) (by simp) (by simp)
theorem fitting_ok (env : List Bnd) (t : Typ) (hE : env.length ≤ 1000000) : Ret Tryz.prog 77 [.sl env.length (cellsB env), .agg (encT t)] [] (.sl (env.filter fun b => sameT b.typ t).length (cellsB (env.filter fun b => sameT b.typ t))) [] := by
  refine ret_of_wp Tryz.func77 rfl cFitting (rs := [.slot 4]) (by kernel_rfl) ?_
  unfold KFitting
  simp -implicitDefEqProofs [encT]
  refine loopS (S := Nat) (fun i => [(0, .sl env.length (cellsB env)), (3, .ptr 0 0), (5, .row 1 ((env.take i).filter fun b => sameT b.typ t).length), (6, int i)]) (fun i => [.box (encT t), .row false 96 9 ((env.take i).filter fun b => sameT b.typ t).length (cellsB ((env.take i).filter fun b => sameT b.typ t))]) (fun i => i ≤ env.length) (fun i => env.length - i) 0 (by simp)
    ((weak_nilslot (t := 5) (by simp) 96 9).trans (selW [0, 1] 0 (by decide) (by simp) (by simp [encT]) (by simp))) ?_
  intro i hi
  by_cases h : i < env.length
  · simp -implicitDefEqProofs [h, cellsB_drop h, encB, encT]
    intro hl
    refine dcall0 (sameTy_ok env[i].typ t) (by simp [encT]) (by simp) ?_
    have hst : ((env.take (i + 1)).filter fun b => sameT b.typ t) = ((env.take i).filter fun b => sameT b.typ t) ++ (if sameT env[i].typ t then [env[i]] else []) := by
      rw [List.take_succ_eq_append_getElem h, List.filter_append]
      cases hs : sameT env[i].typ t <;> simp [hs]
    cases hs : sameT env[i].typ t
    · simp -implicitDefEqProofs
      rw [hs] at hst
      simp only [Bool.false_eq_true, if_false, List.append_nil] at hst
      exact roundS (i + 1) h (by omega) (selW [0, 1] 0 (by decide) (by simp) (by simp [encT, hst]) (by simp [wrap_succ h hl, hst]))
    · simp -implicitDefEqProofs [h, cellsB_drop h, encB]
      rw [hs] at hst
      simp only [if_true] at hst
      have hle : ((env.take i).filter fun b => sameT b.typ t).length ≤ i := Nat.le_trans (List.length_filter_le _ _) (by simp; omega)
      refine ⟨⟨by simp [maxLen]; omega, by omega⟩, ?_⟩
      exact roundS (i + 1) h (by omega) (selW [0, 1] 0 (by decide) (by simp) (by simp [encT, hst, cellsB_append, cellsB_cons, encB]) (by simp [wrap_succ h hl, hst]))
  · have : i = env.length := by omega
    subst this
    simp -implicitDefEqProofs
    exact fun _ => ret_end 1 (by simp)
theorem with_ok (env : List Bnd) (b : Bnd) (hE : env.length ≤ 1000000) : Ret Tryz.prog 82 [.sl env.length (cellsB env), .agg (encB b)] [] (.sl (env.length + 1) (cellsB (env ++ [b]))) [] := by
  refine ret_of_wpH Tryz.func82 rfl cWithB (rs := [.slot 4]) (by kernel_rfl) ?_
  unfold KWithB
  simp -implicitDefEqProofs [encB]
  exact ⟨⟨by simp [maxLen]; omega, by omega⟩, ⟨by simp [maxLen]; omega, by omega⟩, ret_end 1 (by simp [cellsB_append, cellsB_cons, encB])⟩
def rowD (ds : List Dfn) : St := [.row false 39 31 ds.length (cellsD ds)]
def defV (ds : List Dfn) (i : Id) : Dfn × Bool := match ds.find? fun d => decide (d.id = i) with
  | some d => (d, true)
  | none => (Dfn.zero, false)
theorem findD_hit {ds : List Dfn} {i : Nat} {x : Id} (h : i < ds.length) (hn : ∀ d ∈ ds.take i, d.id ≠ x) (he : ds[i].id = x) : (ds.find? fun d => decide (d.id = x)) = some ds[i] := by
  have e : ds = ds.take i ++ ds[i] :: ds.drop (i + 1) := by rw [← List.drop_eq_getElem_cons h, List.take_append_drop]
  have h1 : ((ds.take i).find? fun d => decide (d.id = x)) = none := List.find?_eq_none.2 fun d hd => by simpa using hn d hd
  have h2 : ∀ y, y = ds[i] → (ds.find? fun d => decide (d.id = x)) = some y := fun y hy => by
    rw [← hy] at e he
    rw [e, List.find?_append, h1]
    simp [he]
  exact h2 _ rfl
theorem rdef_row (M : List Md) (ds : List Dfn) (x : Id) (hL : ds.length ≤ 1000000) : Ret Tryz.prog 26 [.agg [.sl M.length (cellsM M), .row 0 ds.length], .agg (encI x)] (rowD ds) (.tup [.agg (encD (defV ds x).1), bl (defV ds x).2]) (rowD ds) := by
  refine ret_of_wp Tryz.func26 rfl cRDef (rs := [.cell 4 31 true, .slot 5]) (by kernel_rfl) ?_
  unfold KRDef
  simp -implicitDefEqProofs [rowD, encI]
  refine loopS (S := Nat) (fun i => [(2, .ptr 1 0), (3, .ptr 2 0), (4, .ptr 3 0), (6, int i)]) (fun _ => [.row false 39 31 ds.length (cellsD ds), .box [.sl M.length (cellsM M), .row 0 ds.length], .box (encI x), .box (encD Dfn.zero)]) (fun i => i ≤ ds.length ∧ ∀ d ∈ ds.take i, d.id ≠ x) (fun i => ds.length - i) 0 (by simp)
    (selW [0, 1, 2, 3] 0 (by decide) (by simp) (by simp [encI, encD, Dfn.zero, Id.zero, Typ.zero, Exp.zero]) (by simp)) ?_
  rintro i ⟨hi, hn⟩
  by_cases h : i < ds.length
  · have hd := cellsD_drop h
    have hb3 : i * 31 + 3 ≤ ds.length * 31 := by omega
    have hb31 : i * 31 + 31 ≤ ds.length * 31 := by omega
    have hw : IntKind.i64.wrap ((i : Int) + 1) = (i : Int) + 1 := IntWalk.i64_in _ (by omega)
    by_cases he : ds[i].id = x
    · have hv : defV ds x = (ds[i], true) := by unfold defV; rw [findD_hit h hn he]
      have he3 : same3 ds[i].id.a ds[i].id.b ds[i].id.c x.a x.b x.c = true := by rw [same3_id]; exact decide_eq_true he
      simp -implicitDefEqProofs [h, hd, encI, encD, he3, hb3, hb31]
      exact ret_keep [0] 0 (by decide) (by simp) (by simp) (by simp [hv, encD])
    · have he3 : same3 ds[i].id.a ds[i].id.b ds[i].id.c x.a x.b x.c = false := by rw [same3_id]; exact decide_eq_false he
      simp -implicitDefEqProofs [h, hd, encI, encD, he3, hb3, hb31]
      exact roundS (i + 1) ⟨h, fun d hd' => by
        rw [List.take_succ_eq_append_getElem h] at hd'
        rcases List.mem_append.1 hd' with hd' | hd'
        · exact hn d hd'
        · rw [List.mem_singleton.1 hd']; exact he⟩ (by omega) (selW [0, 1, 2, 3] 0 (by decide) (by simp) (by simp [encI, encD, Dfn.zero, Id.zero, Typ.zero, Exp.zero]) (by simp [hw]))
  · have : i = ds.length := by omega
    subst this
    rw [List.take_length] at hn
    have hv : defV ds x = (Dfn.zero, false) := by
      unfold defV
      rw [List.find?_eq_none.2 fun d hd => by simpa using hn d hd]
    simp -implicitDefEqProofs [encD, Dfn.zero, Id.zero, Typ.zero, Exp.zero]
    first | exact fun _ => ret_keep [0] 0 (by decide) (by simp) (by simp) (by simp [hv, encD, Dfn.zero, Id.zero, Typ.zero, Exp.zero]) | exact ret_keep [0] 0 (by decide) (by simp) (by simp) (by simp [hv, encD, Dfn.zero, Id.zero, Typ.zero, Exp.zero])
theorem rdef_ok (M : List Md) (ds : List Dfn) (x : Id) (hL : ds.length ≤ 1000000) : Ret Tryz.prog 26 [.agg [.sl M.length (cellsM M), .sl ds.length (cellsD ds)], .agg (encI x)] [] (.tup [.agg (encD (defV ds x).1), bl (defV ds x).2]) [] := by
  refine ret_of_wp Tryz.func26 rfl cRDef (rs := [.cell 4 31 true, .slot 5]) (by kernel_rfl) ?_
  unfold KRDef
  simp -implicitDefEqProofs [rowD, encI]
  refine loopS (S := Nat) (fun i => [(2, .ptr 0 0), (3, .ptr 1 0), (4, .ptr 2 0), (6, int i)]) (fun _ => [.box [.sl M.length (cellsM M), .sl ds.length (cellsD ds)], .box (encI x), .box (encD Dfn.zero)]) (fun i => i ≤ ds.length ∧ ∀ d ∈ ds.take i, d.id ≠ x) (fun i => ds.length - i) 0 (by simp)
    (selW [0, 1, 2] 0 (by decide) (by simp) (by simp [encI, encD, Dfn.zero, Id.zero, Typ.zero, Exp.zero]) (by simp)) ?_
  rintro i ⟨hi, hn⟩
  by_cases h : i < ds.length
  · have hd := cellsD_drop h
    have hb3 : i * 31 + 3 ≤ ds.length * 31 := by omega
    have hb31 : i * 31 + 31 ≤ ds.length * 31 := by omega
    have hw : IntKind.i64.wrap ((i : Int) + 1) = (i : Int) + 1 := IntWalk.i64_in _ (by omega)
    by_cases he : ds[i].id = x
    · have hv : defV ds x = (ds[i], true) := by unfold defV; rw [findD_hit h hn he]
      have he3 : same3 ds[i].id.a ds[i].id.b ds[i].id.c x.a x.b x.c = true := by rw [same3_id]; exact decide_eq_true he
      simp -implicitDefEqProofs [h, hd, encI, encD, he3, hb3, hb31]
      intro hl; exact ret_keep [] 0 (by decide) (by simp) (by simp) (by simp [hv, encD])
    · have he3 : same3 ds[i].id.a ds[i].id.b ds[i].id.c x.a x.b x.c = false := by rw [same3_id]; exact decide_eq_false he
      simp -implicitDefEqProofs [h, hd, encI, encD, he3, hb3, hb31]
      intro hl; exact roundS (i + 1) ⟨h, fun d hd' => by
        rw [List.take_succ_eq_append_getElem h] at hd'
        rcases List.mem_append.1 hd' with hd' | hd'
        · exact hn d hd'
        · rw [List.mem_singleton.1 hd']; exact he⟩ (by omega) (selW [0, 1, 2] 0 (by decide) (by simp) (by simp [encI, encD, Dfn.zero, Id.zero, Typ.zero, Exp.zero]) (by simp [hw]))
  · have : i = ds.length := by omega
    subst this
    rw [List.take_length] at hn
    have hv : defV ds x = (Dfn.zero, false) := by
      unfold defV
      rw [List.find?_eq_none.2 fun d hd => by simpa using hn d hd]
    simp -implicitDefEqProofs [encD, Dfn.zero, Id.zero, Typ.zero, Exp.zero]
    first | exact fun _ => ret_keep [] 0 (by decide) (by simp) (by simp) (by simp [hv, encD, Dfn.zero, Id.zero, Typ.zero, Exp.zero]) | exact ret_keep [] 0 (by decide) (by simp) (by simp) (by simp [hv, encD, Dfn.zero, Id.zero, Typ.zero, Exp.zero])
end Go.Proofs.YthglhccibdlccaaGreatDoor
