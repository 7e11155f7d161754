/-
  trace.read: the first definition and the first node of each ID.
-/
import Derived.Test.YthglhccibdlccaaDoorB3
import Derived.Test.YthglhccibdlccaaDoorA6
namespace Go.Proofs.YthglhccibdlccaaDoor
open Go.Abs

-- splicery/trace.read · results ["cell 2"]
def KRead : K :=
 K.seq (K.ops [⟨none, .box (some 1) (.tmp 0)⟩,
 ⟨none, .alloc (some 2) [(.map none), (.map none)]⟩])
 (K.seq (K.ops [⟨none, .mop (some 9) (.mk 3) []⟩,
 ⟨none, .mop (some 10) (.mk 3) []⟩,
 ⟨none, .build (some 11) [(.map none), (.map none)] [(0, 1, (.tmp 9)), (1, 1, (.tmp 10))]⟩,
 ⟨none, .alloc (some 3) [(.map none), (.map none)]⟩,
 ⟨none, .st none (.tmp 3) (.tmp 11) 2⟩])
 (K.seq (K.ops [⟨none, .alloc (some 4) [.nilFunc]⟩])
 (K.seq (K.ops [⟨none, .clo (some 12) 54 [] [(.tmp 3), (.tmp 4)]⟩,
 ⟨none, .st none (.tmp 4) (.tmp 12) 1⟩])
 (K.seq (K.seq (K.ops [⟨none, .addr (some 13) (.tmp 1) 1⟩,
 ⟨none, .ld (some 14) (.tmp 13) 1 false⟩,
 ⟨none, .len (some 15) false (.tmp 14)⟩,
 ⟨none, .mov (some 16) (.const (.int .i64 0))⟩])
 (K.block 0 (K.loop (K.seq (K.ops [⟨none, .bin (some 17) .lss (.tmp 16) (.tmp 15)⟩])
 (K.seq (K.cond (.tmp 17)
 (K.skip)
 (K.exit 0))
 (K.seq (K.block 1 (K.seq (K.ops [⟨none, .idx (some 18) (.tmp 14) (.tmp 16) 31⟩,
 ⟨none, .ld (some 19) (.tmp 18) 31 true⟩,
 ⟨none, .alloc (some 6) [(.int .i64 0), (.int .i64 0), (.int .i64 0), (.int .i64 0), (.int .i64 0), (.int .i64 0), (.int .i64 0), (.string ⟨#[]⟩), (.slice none 0 0), (.int .i64 0), (.int .i64 0), (.int .i64 0), (.int .i64 0), (.slice none 0 0), (.int .i64 0), (.int .i64 0), (.int .i64 0), (.int .i64 0), (.int .i64 0), (.int .i64 0), (.int .i64 0), (.int .i64 0), (.int .i64 0), (.int .i64 0), (.int .i64 0), (.int .i64 0), (.slice none 0 0), (.slice none 0 0), (.slice none 0 0), (.int .i64 0), (.slice none 0 0)]⟩,
 ⟨none, .st none (.tmp 6) (.tmp 19) 31⟩])
 (K.seq (K.seq (K.ops [⟨none, .addr (some 21) (.tmp 3) 0⟩,
 ⟨none, .ld (some 22) (.tmp 21) 1 false⟩,
 ⟨none, .addr (some 23) (.tmp 6) 0⟩,
 ⟨none, .ld (some 24) (.tmp 23) 3 true⟩,
 ⟨none, .mop (some 25) (.get 3 (.agg #[(.int .i64 0), (.int .i64 0), (.int .i64 0), (.int .i64 0), (.int .i64 0), (.int .i64 0), (.int .i64 0), (.string ⟨#[]⟩), (.slice none 0 0), (.int .i64 0), (.int .i64 0), (.int .i64 0), (.int .i64 0), (.slice none 0 0), (.int .i64 0), (.int .i64 0), (.int .i64 0), (.int .i64 0), (.int .i64 0), (.int .i64 0), (.int .i64 0), (.int .i64 0), (.int .i64 0), (.int .i64 0), (.int .i64 0), (.int .i64 0), (.slice none 0 0), (.slice none 0 0), (.slice none 0 0), (.int .i64 0), (.slice none 0 0)]) true) [(.tmp 22), (.tmp 24)]⟩,
 ⟨none, .mov (some 20) (.tmp 25)⟩,
 ⟨none, .ext (some 26) (.tmp 20) 0⟩,
 ⟨none, .ext (some 27) (.tmp 20) 1⟩,
 ⟨none, .alloc (some 7) [(.int .i64 0), (.int .i64 0), (.int .i64 0), (.int .i64 0), (.int .i64 0), (.int .i64 0), (.int .i64 0), (.string ⟨#[]⟩), (.slice none 0 0), (.int .i64 0), (.int .i64 0), (.int .i64 0), (.int .i64 0), (.slice none 0 0), (.int .i64 0), (.int .i64 0), (.int .i64 0), (.int .i64 0), (.int .i64 0), (.int .i64 0), (.int .i64 0), (.int .i64 0), (.int .i64 0), (.int .i64 0), (.int .i64 0), (.int .i64 0), (.slice none 0 0), (.slice none 0 0), (.slice none 0 0), (.int .i64 0), (.slice none 0 0)]⟩,
 ⟨none, .st none (.tmp 7) (.tmp 26) 31⟩,
 ⟨none, .mov (some 8) (.tmp 27)⟩])
 (K.seq (K.ops [⟨none, .mov (some 28) (.tmp 8)⟩,
 ⟨none, .not (some 29) (.tmp 28)⟩])
 (K.cond (.tmp 29)
 (K.ops [⟨none, .addr (some 30) (.tmp 3) 0⟩,
 ⟨none, .ld (some 31) (.tmp 30) 1 false⟩,
 ⟨none, .addr (some 32) (.tmp 6) 0⟩,
 ⟨none, .ld (some 33) (.tmp 32) 3 true⟩,
 ⟨none, .ld (some 34) (.tmp 6) 31 true⟩,
 ⟨none, .mop none (.set 3) [(.tmp 31), (.tmp 33), (.tmp 34)]⟩])
 (K.skip))))
 (K.seq (K.ops [⟨none, .ld (some 35) (.tmp 6) 31 true⟩,
 ⟨none, .call (some 36) (.func 34) [(.tmp 35)]⟩])
 (K.cond (.tmp 36)
 (K.ops [⟨none, .ld (some 37) (.tmp 4) 1 false⟩,
 ⟨none, .addr (some 38) (.tmp 6) 14⟩,
 ⟨none, .ld (some 39) (.tmp 38) 15 true⟩,
 ⟨none, .call (some 40) (.tmp 37) [(.tmp 39)]⟩])
 (K.skip))))))
 (K.ops [⟨none, .bin (some 41) .add (.tmp 16) (.const (.int .i64 1))⟩,
 ⟨none, .mov (some 16) (.tmp 41)⟩])))))))
 (K.seq (K.ops [⟨none, .ld (some 42) (.tmp 3) 2 true⟩,
 ⟨none, .st none (.tmp 2) (.tmp 42) 2⟩])
 (K.ret))))))
theorem cRead : compile Tryd.prog Tryd.f39.ntmps (Tryd.f39.body.getD .skip) = some KRead.erase := by kernel_rfl
@[simp] theorem calRead : callable Tryd.prog 39 = true := by kernel_rfl
-- splicery/trace.read$1 · results []
def KVisit : K :=
 K.seq (K.ops [⟨none, .box (some 3) (.tmp 0)⟩])
 (K.seq (K.seq (K.ops [⟨none, .addr (some 9) (.tmp 1) 1⟩,
 ⟨none, .ld (some 10) (.tmp 9) 1 false⟩,
 ⟨none, .addr (some 11) (.tmp 3) 0⟩,
 ⟨none, .ld (some 12) (.tmp 11) 3 true⟩,
 ⟨none, .mop (some 13) (.get 3 (.agg #[(.int .i64 0), (.int .i64 0), (.int .i64 0), (.int .i64 0), (.int .i64 0), (.int .i64 0), (.int .i64 0), (.int .i64 0), (.int .i64 0), (.int .i64 0), (.int .i64 0), (.int .i64 0), (.slice none 0 0), (.slice none 0 0), (.slice none 0 0)]) true) [(.tmp 10), (.tmp 12)]⟩,
 ⟨none, .mov (some 8) (.tmp 13)⟩,
 ⟨none, .ext (some 14) (.tmp 8) 0⟩,
 ⟨none, .ext (some 15) (.tmp 8) 1⟩,
 ⟨none, .alloc (some 4) [(.int .i64 0), (.int .i64 0), (.int .i64 0), (.int .i64 0), (.int .i64 0), (.int .i64 0), (.int .i64 0), (.int .i64 0), (.int .i64 0), (.int .i64 0), (.int .i64 0), (.int .i64 0), (.slice none 0 0), (.slice none 0 0), (.slice none 0 0)]⟩,
 ⟨none, .st none (.tmp 4) (.tmp 14) 15⟩,
 ⟨none, .mov (some 5) (.tmp 15)⟩])
 (K.seq (K.ops [⟨none, .mov (some 16) (.tmp 5)⟩,
 ⟨none, .not (some 17) (.tmp 16)⟩])
 (K.cond (.tmp 17)
 (K.ops [⟨none, .addr (some 18) (.tmp 1) 1⟩,
 ⟨none, .ld (some 19) (.tmp 18) 1 false⟩,
 ⟨none, .addr (some 20) (.tmp 3) 0⟩,
 ⟨none, .ld (some 21) (.tmp 20) 3 true⟩,
 ⟨none, .ld (some 22) (.tmp 3) 15 true⟩,
 ⟨none, .mop none (.set 3) [(.tmp 19), (.tmp 21), (.tmp 22)]⟩])
 (K.skip))))
 (K.seq (K.ops [⟨none, .addr (some 23) (.tmp 3) 13⟩,
 ⟨none, .ld (some 24) (.tmp 23) 1 false⟩,
 ⟨none, .len (some 25) false (.tmp 24)⟩,
 ⟨none, .mov (some 26) (.const (.int .i64 0))⟩])
 (K.block 0 (K.loop (K.seq (K.ops [⟨none, .bin (some 27) .lss (.tmp 26) (.tmp 25)⟩])
 (K.seq (K.cond (.tmp 27)
 (K.skip)
 (K.exit 0))
 (K.seq (K.block 1 (K.seq (K.ops [⟨none, .idx (some 28) (.tmp 24) (.tmp 26) 15⟩,
 ⟨none, .ld (some 29) (.tmp 28) 15 true⟩,
 ⟨none, .alloc (some 7) [(.int .i64 0), (.int .i64 0), (.int .i64 0), (.int .i64 0), (.int .i64 0), (.int .i64 0), (.int .i64 0), (.int .i64 0), (.int .i64 0), (.int .i64 0), (.int .i64 0), (.int .i64 0), (.slice none 0 0), (.slice none 0 0), (.slice none 0 0)]⟩,
 ⟨none, .st none (.tmp 7) (.tmp 29) 15⟩])
 (K.ops [⟨none, .ld (some 30) (.tmp 2) 1 false⟩,
 ⟨none, .ld (some 31) (.tmp 7) 15 true⟩,
 ⟨none, .call (some 32) (.tmp 30) [(.tmp 31)]⟩])))
 (K.ops [⟨none, .bin (some 33) .add (.tmp 26) (.const (.int .i64 1))⟩,
 ⟨none, .mov (some 26) (.tmp 33)⟩]))))))))
theorem cVisit : compile Tryd.prog Tryd.f54.ntmps (Tryd.f54.body.getD .skip) = some KVisit.erase := by kernel_rfl
@[simp] theorem calVisit : callable Tryd.prog 54 = true := by kernel_rfl

def zE : List A := [.lit (.int .i64 0), .lit (.int .i64 0), .lit (.int .i64 0), .lit (.int .i64 0), .lit (.int .i64 0), .lit (.int .i64 0), .lit (.int .i64 0), .lit (.int .i64 0), .lit (.int .i64 0), .lit (.int .i64 0), .lit (.int .i64 0), .lit (.int .i64 0), .nil, .nil, .nil]
def zD : List A := [.lit (.int .i64 0), .lit (.int .i64 0), .lit (.int .i64 0), .lit (.int .i64 0), .lit (.int .i64 0), .lit (.int .i64 0), .lit (.int .i64 0), .lit (.string ⟨#[]⟩), .nil, .lit (.int .i64 0), .lit (.int .i64 0), .lit (.int .i64 0), .lit (.int .i64 0), .nil, .lit (.int .i64 0), .lit (.int .i64 0), .lit (.int .i64 0), .lit (.int .i64 0), .lit (.int .i64 0), .lit (.int .i64 0), .lit (.int .i64 0), .lit (.int .i64 0), .lit (.int .i64 0), .lit (.int .i64 0), .lit (.int .i64 0), .lit (.int .i64 0), .nil, .nil, .nil, .lit (.int .i64 0), .nil]
@[simp] theorem getR_some {z : Value} {a : A} : getR z true (some a) = .tup [a, .lit (.bool true)] := rfl
@[simp] theorem getR_noneE : getR (.agg #[(.int .i64 0), (.int .i64 0), (.int .i64 0), (.int .i64 0), (.int .i64 0), (.int .i64 0), (.int .i64 0), (.int .i64 0), (.int .i64 0), (.int .i64 0), (.int .i64 0), (.int .i64 0), (.slice none 0 0), (.slice none 0 0), (.slice none 0 0)]) true none = .tup [.agg zE, .lit (.bool false)] := by kernel_rfl
@[simp] theorem getR_noneD : getR (.agg #[(.int .i64 0), (.int .i64 0), (.int .i64 0), (.int .i64 0), (.int .i64 0), (.int .i64 0), (.int .i64 0), (.string ⟨#[]⟩), (.slice none 0 0), (.int .i64 0), (.int .i64 0), (.int .i64 0), (.int .i64 0), (.slice none 0 0), (.int .i64 0), (.int .i64 0), (.int .i64 0), (.int .i64 0), (.int .i64 0), (.int .i64 0), (.int .i64 0), (.int .i64 0), (.int .i64 0), (.int .i64 0), (.int .i64 0), (.int .i64 0), (.slice none 0 0), (.slice none 0 0), (.slice none 0 0), (.int .i64 0), (.slice none 0 0)]) true none = .tup [.agg zD, .lit (.bool false)] := by kernel_rfl
@[simp] theorem zE_len : zE.length = 15 := rfl
@[simp] theorem zD_len : zD.length = 31 := rfl

/-- Lists of things with IDs as maps. -/
def mapL {α : Type} (idf : α → Id) (enc : α → List A) (l : List α) : List (List Int × A) := l.map fun x => (keyI (idf x), .agg (enc x))
def hasL {α : Type} (idf : α → Id) (l : List α) (i : Id) : Option α := l.find? fun x => decide (idf x = i)
theorem findI_mapL {α : Type} {idf : α → Id} {enc : α → List A} {i : Id} : ∀ (l : List α), findI (keyI i) (mapL idf enc l) = (hasL idf l i).map fun x => .agg (enc x)
  | [] => rfl
  | x :: l => by
    simp only [mapL, List.map_cons, findI, hasL, List.find?_cons]
    by_cases h : idf x = i
    · simp [h]
    · have h' : ¬ keyI (idf x) = keyI i := fun e => h (keyI_inj.1 e)
      simp only [h', if_false, h, decide_false]
      exact findI_mapL l
theorem putI_mapL {α : Type} {idf : α → Id} {enc : α → List A} {x : α} : ∀ (l : List α), hasL idf l (idf x) = none → putI (keyI (idf x)) (.agg (enc x)) (mapL idf enc l) = mapL idf enc (l ++ [x])
  | [], _ => rfl
  | y :: l, h => by
    simp only [hasL, List.find?_cons] at h
    split at h
    · cases h
    · rename_i hy
      have h' : ¬ keyI (idf y) = keyI (idf x) := fun e => by
        have := keyI_inj.1 e
        simp [this] at hy
      simp only [mapL, List.map_cons, putI, h', if_false, List.cons_append]
      congr 1
      exact putI_mapL l h
@[simp] theorem mapL_vw {α : Type} {idf : α → Id} {enc : α → List A} {rf : Bool → Nat → Nat → A} {g : Nat → Option Nat} (hp : ∀ x, Plain (enc x)) (l : List α) : ((mapL idf enc l).map fun p => (p.1, vw rf g p.2)) = mapL idf enc l := by
  simp only [mapL, List.map_map]
  refine List.map_congr_left fun x _ => ?_
  simp [(hp x).2]
@[simp] theorem mapE_vw {rf : Bool → Nat → Nat → A} {g : Nat → Option Nat} (l : List Exp) : ((mapL Exp.id encE l).map fun p => (p.1, vw rf g p.2)) = mapL Exp.id encE l := mapL_vw encE_plain l
@[simp] theorem mapD_vw {rf : Bool → Nat → Nat → A} {g : Nat → Option Nat} (l : List Dfn) : ((mapL Dfn.id encD l).map fun p => (p.1, vw rf g p.2)) = mapL Dfn.id encD l := mapL_vw encD_plain l

/-- The first of each ID. -/
def insL {α : Type} (idf : α → Id) (l : List α) (x : α) : List α := if (hasL idf l (idf x)).isSome then l else l ++ [x]
mutual
def visE : Exp → List Exp → List Exp
  | .mk i k n r t l nm, N => visEs l (insL Exp.id N (.mk i k n r t l nm))
def visEs : List Exp → List Exp → List Exp
  | [], N => N
  | e :: l, N => visEs l (visE e N)
end
theorem visE_def (e : Exp) (N : List Exp) : visE e N = visEs e.kids (insL Exp.id N e) := by cases e; simp only [visE, Exp.kids]
theorem visEs_snoc (x : Exp) : ∀ (l : List Exp) (N : List Exp), visEs (l ++ [x]) N = visE x (visEs l N)
  | [], N => by simp only [List.nil_append, visEs]
  | e :: l, N => by simp only [List.cons_append, visEs, visEs_snoc x l]

/-- The state in which nodes are visited. -/
def visS (D : List Dfn) (N : List Exp) : St := [.box [.map 2, .map 3], .box [.clo 54 [] [.ptr 0 0, .ptr 1 0]], .mp true 3 (mapL Dfn.id encD D), .mp true 3 (mapL Exp.id encE N)]

mutual
theorem visit_ok : ∀ (e : Exp) (D : List Dfn) (N : List Exp), Ret Tryd.prog 54 [.agg (encE e), .ptr 0 0, .ptr 1 0] (visS D N) (.tup []) (visS D (visE e N))
  | .mk i k n r t l nm, D, N => by
    have ih := visits_ok l
    generalize ha : Exp.mk i k n r t l nm = e
    have hal : e.kids = l := by rw [← ha]; rfl
    rw [← hal] at ih
    refine ret_of_wp Tryd.func54 rfl cVisit (rs := []) (by kernel_rfl) ?_
    unfold KVisit
    have hf := findI_mapL (i := e.id) (enc := encE) (idf := Exp.id) N
    simp only [keyI] at hf
    cases hh : hasL Exp.id N e.id with
    | some x =>
      rw [hh] at hf
      simp only [Option.map_some] at hf
      have hins : insL Exp.id N e = N := by simp [insL, hh]
      simp -implicitDefEqProofs [visS, encE, hf]
      intro hl
      refine loopS (S := Nat) (fun i => [(1, .ptr 0 0), (2, .ptr 1 0), (24, .sl e.kids.length (cellsE e.kids)), (25, int e.kids.length), (26, int i)]) (fun i => visS D (visEs (e.kids.take i) (insL Exp.id N e))) (fun i => i ≤ e.kids.length) (fun i => e.kids.length - i) 0 (by simp)
        (selW [0, 1, 2, 3] 0 (by decide) (by simp) (by simp [visS, visEs, hins]) (by simp)) ?_
      intro i hi
      by_cases h : i < e.kids.length
      · have hlt : i * 15 < e.kids.length * 15 := by omega
        have hsn := visEs_snoc e.kids[i] (e.kids.take i) (insL Exp.id N e)
        rw [← List.take_succ_eq_append_getElem h] at hsn
        simp -implicitDefEqProofs [visS, h, cellsE_drop h, encE]
        refine callJ (ih e.kids[i] (List.getElem_mem h) D (visEs (e.kids.take i) (insL Exp.id N e))) [0, 1, 2, 3] (by simp) (by simp [visS]) (by simp [encE]) ?_
        simp -implicitDefEqProofs [visS]
        exact roundS (i + 1) h (by omega) (selW [0, 1, 2, 3] 0 (by decide) (by simp) (by simp [visS, hsn]) (by simp [wrap_succ h hl]))
      · have hil : i = e.kids.length := by omega
        subst hil
        rw [List.take_length, ← visE_def]
        simp -implicitDefEqProofs [visS]
        exact ret_keep [0, 1, 2, 3] 0 (by decide) (by simp) (by simp) (by simp)
    | none =>
      rw [hh] at hf
      simp only [Option.map_none] at hf
      have hp := putI_mapL (enc := encE) (idf := Exp.id) (x := e) N hh
      simp only [keyI] at hp
      have hins : insL Exp.id N e = N ++ [e] := by simp [insL, hh]
      simp only [encE] at hp
      simp -implicitDefEqProofs [visS, encE, hf, hp]
      intro hl
      refine loopS (S := Nat) (fun i => [(1, .ptr 0 0), (2, .ptr 1 0), (24, .sl e.kids.length (cellsE e.kids)), (25, int e.kids.length), (26, int i)]) (fun i => visS D (visEs (e.kids.take i) (insL Exp.id N e))) (fun i => i ≤ e.kids.length) (fun i => e.kids.length - i) 0 (by simp)
        (selW [0, 1, 2, 3] 0 (by decide) (by simp) (by simp [visS, visEs, hins]) (by simp)) ?_
      intro i hi
      by_cases h : i < e.kids.length
      · have hlt : i * 15 < e.kids.length * 15 := by omega
        have hsn := visEs_snoc e.kids[i] (e.kids.take i) (insL Exp.id N e)
        rw [← List.take_succ_eq_append_getElem h] at hsn
        simp -implicitDefEqProofs [visS, h, cellsE_drop h, encE]
        refine callJ (ih e.kids[i] (List.getElem_mem h) D (visEs (e.kids.take i) (insL Exp.id N e))) [0, 1, 2, 3] (by simp) (by simp [visS]) (by simp [encE]) ?_
        simp -implicitDefEqProofs [visS]
        exact roundS (i + 1) h (by omega) (selW [0, 1, 2, 3] 0 (by decide) (by simp) (by simp [visS, hsn]) (by simp [wrap_succ h hl]))
      · have hil : i = e.kids.length := by omega
        subst hil
        rw [List.take_length, ← visE_def]
        simp -implicitDefEqProofs [visS]
        exact ret_keep [0, 1, 2, 3] 0 (by decide) (by simp) (by simp) (by simp)
theorem visits_ok : ∀ (l : List Exp), ∀ x ∈ l, ∀ (D : List Dfn) (N : List Exp), Ret Tryd.prog 54 [.agg (encE x), .ptr 0 0, .ptr 1 0] (visS D N) (.tup []) (visS D (visE x N))
  | [], x, hx, _, _ => by simp at hx
  | z :: l, x, hx, D, N => by
    rcases List.mem_cons.1 hx with e | hx
    · rw [e]; exact visit_ok z D N
    · exact visits_ok l x hx D N
end

def fstD (l : List Dfn) : List Dfn := l.foldl (insL Dfn.id) []
def nodS (N : List Exp) (d : Dfn) : List Exp := if bodK d.kind then visE d.body N else N
def nodD (l : List Dfn) : List Exp := l.foldl nodS []
theorem fstD_succ {l : List Dfn} {i : Nat} (h : i < l.length) : fstD (l.take (i + 1)) = insL Dfn.id (fstD (l.take i)) l[i] := by
  rw [fstD, List.take_succ_eq_append_getElem h, List.foldl_append]; rfl
theorem nodD_succ {l : List Dfn} {i : Nat} (h : i < l.length) : nodD (l.take (i + 1)) = nodS (nodD (l.take i)) l[i] := by
  rw [nodD, List.take_succ_eq_append_getElem h, List.foldl_append]; rfl

set_option maxRecDepth 100000 in
theorem read_ok (p : Prg) : Ret Tryd.prog 39 [.agg (encP p)] [] (.agg [.map 0, .map 1]) [.mp true 3 (mapL Dfn.id encD (fstD p.defs)), .mp true 3 (mapL Exp.id encE (nodD p.defs))] := by
  refine ret_of_wp Tryd.func39 rfl cRead (rs := [.cell 2 2 true]) (by kernel_rfl) ?_
  unfold KRead
  simp -implicitDefEqProofs [encP]
  intro hl
  generalize p.defs = l at hl ⊢
  refine loopS (S := Nat) (fun i => [(2, .ptr 4 0), (3, .ptr 0 0), (4, .ptr 1 0), (14, .sl l.length (cellsD l)), (15, int l.length), (16, int i)]) (fun i => visS (fstD (l.take i)) (nodD (l.take i)) ++ [.box [.lit (.map none), .lit (.map none)]]) (fun i => i ≤ l.length) (fun i => l.length - i) 0 (by simp)
    (selW [4, 5, 2, 3, 1] 0 (by decide) (by simp) (by simp [visS, fstD, nodD, mapL]) (by simp)) ?_
  intro i hi
  by_cases h : i < l.length
  · have hlt : i * 31 < l.length * 31 := by omega
    have h1 := fstD_succ h
    have h2 := nodD_succ h
    generalize fstD (l.take i) = D at h1 ⊢
    generalize nodD (l.take i) = N at h2 ⊢
    generalize hd : l[i] = d at h1 h2
    have hcd := cellsD_drop h
    rw [hd] at hcd
    have hf := findI_mapL (i := d.id) (enc := encD) (idf := Dfn.id) D
    simp only [keyI] at hf
    cases hh : hasL Dfn.id D d.id with
    | some x =>
      rw [hh] at hf
      simp only [Option.map_some] at hf
      have hins : insL Dfn.id D d = D := by simp [insL, hh]
      rw [hins] at h1
      simp -implicitDefEqProofs [visS, h, hcd, encD, hf]
      refine call0 (bodied_ok d) (by simp [encD]) (by simp) ?_
      cases hb : bodK d.kind with
      | true =>
        rw [nodS, if_pos hb] at h2
        simp -implicitDefEqProofs
        refine callJ (visit_ok d.body D N) [0, 1, 2, 3] (by simp) (by simp [visS]) (by simp [encE]) ?_
        simp -implicitDefEqProofs [visS]
        exact roundS (i + 1) h (by omega) (selW [0, 1, 2, 3, 4] 0 (by decide) (by simp) (by simp [visS, h1, h2]) (by simp [wrap_succ h hl]))
      | false =>
        rw [nodS, if_neg (by simp [hb])] at h2
        simp -implicitDefEqProofs
        exact roundS (i + 1) h (by omega) (selW [0, 1, 2, 3, 4] 0 (by decide) (by simp) (by simp [visS, h1, h2]) (by simp [wrap_succ h hl]))
    | none =>
      rw [hh] at hf
      simp only [Option.map_none] at hf
      have hp := putI_mapL (enc := encD) (idf := Dfn.id) (x := d) D hh
      simp only [keyI, encD] at hp
      have hins : insL Dfn.id D d = D ++ [d] := by simp [insL, hh]
      rw [hins] at h1
      simp -implicitDefEqProofs [visS, h, hcd, encD, hf, hp]
      refine call0 (bodied_ok d) (by simp [encD]) (by simp) ?_
      cases hb : bodK d.kind with
      | true =>
        rw [nodS, if_pos hb] at h2
        simp -implicitDefEqProofs
        refine callJ (visit_ok d.body (D ++ [d]) N) [0, 1, 2, 3] (by simp) (by simp [visS]) (by simp [encE]) ?_
        simp -implicitDefEqProofs [visS]
        exact roundS (i + 1) h (by omega) (selW [0, 1, 2, 3, 4] 0 (by decide) (by simp) (by simp [visS, h1, h2]) (by simp [wrap_succ h hl]))
      | false =>
        rw [nodS, if_neg (by simp [hb])] at h2
        simp -implicitDefEqProofs
        exact roundS (i + 1) h (by omega) (selW [0, 1, 2, 3, 4] 0 (by decide) (by simp) (by simp [visS, h1, h2]) (by simp [wrap_succ h hl]))
  · have hil : i = l.length := by omega
    subst hil
    simp -implicitDefEqProofs [visS]
    exact ret_keep [2, 3] 0 (by decide) (by simp) (by simp) (by simp)
end Go.Proofs.YthglhccibdlccaaDoor
