/-
  value.SameType, trace.sameDef, trace.sameNode, trace.bodied.
-/
import Derived.Test.YthglhccibdlccaaDoorB2
namespace Go.Proofs.YthglhccibdlccaaDoor
open Go.Abs

-- splicery/value.SameType · results ["4"]
def KSameT : K :=
 K.seq (K.ops [⟨none, .box (some 2) (.tmp 0)⟩,
 ⟨none, .box (some 3) (.tmp 1)⟩,
 ⟨none, .mov (some 4) (.const (.bool false))⟩])
 (K.seq (K.ops [⟨none, .addr (some 5) (.tmp 2) 0⟩,
 ⟨none, .ld (some 6) (.tmp 5) 1 false⟩,
 ⟨none, .addr (some 7) (.tmp 3) 0⟩,
 ⟨none, .ld (some 8) (.tmp 7) 1 false⟩,
 ⟨none, .eqv (some 9) false .i (.tmp 6) (.tmp 8)⟩,
 ⟨none, .mov (some 10) (.tmp 9)⟩,
 ⟨some (10, true), .addr (some 11) (.tmp 2) 1⟩,
 ⟨some (10, true), .ld (some 12) (.tmp 11) 3 true⟩,
 ⟨some (10, true), .addr (some 13) (.tmp 3) 1⟩,
 ⟨some (10, true), .ld (some 14) (.tmp 13) 3 true⟩,
 ⟨some (10, true), .eqs (some 15) false [.i, .i, .i] (.tmp 12) (.tmp 14)⟩,
 ⟨none, .pick (some 16) (.tmp 10) (.tmp 15) (.const (.bool false))⟩,
 ⟨none, .mov (some 17) (.tmp 16)⟩,
 ⟨some (17, true), .addr (some 18) (.tmp 2) 4⟩,
 ⟨some (17, true), .ld (some 19) (.tmp 18) 1 false⟩,
 ⟨some (17, true), .addr (some 20) (.tmp 3) 4⟩,
 ⟨some (17, true), .ld (some 21) (.tmp 20) 1 false⟩,
 ⟨some (17, true), .call (some 22) (.func 79) [(.tmp 19), (.tmp 21), (.func 56)]⟩,
 ⟨none, .pick (some 23) (.tmp 17) (.tmp 22) (.const (.bool false))⟩,
 ⟨none, .mov (some 4) (.tmp 23)⟩])
 (K.ret))
theorem cSameT : compile Tryd.prog Tryd.f56.ntmps (Tryd.f56.body.getD .skip) = some KSameT.erase := by kernel_rfl
@[simp] theorem calSameT : callable Tryd.prog 56 = true := by kernel_rfl
-- splicery/trace.sameDef · results ["4"]
def KSD : K :=
 K.seq (K.ops [⟨none, .box (some 2) (.tmp 0)⟩,
 ⟨none, .box (some 3) (.tmp 1)⟩,
 ⟨none, .mov (some 4) (.const (.bool false))⟩])
 (K.seq (K.ops [⟨none, .mov (some 5) (.func 55)⟩])
 (K.seq (K.ops [⟨none, .addr (some 6) (.tmp 2) 3⟩,
 ⟨none, .ld (some 7) (.tmp 6) 1 false⟩,
 ⟨none, .addr (some 8) (.tmp 3) 3⟩,
 ⟨none, .ld (some 9) (.tmp 8) 1 false⟩,
 ⟨none, .eqv (some 10) false .i (.tmp 7) (.tmp 9)⟩,
 ⟨none, .mov (some 11) (.tmp 10)⟩,
 ⟨some (11, true), .addr (some 12) (.tmp 2) 8⟩,
 ⟨some (11, true), .ld (some 13) (.tmp 12) 1 false⟩,
 ⟨some (11, true), .addr (some 14) (.tmp 3) 8⟩,
 ⟨some (11, true), .ld (some 15) (.tmp 14) 1 false⟩,
 ⟨some (11, true), .mov (some 16) (.tmp 5)⟩,
 ⟨some (11, true), .call (some 17) (.func 57) [(.tmp 13), (.tmp 15), (.tmp 16)]⟩,
 ⟨none, .pick (some 18) (.tmp 11) (.tmp 17) (.const (.bool false))⟩,
 ⟨none, .mov (some 19) (.tmp 18)⟩,
 ⟨some (19, true), .addr (some 20) (.tmp 2) 9⟩,
 ⟨some (19, true), .ld (some 21) (.tmp 20) 5 true⟩,
 ⟨some (19, true), .addr (some 22) (.tmp 3) 9⟩,
 ⟨some (19, true), .ld (some 23) (.tmp 22) 5 true⟩,
 ⟨some (19, true), .call (some 24) (.func 56) [(.tmp 21), (.tmp 23)]⟩,
 ⟨none, .pick (some 25) (.tmp 19) (.tmp 24) (.const (.bool false))⟩,
 ⟨none, .mov (some 26) (.tmp 25)⟩,
 ⟨some (26, true), .ld (some 27) (.tmp 2) 31 true⟩,
 ⟨some (26, true), .call (some 28) (.func 34) [(.tmp 27)]⟩,
 ⟨some (26, true), .not (some 29) (.tmp 28)⟩,
 ⟨some (26, true), .mov (some 30) (.tmp 29)⟩,
 ⟨some (30, false), .addr (some 31) (.tmp 2) 14⟩,
 ⟨some (30, false), .addr (some 32) (.tmp 31) 0⟩,
 ⟨some (30, false), .ld (some 33) (.tmp 32) 3 true⟩,
 ⟨some (30, false), .addr (some 34) (.tmp 3) 14⟩,
 ⟨some (30, false), .addr (some 35) (.tmp 34) 0⟩,
 ⟨some (30, false), .ld (some 36) (.tmp 35) 3 true⟩,
 ⟨some (30, false), .eqs (some 37) false [.i, .i, .i] (.tmp 33) (.tmp 36)⟩,
 ⟨some (26, true), .pick (some 38) (.tmp 30) (.const (.bool true)) (.tmp 37)⟩,
 ⟨none, .pick (some 39) (.tmp 26) (.tmp 38) (.const (.bool false))⟩,
 ⟨none, .mov (some 4) (.tmp 39)⟩])
 (K.ret)))
theorem cSD : compile Tryd.prog Tryd.f41.ntmps (Tryd.f41.body.getD .skip) = some KSD.erase := by kernel_rfl
@[simp] theorem calSD : callable Tryd.prog 41 = true := by kernel_rfl
-- splicery/trace.sameDef$1 · results ["4"]
def KSD1 : K :=
 K.seq (K.ops [⟨none, .box (some 2) (.tmp 0)⟩,
 ⟨none, .box (some 3) (.tmp 1)⟩,
 ⟨none, .mov (some 4) (.const (.bool false))⟩])
 (K.seq (K.ops [⟨none, .addr (some 5) (.tmp 2) 0⟩,
 ⟨none, .ld (some 6) (.tmp 5) 3 true⟩,
 ⟨none, .addr (some 7) (.tmp 3) 0⟩,
 ⟨none, .ld (some 8) (.tmp 7) 3 true⟩,
 ⟨none, .eqs (some 9) false [.i, .i, .i] (.tmp 6) (.tmp 8)⟩,
 ⟨none, .mov (some 10) (.tmp 9)⟩,
 ⟨some (10, true), .addr (some 11) (.tmp 2) 4⟩,
 ⟨some (10, true), .ld (some 12) (.tmp 11) 5 true⟩,
 ⟨some (10, true), .addr (some 13) (.tmp 3) 4⟩,
 ⟨some (10, true), .ld (some 14) (.tmp 13) 5 true⟩,
 ⟨some (10, true), .call (some 15) (.func 56) [(.tmp 12), (.tmp 14)]⟩,
 ⟨none, .pick (some 16) (.tmp 10) (.tmp 15) (.const (.bool false))⟩,
 ⟨none, .mov (some 17) (.tmp 16)⟩,
 ⟨some (17, true), .addr (some 18) (.tmp 2) 9⟩,
 ⟨some (17, true), .ld (some 19) (.tmp 18) 1 false⟩,
 ⟨some (17, true), .addr (some 20) (.tmp 3) 9⟩,
 ⟨some (17, true), .ld (some 21) (.tmp 20) 1 false⟩,
 ⟨some (17, true), .eqv (some 22) false .i (.tmp 19) (.tmp 21)⟩,
 ⟨none, .pick (some 23) (.tmp 17) (.tmp 22) (.const (.bool false))⟩,
 ⟨none, .mov (some 4) (.tmp 23)⟩])
 (K.ret))
theorem cSD1 : compile Tryd.prog Tryd.f55.ntmps (Tryd.f55.body.getD .skip) = some KSD1.erase := by kernel_rfl
@[simp] theorem calSD1 : callable Tryd.prog 55 = true := by kernel_rfl
-- splicery/trace.sameNode · results ["4"]
def KSN : K :=
 K.seq (K.ops [⟨none, .box (some 2) (.tmp 0)⟩,
 ⟨none, .box (some 3) (.tmp 1)⟩,
 ⟨none, .mov (some 4) (.const (.bool false))⟩])
 (K.seq (K.ops [⟨none, .mov (some 5) (.func 58)⟩])
 (K.seq (K.ops [⟨none, .addr (some 6) (.tmp 2) 3⟩,
 ⟨none, .ld (some 7) (.tmp 6) 1 false⟩,
 ⟨none, .addr (some 8) (.tmp 3) 3⟩,
 ⟨none, .ld (some 9) (.tmp 8) 1 false⟩,
 ⟨none, .eqv (some 10) false .i (.tmp 7) (.tmp 9)⟩,
 ⟨none, .mov (some 11) (.tmp 10)⟩,
 ⟨some (11, true), .addr (some 12) (.tmp 2) 4⟩,
 ⟨some (11, true), .ld (some 13) (.tmp 12) 1 false⟩,
 ⟨some (11, true), .addr (some 14) (.tmp 3) 4⟩,
 ⟨some (11, true), .ld (some 15) (.tmp 14) 1 false⟩,
 ⟨some (11, true), .eqv (some 16) false .i (.tmp 13) (.tmp 15)⟩,
 ⟨none, .pick (some 17) (.tmp 11) (.tmp 16) (.const (.bool false))⟩,
 ⟨none, .mov (some 18) (.tmp 17)⟩,
 ⟨some (18, true), .addr (some 19) (.tmp 2) 5⟩,
 ⟨some (18, true), .ld (some 20) (.tmp 19) 3 true⟩,
 ⟨some (18, true), .addr (some 21) (.tmp 3) 5⟩,
 ⟨some (18, true), .ld (some 22) (.tmp 21) 3 true⟩,
 ⟨some (18, true), .eqs (some 23) false [.i, .i, .i] (.tmp 20) (.tmp 22)⟩,
 ⟨none, .pick (some 24) (.tmp 18) (.tmp 23) (.const (.bool false))⟩,
 ⟨none, .mov (some 25) (.tmp 24)⟩,
 ⟨some (25, true), .addr (some 26) (.tmp 2) 8⟩,
 ⟨some (25, true), .ld (some 27) (.tmp 26) 5 true⟩,
 ⟨some (25, true), .addr (some 28) (.tmp 3) 8⟩,
 ⟨some (25, true), .ld (some 29) (.tmp 28) 5 true⟩,
 ⟨some (25, true), .call (some 30) (.func 56) [(.tmp 27), (.tmp 29)]⟩,
 ⟨none, .pick (some 31) (.tmp 25) (.tmp 30) (.const (.bool false))⟩,
 ⟨none, .mov (some 32) (.tmp 31)⟩,
 ⟨some (32, true), .addr (some 33) (.tmp 2) 13⟩,
 ⟨some (32, true), .ld (some 34) (.tmp 33) 1 false⟩,
 ⟨some (32, true), .addr (some 35) (.tmp 3) 13⟩,
 ⟨some (32, true), .ld (some 36) (.tmp 35) 1 false⟩,
 ⟨some (32, true), .mov (some 37) (.tmp 5)⟩,
 ⟨some (32, true), .call (some 38) (.func 59) [(.tmp 34), (.tmp 36), (.tmp 37)]⟩,
 ⟨none, .pick (some 39) (.tmp 32) (.tmp 38) (.const (.bool false))⟩,
 ⟨none, .mov (some 4) (.tmp 39)⟩])
 (K.ret)))
theorem cSN : compile Tryd.prog Tryd.f43.ntmps (Tryd.f43.body.getD .skip) = some KSN.erase := by kernel_rfl
@[simp] theorem calSN : callable Tryd.prog 43 = true := by kernel_rfl
-- splicery/trace.sameNode$1 · results ["4"]
def KSN1 : K :=
 K.seq (K.ops [⟨none, .box (some 2) (.tmp 0)⟩,
 ⟨none, .box (some 3) (.tmp 1)⟩,
 ⟨none, .mov (some 4) (.const (.bool false))⟩])
 (K.seq (K.ops [⟨none, .addr (some 5) (.tmp 2) 0⟩,
 ⟨none, .ld (some 6) (.tmp 5) 3 true⟩,
 ⟨none, .addr (some 7) (.tmp 3) 0⟩,
 ⟨none, .ld (some 8) (.tmp 7) 3 true⟩,
 ⟨none, .eqs (some 9) false [.i, .i, .i] (.tmp 6) (.tmp 8)⟩,
 ⟨none, .mov (some 4) (.tmp 9)⟩])
 (K.ret))
theorem cSN1 : compile Tryd.prog Tryd.f58.ntmps (Tryd.f58.body.getD .skip) = some KSN1.erase := by kernel_rfl
@[simp] theorem calSN1 : callable Tryd.prog 58 = true := by kernel_rfl
-- splicery/trace.bodied · results ["2"]
def KBod : K :=
 K.seq (K.ops [⟨none, .box (some 1) (.tmp 0)⟩,
 ⟨none, .mov (some 2) (.const (.bool false))⟩])
 (K.seq (K.ops [⟨none, .addr (some 3) (.tmp 1) 3⟩,
 ⟨none, .ld (some 4) (.tmp 3) 1 false⟩,
 ⟨none, .eqv (some 5) false .i (.tmp 4) (.const (.int .i64 2))⟩,
 ⟨none, .mov (some 6) (.tmp 5)⟩,
 ⟨some (6, false), .addr (some 7) (.tmp 1) 3⟩,
 ⟨some (6, false), .ld (some 8) (.tmp 7) 1 false⟩,
 ⟨some (6, false), .eqv (some 9) false .i (.tmp 8) (.const (.int .i64 3))⟩,
 ⟨none, .pick (some 10) (.tmp 6) (.const (.bool true)) (.tmp 9)⟩,
 ⟨none, .mov (some 11) (.tmp 10)⟩,
 ⟨some (11, false), .addr (some 12) (.tmp 1) 3⟩,
 ⟨some (11, false), .ld (some 13) (.tmp 12) 1 false⟩,
 ⟨some (11, false), .eqv (some 14) false .i (.tmp 13) (.const (.int .i64 4))⟩,
 ⟨none, .pick (some 15) (.tmp 11) (.const (.bool true)) (.tmp 14)⟩,
 ⟨none, .mov (some 16) (.tmp 15)⟩,
 ⟨some (16, false), .addr (some 17) (.tmp 1) 3⟩,
 ⟨some (16, false), .ld (some 18) (.tmp 17) 1 false⟩,
 ⟨some (16, false), .eqv (some 19) false .i (.tmp 18) (.const (.int .i64 5))⟩,
 ⟨none, .pick (some 20) (.tmp 16) (.const (.bool true)) (.tmp 19)⟩,
 ⟨none, .mov (some 2) (.tmp 20)⟩])
 (K.ret))
theorem cBod : compile Tryd.prog Tryd.f34.ntmps (Tryd.f34.body.getD .skip) = some KBod.erase := by kernel_rfl
@[simp] theorem calBod : callable Tryd.prog 34 = true := by kernel_rfl

mutual
def sameT : Typ → Typ → Bool
  | .mk k i l, .mk k' i' l' => decide (k = k') && (decide (i = i') && sameTs l l')
def sameTs : List Typ → List Typ → Bool
  | [], [] => true
  | x :: a, y :: b => sameT x y && sameTs a b
  | _, _ => false
end
theorem sameTs_eq : ∀ (a b : List Typ), sameTs a b = allS sameT a b
  | [], [] => by simp only [sameTs, allS]
  | x :: a, y :: b => by simp only [sameTs, allS, sameTs_eq a b]
  | [], _ :: _ => by simp only [sameTs, allS]
  | _ :: _, [] => by simp only [sameTs, allS]
theorem sameT_def (a b : Typ) : sameT a b = (decide (a.k = b.k) && (decide (a.id = b.id) && allS sameT a.kids b.kids)) := by
  cases a; cases b; simp only [sameT, sameTs_eq]; rfl
mutual
theorem sameT_iff : ∀ (a b : Typ), sameT a b = true ↔ a = b
  | .mk k i l, .mk k' i' l' => by
    simp only [sameT, Bool.and_eq_true, decide_eq_true_eq, sameTs_iff l l', Typ.mk.injEq]
theorem sameTs_iff : ∀ (a b : List Typ), sameTs a b = true ↔ a = b
  | [], [] => by simp [sameTs]
  | x :: a, y :: b => by simp only [sameTs, Bool.and_eq_true, sameT_iff x y, sameTs_iff a b, List.cons.injEq]
  | [], _ :: _ => by simp [sameTs]
  | _ :: _, [] => by simp [sameTs]
end
theorem sameT_refl (a : Typ) : sameT a a = true := (sameT_iff a a).2 rfl

mutual
theorem sameType_ok : ∀ (a b : Typ), Ret Tryd.prog 56 [.agg (encT a), .agg (encT b)] [] (bl (sameT a b)) []
  | .mk k i l, b => by
    have ih := sameTypes_ok l
    generalize ha : Typ.mk k i l = a
    have hal : a.kids = l := by rw [← ha]; rfl
    rw [← hal] at ih
    refine ret_of_wp Tryd.func56 rfl cSameT (rs := [.slot 4]) (by kernel_rfl) ?_
    unfold KSameT
    have hd := sameT_def a b
    by_cases h1 : a.k = b.k
    · by_cases h2 : a.id = b.id
      · simp -implicitDefEqProofs [encT, h1, h2]
        refine call0 (eqFT_ok 56 calSameT sameT a.kids b.kids fun x hx y hy => ih x hx y) (by simp) (by simp) ?_
        simp -implicitDefEqProofs
        exact ret_end 0 (by simp [hd, h1, h2])
      · have h3 : same3 a.id.a a.id.b a.id.c b.id.a b.id.b b.id.c = false := by rw [same3_id]; exact decide_eq_false h2
        simp -implicitDefEqProofs [encT, h1, h3]
        exact ret_end 0 (by simp [hd, h2])
    · simp -implicitDefEqProofs [encT, h1]
      exact ret_end 0 (by simp [hd, h1])
theorem sameTypes_ok : ∀ (l : List Typ), ∀ x ∈ l, ∀ y : Typ, Ret Tryd.prog 56 [.agg (encT x), .agg (encT y)] [] (bl (sameT x y)) []
  | [], x, hx, _ => by simp at hx
  | z :: l, x, hx, y => by
    rcases List.mem_cons.1 hx with e | hx
    · rw [e]; exact sameType_ok z y
    · exact sameTypes_ok l x hx y
end

/-- Whether a kind of definitions has a body. -/
def bodK (k : Int) : Bool := decide (k = 2) || (decide (k = 3) || (decide (k = 4) || decide (k = 5)))
theorem bodied_ok (d : Dfn) : Ret Tryd.prog 34 [.agg (encD d)] [] (bl (bodK d.kind)) [] := by
  refine ret_of_wp Tryd.func34 rfl cBod (rs := [.slot 2]) (by kernel_rfl) ?_
  unfold KBod
  by_cases h2 : d.kind = 2
  · simp -implicitDefEqProofs [encD, h2]
    exact ret_end 0 (by simp [bodK, h2])
  · by_cases h3 : d.kind = 3
    · simp -implicitDefEqProofs [encD, h2, h3]
      exact ret_end 0 (by simp [bodK, h2, h3])
    · by_cases h4 : d.kind = 4
      · simp -implicitDefEqProofs [encD, h2, h3, h4]
        exact ret_end 0 (by simp [bodK, h2, h3, h4])
      · simp -implicitDefEqProofs [encD, h2, h3, h4]
        exact ret_end 0 (by simp [bodK, h2, h3, h4])
def sameS (x y : Slt) : Bool := decide (x.id = y.id) && (sameT x.typ y.typ && decide (x.most = y.most))
theorem sameDef1_ok (x y : Slt) : Ret Tryd.prog 55 [.agg (encS x), .agg (encS y)] [] (bl (sameS x y)) [] := by
  refine ret_of_wp Tryd.func55 rfl cSD1 (rs := [.slot 4]) (by kernel_rfl) ?_
  unfold KSD1
  by_cases h1 : x.id = y.id
  · simp -implicitDefEqProofs [encS, h1]
    refine call0 (sameType_ok x.typ y.typ) (by simp [encT]) (by simp) ?_
    cases h2 : sameT x.typ y.typ with
    | true =>
      simp -implicitDefEqProofs
      exact ret_end 0 (by simp [sameS, h1, h2])
    | false =>
      simp -implicitDefEqProofs
      exact ret_end 0 (by simp [sameS, h1, h2])
  · have h3 : same3 x.id.a x.id.b x.id.c y.id.a y.id.b y.id.c = false := by rw [same3_id]; exact decide_eq_false h1
    simp -implicitDefEqProofs [encS, h3]
    exact ret_end 0 (by simp [sameS, h1])
def sameK (x y : Exp) : Bool := decide (x.id = y.id)
theorem sameNode1_ok (x y : Exp) : Ret Tryd.prog 58 [.agg (encE x), .agg (encE y)] [] (bl (sameK x y)) [] := by
  refine ret_of_wp Tryd.func58 rfl cSN1 (rs := [.slot 4]) (by kernel_rfl) ?_
  unfold KSN1
  simp -implicitDefEqProofs [encE]
  exact ret_end 0 (by simp [sameK])
/-- Two definitions have the same content. -/
def sameDf (a b : Dfn) : Bool := decide (a.kind = b.kind) && (allS sameS a.slots b.slots && (sameT a.res b.res && (!bodK a.kind || decide (a.body.id = b.body.id))))
theorem sameDef_ok (a b : Dfn) : Ret Tryd.prog 41 [.agg (encD a), .agg (encD b)] [] (bl (sameDf a b)) [] := by
  refine ret_of_wp Tryd.func41 rfl cSD (rs := [.slot 4]) (by kernel_rfl) ?_
  unfold KSD
  by_cases h1 : a.kind = b.kind
  · simp -implicitDefEqProofs [encD, h1]
    refine call0 (eqFS_ok 55 calSD1 sameS a.slots b.slots fun x _ y _ => sameDef1_ok x y) (by simp) (by simp) ?_
    cases h2 : allS sameS a.slots b.slots with
    | false =>
      simp -implicitDefEqProofs
      exact ret_end 0 (by simp [sameDf, h1, h2])
    | true =>
      simp -implicitDefEqProofs [encD]
      refine call0 (sameType_ok a.res b.res) (by simp [encT]) (by simp) ?_
      cases h3 : sameT a.res b.res with
      | false =>
        simp -implicitDefEqProofs
        exact ret_end 0 (by simp [sameDf, h1, h2, h3])
      | true =>
        simp -implicitDefEqProofs [encD]
        refine call0 (bodied_ok a) (by simp [encD, h1]) (by simp) ?_
        cases h4 : bodK a.kind with
        | false =>
          simp -implicitDefEqProofs
          exact ret_end 0 (by rw [h1] at h4; simp [sameDf, h1, h2, h3, h4])
        | true =>
          simp -implicitDefEqProofs [encD]
          exact ret_end 0 (by rw [h1] at h4; simp [sameDf, h1, h2, h3, h4])
  · simp -implicitDefEqProofs [encD, h1]
    exact ret_end 0 (by simp [sameDf, h1])
/-- Two nodes have the same content. -/
def sameNd (a b : Exp) : Bool := decide (a.k = b.k) && (decide (a.n = b.n) && (decide (a.ref = b.ref) && (sameT a.typ b.typ && allS sameK a.kids b.kids)))
theorem sameNode_ok (a b : Exp) : Ret Tryd.prog 43 [.agg (encE a), .agg (encE b)] [] (bl (sameNd a b)) [] := by
  refine ret_of_wp Tryd.func43 rfl cSN (rs := [.slot 4]) (by kernel_rfl) ?_
  unfold KSN
  by_cases h1 : a.k = b.k
  · by_cases h2 : a.n = b.n
    · by_cases h3 : a.ref = b.ref
      · simp -implicitDefEqProofs [encE, h1, h2, h3]
        refine call0 (sameType_ok a.typ b.typ) (by simp [encT]) (by simp) ?_
        cases h4 : sameT a.typ b.typ with
        | false =>
          simp -implicitDefEqProofs
          exact ret_end 0 (by simp [sameNd, h1, h2, h3, h4])
        | true =>
          simp -implicitDefEqProofs [encE]
          refine call0 (eqFE_ok 58 calSN1 sameK a.kids b.kids fun x _ y _ => sameNode1_ok x y) (by simp) (by simp) ?_
          simp -implicitDefEqProofs
          exact ret_end 0 (by simp [sameNd, h1, h2, h3, h4])
      · have h5 : same3 a.ref.a a.ref.b a.ref.c b.ref.a b.ref.b b.ref.c = false := by rw [same3_id]; exact decide_eq_false h3
        simp -implicitDefEqProofs [encE, h1, h2, h5]
        exact ret_end 0 (by simp [sameNd, h1, h2, h3])
    · simp -implicitDefEqProofs [encE, h1, h2]
      exact ret_end 0 (by simp [sameNd, h1, h2])
  · simp -implicitDefEqProofs [encE, h1]
    exact ret_end 0 (by simp [sameNd, h1])
end Go.Proofs.YthglhccibdlccaaDoor
