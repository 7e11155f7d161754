/-
  The maker's plans: the types of records and variants; all plans.
  What the reference says of changes, as data: the same set.
  The maker's definitions before their bodies: what is known of them.
-/
import Derived.Test.YthglhccibdlccaaGreatDoorX41
import Derived.Test.YthglhccibdlccaaGreatDoorX42
import Derived.Test.YthglhccibdlccaaGreatDoorX23
set_option linter.unusedVariables false
set_option linter.unusedSimpArgs false
namespace Go.Proofs.YthglhccibdlccaaGreatDoor
open Go.Abs
theorem cellsN_cons {s : ByteArray} {l : List ByteArray} : cellsN (s :: l) = .lit (.string s) :: cellsN l := rfl
theorem tyL_len (l : List Int) (at_ most : Int) (n : Nat) (one : Typ) : (tyL l at_ most n one).length = n := by simp [tyL]
theorem tyL_take (l : List Int) (at_ most : Int) {n i : Nat} (h : i < n) (one : Typ) : (tyL l at_ most n one).take (i + 1) = (tyL l at_ most n one).take i ++ [simV (atV l (at_ + i) most) one one] := by
  have hi : i < (tyL l at_ most n one).length := by rw [tyL_len]; exact h
  rw [List.take_succ_eq_append_getElem hi]
  congr 2
  simp [tyL]
theorem tyL_takeLen (l : List Int) (at_ most : Int) {n i : Nat} (h : i ≤ n) (one : Typ) : ((tyL l at_ most n one).take i).length = i := by rw [List.length_take, tyL_len]; omega
theorem tyL_all (l : List Int) (at_ most : Int) (n : Nat) (one : Typ) : (tyL l at_ most n one).take n = tyL l at_ most n one := List.take_of_length_le (by rw [tyL_len]; exact Nat.le_refl _)
set_option maxHeartbeats 1000000 in
theorem pls_Q (l : List Int) (mods : Int) (hm : 1 ≤ mods) (hm2 : mods ≤ 2) (hl : ∀ x ∈ l, w64 x = x) :
    wpK Tryz.prog 0 KPlsQ (finG (plansV l mods)) (mkEnv [(0, .sl l.length (ints l)), (1, int mods), (5, bl (hasH l)), (6, .ptr 0 0), (7, .ptr 1 0), (8, .sl (pEvent l mods).types.length (cellsT (pEvent l mods).types)), (10, .row 2 1)])
      [.box (encT (tPoint mods)), .box (encT (tEvent mods)), .row false 88 11 1 (encG (pPoint l mods))] := by
  have w1 : IntKind.i64.wrap (mods - 1) = mods - 1 := IntWalk.i64_in _ (by omega)
  have w2 : IntKind.i64.wrap (mods + 2) = mods + 2 := IntWalk.i64_in _ (by omega)
  have h0 := at_ok l 9 3 (by omega)
  obtain ⟨r0, r0'⟩ := at_range (i := 9) hl (most := 3) (by omega)
  obtain ⟨N, hN⟩ : ∃ N : Nat, (N : Int) = atV l 9 3 := ⟨(atV l 9 3).toNat, by omega⟩
  unfold KPlsQ
  cases hh : hasH l
  · have hA := pls_A l mods hm hm2 hl [pPoint l mods, pEvent l mods] (by simp)
    have hpl : [pPoint l mods, pEvent l mods] ++ plB l mods = plansV l mods := by simp [plansV, hh]
    rw [hpl, hh] at hA
    simp -implicitDefEqProofs [w1]
    refine ⟨by simp [maxLen], ?_⟩
    refine ⟨_, _, selW [0, 1, 3, 2] 0 (by decide) (by simp) ?_ (by simp), hA⟩
    simp [encT, cellsG_cons, encG, pEvent, tInt, Id.zero, tState, hh, cellsN_cons]
  · have hA := pls_A l mods hm hm2 hl [pPoint l mods, pEvent l mods, pState l mods, pOut mods] (by simp)
    have hpl : [pPoint l mods, pEvent l mods, pState l mods, pOut mods] ++ plB l mods = plansV l mods := by simp [plansV, hh]
    rw [hpl, hh] at hA
    simp -implicitDefEqProofs [w1]
    refine ⟨by simp [maxLen], ?_⟩
    refine loopS (S := Nat) (fun i => [(0, .sl l.length (ints l)), (1, int mods), (5, bl true), (6, .ptr 0 0), (7, .ptr 1 0), (8, .row 4 (1 + i)), (10, .row 2 2), (12, int (mods - 1)), (13, .ptr 3 0), (14, int i)])
      (fun i => [.box (encT (tPoint mods)), .box (encT (tEvent mods)), .row false 88 11 2 (encG (pPoint l mods) ++ encG (pEvent l mods)), .box (encT (tPoint mods)), .row false 33 5 (1 + i) (encT tInt ++ cellsT ((tyL l 10 4 N (tPoint mods)).take i))]) (fun i => i ≤ N) (fun i => N - i) 0 (by simp)
      (selW [0, 1, 2, 3, 4] 0 (by decide) (by simp) (by simp [encT, encG, pEvent, tInt, Id.zero, cellsN_cons]) (by simp)) ?_
    intro i hi
    by_cases h : i < N
    · have h1 := at_ok l (10 + i) 4 (by omega)
      have h2 := simple_at l (10 + i) 4 (by omega) hl (by omega) (tPoint mods) (tPoint mods)
      have hlt : (i : Int) < atV l 9 3 := by omega
      have v1 : IntKind.i64.wrap (10 + (i : Int)) = 10 + i := IntWalk.i64_in _ (by omega)
      have v2 : IntKind.i64.wrap ((i : Int) + 1) = i + 1 := IntWalk.i64_in _ (by omega)
      have hst := tyL_take l 10 4 h (tPoint mods)
      have hsl := tyL_takeLen l 10 4 hi (tPoint mods)
      simp -implicitDefEqProofs
      refine call0 h0 (by simp) (by simp) ?_
      simp -implicitDefEqProofs [hlt, v1]
      refine dcall0 h1 (by simp) (by simp) ?_
      simp -implicitDefEqProofs [encT]
      refine dcall0 h2 (by simp [encT]) (by simp) ?_
      simp -implicitDefEqProofs [encT]
      refine ⟨⟨by simp [maxLen]; omega, by omega⟩, ?_⟩
      exact roundS (i + 1) h (by omega) (selW [0, 1, 2, 3, 4] 0 (by decide) (by simp) (by rw [hst]; simp [encT, cellsT_append, cellsT_cons, hsl]; omega) (by simp [v2]; omega))
    · have hie : i = N := by omega
      subst hie
      have h3 := id_ok (mods + 2)
      have h4 := of_ok (idR (mods + 2))
      have hall := tyL_all l 10 4 i (tPoint mods)
      have hty : (pState l mods).types = tInt :: tyL l 10 4 i (tPoint mods) := by rw [hN]; rfl
      have hlen := tyL_len l 10 4 i (tPoint mods)
      simp -implicitDefEqProofs
      refine call0 h0 (by simp) (by simp) ?_
      simp -implicitDefEqProofs [hN]
      refine ⟨mkEnv [(0, .sl l.length (ints l)), (1, int mods), (5, bl true), (6, .ptr 0 0), (7, .ptr 1 0), (8, .sl (pState l mods).types.length (cellsT (pState l mods).types)), (10, .row 2 2), (12, int (mods - 1)), (13, .ptr 3 0)], [.box (encT (tPoint mods)), .box (encT (tEvent mods)), .row false 88 11 2 (encG (pPoint l mods) ++ encG (pEvent l mods)), .box (encT (tPoint mods))],
        selW [0, 1, 2, 3] 1 (by decide) (by simp) (by simp) (by rw [hty]; simp [← hN, hall, hlen, cellsT_cons]; omega), ?_⟩
      simp -implicitDefEqProofs [w2]
      refine call0 h3 (by simp) (by simp) ?_
      simp -implicitDefEqProofs
      refine call0 h4 (by simp [encI]) (by simp) ?_
      simp -implicitDefEqProofs [encT]
      refine ⟨by simp [maxLen], ?_⟩
      refine dcall0 list0 (by simp [encT, tInt, Id.zero]) (by simp) ?_
      simp -implicitDefEqProofs [encT]
      refine ⟨by simp [maxLen], ?_⟩
      refine ⟨_, _, selW [0, 1, 3, 2] 0 (by decide) (by simp) ?_ (by simp), hA⟩
      simp [encT, cellsG_cons, encG, pOut, pState, cellsT_cons, tInt, Id.zero, tState, hh, cellsN_cons]
set_option maxHeartbeats 1000000 in
theorem pls_P (l : List Int) (mods : Int) (hm : 1 ≤ mods) (hm2 : mods ≤ 2) (hl : ∀ x ∈ l, w64 x = x) :
    wpK Tryz.prog 0 KPlsP (finG (plansV l mods)) (mkEnv [(0, .sl l.length (ints l)), (1, int mods), (5, bl (hasH l)), (6, .ptr 0 0), (7, .ptr 1 0), (8, .sl (pPoint l mods).types.length (cellsT (pPoint l mods).types))])
      [.box (encT (tPoint mods)), .box (encT (tEvent mods))] := by
  have h0 := at_ok l 6 2 (by omega)
  obtain ⟨r0, r0'⟩ := at_range (i := 6) hl (most := 2) (by omega)
  obtain ⟨N, hN⟩ : ∃ N : Nat, (N : Int) = 1 + atV l 6 2 := ⟨(1 + atV l 6 2).toNat, by omega⟩
  have wN : IntKind.i64.wrap (1 + atV l 6 2) = N := by rw [hN]; exact IntWalk.i64_in _ (by omega)
  have hQ := pls_Q l mods hm hm2 hl
  unfold KPlsP
  simp -implicitDefEqProofs
  refine loopS (S := Nat) (fun i => [(0, .sl l.length (ints l)), (1, int mods), (5, bl (hasH l)), (6, .ptr 0 0), (7, .ptr 1 0), (8, .row 3 (1 + i)), (10, .row 2 1), (11, int i)])
    (fun i => [.box (encT (tPoint mods)), .box (encT (tEvent mods)), .row false 88 11 1 (encG (pPoint l mods)), .row false 33 5 (1 + i) (encT tInt ++ cellsT ((tyL l 7 4 N (tPoint mods)).take i))]) (fun i => i ≤ N) (fun i => N - i) 0 (by simp)
    (selW [0, 1, 2, 3] 0 (by decide) (by simp) (by simp [encT, encG, pPoint, tInt, Id.zero, cellsN_cons]) (by simp)) ?_
  intro i hi
  by_cases h : i < N
  · have h1 := at_ok l (7 + i) 4 (by omega)
    have h2 := simple_at l (7 + i) 4 (by omega) hl (by omega) (tPoint mods) (tPoint mods)
    have v1 : IntKind.i64.wrap (7 + (i : Int)) = 7 + i := IntWalk.i64_in _ (by omega)
    have v2 : IntKind.i64.wrap ((i : Int) + 1) = i + 1 := IntWalk.i64_in _ (by omega)
    have hst := tyL_take l 7 4 h (tPoint mods)
    have hsl := tyL_takeLen l 7 4 hi (tPoint mods)
    simp -implicitDefEqProofs
    refine call0 h0 (by simp) (by simp) ?_
    simp -implicitDefEqProofs [h, v1, wN]
    refine dcall0 h1 (by simp) (by simp) ?_
    simp -implicitDefEqProofs [encT]
    refine dcall0 h2 (by simp [encT]) (by simp) ?_
    simp -implicitDefEqProofs [encT]
    refine ⟨⟨by simp [maxLen]; omega, by omega⟩, ?_⟩
    exact roundS (i + 1) h (by omega) (selW [0, 1, 2, 3] 0 (by decide) (by simp) (by rw [hst]; simp [encT, cellsT_append, cellsT_cons, hsl]; omega) (by simp [v2]; omega))
  · have hie : i = N := by omega
    subst hie
    have hall := tyL_all l 7 4 i (tPoint mods)
    have hty : (pEvent l mods).types = tInt :: tyL l 7 4 i (tPoint mods) := by rw [hN]; rfl
    have hlen := tyL_len l 7 4 i (tPoint mods)
    simp -implicitDefEqProofs
    refine call0 h0 (by simp) (by simp) ?_
    simp -implicitDefEqProofs [wN]
    exact ⟨_, _, selW [0, 1, 2] 1 (by decide) (by simp) (by simp) (by rw [hty]; simp [hall, hlen, cellsT_cons]; omega), hQ⟩
set_option maxHeartbeats 1000000 in
theorem plans_ok (l : List Int) (mods : Int) (hm : 1 ≤ mods) (hm2 : mods ≤ 2) (hl : ∀ x ∈ l, w64 x = x) :
    Ret Tryz.prog 33 [.sl l.length (ints l), int mods] [] (.sl (plansV l mods).length (cellsG (plansV l mods))) [] := by
  have w1 : IntKind.i64.wrap (mods + 1) = mods + 1 := IntWalk.i64_in _ (by omega)
  have k0 := at_ok l 1 4 (by omega)
  have k1 := id_ok mods
  have k2 := of_ok (idR mods)
  have k3 := id_ok (mods + 1)
  have k4 := of_ok (idR (mods + 1))
  have h0 := at_ok l 2 3 (by omega)
  obtain ⟨r0, r0'⟩ := at_range (i := 2) hl (most := 3) (by omega)
  obtain ⟨N, hN⟩ : ∃ N : Nat, (N : Int) = 1 + atV l 2 3 := ⟨(1 + atV l 2 3).toNat, by omega⟩
  have wN : IntKind.i64.wrap (1 + atV l 2 3) = N := by rw [hN]; exact IntWalk.i64_in _ (by omega)
  have hP := pls_P l mods hm hm2 hl
  refine ret_of_wpH Tryz.func33 rfl cPls (rs := [.slot 4]) (by kernel_rfl) ?_
  unfold KPls
  simp -implicitDefEqProofs
  refine call0 k0 (by simp) (by simp) ?_
  simp -implicitDefEqProofs
  refine call0 k1 (by simp) (by simp) ?_
  simp -implicitDefEqProofs
  refine call0 k2 (by simp [encI]) (by simp) ?_
  simp -implicitDefEqProofs [encT, w1]
  refine call0 k3 (by simp) (by simp) ?_
  simp -implicitDefEqProofs
  refine call0 k4 (by simp [encI]) (by simp) ?_
  simp -implicitDefEqProofs [encT]
  refine loopS (S := Nat) (fun i => [(0, .sl l.length (ints l)), (1, int mods), (5, bl (hasH l)), (6, .ptr 0 0), (7, .ptr 1 0), (8, .row 2 i), (9, int i)])
    (fun i => [.box (encT (tPoint mods)), .box (encT (tEvent mods)), .row false 33 5 i (cellsT ((tyL l 3 3 N (tPoint mods)).take i))]) (fun i => i ≤ N) (fun i => N - i) 0 (by simp)
    ((weak_nilslot (t := 8) (by simp) 33 5).trans (selW [0, 1, 2] 0 (by decide) (by simp) (by simp [encT, tPoint, tEvent]) (by simp [hasH]))) ?_
  intro i hi
  by_cases h : i < N
  · have h1 := at_ok l (3 + i) 3 (by omega)
    have h2 := simple_at l (3 + i) 3 (by omega) hl (by omega) (tPoint mods) (tPoint mods)
    have v1 : IntKind.i64.wrap (3 + (i : Int)) = 3 + i := IntWalk.i64_in _ (by omega)
    have v2 : IntKind.i64.wrap ((i : Int) + 1) = i + 1 := IntWalk.i64_in _ (by omega)
    have hst := tyL_take l 3 3 h (tPoint mods)
    have hsl := tyL_takeLen l 3 3 hi (tPoint mods)
    simp -implicitDefEqProofs
    refine call0 h0 (by simp) (by simp) ?_
    simp -implicitDefEqProofs [h, v1, wN]
    refine dcall0 h1 (by simp) (by simp) ?_
    simp -implicitDefEqProofs [encT]
    refine dcall0 h2 (by simp [encT]) (by simp) ?_
    simp -implicitDefEqProofs [encT]
    refine ⟨⟨by simp [maxLen]; omega, by omega⟩, ?_⟩
    exact roundS (i + 1) h (by omega) (selW [0, 1, 2] 0 (by decide) (by simp) (by rw [hst]; simp [encT, cellsT_append, cellsT_cons, hsl]) (by simp [v2]))
  · have hie : i = N := by omega
    subst hie
    have hall := tyL_all l 3 3 i (tPoint mods)
    have hty : (pPoint l mods).types = tyL l 3 3 i (tPoint mods) := by rw [hN]; rfl
    have hlen := tyL_len l 3 3 i (tPoint mods)
    simp -implicitDefEqProofs
    refine call0 h0 (by simp) (by simp) ?_
    simp -implicitDefEqProofs [wN]
    exact ⟨_, _, selW [0, 1] 1 (by decide) (by simp) (by simp) (by rw [hty]; simp [hall, hlen]), hP⟩
end Go.Proofs.YthglhccibdlccaaGreatDoor
namespace Go.Proofs.YthglhccibdlccaaGreatDoor
open Go.Abs
def oneR {α : Type} (idf : α → Id) (same : α → α → Bool) (P Q : List α) (d : α) : Option Id := match hasL idf P (idf d) with
  | none => none
  | some a => match hasL idf Q (idf a) with
    | none => some (idf a)
    | some b => if same a b then none else some (idf a)
def outR {α : Type} (idf : α → Id) (same : α → α → Bool) (P Q : List α) : List Id := P.filterMap (oneR idf same P Q)
theorem hasL_id {α : Type} {idf : α → Id} {l : List α} {x : Id} {a : α} (h : hasL idf l x = some a) : idf a = x := by
  have := List.find?_some h
  simpa using this
theorem hasL_mem {α : Type} {idf : α → Id} {l : List α} {x : Id} {a : α} (h : hasL idf l x = some a) : a ∈ l := List.mem_of_find?_eq_some h
theorem hasL_some {α : Type} {idf : α → Id} {l : List α} {a : α} (h : a ∈ l) : ∃ b, hasL idf l (idf a) = some b := by
  cases hh : hasL idf l (idf a) with
  | some b => exact ⟨b, rfl⟩
  | none =>
    unfold hasL at hh
    rw [List.find?_eq_none] at hh
    have := hh a h
    simp at this
theorem hasL_append {α : Type} {idf : α → Id} (l l' : List α) (x : Id) : hasL idf (l ++ l') x = (hasL idf l x).or (hasL idf l' x) := by
  simp only [hasL, List.find?_append]
theorem hasL_ins {α : Type} {idf : α → Id} (l : List α) (a : α) (x : Id) : hasL idf (insL idf l a) x = (hasL idf l x).or (if idf a = x then some a else none) := by
  unfold insL
  by_cases h : (hasL idf l (idf a)).isSome
  · rw [if_pos h]
    by_cases e : idf a = x
    · subst e
      obtain ⟨b, hb⟩ := Option.isSome_iff_exists.1 h
      rw [hb]; rfl
    · rw [if_neg e]; simp
  · rw [if_neg h, hasL_append]
    congr 1
    simp only [hasL, List.find?_cons, List.find?_nil]
    by_cases e : idf a = x
    · rw [if_pos e]; simp [e]
    · rw [if_neg e]; simp [e]
theorem hasL_fold {α : Type} {idf : α → Id} (x : Id) : ∀ (L acc : List α), hasL idf (L.foldl (insL idf) acc) x = (hasL idf acc x).or (hasL idf L x)
  | [], acc => by simp [hasL]
  | a :: L, acc => by
    rw [List.foldl_cons, hasL_fold x L, hasL_ins]
    have : hasL idf (a :: L) x = (if idf a = x then some a else none).or (hasL idf L x) := by
      simp only [hasL, List.find?_cons]
      by_cases e : idf a = x
      · simp [e]
      · simp [e]
    rw [this, Option.or_assoc]
theorem visE_fold : (∀ (e : Exp) (N : List Exp), visE e N = (belowE e).foldl (insL Exp.id) N) ∧ ∀ (l : List Exp) (N : List Exp), visEs l N = (belowL l).foldl (insL Exp.id) N := by
  constructor
  · exact fun e => vf e
  · exact fun l => vfs l
where
  vf : ∀ (e : Exp) (N : List Exp), visE e N = (belowE e).foldl (insL Exp.id) N
    | .mk a b c d t ks ns, N => by
      simp only [visE, belowE, List.foldl_cons]
      exact vfs ks _
  vfs : ∀ (l : List Exp) (N : List Exp), visEs l N = (belowL l).foldl (insL Exp.id) N
    | [], N => rfl
    | e :: l, N => by
      simp only [visEs, belowL, List.foldl_append]
      rw [vf e N, vfs l]
theorem nodD_fold (ds : List Dfn) : nodD ds = (nodesV ds).foldl (insL Exp.id) [] := by
  have key : ∀ (ds : List Dfn) (N : List Exp), ds.foldl nodS N = (nodesV ds).foldl (insL Exp.id) N := by
    intro ds
    induction ds with
    | nil => intro N; rfl
    | cons d ds ih =>
      intro N
      rw [List.foldl_cons, ih]
      have e : nodesV (d :: ds) = (if bodK d.kind then belowE d.body else []) ++ nodesV ds := by simp [nodesV]
      rw [e, List.foldl_append]
      congr 1
      unfold nodS
      split
      · exact visE_fold.1 _ _
      · rfl
  exact key ds []
section
variable {α : Type} {idf : α → Id} {same : α → α → Bool}
theorem hasL_self (L : List α) {a : α} (h : a ∈ L.foldl (insL idf) []) : hasL idf (L.foldl (insL idf) []) (idf a) = some a := by
  have key : ∀ (L acc : List α), (∀ b ∈ acc, hasL idf acc (idf b) = some b) → ∀ b ∈ L.foldl (insL idf) acc, hasL idf (L.foldl (insL idf) acc) (idf b) = some b := by
    intro L
    induction L with
    | nil => exact fun acc h => h
    | cons x L ih =>
      intro acc hacc
      rw [List.foldl_cons]
      refine ih _ fun b hb => ?_
      rw [hasL_ins]
      unfold insL at hb
      split at hb
      · rw [hacc b hb]; rfl
      · rename_i hn
        rcases List.mem_append.1 hb with hb | hb
        · rw [hacc b hb]; rfl
        · rw [List.mem_singleton.1 hb]
          have : hasL idf acc (idf x) = none := by simpa using hn
          rw [this]; simp
  exact key L [] (by simp) a h
theorem mem_outR {P Q : List α} {x : Id} : x ∈ outR idf same P Q ↔ ∃ a, hasL idf P x = some a ∧ ∀ b, hasL idf Q x = some b → same a b = false := by
  simp only [outR, List.mem_filterMap]
  constructor
  · rintro ⟨d, hd, h⟩
    obtain ⟨a, ha⟩ := hasL_some (idf := idf) hd
    have hai := hasL_id ha
    simp only [oneR, ha, hai] at h
    cases hq : hasL idf Q (idf d) with
    | none =>
      rw [hq] at h
      simp only [Option.some.injEq] at h
      subst h
      exact ⟨a, ha, fun b hb => by rw [hq] at hb; cases hb⟩
    | some b =>
      rw [hq] at h
      simp only at h
      split at h
      · cases h
      · rename_i hs
        simp only [Option.some.injEq] at h
        subst h
        exact ⟨a, ha, fun b' hb => by rw [hq] at hb; cases hb; simpa using hs⟩
  · rintro ⟨a, ha, h⟩
    have hai := hasL_id ha
    subst hai
    refine ⟨a, hasL_mem ha, ?_⟩
    simp only [oneR, ha]
    cases hq : hasL idf Q (idf a) with
    | none => rfl
    | some b =>
      simp only
      rw [h b hq]
      simp
theorem mem_difL {P Q : List α} {x : Id} : x ∈ difL idf same (P.foldl (insL idf) []) (Q.foldl (insL idf) []) ↔ (∃ a, hasL idf P x = some a ∧ ∀ b, hasL idf Q x = some b → same a b = false) ∨ (hasL idf P x = none ∧ ∃ b, hasL idf Q x = some b) := by
  have hP : ∀ x, hasL idf (P.foldl (insL idf) []) x = hasL idf P x := fun x => by rw [hasL_fold]; rfl
  have hQ : ∀ x, hasL idf (Q.foldl (insL idf) []) x = hasL idf Q x := fun x => by rw [hasL_fold]; rfl
  simp only [difL, List.mem_append, List.mem_map, List.mem_filter]
  constructor
  · rintro (⟨a, ⟨h1, h2⟩, rfl⟩ | ⟨b, ⟨h1, h2⟩, rfl⟩)
    · have ha := hasL_self P h1
      rw [hP] at ha
      refine .inl ⟨a, ha, fun b hb => ?_⟩
      simp only [cD1, hQ, hb] at h2
      simpa using h2
    · have hb := hasL_self Q h1
      rw [hQ] at hb
      simp only [cD2, hP, Option.isNone_iff_eq_none] at h2
      exact .inr ⟨h2, b, hb⟩
  · rintro (⟨a, ha, h⟩ | ⟨h, b, hb⟩)
    · have hai := hasL_id ha
      subst hai
      have ha' := ha
      rw [← hP] at ha'
      refine .inl ⟨a, ⟨hasL_mem ha', ?_⟩, rfl⟩
      simp only [cD1, hQ]
      cases hq : hasL idf Q (idf a) with
      | none => rfl
      | some b => simp [h b hq]
    · have hbi := hasL_id hb
      subst hbi
      have hb' := hb
      rw [← hQ] at hb'
      refine .inr ⟨b, ⟨hasL_mem hb', ?_⟩, rfl⟩
      simp only [cD2, hP, h]
      rfl
theorem out_dif (hsym : ∀ a b, same a b = same b a) {P Q : List α} {x : Id} : (x ∈ outR idf same P Q ∨ x ∈ outR idf same Q P) ↔ x ∈ difL idf same (P.foldl (insL idf) []) (Q.foldl (insL idf) []) := by
  rw [mem_outR, mem_outR, mem_difL]
  constructor
  · rintro (h | ⟨b, hb, h⟩)
    · exact .inl h
    · cases hp : hasL idf P x with
      | none => exact .inr ⟨rfl, b, hb⟩
      | some a => exact .inl ⟨a, rfl, fun b' hb' => by rw [hb] at hb'; cases hb'; rw [hsym]; exact h a hp⟩
  · rintro (h | ⟨h, b, hb⟩)
    · exact .inl h
    · exact .inr ⟨b, hb, fun a ha => by rw [h] at ha; cases ha⟩
end
theorem allS_symm {α : Type} {same : α → α → Bool} (h : ∀ a b, same a b = same b a) : ∀ a b : List α, allS same a b = allS same b a
  | [], [] => rfl
  | [], _ :: _ => rfl
  | _ :: _, [] => rfl
  | a :: l, b :: l' => by simp only [allS, h a b, allS_symm h l l']
theorem sameT_symm (a b : Typ) : sameT a b = sameT b a := by
  rw [Bool.eq_iff_iff, sameT_iff, sameT_iff]
  exact ⟨Eq.symm, Eq.symm⟩
theorem dec_symm {α : Type} [DecidableEq α] (a b : α) : decide (a = b) = decide (b = a) := by
  rw [Bool.eq_iff_iff]
  simp only [decide_eq_true_eq]
  exact ⟨Eq.symm, Eq.symm⟩
theorem sameDf_symm (a b : Dfn) : sameDf a b = sameDf b a := by
  unfold sameDf
  by_cases h : a.kind = b.kind
  · rw [allS_symm (same := sameS) (fun x y => by simp only [sameS, dec_symm x.id, sameT_symm x.typ, dec_symm x.most]) a.slots, sameT_symm a.res, dec_symm a.body.id, h]
  · simp [h, fun e : b.kind = a.kind => h e.symm, Ne.symm h]
theorem sameNd_symm (a b : Exp) : sameNd a b = sameNd b a := by
  unfold sameNd
  rw [allS_symm (same := sameK) (fun x y => by simp only [sameK, dec_symm x.id]) a.kids, sameT_symm a.typ, dec_symm a.k, dec_symm a.n, dec_symm a.ref]
theorem allS_refl {α : Type} {same : α → α → Bool} (h : ∀ a, same a a = true) : ∀ a : List α, allS same a a = true
  | [] => rfl
  | a :: l => by simp only [allS, h a, allS_refl h l, Bool.and_self]
theorem sameDf_refl (a : Dfn) : sameDf a a = true := by
  unfold sameDf
  rw [allS_refl (same := sameS) (fun x => by simp [sameS, sameT_refl]), sameT_refl]
  simp
theorem sameNd_refl (a : Exp) : sameNd a a = true := by
  unfold sameNd
  rw [allS_refl (same := sameK) (fun x => by simp [sameK]), sameT_refl]
  simp
def listR (p q : List Dfn) : List Id := (outR Dfn.id sameDf p q ++ outR Exp.id sameNd (nodesV p) (nodesV q)) ++ (outR Dfn.id sameDf q p ++ outR Exp.id sameNd (nodesV q) (nodesV p))
theorem chgR_eq (p q : List Dfn) : setD (listR p q) = chgD p q := by
  refine (setD_ss _).unique (setD_ss _) fun x => ?_
  unfold chgD
  rw [setD_mem, setD_mem, listR, nodD_fold, nodD_fold]
  simp only [List.mem_append]
  have h1 := out_dif (x := x) (P := p) (Q := q) (idf := Dfn.id) sameDf_symm
  have h2 := out_dif (x := x) (P := nodesV p) (Q := nodesV q) (idf := Exp.id) sameNd_symm
  rw [show fstD p = p.foldl (insL Dfn.id) [] from rfl, show fstD q = q.foldl (insL Dfn.id) [] from rfl, ← h1, ← h2]
  constructor
  · rintro ((h | h) | (h | h))
    · exact .inl (.inl h)
    · exact .inr (.inl h)
    · exact .inl (.inr h)
    · exact .inr (.inr h)
  · rintro ((h | h) | (h | h))
    · exact .inl (.inl h)
    · exact .inr (.inl h)
    · exact .inl (.inr h)
    · exact .inr (.inr h)
theorem chgD_self (p : List Dfn) : chgD p p = [] := by
  have h : ∀ x, x ∉ chgD p p := fun x hx => by
    rw [← chgR_eq, setD_mem, listR] at hx
    simp only [List.mem_append, or_self] at hx
    rcases hx with hx | hx
    · rw [mem_outR] at hx
      obtain ⟨a, ha, h⟩ := hx
      have := h a ha
      rw [sameDf_refl] at this
      cases this
    · rw [mem_outR] at hx
      obtain ⟨a, ha, h⟩ := hx
      have := h a ha
      rw [sameNd_refl] at this
      cases this
  cases hc : chgD p p with
  | nil => rfl
  | cons x l => exact (h x (by rw [hc]; simp)).elim
end Go.Proofs.YthglhccibdlccaaGreatDoor
namespace Go.Proofs.YthglhccibdlccaaGreatDoor
open Go.Abs
theorem idR_val {k : Int} (h0 : 0 ≤ k) (h1 : k ≤ 1000000000000000) : idR k = ⟨0, 1 + k / 32, k % 32⟩ := by
  unfold idR
  have e1 : k.tdiv 32 = k / 32 := tdN h0
  have e2 : k.tmod 32 = k % 32 := tmN h0
  have w1 : IntKind.i64.wrap (k.tdiv 32) = k.tdiv 32 := IntWalk.i64_in _ (by omega)
  rw [w1, e2]
  have w2 : IntKind.i64.wrap (1 + k.tdiv 32) = 1 + k.tdiv 32 := IntWalk.i64_in _ (by omega)
  rw [w2, e1]
theorem idR_b {k : Int} (h0 : 0 ≤ k) (h1 : k ≤ 1000000000000000) : 1 ≤ (idR k).b := by
  rw [idR_val h0 h1]
  show 1 ≤ 1 + k / 32
  omega
theorem idR_inj {k j : Int} (h0 : 0 ≤ k) (h1 : k ≤ 1000000000000000) (g0 : 0 ≤ j) (g1 : j ≤ 1000000000000000) (h : idR k = idR j) : k = j := by
  rw [idR_val h0 h1, idR_val g0 g1] at h
  injection h with _ h2 h3
  omega
def slotV (next : Int) (p : Pln) (k : Nat) : Slt := ⟨idR (next + k), p.names.getD k ⟨#[]⟩, p.types.getD k tInt, if p.kind = 4 then p.most.getD k 0 else 0, k⟩
def slotsV (next : Int) (p : Pln) : List Slt := (List.range p.types.length).map (slotV next p)
def dfn0 (mods next : Int) (i : Nat) (p : Pln) : Dfn := ⟨idR (mods + i), p.kind, idR p.mod, p.name, slotsV next p, p.out, Exp.zero, 0, []⟩
def nextV (mods : Int) (ps : List Pln) : Nat → Int
  | 0 => mods + ps.length
  | i + 1 => nextV mods ps i + (match ps[i]? with | some p => (p.types.length : Int) | none => 0)
def dfns0 (mods : Int) (ps : List Pln) : List Dfn := ps.mapIdx fun i p => dfn0 mods (nextV mods ps i) i p
def idsM (mods : Int) (ps : List Pln) (c : Int) (i : Nat) : List Id := ((List.range i).filter fun j => match ps[j]? with | some p => decide (p.mod = c) | none => false).map fun (j : Nat) => idR (mods + j)
def modsV (mods : Int) (ps : List Pln) : List Md :=
  (⟨idR 0, ⟨#[99, 111, 114, 101]⟩, [], idsM mods ps 0 ps.length⟩ : Md) :: (if mods = 2 then [⟨idR 1, ⟨#[109, 105, 108, 108]⟩, [idR 0], idsM mods ps 1 ps.length⟩] else [])
@[simp] theorem dfns0_len (mods : Int) (ps : List Pln) : (dfns0 mods ps).length = ps.length := by simp [dfns0]
@[simp] theorem slotsV_len (next : Int) (p : Pln) : (slotsV next p).length = p.types.length := by simp [slotsV]
theorem dfns0_get (mods : Int) (ps : List Pln) {i : Nat} (h : i < ps.length) : (dfns0 mods ps)[i]'(by simpa using h) = dfn0 mods (nextV mods ps i) i ps[i] := by simp [dfns0]
theorem nextV_succ (mods : Int) (ps : List Pln) {i : Nat} (h : i < ps.length) : nextV mods ps (i + 1) = nextV mods ps i + ps[i].types.length := by
  simp only [nextV]; rw [List.getElem?_eq_getElem h]
structure PlnOk (mods : Int) (p : Pln) : Prop where
  kind0 : 0 ≤ p.kind
  kind5 : p.kind ≤ 5
  mod0 : 0 ≤ p.mod
  mod1 : p.mod < mods
  t1 : 1 ≤ p.types.length
  t6 : p.types.length ≤ 6
  names : p.types.length ≤ p.names.length
  most : p.kind = 4 → p.types.length ≤ p.most.length
theorem simV_cases (x : Int) (a b : Typ) (hx : w64 x = x) : simV x a b = tInt ∨ simV x a b = tBool ∨ simV x a b = tList tInt ∨ simV x a b = a ∨ simV x a b = b := by
  obtain ⟨k0, k6⟩ := around_range (k := 6) hx (by omega)
  unfold simV
  generalize aroundV x 6 = k at *
  have : k = 0 ∨ k = 1 ∨ k = 2 ∨ k = 3 ∨ k = 4 ∨ k = 5 := by omega
  rcases this with rfl | rfl | rfl | rfl | rfl | rfl <;> simp
theorem atV_w {l : List Int} {i most : Int} (hl : ∀ x ∈ l, w64 x = x) (hm : 0 < most) (h2 : most ≤ 1000) : w64 (atV l i most) = atV l i most := by
  obtain ⟨a, b⟩ := at_range (i := i) hl hm
  exact IntWalk.i64_in _ (by omega)
theorem around_small {k : Int} (h0 : 0 ≤ k) (h : k < 6) : aroundV k 6 = k := by
  have : k = 0 ∨ k = 1 ∨ k = 2 ∨ k = 3 ∨ k = 4 ∨ k = 5 := by omega
  rcases this with rfl | rfl | rfl | rfl | rfl | rfl <;> decide
theorem simV_low {x : Int} (h0 : 0 ≤ x) (h : x < 3) (a b : Typ) : simV x a b = tInt ∨ simV x a b = tBool ∨ simV x a b = tList tInt := by
  unfold simV
  rw [around_small h0 (by omega)]
  have : x = 0 ∨ x = 1 ∨ x = 2 := by omega
  rcases this with rfl | rfl | rfl <;> simp
theorem simV_mid {x : Int} (h0 : 0 ≤ x) (h : x < 4) (a b : Typ) : simV x a b = tInt ∨ simV x a b = tBool ∨ simV x a b = tList tInt ∨ simV x a b = a := by
  unfold simV
  rw [around_small h0 (by omega)]
  have : x = 0 ∨ x = 1 ∨ x = 2 ∨ x = 3 := by omega
  rcases this with rfl | rfl | rfl | rfl <;> simp
theorem mem_tyL {l : List Int} {at_ most n : Int} {one t : Typ} (h : t ∈ tyL l at_ most n one) : ∃ i : Nat, t = simV (atV l (at_ + i) most) one one := by
  simp only [tyL, List.mem_map] at h
  obtain ⟨i, _, rfl⟩ := h
  exact ⟨i, rfl⟩
theorem tyL_length (l : List Int) (at_ most n : Int) (one : Typ) : (tyL l at_ most n one).length = n.toNat := by simp [tyL]
section
variable (l : List Int) (mods : Int) (hm : 1 ≤ mods) (hm2 : mods ≤ 2) (hl : ∀ x ∈ l, w64 x = x)
include hm hm2 hl
theorem plansV_ok : ∀ p ∈ plansV l mods, PlnOk mods p := by
  intro p hp
  have a2 := at_range (i := 2) hl (most := 3) (by omega)
  have a6 := at_range (i := 6) hl (most := 2) (by omega)
  have a9 := at_range (i := 9) hl (most := 3) (by omega)
  have a15 := at_range (i := 15) hl (most := mods) (by omega)
  have hF : (fTypes l mods).length = 1 ∨ (fTypes l mods).length = 2 := by
    unfold fTypes
    split <;> simp
  have hT : (inV l 18 (tPoint mods)).length = 1 ∨ (inV l 18 (tPoint mods)).length = 2 := by
    unfold inV inT1
    split
    · simp
    · split <;> simp
  have hp' : p = pPoint l mods ∨ p = pEvent l mods ∨ p = pState l mods ∨ p = pOut mods ∨ p = pF l mods ∨ p = pStep mods ∨ p = pG l mods ∨ p = pT l mods ∨ p = pC l mods := by
    simp only [plansV, plB, plC, plD, plE, List.mem_append, List.mem_cons] at hp
    rcases hp with ((h | h | h) | h) | h | h | h | h
    · simp [h]
    · simp [h]
    · simp at h
    · split at h
      · simp at h; rcases h with h | h <;> simp [h]
      · simp at h
    · simp [h]
    · split at h <;> simp [h]
    · simp [h]
    · split at h
      · simp at h; simp [h]
      · simp at h
  rcases hp' with rfl | rfl | rfl | rfl | rfl | rfl | rfl | rfl | rfl
  · refine ⟨?_, ?_, ?_, ?_, ?_, ?_, ?_, ?_⟩ <;> simp only [pPoint, tyL_length] <;> first | omega | simp <;> omega
  · refine ⟨?_, ?_, ?_, ?_, ?_, ?_, ?_, ?_⟩ <;> simp only [pEvent, List.length_cons, tyL_length] <;> first | omega | simp <;> omega
  · refine ⟨?_, ?_, ?_, ?_, ?_, ?_, ?_, ?_⟩ <;> simp only [pState, List.length_cons, tyL_length] <;> first | omega | simp <;> omega
  · refine ⟨?_, ?_, ?_, ?_, ?_, ?_, ?_, ?_⟩ <;> simp only [pOut, List.length_cons, List.length_nil] <;> first | omega | simp <;> omega
  · refine ⟨?_, ?_, ?_, ?_, ?_, ?_, ?_, ?_⟩ <;> simp only [pF, List.length_cons, List.length_nil] <;> first | omega | simp <;> omega
  · refine ⟨?_, ?_, ?_, ?_, ?_, ?_, ?_, ?_⟩ <;> simp only [pStep, List.length_cons, List.length_nil] <;> first | omega | simp <;> omega
  · refine ⟨?_, ?_, ?_, ?_, ?_, ?_, ?_, ?_⟩ <;> simp only [pG, List.length_cons, List.length_nil] <;> first | omega | simp <;> omega
  · refine ⟨?_, ?_, ?_, ?_, ?_, ?_, ?_, ?_⟩ <;> simp only [pT, List.length_cons, List.length_nil, List.length_map] <;> first | omega | simp <;> omega
  · refine ⟨?_, ?_, ?_, ?_, ?_, ?_, ?_, ?_⟩ <;> simp only [pC, List.length_cons, List.length_nil] <;> first | omega | simp <;> omega
omit hm hm2 hl in
theorem plansV_len : 5 ≤ (plansV l mods).length ∧ (plansV l mods).length ≤ 8 := by
  unfold plansV plB plC plD plE
  split <;> split <;> simp
end
theorem nextV_range {mods : Int} {ps : List Pln} (hm : 0 ≤ mods) (h6 : ∀ p ∈ ps, p.types.length ≤ 6) : ∀ i : Nat, mods + ps.length ≤ nextV mods ps i ∧ nextV mods ps i ≤ mods + ps.length + 6 * i
  | 0 => by simp [nextV]
  | i + 1 => by
    have ih := nextV_range hm h6 i
    simp only [nextV]
    split
    · rename_i p hp
      have := h6 p (List.mem_of_getElem? hp)
      omega
    · omega
end Go.Proofs.YthglhccibdlccaaGreatDoor
