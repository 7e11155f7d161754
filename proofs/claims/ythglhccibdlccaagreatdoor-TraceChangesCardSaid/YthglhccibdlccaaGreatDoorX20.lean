/-
  An evaluator of small code at closed abstract states: its operations.
  Nil slices as rows of their own; rows that are frozen.
  Cells of lists whose elements have so many cells each.
-/
import Derived.Test.YthglhccibdlccaaGreatDoorX18
import Derived.Test.YthglhccibdlccaaGreatDoorX17
set_option linter.unusedVariables false
set_option linter.unusedSimpArgs false
namespace Go.Abs
def lkB : List (Nat × A) → Nat → A
  | [], _ => .any
  | p :: l, x => bif Nat.beq x p.1 then p.2 else lkB l x
theorem lkB_eq : ∀ l : List (Nat × A), lkB l = mkEnv l
  | [] => rfl
  | (t, a) :: l => by
    funext x
    simp only [lkB, mkEnv, lkB_eq l]
    by_cases h : x = t
    · subst h; simp
    · have : Nat.beq x t = false := by
        cases hb : Nat.beq x t with
        | false => rfl
        | true => exact (h (Nat.eq_of_beq_eq_true hb)).elim
      simp [this, h]
def putL (d : Option Nat) (a : A) (l : List (Nat × A)) : List (Nat × A) := match d with
  | none => l
  | some d => (d, a) :: l
theorem putL_eq (d : Option Nat) (a : A) (l : List (Nat × A)) : mkEnv (putL d a l) = (mkEnv l).put d a := by cases d <;> rfl
def eqB : SK → A → A → Option Bool
  | .i, .lit (.int k a), .lit (.int k' b) => if k = k' then some (decide (a = b)) else none
  | .b, .lit (.bool a), .lit (.bool b) => some (a == b)
  | _, _, _ => none
def eqsB : List SK → List A → List A → Option Bool
  | [], [], [] => some true
  | k :: ks, x :: xs, y :: ys => match eqB k x y, eqsB ks xs ys with
    | some p, some q => some (p && q)
    | _, _ => none
  | _, _, _ => none
def intB (op : BinOp) (k : IntKind) (a b : Int) : Option A := match op with
  | .add => some (.lit (.int k (k.wrap (a + b))))
  | .sub => some (.lit (.int k (k.wrap (a - b))))
  | .mul => some (.lit (.int k (k.wrap (a * b))))
  | .quo => if b = 0 then none else some (.lit (.int k (k.wrap (a.tdiv b))))
  | .rem => if b = 0 then none else some (.lit (.int k (a.tmod b)))
  | .lss => some (.lit (.bool (decide (a < b))))
  | .leq => some (.lit (.bool (decide (a ≤ b))))
  | .gtr => some (.lit (.bool (decide (b < a))))
  | .geq => some (.lit (.bool (decide (b ≤ a))))
  | _ => none
def truB (neg b : Bool) : A := .lit (.bool (if neg then !b else b))
theorem eqB_sound {k : SK} {x y : A} {b : Bool} (h : eqB k x y = some b) : ∃ p, eqCell k x y = some p ∧ (p ↔ b = true) := by
  unfold eqB at h
  split at h
  · split at h <;> try (cases h; done)
    rename_i hk
    cases h
    subst hk
    exact ⟨_, by simp only [eqCell, if_true]; rfl, by simp⟩
  · cases h
    exact ⟨_, rfl, by simp⟩
  · cases h
theorem eqsB_sound : ∀ {ks : List SK} {xs ys : List A} {b : Bool}, eqsB ks xs ys = some b → ∃ p, eqCells ks xs ys = some p ∧ (p ↔ b = true)
  | [], [], [], b, h => by cases h; exact ⟨_, rfl, by simp⟩
  | k :: ks, x :: xs, y :: ys, b, h => by
    simp only [eqsB] at h
    split at h <;> try (cases h; done)
    rename_i p q hp hq
    cases h
    obtain ⟨p', h1, h2⟩ := eqB_sound hp
    obtain ⟨q', h3, h4⟩ := eqsB_sound hq
    exact ⟨_, by simp only [eqCells, h1, h3]; rfl, by simp [h2, h4]⟩
  | [], [], _ :: _, b, h => by simp [eqsB] at h
  | [], _ :: _, _, b, h => by simp [eqsB] at h
  | _ :: _, [], _, b, h => by simp [eqsB] at h
  | _ :: _, _ :: _, [], b, h => by simp [eqsB] at h
theorem truB_eq {neg b : Bool} {p : Prop} (h : p ↔ b = true) : truthOf neg p = truB neg b := by
  have e : p = (b = true) := propext h
  subst e
  unfold truthOf truB
  cases neg <;> cases b <;> simp
theorem intB_sound {op : BinOp} {k : IntKind} {a b : Int} {r : A} (h : intB op k a b = some r) : ∃ p : Prop, intOp op k a b = some (p, r) ∧ p := by
  unfold intB at h
  split at h <;> first
    | (cases h; exact ⟨True, rfl, trivial⟩)
    | (split at h <;> first | (cases h; done) | (rename_i hb; cases h; exact ⟨_, rfl, hb⟩))
    | (cases h; done)
def pureB (env : Env) (σ : St) : KOp → Option A
  | .mov _ x => some (ev env x)
  | .pick _ c a b => match ev env c with
    | .lit (.bool t) => some (bif t then ev env a else ev env b)
    | _ => none
  | .ld _ x n agg => (ldA σ n (ev env x)).bind (packA agg)
  | .addr _ x off => addrA σ off (ev env x)
  | .idx _ x i sz => match ev env x, ev env i with
    | .sl n cs, .lit (.int _ j) => if (0 ≤ j ∧ j < n) ∧ j.toNat * sz < cs.length then some (.rptr (cs.drop (j.toNat * sz))) else none
    | .fsl n cs, .lit (.int _ j) => if (0 ≤ j ∧ j < n) ∧ j.toNat * sz < cs.length then some (.rptr (cs.drop (j.toNat * sz))) else none
    | .row l n, .lit (.int _ j) => match σ[l]? with
      | some (.row _ _ s m _) => if (n = m ∧ s = sz) ∧ 0 ≤ j ∧ j < n then some (.rwp l n (j.toNat * sz)) else none
      | _ => none
    | .win l n o k' _, .lit (.int _ j) => match σ[l]? with
      | some (.row _ _ s m _) => if (n = m ∧ s = sz) ∧ 0 ≤ j ∧ j < k' then some (.rwp l n (o + j.toNat * sz)) else none
      | _ => none
    | _, _ => none
  | .rslc _ x sz lo hi => match ev env x with
    | .row l n => match σ[l]? with
      | some (.row _ _ s m _) => (match boundA env 0 lo, boundA env n hi with
        | some l', some h => if (n = m ∧ s = sz) ∧ 0 ≤ l' ∧ l' ≤ h ∧ h ≤ n then some (.win l n (l'.toNat * sz) (h - l').toNat ((h - l').toNat * sz)) else none
        | _, _ => none)
      | _ => none
    | .win l n o k _ => match σ[l]? with
      | some (.row _ _ s m _) => (match boundA env 0 lo, boundA env k hi with
        | some l', some h => if (n = m ∧ s = sz) ∧ 0 ≤ l' ∧ l' ≤ h ∧ h ≤ k then some (.win l n (o + l'.toNat * sz) (h - l').toNat ((h - l').toNat * sz)) else none
        | _, _ => none)
      | _ => none
    | _ => none
  | .slc _ x sz lo hi none => match ev env x with
    | .sl n cs => (match boundA env 0 lo, boundA env n hi with
      | some l, some h => if 0 ≤ l ∧ l ≤ h ∧ h ≤ n then some (.sl (h - l).toNat ((cs.drop (l.toNat * sz)).take ((h - l).toNat * sz))) else none
      | _, _ => none)
    | .fsl n cs => (match boundA env 0 lo, boundA env n hi with
      | some l, some h => if 0 ≤ l ∧ l ≤ h ∧ h ≤ n then some (.sl (h - l).toNat ((cs.drop (l.toNat * sz)).take ((h - l).toNat * sz))) else none
      | _, _ => none)
    | .nil => (match boundA env 0 lo, boundA env 0 hi with
      | some l, some h => if l = 0 ∧ h = 0 then some .nil else none
      | _, _ => none)
    | _ => none
  | .fld _ x off n agg => match ev env x with
    | .agg cs => (sub cs off n).bind (packA agg)
    | _ => none
  | .ix _ x i len sz agg => match ev env x, ev env i with
    | .agg cs, .lit (.int _ j) => if 0 ≤ j ∧ j < len then (sub cs (j.toNat * sz) sz).bind (packA agg) else none
    | _, _ => none
  | .bin _ op x y => match ev env x, ev env y with
    | .lit (.int k a), .lit (.int k' b) => if k = k' then intB op k a b else none
    | _, _ => none
  | .eqv _ neg k x y => (eqB k (ev env x) (ev env y)).map (truB neg)
  | .eqs _ neg ks x y => match ev env x, ev env y with
    | .agg xs, .agg ys => (eqsB ks xs ys).map (truB neg)
    | _, _ => none
  | .isn _ neg x => match ev env x with
    | .nil => some (.lit (.bool !neg))
    | .sl n _ => if n = 0 then none else some (.lit (.bool neg))
    | .fsl n _ => if n = 0 then none else some (.lit (.bool neg))
    | _ => none
  | .neg _ x => match ev env x with
    | .lit (.int k a) => some (.lit (.int k (k.wrap (0 - a))))
    | _ => none
  | .not _ x => match ev env x with
    | .lit (.bool b) => some (.lit (.bool !b))
    | _ => none
  | .mm _ max xs => mmA max (xs.map (ev env))
  | .ext _ x i => match ev env x with
    | .tup vs => vs[i]?
    | _ => none
  | .clo _ f first cap => some (.clo f (first.map (ev env)) (cap.map (ev env)))
  | .nilc _ x => match ev env x with
    | .ptr l o => some (.ptr l o)
    | .rptr cs => some (.rptr cs)
    | _ => none
  | .build _ zero parts => (fillA (zero.map ofCell) (parts.map fun (o, s, x) => (o, s, ev env x))).map .agg
  | .len _ false x => match ev env x with
    | .nil => some (.lit (.int .i64 0))
    | .sl n _ => some (.lit (.int .i64 n))
    | .fsl n _ => some (.lit (.int .i64 n))
    | .row l n => match σ[l]? with
      | some (.row _ _ _ m _) => if n = m then some (.lit (.int .i64 n)) else none
      | _ => none
    | .win l n _ k _ => match σ[l]? with
      | some (.row _ _ _ m _) => if n = m then some (.lit (.int .i64 k)) else none
      | _ => none
    | _ => none
  | _ => none
section
variable {P : Program} {env : Env} {σ : St}
theorem pureB_sound {k : KOp} {r : A} (h : pureB env σ k = some r) {J : A → Prop} (hJ : J r) : pureP (pureO env σ k) J := by
  cases k <;> simp only [pureB] at h <;> try (cases h; done)
  case mov => cases h; exact ⟨trivial, hJ⟩
  case pick d c a b =>
    split at h <;> try (cases h; done)
    rename_i t ht
    cases h
    rw [pick_pure, ht]
    cases t <;> exact hJ
  case ld d x n agg =>
    simp only [pureO, h]
    exact ⟨trivial, hJ⟩
  case addr d x off =>
    rw [addrA_pure, h]
    exact ⟨trivial, hJ⟩
  case idx d x i sz =>
    split at h <;> try (cases h; done)
    · rename_i h1 h2
      split at h <;> try (cases h; done)
      rename_i hc
      cases h
      simp only [pureO, h1, h2]
      exact ⟨hc, hJ⟩
    · rename_i h1 h2
      split at h <;> try (cases h; done)
      rename_i hc
      cases h
      simp only [pureO, h1, h2]
      exact ⟨hc, hJ⟩
    · rename_i h1 h2
      split at h <;> try (cases h; done)
      rename_i h3
      split at h <;> try (cases h; done)
      rename_i hc
      cases h
      simp only [pureO, h1, h2, h3, hc.1, and_self, if_true]
      obtain ⟨⟨rfl, rfl⟩, hc⟩ := hc
      exact ⟨hc, hJ⟩
    · rename_i h1 h2
      split at h <;> try (cases h; done)
      rename_i h3
      split at h <;> try (cases h; done)
      rename_i hc
      cases h
      simp only [pureO, h1, h2, h3, hc.1, and_self, if_true]
      obtain ⟨⟨rfl, rfl⟩, hc⟩ := hc
      exact ⟨hc, hJ⟩
  case rslc d x sz lo hi =>
    split at h <;> try (cases h; done)
    all_goals
      rename_i h1
      split at h <;> try (cases h; done)
      rename_i h3
      split at h <;> try (cases h; done)
      rename_i h4 h5
      split at h <;> try (cases h; done)
      rename_i hc
      cases h
      obtain ⟨⟨rfl, rfl⟩, hc⟩ := hc
      simp only [pureO, h1, h3, h4, h5, and_self, if_true]
      exact ⟨hc, hJ⟩
  case slc d x sz lo hi mx =>
    cases mx <;> simp only at h <;> try (cases h; done)
    split at h <;> try (cases h; done)
    all_goals
      rename_i h1
      split at h <;> try (cases h; done)
      rename_i h4 h5
      split at h <;> try (cases h; done)
      rename_i hc
      cases h
      simp only [pureO, h1, h4, h5]
      exact ⟨hc, hJ⟩
  case fld d x off n agg =>
    split at h <;> try (cases h; done)
    rename_i h1
    simp only [pureO, h1, h]
    exact ⟨trivial, hJ⟩
  case ix d x i len sz agg =>
    split at h <;> try (cases h; done)
    rename_i h1 h2
    split at h <;> try (cases h; done)
    rename_i hc
    simp only [pureO, h1, h2, h]
    exact ⟨hc, hJ⟩
  case bin d op x y =>
    split at h <;> try (cases h; done)
    rename_i h1 h2
    split at h <;> try (cases h; done)
    rename_i hc
    obtain ⟨p, h3, h4⟩ := intB_sound h
    simp only [pureO, h1, h2, hc, if_true]
    rw [← hc, h3]
    exact ⟨h4, hJ⟩
  case eqv d neg k x y =>
    rw [Option.map_eq_some_iff] at h
    obtain ⟨b, h1, rfl⟩ := h
    obtain ⟨p, h2, h3⟩ := eqB_sound h1
    simp only [pureO, h2, Option.map_some, pureP]
    rw [truB_eq h3]
    exact ⟨trivial, hJ⟩
  case eqs d neg ks x y =>
    split at h <;> try (cases h; done)
    rename_i g1 g2
    rw [Option.map_eq_some_iff] at h
    obtain ⟨b, h1, rfl⟩ := h
    obtain ⟨p, h2, h3⟩ := eqsB_sound h1
    simp only [pureO, g1, g2, h2, Option.map_some, pureP]
    rw [truB_eq h3]
    exact ⟨trivial, hJ⟩
  case isn d neg x =>
    split at h <;> try (cases h; done)
    · rename_i h1; cases h; simp only [pureO, h1]; exact ⟨trivial, hJ⟩
    · rename_i h1
      split at h <;> try (cases h; done)
      rename_i hc
      cases h; simp only [pureO, h1]; exact ⟨hc, hJ⟩
    · rename_i h1
      split at h <;> try (cases h; done)
      rename_i hc
      cases h; simp only [pureO, h1]; exact ⟨hc, hJ⟩
  case neg d x =>
    split at h <;> try (cases h; done)
    rename_i h1; cases h; simp only [pureO, h1]; exact ⟨trivial, hJ⟩
  case not d x =>
    split at h <;> try (cases h; done)
    rename_i h1; cases h; simp only [pureO, h1]; exact ⟨trivial, hJ⟩
  case mm d mx xs =>
    rw [mm_pure, h]
    exact hJ
  case ext d x i =>
    split at h <;> try (cases h; done)
    rename_i h1
    simp only [pureO, h1, h]
    exact ⟨trivial, hJ⟩
  case clo d f a b => cases h; exact ⟨trivial, hJ⟩
  case nilc d x =>
    split at h <;> try (cases h; done)
    · rename_i h1; cases h; simp only [pureO, h1]; exact ⟨trivial, hJ⟩
    · rename_i h1; cases h; simp only [pureO, h1]; exact ⟨trivial, hJ⟩
  case build d z ps =>
    rw [build_pure, h]
    exact hJ
  case len d s x =>
    cases s <;> simp only at h <;> try (cases h; done)
    split at h <;> try (cases h; done)
    · rename_i h1; cases h; simp only [pureO, h1]; exact ⟨trivial, hJ⟩
    · rename_i h1; cases h; simp only [pureO, h1]; exact ⟨trivial, hJ⟩
    · rename_i h1; cases h; simp only [pureO, h1]; exact ⟨trivial, hJ⟩
    · rename_i h1
      split at h <;> try (cases h; done)
      rename_i h2
      split at h <;> try (cases h; done)
      rename_i hc
      cases h
      simp only [pureO, h1, h2, hc, if_true]
      exact ⟨trivial, by rw [← hc]; exact hJ⟩
    · rename_i h1
      split at h <;> try (cases h; done)
      rename_i h2
      split at h <;> try (cases h; done)
      rename_i hc
      cases h
      simp only [pureO, h1, h2, hc, if_true]
      exact ⟨trivial, hJ⟩
def evO (C : FuncId → List A → St → Option (A × St)) (k : KOp) (env : Env) (σ : St) : Option (A × St) := match k with
  | .alloc _ zs => some (.ptr σ.length 0, σ ++ [.box (zs.map ofCell)])
  | .box _ x => match cellsOf (ev env x) with
    | some cs => some (.ptr σ.length 0, σ ++ [.box cs])
    | none => none
  | .bslice _ _ _ n zero parts => match fillA (zero.map ofCell) (parts.map fun (o, s, x) => (o, s, ev env x)) with
    | some cs => some (.fsl n cs, σ)
    | none => none
  | .brow _ e sz n zero parts => match fillA (zero.map ofCell) (parts.map fun (o, s, x) => (o, s, ev env x)) with
    | some cs => some (.row σ.length n, σ ++ [.row false e sz n cs])
    | none => none
  | .st _ x v n => match cellsOf (ev env v) with
    | some cs => if cs.length = n then (match stA σ cs (ev env x) with
      | some σ' => some (.lit undef, σ')
      | none => none) else none
    | none => none
  | .app _ e sz bytes x y => match elemsA σ sz (ev env y) with
    | some (m, ys) => if ys.length = m * sz then (match ev env x with
      | .nil => if m ≤ maxLen ∧ m * bytes ≤ 140737488355328 then some (.row σ.length m, σ ++ [.row false e sz m ys]) else none
      | .row l n => (match σ[l]? with
        | some (.row fz e' s n' cs) => if (n = n' ∧ e' = e ∧ s = sz) ∧ n + m ≤ maxLen ∧ (n + m) * bytes ≤ 140737488355328 then some (.row l (n + m), σ.set l (.row fz e sz (n + m) (cs ++ ys))) else none
        | _ => none)
      | .fsl n cs => if cs.length = n * sz then (if m = 0 then some (.fsl n cs, σ) else if n + m ≤ maxLen ∧ (n + m) * bytes ≤ 140737488355328 then some (.row σ.length (n + m), σ ++ [.row false e sz (n + m) (cs ++ ys)]) else none) else none
      | _ => none) else none
    | none => none
  | .call _ f args => match ev env f with
    | .clo g first cap => C g (first ++ args.map (ev env) ++ cap) σ
    | _ => none
  | .alr _ q zs => (match σ[q]? with
    | some .rsv => some (.ptr q 0, σ.set q (.box (zs.map ofCell)))
    | _ => none)
  | .mop _ m xs => mopB m (xs.map (ev env)) σ
  | .isz _ ng x => (match ev env x with
    | .nil => some (.lit (.bool !ng), σ)
    | .sl n _ => if n = 0 then none else some (.lit (.bool ng), σ)
    | .row l n => (match σ[l]? with
      | some (.row _ _ _ m _) => if n = m ∧ n ≠ 0 then some (.lit (.bool ng), σ) else none
      | _ => none)
    | _ => none)
  | k => match pureB env σ k with
    | some r => some (r, σ)
    | none => none
def CallsOk (P : Program) (C : FuncId → List A → St → Option (A × St)) : Prop := ∀ f xs σ r σ', C f xs σ = some (r, σ') → callable P f = true ∧ Ret P f xs σ r σ'
theorem evO_sound {C : FuncId → List A → St → Option (A × St)} (hC : CallsOk P C) {k : KOp} {r : A} {σ' : St} (h : evO C k env σ = some (r, σ')) {Qp : Value → Env → St → Prop} {K : Env → St → Prop} (hK : K (env.put k.dst r) σ') : wpO P Qp K k env σ := by
  have dflt : (match pureB env σ k with | some r => some (r, σ) | none => none) = some (r, σ') → pureP (pureO env σ k) fun r => K (env.put k.dst r) σ := by
    intro h
    split at h <;> try (cases h; done)
    rename_i r0 h0
    cases h
    exact pureB_sound h0 hK
  cases k <;> simp only [evO] at h
  case alloc d z => cases h; exact hK
  case box d x =>
    split at h <;> try (cases h; done)
    rename_i h1
    cases h
    simp only [wpO, h1]
    exact hK
  case bslice d e sz n z ps =>
    split at h <;> try (cases h; done)
    rename_i h1
    cases h
    simp only [wpO, h1]
    exact hK
  case brow d e sz n z ps =>
    split at h <;> try (cases h; done)
    rename_i h1
    cases h
    simp only [wpO, h1]
    exact hK
  case st d x v n =>
    split at h <;> try (cases h; done)
    rename_i h1
    split at h <;> try (cases h; done)
    rename_i h2
    split at h <;> try (cases h; done)
    rename_i h3
    cases h
    simp only [wpO, h1, h2, if_true, h3]
    exact hK
  case app d e sz bytes x y =>
    split at h <;> try (cases h; done)
    rename_i m ys h1
    split at h <;> try (cases h; done)
    rename_i h2
    simp only [wpO, h1]
    refine ⟨h2, ?_⟩
    split at h <;> try (cases h; done)
    · rename_i h3
      split at h <;> try (cases h; done)
      rename_i h4
      cases h
      rw [h3]
      exact ⟨h4, hK⟩
    · rename_i h3
      split at h <;> try (cases h; done)
      rename_i h4
      split at h <;> try (cases h; done)
      rename_i h5
      cases h
      rw [h3]
      simp only [h4, h5.1, and_self, if_true]
      rw [← h5.1.1]
      exact ⟨h5.2, hK⟩
    · rename_i n cs h3
      split at h <;> try (cases h; done)
      rename_i h4
      rw [h3]
      refine ⟨h4, ?_⟩
      split at h
      · rename_i h5
        cases h
        exact ⟨fun _ => hK, fun h => (h h5).elim⟩
      · rename_i h5
        split at h <;> try (cases h; done)
        rename_i h6
        cases h
        exact ⟨fun h => (h5 h).elim, fun _ => ⟨h6, hK⟩⟩
  case call d f args =>
    split at h <;> try (cases h; done)
    rename_i g first cap h1
    obtain ⟨h2, h3⟩ := hC _ _ _ _ _ h
    simp only [wpO, h1]
    exact ⟨h2, h3.mono fun o τ ho => by obtain ⟨rfl, rfl⟩ := ho; exact hK⟩
  case alr d q z =>
    split at h <;> try (cases h; done)
    rename_i h1
    cases h
    simp only [wpO, h1]
    exact hK
  case isz d ng x =>
    split at h <;> try (cases h; done)
    · rename_i h1
      cases h
      simp only [wpO, h1]
      exact hK
    · rename_i h1
      split at h <;> try (cases h; done)
      rename_i hc
      cases h
      simp only [wpO, h1]
      exact ⟨hK, fun e => (hc e).elim⟩
    · rename_i h1
      split at h <;> try (cases h; done)
      rename_i h2
      split at h <;> try (cases h; done)
      rename_i hc
      cases h
      simp only [wpO, h1, h2]
      exact ⟨hc.1, hK, fun e => (hc.2 e).elim⟩
  case mop d m xs =>
    simp only [wpO]
    exact mopB_sound h (J := fun r τ => K (env.put d r) τ) hK
  case len d s x =>
    cases s
    · have := dflt h
      simp only [wpO]
      split
      · rename_i n cs h1
        intro _
        simp only [pureO, h1, pureP] at this
        exact this.2
      · rename_i n cs h1
        intro _
        simp only [pureO, h1, pureP] at this
        exact this.2
      · exact this
    · exact dflt h
  all_goals exact dflt h
def tgtB (f : Nat) (k : KOp) (env : Env) : Bool := bif Nat.blt f 5 then true else
  bif Nat.beq f 5 then (match k with
    | .st _ x _ _ => (match ev env x with | .ptr _ _ => true | _ => false)
    | _ => true) else
  bif Nat.beq f 6 then (match k with
    | .st _ x _ _ => (match ev env x with | .rwp _ _ _ => true | _ => false)
    | .idx _ x _ _ => (match ev env x with | .row _ _ => true | _ => false)
    | _ => true) else
  bif Nat.ble 4000 f then false else
  bif Nat.ble 2000 f then (match k with
    | .ld _ x _ _ => (match ev env x with | .ptr l _ => Nat.ble (f - 2000) l | .rptr _ => true | _ => false)
    | _ => true) else
  bif Nat.ble 1000 f then (match k with
    | .st _ x _ _ => (match ev env x with | .ptr l _ => Nat.blt l (f - 1000) | _ => false)
    | _ => true) else true
theorem tgtB_sound {f : Nat} {k : KOp} (h : tgtB f k env = true) : tgtC f k env := by
  unfold tgtB at h
  unfold tgtC
  split
  · simp only [show Nat.blt 5 5 = false from rfl, show Nat.beq 5 5 = true from rfl, cond_true, cond_false] at h
    cases k <;> simp only at h ⊢
    generalize ev env _ = a at h ⊢
    cases a <;> simp_all [isPtr]
  · simp only [show Nat.blt 6 5 = false from rfl, show Nat.beq 6 5 = false from rfl, show Nat.beq 6 6 = true from rfl, cond_true, cond_false] at h
    cases k <;> simp only at h ⊢
    · generalize ev env _ = a at h ⊢
      cases a <;> simp_all [isRwp]
    · generalize ev env _ = a at h ⊢
      cases a <;> simp_all [isRow]
  · rename_i h5 h6
    split
    · rename_i h7
      have e1 : Nat.blt f 5 = false := by simp only [Nat.blt_eq, ← Bool.not_eq_true]; omega
      have e2 : Nat.beq f 5 = false := by simp only [Nat.beq_eq, ← Bool.not_eq_true]; omega
      have e3 : Nat.beq f 6 = false := by simp only [Nat.beq_eq, ← Bool.not_eq_true]; omega
      have e4 : Nat.ble 4000 f = true := by simp only [Nat.ble_eq]; omega
      simp only [e1, e2, e3, e4, cond_true, cond_false, Bool.false_eq_true] at h
    rename_i h7
    have e0 : Nat.ble 4000 f = false := by simp only [Nat.ble_eq, ← Bool.not_eq_true]; omega
    split
    · rename_i h2
      have e1 : Nat.blt f 5 = false := by simp only [Nat.blt_eq, ← Bool.not_eq_true]; omega
      have e2 : Nat.beq f 5 = false := by simp only [Nat.beq_eq, ← Bool.not_eq_true]; omega
      have e3 : Nat.beq f 6 = false := by simp only [Nat.beq_eq, ← Bool.not_eq_true]; omega
      have e4 : Nat.ble 2000 f = true := by simp only [Nat.ble_eq]; omega
      simp only [e0, e1, e2, e3, e4, cond_true, cond_false] at h
      cases k <;> simp only at h ⊢
      generalize ev env _ = a at h ⊢
      cases a <;> simp_all [isAbove]
    · rename_i h2
      split
      · rename_i h3
        have e1 : Nat.blt f 5 = false := by simp only [Nat.blt_eq, ← Bool.not_eq_true]; omega
        have e2 : Nat.beq f 5 = false := by simp only [Nat.beq_eq, ← Bool.not_eq_true]; omega
        have e3 : Nat.beq f 6 = false := by simp only [Nat.beq_eq, ← Bool.not_eq_true]; omega
        have e4 : Nat.ble 2000 f = false := by simp only [Nat.ble_eq, ← Bool.not_eq_true]; omega
        have e5 : Nat.ble 1000 f = true := by simp only [Nat.ble_eq]; omega
        simp only [e0, e1, e2, e3, e4, e5, cond_true, cond_false] at h
        cases k <;> simp only at h ⊢
        generalize ev env _ = a at h ⊢
        cases a <;> simp_all [isBelow]
      · trivial
abbrev Cl0 := (FuncId → List A → Option A) × (FuncId → List A → Nat → Option (A × St))
def evDop (C : FuncId → List A → St → Option (A × St)) (C0 : Cl0) (f : Nat) (k : KOp) (env : Env) (σ : St) : Option (A × St) := match k with
  | .call _ fo args => match ev env fo with
    | .clo g first cap => match f with
      | 0 => (match C0.1 g (first ++ args.map (ev env) ++ cap) with | some r => some (r, σ) | none => none)
      | 1 => (match C0.1 g (first ++ args.map (ev env) ++ cap) with | some r => some (r, σ) | none => none)
      | 2 => none
      | 3 => none
      | 8 => none
      | 7 => (match C0.2 g (first ++ args.map (ev env) ++ cap) σ.length with | some (r, own) => some (r, σ ++ own) | none => none)
      | f => bif Nat.ble 1000 f then none else C g (first ++ args.map (ev env) ++ cap) σ
    | _ => none
  | .isz .. => none
  | .mop _ m xs => mopB m (xs.map (ev env)) σ
  | k => bif k.keeps && !k.lite then (match pureB env (seeF f σ) k with | some r => some (r, σ) | none => none) else evO C k env σ
def Calls0Ok (P : Program) (C0 : Cl0) : Prop := (∀ f xs r, C0.1 f xs = some r → callable P f = true ∧ ∀ τ, CallA P f xs τ fun o τ' => o = .ret r ∧ τ' = τ) ∧
  ∀ f xs n r own, C0.2 f xs n = some (r, own) → callable P f = true ∧ (∀ o ∈ own, o ≠ AObj.rsv) ∧ ∀ τ : St, τ.length = n → CallA P f xs τ fun o τ' => o = .ret r ∧ τ' = τ ++ own
theorem evDop_sound {C : FuncId → List A → St → Option (A × St)} (hC : CallsOk P C) {C0 : Cl0} (hC0 : Calls0Ok P C0) {f : Nat} {k : KOp} {r : A} {σ' : St} (h : evDop C C0 f k env σ = some (r, σ')) {K : Env → St → Prop} (hK : K (env.put k.dst r) σ') : wpDop P f K k env σ := by
  have dflt : (bif k.keeps && !k.lite then (match pureB env (seeF f σ) k with | some r => some (r, σ) | none => none) else evO C k env σ) = some (r, σ') →
      (if k.keeps && !k.lite then pureP (pureO env (seeF f σ) k) fun r => K (env.put k.dst r) σ else wpO P noPan K k env σ) := by
    intro h
    cases hb : k.keeps && !k.lite
    · rw [hb] at h
      exact evO_sound hC h hK
    · rw [hb] at h
      simp only [cond_true] at h
      simp only [if_true]
      split at h <;> try (cases h; done)
      rename_i h0
      cases h
      exact pureB_sound h0 hK
  cases k <;> simp only [evDop] at h <;> try (cases h; done)
  case call d fo args =>
    split at h <;> try (cases h; done)
    rename_i g first cap h1
    simp only [wpDop, wpDC, h1]
    split at h <;> try (cases h; done)
    · split at h <;> try (cases h; done)
      rename_i h2
      cases h
      obtain ⟨h3, h4⟩ := hC0.1 _ _ _ h2
      exact ⟨h3, r, h4 _, hK⟩
    · split at h <;> try (cases h; done)
      rename_i h2
      cases h
      obtain ⟨h3, h4⟩ := hC0.1 _ _ _ h2
      exact ⟨h3, r, fun τ _ => h4 τ, hK⟩
    · split at h <;> try (cases h; done)
      rename_i r1 own h2
      cases h
      obtain ⟨h3, h4, h5⟩ := hC0.2 _ _ _ _ _ h2
      exact ⟨h3, _, own, h4, fun τ hl _ => h5 τ hl, hK⟩
    · rename_i n0 n1 n2 n3 n8 n7
      cases hb : Nat.ble 1000 f
      case true => rw [hb] at h; cases h
      rw [hb] at h
      simp only [cond_false] at h
      have hr0 : ¬ 1000 ≤ f := fun hh => by
        rw [← Bool.not_eq_true, Nat.ble_eq] at hb; exact hb hh
      have hr : ¬ (1000 ≤ f ∧ f < 2000) := fun hh => hr0 hh.1
      have hr' : ¬ (3000 ≤ f ∧ f < 4000) := fun hh => hr0 (by omega)
      obtain ⟨h3, h4⟩ := hC _ _ _ _ _ h
      refine ⟨h3, ?_⟩
      unfold wpDcl
      split
      · exact (n0 rfl).elim
      · exact (n1 rfl).elim
      · exact (n2 rfl).elim
      · exact (n3 rfl).elim
      · exact (n7 rfl).elim
      · exact (n8 rfl).elim
      · rw [if_neg hr, if_neg hr']; exact ⟨r, σ', h4, hK⟩
  case mop d m xs =>
    simp only [wpDop, h]
    exact hK
  all_goals exact dflt h
end
end Go.Abs
namespace Go.Abs
section
variable {P : Program} {H : Mem} {L : List LI} {σ : St} {w : World}
theorem weak_nilslot {n0 t : Nat} {env : Env} {σ : St} (ht : env t = .nil) (e : TypeId) (sz : Nat) : Weak n0 (env.put (some t) (.row σ.length 0)) (σ ++ [AObj.row false e sz 0 []]) env σ := by
  intro H0 L0 w0 H L w N tmps h0 h1 h2
  have hn := nxt_nilrow h1.st e sz
  refine ⟨H, _, h1.trans hn, h2.1, fun x => ?_⟩
  simp only [Env.put]
  split
  · rename_i hx
    subst hx
    have := h2.2 x
    rw [ht] at this
    simp only [Rel] at this
    rw [this]
    simp only [Rel]
    exact ⟨rfl, ⟨none, 0, 0, true⟩, by rw [← h1.st.len]; simp, rfl, Nat.le_refl _, fun _ => rfl⟩
  · exact Rel.mono (HLe.refl _) hn.lle _ (h2.2 x)
theorem weak_nilrow {n0 : Nat} {env : Env} {σ : St} {l o n : Nat} {e : TypeId} {sz : Nat} {cs : List A} (hl : σ[l]? = some (.row false e sz n cs)) (hc : cs[o]? = some .nil) (e' : TypeId) (sz' : Nat) :
    Weak n0 env (σ.set l (.row false e sz n (cs.set o (.row σ.length 0))) ++ [AObj.row false e' sz' 0 []]) env σ := by
  intro H0 L0 w0 H L w N tmps h0 h1 h2
  have hn := nxt_nilrow h1.st e' sz'
  have hlt : l < σ.length := (List.getElem?_eq_some_iff.1 hl).1
  have hl' : (σ ++ [AObj.row false e' sz' 0 []])[l]? = some (.row false e sz n cs) := by rw [List.getElem?_append_left hlt]; exact hl
  have hs := relSt_obj (o' := .row false e sz n (cs.set o (.row σ.length 0))) hn.st hl' (fun li hob => by
    simp only [RelObj] at hob ⊢
    obtain ⟨g0, g1, g2, g3⟩ := hob
    refine ⟨g0, g1, by simpa using g2, ?_⟩
    rcases g3 with ⟨q1, q2⟩ | ⟨b, cur, q1, q2, q3, q4, q5, q6, q7, q8⟩
    · subst q2
      have : cs = [] := List.eq_nil_of_length_eq_zero (by simpa using g2)
      subst this
      simp at hc
    · obtain ⟨v, hv, hrel⟩ := q6.get hc
      simp only [Rel] at hrel
      subst hrel
      have hset : cur.toList.take (n * sz) = (cur.toList.take (n * sz)).set o (.slice none 0 0) := by
        apply List.ext_getElem?
        intro i
        by_cases hi : i = o
        · subst hi; rw [List.getElem?_set_self (List.getElem?_eq_some_iff.1 hv).1, hv]
        · rw [List.getElem?_set_ne (Ne.symm hi)]
      refine .inr ⟨b, cur, q1, q2, q3, q4, q5, ?_, q7, q8⟩
      rw [hset]
      refine q6.set o ?_
      simp only [Rel]
      exact ⟨rfl, ⟨none, 0, 0, true⟩, by rw [← h1.st.len]; simp, rfl, Nat.le_refl _, fun _ => rfl⟩)
  rw [List.set_append_left _ _ hlt] at hs
  have hm := h1.trans hn
  exact ⟨H, _, ⟨hs, hm.step, hm.lle, hm.own⟩, h2.1, fun x => Rel.mono (HLe.refl _) hn.lle _ (h2.2 x)⟩
theorem callA_frz {f : FuncId} {l n : Nat} {e : TypeId} {sz : Nat} {cs : List A} (hσ : σ[l]? = some (.row false e sz n cs)) {Q : Out → St → Prop} (h : CallA P f [.sl n cs] (σ.set l (.row true e sz n cs)) Q) : CallA P f [.row l n] σ Q := by
  intro H L w vs hs hvs
  obtain ⟨v, vs', rfl, h1, h2⟩ := relL_cons_inv hvs
  have := relL_nil_inv h2
  subst this
  obtain ⟨H', hn, hr⟩ := nxt_frz hs hσ h1
  refine (h H' L w [v] hn.st (relL_cons hr relL_nil)).mono fun e w' hh => ?_
  obtain ⟨o, σ', H2, L2, g1, g2, g3⟩ := hh
  exact ⟨o, σ', H2, L2, g1, hn.trans g2, g3⟩
end
end Go.Abs
namespace Go.Abs
section
variable {α : Type} {enc : α → List A} {k : Nat}
theorem flat_len (hk : ∀ x, (enc x).length = k) : ∀ (l : List α), (l.flatMap enc).length = l.length * k
  | [] => by simp
  | x :: l => by rw [List.flatMap_cons, List.length_append, hk, flat_len hk l, List.length_cons, Nat.succ_mul, Nat.add_comm]
theorem flat_drop (hk : ∀ x, (enc x).length = k) : ∀ {l : List α} {i : Nat} (h : i < l.length), (l.flatMap enc).drop (i * k) = enc l[i] ++ (l.drop (i + 1)).flatMap enc
  | x :: l, 0, h => by simp
  | x :: l, i + 1, h => by
    rw [Nat.succ_mul, Nat.add_comm, List.flatMap_cons, ← List.drop_drop, List.drop_left' (hk x), flat_drop hk (by simpa using h)]
    simp
theorem flat_dropW (hk : ∀ x, (enc x).length = k) : ∀ (l : List α) (i : Nat), (l.flatMap enc).drop (i * k) = (l.drop i).flatMap enc
  | [], i => by simp
  | x :: l, 0 => by simp
  | x :: l, i + 1 => by
    rw [Nat.succ_mul, Nat.add_comm, List.flatMap_cons, ← List.drop_drop, List.drop_left' (hk x), flat_dropW hk l i]
    simp
theorem flat_take_succ (hk : ∀ x, (enc x).length = k) {l : List α} {i : Nat} (h : i < l.length) : (l.take (i + 1)).flatMap enc = (l.take i).flatMap enc ++ enc l[i] := by
  rw [List.take_succ_eq_append_getElem h, List.flatMap_append]; simp
theorem flat_set (hk : ∀ x, (enc x).length = k) : ∀ {l : List α} {i : Nat} (x : α), i < l.length → (l.flatMap enc).take (i * k) ++ (enc x ++ (l.flatMap enc).drop (i * k + k)) = (l.set i x).flatMap enc
  | y :: l, 0, x, h => by
    simp [List.drop_left' (hk y)]
  | y :: l, i + 1, x, h => by
    have := flat_set hk (l := l) (i := i) x (by simpa using h)
    rw [List.set_cons_succ, List.flatMap_cons, List.flatMap_cons, ← this, Nat.succ_mul, Nat.add_comm (i * k) k, List.take_add, List.take_left' (hk y), List.drop_left' (hk y), Nat.add_assoc k, ← List.drop_drop, List.drop_left' (hk y), List.append_assoc, Nat.add_comm k (i * k)]
theorem flat_plain (hp : ∀ x, Plain (enc x)) : ∀ (l : List α), Plain (l.flatMap enc)
  | [] => Plain.nil
  | x :: l => by
    have h1 := hp x
    have h2 := flat_plain hp l
    refine ⟨?_, fun rf g => ?_⟩
    · rw [List.flatMap_cons, nrm0L_append, h1.1, h2.1]
    · rw [List.flatMap_cons, vwL_append, h1.2, h2.2]
end
end Go.Abs
