/-
  An evaluator of small code at closed abstract states: code, functions, calls.
-/
import Derived.Test.YthglhccibdlccaaDoorE24
namespace Go.Abs

section
variable {P : Program} {n0 : Nat}

/-! ### levels -/
mutual
def lvA : A → List Nat
  | .any | .nil | .lit _ => []
  | .agg cs | .tup cs | .sl _ cs | .fsl _ cs | .rptr cs => lvL cs
  | .ptr l _ | .row l _ | .rwp l _ _ | .map l | .win l _ _ _ _ => [l]
  | .clo _ fs cs => lvL fs ++ lvL cs
def lvL : List A → List Nat
  | [] => []
  | c :: cs => lvA c ++ lvL cs
end
def lvM : List (List Int × A) → List Nat
  | [] => []
  | p :: l => lvA p.2 ++ lvM l
def lvO : AObj → List Nat
  | .box cs => lvL cs
  | .row _ _ _ _ cs => lvL cs
  | .mp _ _ es => lvM es
  | .it m _ _ => [m]
  | _ => []
def hasN (x : Nat) : List Nat → Bool
  | [] => false
  | y :: l => bif Nat.beq x y then true else hasN x l
theorem hasN_iff {x : Nat} : ∀ {l : List Nat}, hasN x l = true ↔ x ∈ l
  | [] => by simp [hasN]
  | y :: l => by
    simp only [hasN, List.mem_cons]
    cases h : Nat.beq x y
    · have : x ≠ y := fun e => by subst e; simp at h
      simp only [cond_false, this, false_or, hasN_iff]
    · have := Nat.eq_of_beq_eq_true h
      simp [this]
/-- What can be reached. -/
def reachN (keep : Nat → AObj → Bool) (σ : St) : Nat → List Nat → List Nat → List Nat
  | 0, _, acc => acc
  | _ + 1, [], acc => acc
  | n + 1, l :: t, acc => bif hasN l acc then reachN keep σ n t acc else match σ[l]? with
    | some o => bif keep l o then reachN keep σ n (lvO o ++ t) (acc ++ [l]) else reachN keep σ n t acc
    | none => reachN keep σ n t acc
def nodupB : List Nat → Bool
  | [] => true
  | x :: l => !(hasN x l) && nodupB l
theorem nodupB_sound : ∀ {l : List Nat}, nodupB l = true → l.Nodup
  | [], _ => List.nodup_nil
  | x :: l, h => by
    simp only [nodupB, Bool.and_eq_true, Bool.not_eq_true'] at h
    rw [List.nodup_cons]
    refine ⟨fun hm => ?_, nodupB_sound h.2⟩
    rw [hasN_iff.2 hm] at h
    cases h.1
def selB (σ : St) (rf : Bool → Nat → Nat → A) (g : Nat → Option Nat) : List Nat → Option St
  | [] => some []
  | j :: js => match σ[j]?, selB σ rf g js with
    | some o, some os => some (vwO rf g o :: os)
    | _, _ => none
theorem selB_sound {σ : St} {rf : Bool → Nat → Nat → A} {g : Nat → Option Nat} : ∀ {js : List Nat} {σ' : St}, selB σ rf g js = some σ' → selOk σ rf g js σ'
  | [], σ', h => by cases h; trivial
  | j :: js, σ', h => by
    simp only [selB] at h
    split at h <;> try (cases h; done)
    rename_i o os h1 h2
    cases h
    simp only [selOk, h1]
    exact ⟨.inl trivial, selB_sound h2⟩

mutual
theorem vw_id {rf : Bool → Nat → Nat → A} {g : Nat → Option Nat} : ∀ (a : A), a.bnd 0 = true → vw rf g a = a
  | .any, _ => rfl
  | .nil, _ => rfl
  | .lit _, _ => rfl
  | .agg cs, h => by simp only [A.bnd] at h; simp only [vw, vwL_id cs h]
  | .tup cs, h => by simp only [A.bnd] at h; simp only [vw, vwL_id cs h]
  | .sl n cs, h => by simp only [A.bnd] at h; simp only [vw, vwL_id cs h]
  | .fsl n cs, h => by simp only [A.bnd] at h; simp only [vw, vwL_id cs h]
  | .rptr cs, h => by simp only [A.bnd] at h; simp only [vw, vwL_id cs h]
  | .ptr l o, h => by simp [A.bnd] at h
  | .row l n, h => by simp [A.bnd] at h
  | .rwp l n o, h => by simp [A.bnd] at h
  | .win l n o k c, h => by simp [A.bnd] at h
  | .map l, h => by simp [A.bnd] at h
  | .clo f fs cs, h => by simp only [A.bnd, Bool.and_eq_true] at h; simp only [vw, vwL_id fs h.1, vwL_id cs h.2]
theorem vwL_id {rf : Bool → Nat → Nat → A} {g : Nat → Option Nat} : ∀ (cs : List A), bndL 0 cs = true → vwL rf g cs = cs
  | [], _ => rfl
  | c :: cs, h => by simp only [bndL, Bool.and_eq_true] at h; simp only [vwL, vw_id c h.1, vwL_id cs h.2]
end

theorem argOk_vw {js : List Nat} : ∀ {xs : List A}, argOk js xs (xs.map (vw anyRow (posOf js)))
  | [] => trivial
  | _ :: _ => ⟨.inl rfl, argOk_vw⟩

/-! ### calls -/
abbrev Run := FuncId → List A → St → Option (A × St)

/-- A call: on the levels that its arguments reach. -/
def callG (R : Run) : Run := fun f xs σ =>
  let js := reachN (fun _ _ => true) σ 1000 (lvL xs) []
  match selB σ anyRow (posOf js) js with
  | some σ0 => match R f (xs.map (vw anyRow (posOf js))) σ0 with
    | some (r, σ1) => bif nodupB js then some (ren js σ.length r, putAll σ js (σ1.map (renO js σ.length))) else none
    | none => none
  | none => none
theorem callG_ok {R : Run} (hR : CallsOk P R) : CallsOk P (callG R) := by
  intro f xs σ r σ' h
  simp only [callG] at h
  generalize reachN _ _ _ _ _ = js at h
  split at h <;> try (cases h; done)
  rename_i σ0 h0
  split at h <;> try (cases h; done)
  rename_i r0 σ1 h1
  cases hd : nodupB js
  · rw [hd] at h; cases h
  · rw [hd] at h
    cases h
    obtain ⟨h2, h3⟩ := hR _ _ _ _ _ h1
    exact ⟨h2, call_emb h3 js (nodupB_sound hd) (selB_sound h0) argOk_vw ⟨rfl, rfl⟩⟩
/-- A call that needs and leaves no object. -/
def callZ (R : Run) : FuncId → List A → Option A := fun f xs => match R f (xs.map (vw anyRow (posOf []))) [] with
  | some (r, []) => bif r.bnd 0 then some r else none
  | _ => none
def isRsv : AObj → Bool
  | .rsv => true
  | _ => false
/-- A call that needs no object and leaves new ones. -/
def callH (R : Run) : FuncId → List A → Nat → Option (A × St) := fun f xs n => match R f (xs.map (vw anyRow (posOf []))) [] with
  | some (r, σ1) => bif σ1.any isRsv then none else some (ren [] n r, σ1.map (renO [] n))
  | none => none
theorem callZ_ok {R : Run} (hR : CallsOk P R) : Calls0Ok P (callZ R, callH R) := by
  refine ⟨fun f xs r h => ?_, fun f xs n r own h => ?_⟩
  · simp only [callZ] at h
    split at h <;> try (cases h; done)
    rename_i r0 h1
    cases hb : r0.bnd 0
    · rw [hb] at h; cases h
    · rw [hb] at h
      cases h
      obtain ⟨h2, h3⟩ := hR _ _ _ _ _ h1
      refine ⟨h2, fun τ => ?_⟩
      refine call_emb h3 [] (by simp) trivial argOk_vw ⟨?_, by simp [putAll]⟩
      simp only [ren, vw_id r hb]
  · simp only [callH] at h
    split at h <;> try (cases h; done)
    rename_i r0 σ1 h1
    cases hb : σ1.any isRsv
    · rw [hb] at h
      cases h
      obtain ⟨h2, h3⟩ := hR _ _ _ _ _ h1
      refine ⟨h2, fun o ho => ?_, fun τ hl => ?_⟩
      · obtain ⟨o', ho', rfl⟩ := List.mem_map.1 ho
        rw [List.any_eq_false] at hb
        have := hb o' ho'
        cases o' <;> simp [renO, vwO, isRsv] at this ⊢
      · subst hl
        exact call_emb h3 [] (by simp) trivial argOk_vw ⟨rfl, by simp [putAll]⟩
    · rw [hb] at h; cases h

/-! ### code -/
def evG (C : Run) (g : KG) (l : List (Nat × A)) (σ : St) : Option (List (Nat × A) × St) := match g.guard with
  | none => (match evO C g.op (lkB l) σ with
    | some (r, σ') => some (putL g.op.dst r l, σ')
    | none => none)
  | some (s, want) => match lkB l s with
    | .lit (.bool b) => bif b == want then (match evO C g.op (lkB l) σ with
        | some (r, σ') => some (putL g.op.dst r l, σ')
        | none => none) else some (putL g.op.dst (.lit undef) l, σ)
    | .lit (.tuple _) => some (putL g.op.dst (.lit undef) l, σ)
    | _ => none
def evOps (C : Run) : List KG → List (Nat × A) → St → Option (List (Nat × A) × St)
  | [], l, σ => some (l, σ)
  | g :: gs, l, σ => match evG C g l σ with
    | some (l', σ') => evOps C gs l' σ'
    | none => none
def evDG (C : Run) (C0 : Cl0) (f : Nat) (g : KG) (l : List (Nat × A)) (σ : St) : Option (List (Nat × A) × St) := bif tgtB f g.op (lkB l) then (match g.guard with
  | none => (match evDop C C0 f g.op (lkB l) σ with
    | some (r, σ') => some (putL g.op.dst r l, σ')
    | none => none)
  | some (s, want) => match lkB l s with
    | .lit (.bool b) => bif b == want then (match evDop C C0 f g.op (lkB l) σ with
        | some (r, σ') => some (putL g.op.dst r l, σ')
        | none => none) else some (putL g.op.dst (.lit undef) l, σ)
    | .lit (.tuple _) => some (putL g.op.dst (.lit undef) l, σ)
    | _ => none) else none
def evDs (C : Run) (C0 : Cl0) : List (Nat × Nat × KG) → List (Nat × A) → St → Option (List (Nat × A) × St)
  | [], l, σ => some (l, σ)
  | x :: gs, l, σ => match evDG C C0 x.2.1 x.2.2 l σ with
    | some (l', σ') => evDs C C0 gs l' σ'
    | none => none

abbrev Res := Option (Ex × List (Nat × A) × St)
def iterL (f : List (Nat × A) → St → Res) : Nat → List (Nat × A) → St → Res
  | 0, _, _ => none
  | n + 1, l, σ => match f l σ with
    | some (.norm, l', σ') => iterL f n l' σ'
    | r => r

def maxL : List (Nat × Nat × KG) → Nat
  | [] => 0
  | x :: l => match x.2.2.op with
    | .alr _ q _ => max (q + 1) (maxL l)
    | _ => maxL l
/-- The levels that a region wants kept. -/
def wants : K → Nat
  | .dops l => maxL l
  | _ => 0
def isWk : K → Bool
  | .wk _ => true
  | _ => false
def dedup : List (Nat × A) → List Nat → List Nat
  | [], acc => acc
  | p :: l, acc => dedup l (bif hasN p.1 acc then acc else p.1 :: acc)
/-- The levels that stay where rows are let go. -/
def noRows (n0 : Nat) (σ : St) (i : Nat) : List AObj → List Nat
  | [] => []
  | o :: os => bif (match o with | .row .. => Nat.blt i n0 | _ => true) then i :: noRows n0 σ (i + 1) os else noRows n0 σ (i + 1) os
def firstB : Nat → List Nat → Bool
  | 0, _ => true
  | _ + 1, [] => false
  | n + 1, l => go 0 (n + 1) l
where go : Nat → Nat → List Nat → Bool
  | _, 0, _ => true
  | _, _ + 1, [] => false
  | i, n + 1, x :: l => Nat.beq x i && go (i + 1) n l
theorem firstB_go : ∀ {n i : Nat} {l : List Nat}, firstB.go i n l = true → ∀ j, j < n → l[j]? = some (i + j)
  | 0, i, l, _, j, hj => by omega
  | n + 1, i, [], h, j, hj => by simp [firstB.go] at h
  | n + 1, i, x :: l, h, j, hj => by
    simp only [firstB.go, Bool.and_eq_true] at h
    have hx := Nat.eq_of_beq_eq_true h.1
    cases j with
    | zero => simp [hx]
    | succ j => rw [List.getElem?_cons_succ, firstB_go h.2 j (by omega)]; simp; omega
theorem firstB_sound {n : Nat} {l : List Nat} (h : firstB n l = true) : ∀ j, j < n → l[j]? = some j := by
  cases n with
  | zero => intro j hj; omega
  | succ n =>
    cases l with
    | nil => simp [firstB] at h
    | cons x l => intro j hj; simpa using firstB_go (i := 0) h j hj
/-- Rows are let go. -/
def frzS (n0 : Nat) (l : List (Nat × A)) (σ : St) : Option (List (Nat × A) × St) :=
  let ks := noRows n0 σ 0 σ
  bif nodupB ks && firstB n0 ks then (match selB σ (seen σ (posOf ks) 8) (posOf ks) ks with
    | some σ' => some ((dedup l []).map fun t => (t, vw (seen σ (posOf ks) 8) (posOf ks) (lkB l t)), σ')
    | none => none) else none

def evK (C : Run) (C0 : Cl0) (n0 lf : Nat) : K → List (Nat × A) → St → Res
  | .skip, l, σ => some (.norm, l, σ)
  | .seq a b, l, σ => match evK C C0 n0 lf a l σ with
    | some (.norm, l', σ') => evK C C0 n0 lf b l' σ'
    | r => r
  | .cond c a b, l, σ => match ev (lkB l) c with
    | .lit (.bool t) => bif t then evK C C0 n0 lf a l σ else evK C C0 n0 lf b l σ
    | _ => none
  | .block id b, l, σ => match evK C C0 n0 lf b l σ with
    | some (.exit i, l', σ') => bif Nat.beq i id then some (.norm, l', σ') else some (.exit i, l', σ')
    | r => r
  | .loop b, l, σ => iterL (evK C C0 n0 lf b) lf l σ
  | .exit id, l, σ => some (.exit id, l, σ)
  | .ret, l, σ => some (.ret, l, σ)
  | .ops gs, l, σ => match evOps C gs l σ with
    | some (l', σ') => some (.norm, l', σ')
    | none => none
  | .dops xs, l, σ => match evDs C C0 xs l σ with
    | some (l', σ') => some (.norm, l', σ')
    | none => none
  | .rng .., _, _ => none
  | .wk b, l, σ => bif isWk b then (match frzS n0 l σ with
      | some (l', σ') => evK C C0 n0 lf b l' σ'
      | none => none) else evK C C0 n0 lf b l (σ ++ List.replicate (wants b - σ.length) .rsv)

theorem evG_sound {C : Run} (hC : CallsOk P C) {g : KG} {l l' : List (Nat × A)} {σ σ' : St} (h : evG C g l σ = some (l', σ')) {Qp : Value → Env → St → Prop} {K : Env → St → Prop} (hK : K (mkEnv l') σ') : wpG P Qp K g (mkEnv l) σ := by
  unfold evG at h
  unfold wpG
  rw [lkB_eq] at h
  split at h
  · rename_i hg
    split at h <;> try (cases h; done)
    rename_i r τ h1
    cases h
    simp only [hg]
    exact evO_sound hC h1 (by rw [← putL_eq]; exact hK)
  · rename_i s want hg
    simp only [hg]
    split at h
    · rename_i b hb
      rw [hb]
      simp only
      cases hw : b == want
      · rw [hw] at h
        cases h
        exact ⟨fun e => (by cases e), fun _ => (by rw [skipK, ← putL_eq]; exact hK)⟩
      · rw [hw] at h
        simp only [cond_true] at h
        split at h <;> try (cases h; done)
        rename_i r τ h1
        cases h
        exact ⟨fun _ => evO_sound hC h1 (by rw [← putL_eq]; exact hK), fun e => (by cases e)⟩
    · rename_i hb
      cases h
      rw [hb]
      simp only [skipK, ← putL_eq]
      exact hK
    · cases h
theorem evOps_sound {C : Run} (hC : CallsOk P C) {Qp : Value → Env → St → Prop} {K : Env → St → Prop} : ∀ {gs : List KG} {l l' : List (Nat × A)} {σ σ' : St}, evOps C gs l σ = some (l', σ') → K (mkEnv l') σ' → wpOps P Qp K gs (mkEnv l) σ
  | [], l, l', σ, σ', h, hK => by cases h; exact hK
  | g :: gs, l, l', σ, σ', h, hK => by
    simp only [evOps] at h
    split at h <;> try (cases h; done)
    rename_i l1 σ1 h1
    exact evG_sound hC h1 (evOps_sound hC h hK)
theorem evDG_sound {C : Run} (hC : CallsOk P C) {C0 : Cl0} (hC0 : Calls0Ok P C0) {f : Nat} {g : KG} {l l' : List (Nat × A)} {σ σ' : St} (h : evDG C C0 f g l σ = some (l', σ')) {K : Env → St → Prop} (hK : K (mkEnv l') σ') :
    tgtC f g.op (mkEnv l) ∧ wpDG P f K g (mkEnv l) σ := by
  unfold evDG at h
  unfold wpDG
  rw [lkB_eq] at h
  cases ht : tgtB f g.op (mkEnv l)
  · rw [ht] at h; cases h
  · refine ⟨tgtB_sound ht, ?_⟩
    rw [ht] at h
    simp only [cond_true] at h
    split at h
    · rename_i hg
      split at h <;> try (cases h; done)
      rename_i r τ h1
      cases h
      simp only [hg]
      exact evDop_sound hC hC0 h1 (by rw [← putL_eq]; exact hK)
    · rename_i s want hg
      simp only [hg]
      split at h
      · rename_i b hb
        rw [hb]
        simp only
        cases hw : b == want
        · rw [hw] at h
          cases h
          exact ⟨fun e => (by cases e), fun _ => (by rw [skipK, ← putL_eq]; exact hK)⟩
        · rw [hw] at h
          simp only [cond_true] at h
          split at h <;> try (cases h; done)
          rename_i r τ h1
          cases h
          exact ⟨fun _ => evDop_sound hC hC0 h1 (by rw [← putL_eq]; exact hK), fun e => (by cases e)⟩
      · rename_i hb
        cases h
        rw [hb]
        simp only [skipK, ← putL_eq]
        exact hK
      · cases h
theorem evDs_sound {C : Run} (hC : CallsOk P C) {C0 : Cl0} (hC0 : Calls0Ok P C0) {K : Env → St → Prop} : ∀ {gs : List (Nat × Nat × KG)} {l l' : List (Nat × A)} {σ σ' : St}, evDs C C0 gs l σ = some (l', σ') → K (mkEnv l') σ' → wpD P K gs (mkEnv l) σ
  | [], l, l', σ, σ', h, hK => by cases h; exact hK
  | g :: gs, l, l', σ, σ', h, hK => by
    simp only [evDs] at h
    split at h <;> try (cases h; done)
    rename_i l1 σ1 h1
    exact evDG_sound hC hC0 h1 (evDs_sound hC hC0 h hK)

/-- A level is kept. -/
theorem weak_rsv {env : Env} {σ : St} : Weak n0 env (σ ++ [AObj.rsv]) env σ := by
  intro H0 L0 w0 H L w N tmps h0 h1 h2
  have hll := LLe.append L [(⟨none, 0, 0, false⟩ : LI)]
  refine ⟨H, L ++ [(⟨none, 0, 0, false⟩ : LI)], h1.trans ?_, h2.mono (HLe.refl _) hll⟩
  have hs := h1.st
  refine ⟨⟨hs.pers, by simp [hs.len], fun i l o hL hσ => ?_, fun i j x y b hi hj hx hy => ?_, fun i x b hi hx => ?_⟩, Step.refl _ _ _, hll, fun b ⟨i, x, hi, hx⟩ => ?_⟩
  · rcases get_snoc hL with hL' | ⟨rfl, rfl⟩
    · have hi : i < L.length := (List.getElem?_eq_some_iff.1 hL').1
      rw [List.getElem?_append_left (by rw [← hs.len]; exact hi)] at hσ
      exact (hs.obj i l o hL' hσ).carry (fun _ _ => rfl) (HLe.refl _) hll (fun _ _ _ => rfl)
    · rw [hs.len] at hσ
      rw [List.getElem?_append_right (Nat.le_refl _)] at hσ
      simp only [Nat.sub_self, List.getElem?_cons_zero, Option.some.injEq] at hσ
      subst hσ
      exact ⟨rfl, rfl⟩
  · rcases get_snoc hi with hi' | ⟨rfl, rfl⟩
    · rcases get_snoc hj with hj' | ⟨rfl, rfl⟩
      · exact hs.inj i j x y b hi' hj' hx hy
      · cases hy
    · cases hx
  · rcases get_snoc hi with hi' | ⟨rfl, rfl⟩
    · exact hs.lt i x b hi' hx
    · cases hx
  · rcases get_snoc hi with hi' | ⟨rfl, rfl⟩
    · exact .inl ⟨i, x, hi', hx⟩
    · cases hx
theorem weak_rsvs {env : Env} : ∀ (n : Nat) {σ : St}, Weak n0 env (σ ++ List.replicate n AObj.rsv) env σ
  | 0, σ => by simpa using Weak.refl n0 env σ
  | n + 1, σ => by
    have := (weak_rsv (n0 := n0) (env := env) (σ := σ)).trans (weak_rsvs n)
    rw [List.replicate_succ]
    simpa using this
theorem frzS_sound {l l' : List (Nat × A)} {σ σ' : St} (h : frzS n0 l σ = some (l', σ')) : Weak n0 (mkEnv l') σ' (mkEnv l) σ := by
  simp only [frzS] at h
  generalize noRows n0 σ 0 σ = ks at h
  cases hb : nodupB ks && firstB n0 ks
  · rw [hb] at h; cases h
  · rw [hb] at h
    simp only [Bool.and_eq_true] at hb
    simp only [cond_true] at h
    split at h <;> try (cases h; done)
    rename_i σ1 h1
    cases h
    refine Weak.sel ks 8 _ (firstB_sound hb.2) (nodupB_sound hb.1) (selB_sound h1) fun p hp => ?_
    obtain ⟨t, _, rfl⟩ := List.mem_map.1 hp
    left
    simp only [lkB_eq]

theorem evK_sound {C : Run} (hC : CallsOk P C) {C0 : Cl0} (hC0 : Calls0Ok P C0) {lf : Nat} : ∀ (k : K) {l l' : List (Nat × A)} {σ σ' : St} {x : Ex} {Q : Ex → Env → St → Prop}, evK C C0 n0 lf k l σ = some (x, l', σ') → Q x (mkEnv l') σ' → wpK P n0 k Q (mkEnv l) σ
  | .skip, l, l', σ, σ', x, Q, h, hQ => by cases h; exact hQ
  | .seq a b, l, l', σ, σ', x, Q, h, hQ => by
    simp only [evK] at h
    simp only [wpK]
    split at h
    · rename_i l1 σ1 h1
      exact evK_sound hC hC0 a h1 (evK_sound hC hC0 b h hQ)
    · rename_i r hr
      refine evK_sound hC hC0 a h ?_
      cases x <;> first | exact (hr _ _ h).elim | exact hQ
  | .cond c a b, l, l', σ, σ', x, Q, h, hQ => by
    simp only [evK, lkB_eq] at h
    simp only [wpK]
    split at h <;> try (cases h; done)
    rename_i t ht
    rw [ht]
    simp only
    cases t
    · exact ⟨fun e => (by cases e), fun _ => evK_sound hC hC0 b h hQ⟩
    · exact ⟨fun _ => evK_sound hC hC0 a h hQ, fun e => (by cases e)⟩
  | .block id b, l, l', σ, σ', x, Q, h, hQ => by
    simp only [evK] at h
    simp only [wpK]
    split at h
    · rename_i i l1 σ1 h1
      refine evK_sound hC hC0 b h1 ?_
      simp only [blk]
      cases hb : Nat.beq i id
      · rw [hb] at h
        cases h
        have : i ≠ id := fun e => by subst e; simp at hb
        rw [if_neg this]
        exact hQ
      · rw [hb] at h
        cases h
        rw [if_pos (Nat.eq_of_beq_eq_true hb)]
        exact hQ
    · rename_i r hr
      refine evK_sound hC hC0 b h ?_
      cases x <;> first | exact (hr _ _ _ h).elim | exact hQ
  | .loop b, l, l', σ, σ', x, Q, h, hQ => by
    simp only [evK] at h
    simp only [wpK]
    refine ⟨fun n env τ => ∃ l0, env = mkEnv l0 ∧ iterL (evK C C0 n0 lf b) n l0 τ = some (x, l', σ'), ⟨lf, Wk.here ⟨l, rfl, h⟩⟩, ?_⟩
    rintro n env τ ⟨l0, rfl, h0⟩
    cases n with
    | zero => cases h0
    | succ n =>
      simp only [iterL] at h0
      split at h0
      · rename_i l1 σ1 h1
        refine evK_sound hC hC0 b h1 ?_
        exact ⟨n, Nat.lt_succ_self n, Wk.here ⟨l1, rfl, h0⟩⟩
      · rename_i r hr
        refine evK_sound hC hC0 b h0 ?_
        cases x <;> first | exact (hr _ _ h0).elim | exact hQ
  | .exit id, l, l', σ, σ', x, Q, h, hQ => by cases h; exact hQ
  | .ret, l, l', σ, σ', x, Q, h, hQ => by cases h; exact hQ
  | .ops gs, l, l', σ, σ', x, Q, h, hQ => by
    simp only [evK] at h
    simp only [wpK]
    split at h <;> try (cases h; done)
    rename_i l1 σ1 h1
    cases h
    exact evOps_sound hC h1 hQ
  | .dops gs, l, l', σ, σ', x, Q, h, hQ => by
    simp only [evK] at h
    simp only [wpK]
    split at h <;> try (cases h; done)
    rename_i l1 σ1 h1
    cases h
    exact evDs_sound hC hC0 h1 hQ
  | .rng .., l, l', σ, σ', x, Q, h, hQ => by simp [evK] at h
  | .wk b, l, l', σ, σ', x, Q, h, hQ => by
    simp only [evK] at h
    simp only [wpK]
    cases hb : isWk b
    · rw [hb] at h
      exact Wk.by (weak_rsvs _) (Wk.here (evK_sound hC hC0 b h hQ))
    · rw [hb] at h
      simp only [cond_true] at h
      split at h <;> try (cases h; done)
      rename_i l1 σ1 h1
      exact Wk.by (frzS_sound h1) (Wk.here (evK_sound hC hC0 b h hQ))

/-! ### functions -/
/-- A function's small code, where its results lie, whether the rows of its result are let go. -/
structure Entry where
  k : K
  rs : List RS
  frz : Bool

def argsL : Nat → List A → List (Nat × A)
  | _, [] => []
  | i, a :: xs => (i, a) :: argsL (i + 1) xs
theorem argsL_get : ∀ {xs : List A} {i t : Nat}, mkEnv (argsL i xs) t = .any ∨ (i ≤ t ∧ xs[t - i]? = some (mkEnv (argsL i xs) t))
  | [], i, t => .inl rfl
  | a :: xs, i, t => by
    simp only [argsL, mkEnv]
    split
    · rename_i h; subst h; exact .inr ⟨Nat.le_refl _, by simp⟩
    · rcases argsL_get (xs := xs) (i := i + 1) (t := t) with h | ⟨h1, h2⟩
      · exact .inl h
      · refine .inr ⟨by omega, ?_⟩
        have : t - i = (t - (i + 1)) + 1 := by omega
        rw [this]
        simpa using h2

def isRet : Ex → Bool
  | .ret | .norm => true
  | _ => false
/-- What a function leaves. -/
def leave (frz : Bool) (n0 : Nat) (r : A) (σ : St) : Option (A × St) :=
  let k0 := List.range n0
  let k1 := reachN (fun _ _ => true) σ 1000 (lvO (.box ((σ.take n0).map fun o => .agg ((lvO o).map fun l => .map l)))) k0
  let ks := reachN (fun _ o => bif frz then (match o with | .row .. => false | _ => true) else true) σ 1000 (lvA r) k1
  bif nodupB ks && firstB n0 ks then (match selB σ (seen σ (posOf ks) 8) (posOf ks) ks with
    | some σ1 => some (vw (seen σ (posOf ks) 8) (posOf ks) r, σ1)
    | none => none) else none
theorem leave_sound {frz : Bool} {r r1 : A} {σ σ1 : St} (h : leave frz n0 r σ = some (r1, σ1)) : RetQ n0 r1 σ1 (.ret r) σ := by
  simp only [leave] at h
  generalize reachN _ σ 1000 (lvA r) _ = ks at h
  cases hb : nodupB ks && firstB n0 ks
  · rw [hb] at h; cases h
  · rw [hb] at h
    simp only [Bool.and_eq_true] at hb
    simp only [cond_true] at h
    split at h <;> try (cases h; done)
    rename_i σ2 h1
    cases h
    exact ⟨r, ks, 8, rfl, firstB_sound hb.2, nodupB_sound hb.1, selB_sound h1, .inl rfl⟩

def findE (f : Nat) : List (Nat × Entry) → Option Entry
  | [] => none
  | p :: l => bif Nat.beq f p.1 then some p.2 else findE f l

def runF (T : List (Nat × Entry)) (orc : Run) (lf : Nat) : Nat → Run
  | 0 => fun _ _ _ => none
  | n + 1 => fun f xs σ => match findE f T with
    | none => orc f xs σ
    | some e => match evK (callG (runF T orc lf n)) (callZ (runF T orc lf n), callH (runF T orc lf n)) σ.length lf e.k (argsL 0 xs) σ with
      | some (x, l, σ') => bif isRet x then (match resA (lkB l) σ' e.rs with
        | some r => leave e.frz σ.length r σ'
        | none => none) else none
      | none => none

/-- The code that a function has. -/
def EntryOk (P : Program) (f : FuncId) (e : Entry) : Prop :=
  callable P f = true ∧ ∃ fn c hint, P.funcs[f]? = some fn ∧ fn.body = some c ∧ compileH P fn.ntmps hint c = some e.k.erase ∧ slotsOf P fn.results.toList = some e.rs

theorem callA_of_wpE {hint : Nat → Option (List (Nat × Nat))} {f : FuncId} {fn : Func} {c : Code} {k : K} {rs : List RS} (hf : P.funcs[f]? = some fn) (hb : fn.body = some c) (hc : compileH P fn.ntmps hint c = some k.erase) (hr : slotsOf P fn.results.toList = some rs)
    {args : List A} {σ : St} {Q : Out → St → Prop} (h : wpK P σ.length k (fin rs Q) (mkEnv (argsL 0 args)) σ) : CallA P f args σ Q := by
  refine callA_of_wpH (k := .wk k) hf hb hc hr ?_
  unfold wpF
  simp only [wpK]
  refine Wk.by (env' := mkEnv (argsL 0 args)) (σ' := σ) ?_ (Wk.here h)
  intro H0 L0 w0 H L w N tmps _ h1 h2
  refine ⟨H, L, h1, h2.1, fun t => ?_⟩
  rcases argsL_get (xs := args) (i := 0) (t := t) with e | ⟨_, e⟩
  · rw [e]; simp [Rel]
  · have := h2.2 t
    simp only [argsEnv, List.getD] at this
    rw [Nat.sub_zero] at e
    rw [e] at this
    exact this

theorem runF_ok {T : List (Nat × Entry)} {orc : Run} {lf : Nat} (hT : ∀ f e, findE f T = some e → EntryOk P f e) (hO : CallsOk P orc) : ∀ n, CallsOk P (runF T orc lf n)
  | 0 => fun f xs σ r σ' h => (by cases h)
  | n + 1 => fun f xs σ r σ' h => by
    have ih := runF_ok (lf := lf) hT hO n
    simp only [runF] at h
    split at h
    · exact hO _ _ _ _ _ h
    · rename_i e he
      obtain ⟨hcal, fn, c, hint, h1, h2, h3, h4⟩ := hT _ _ he
      refine ⟨hcal, ?_⟩
      split at h <;> try (cases h; done)
      rename_i x l σ1 h5
      cases hx : isRet x
      · rw [hx] at h; cases h
      · rw [hx] at h
        simp only [cond_true] at h
        split at h <;> try (cases h; done)
        rename_i r0 h6
        refine ret_of_sel (callA_of_wpE h1 h2 h3 h4 (evK_sound (callG_ok ih) (callZ_ok ih) e.k h5 ?_))
        have hq := leave_sound h
        rw [lkB_eq] at h6
        cases x <;> first | (cases hx; done) | (simp only [fin, retP, h6]; exact hq)

end
end Go.Abs
