/-
  An evaluator of small code at closed abstract states: code, functions, calls.
  Lists of IDs in increasing order, each once: what the reference's insertion gives, and what a sort and a compaction give.
-/
import Derived.Test.YthglhccibdlccaaGreatDoorX20
import Derived.Test.YthglhccibdlccaaGreatDoorX21
import Derived.Test.YthglhccibdlccaaGreatDoorX19
set_option linter.unusedVariables false
set_option linter.unusedSimpArgs false
namespace Go.Abs
section
variable {P : Program} {n0 : Nat}
mutual
def lvA : A → List Nat
  | .any | .nil | .lit _ => []
  | .agg cs | .tup cs | .sl _ cs | .fsl _ cs | .rptr cs => lvL cs
  | .ptr l _ | .row l _ | .rwp l _ _ | .map l | .win l _ _ _ _ => [l]
  | .clo _ fs cs => lvL fs ++ lvL cs
def lvL : List A → List Nat
  | [] => []
  | c :: cs => lvA c ++ lvL cs
end
def lvM : List (List Int × A) → List Nat
  | [] => []
  | p :: l => lvA p.2 ++ lvM l
def lvO : AObj → List Nat
  | .box cs => lvL cs
  | .row _ _ _ _ cs => lvL cs
  | .mp _ _ es => lvM es
  | .it m _ _ => [m]
  | _ => []
def hasN (x : Nat) : List Nat → Bool
  | [] => false
  | y :: l => bif Nat.beq x y then true else hasN x l
theorem hasN_iff {x : Nat} : ∀ {l : List Nat}, hasN x l = true ↔ x ∈ l
  | [] => by simp [hasN]
  | y :: l => by
    simp only [hasN, List.mem_cons]
    cases h : Nat.beq x y
    · have : x ≠ y := fun e => by subst e; simp at h
      simp only [cond_false, this, false_or, hasN_iff]
    · have := Nat.eq_of_beq_eq_true h
      simp [this]
def reachN (keep : Nat → AObj → Bool) (σ : St) : Nat → List Nat → List Nat → List Nat
  | 0, _, acc => acc
  | _ + 1, [], acc => acc
  | n + 1, l :: t, acc => bif hasN l acc then reachN keep σ n t acc else match σ[l]? with
    | some o => bif keep l o then reachN keep σ n (lvO o ++ t) (acc ++ [l]) else reachN keep σ n t acc
    | none => reachN keep σ n t acc
def nodupB : List Nat → Bool
  | [] => true
  | x :: l => !(hasN x l) && nodupB l
theorem nodupB_sound : ∀ {l : List Nat}, nodupB l = true → l.Nodup
  | [], _ => List.nodup_nil
  | x :: l, h => by
    simp only [nodupB, Bool.and_eq_true, Bool.not_eq_true'] at h
    rw [List.nodup_cons]
    refine ⟨fun hm => ?_, nodupB_sound h.2⟩
    rw [hasN_iff.2 hm] at h
    cases h.1
def selB (σ : St) (rf : Bool → Nat → Nat → A) (g : Nat → Option Nat) : List Nat → Option St
  | [] => some []
  | j :: js => match σ[j]?, selB σ rf g js with
    | some o, some os => some (vwO rf g o :: os)
    | _, _ => none
theorem selB_sound {σ : St} {rf : Bool → Nat → Nat → A} {g : Nat → Option Nat} : ∀ {js : List Nat} {σ' : St}, selB σ rf g js = some σ' → selOk σ rf g js σ'
  | [], σ', h => by cases h; trivial
  | j :: js, σ', h => by
    simp only [selB] at h
    split at h <;> try (cases h; done)
    rename_i o os h1 h2
    cases h
    simp only [selOk, h1]
    exact ⟨.inl trivial, selB_sound h2⟩
mutual
theorem vw_id {rf : Bool → Nat → Nat → A} {g : Nat → Option Nat} : ∀ (a : A), a.bnd 0 = true → vw rf g a = a
  | .any, _ => rfl
  | .nil, _ => rfl
  | .lit _, _ => rfl
  | .agg cs, h => by simp only [A.bnd] at h; simp only [vw, vwL_id cs h]
  | .tup cs, h => by simp only [A.bnd] at h; simp only [vw, vwL_id cs h]
  | .sl n cs, h => by simp only [A.bnd] at h; simp only [vw, vwL_id cs h]
  | .fsl n cs, h => by simp only [A.bnd] at h; simp only [vw, vwL_id cs h]
  | .rptr cs, h => by simp only [A.bnd] at h; simp only [vw, vwL_id cs h]
  | .ptr l o, h => by simp [A.bnd] at h
  | .row l n, h => by simp [A.bnd] at h
  | .rwp l n o, h => by simp [A.bnd] at h
  | .win l n o k c, h => by simp [A.bnd] at h
  | .map l, h => by simp [A.bnd] at h
  | .clo f fs cs, h => by simp only [A.bnd, Bool.and_eq_true] at h; simp only [vw, vwL_id fs h.1, vwL_id cs h.2]
theorem vwL_id {rf : Bool → Nat → Nat → A} {g : Nat → Option Nat} : ∀ (cs : List A), bndL 0 cs = true → vwL rf g cs = cs
  | [], _ => rfl
  | c :: cs, h => by simp only [bndL, Bool.and_eq_true] at h; simp only [vwL, vw_id c h.1, vwL_id cs h.2]
end
theorem argOk_vw {js : List Nat} : ∀ {xs : List A}, argOk js xs (xs.map (vw anyRow (posOf js)))
  | [] => trivial
  | _ :: _ => ⟨.inl rfl, argOk_vw⟩
abbrev Run := FuncId → List A → St → Option (A × St)
def callG (R : Run) : Run := fun f xs σ =>
  let js := reachN (fun _ _ => true) σ 1000 (lvL xs) []
  match selB σ anyRow (posOf js) js with
  | some σ0 => match R f (xs.map (vw anyRow (posOf js))) σ0 with
    | some (r, σ1) => bif nodupB js then some (ren js σ.length r, putAll σ js (σ1.map (renO js σ.length))) else none
    | none => none
  | none => none
theorem callG_ok {R : Run} (hR : CallsOk P R) : CallsOk P (callG R) := by
  intro f xs σ r σ' h
  simp only [callG] at h
  generalize reachN _ _ _ _ _ = js at h
  split at h <;> try (cases h; done)
  rename_i σ0 h0
  split at h <;> try (cases h; done)
  rename_i r0 σ1 h1
  cases hd : nodupB js
  · rw [hd] at h; cases h
  · rw [hd] at h
    cases h
    obtain ⟨h2, h3⟩ := hR _ _ _ _ _ h1
    exact ⟨h2, call_emb h3 js (nodupB_sound hd) (selB_sound h0) argOk_vw ⟨rfl, rfl⟩⟩
def callZ (R : Run) : FuncId → List A → Option A := fun f xs => match R f (xs.map (vw anyRow (posOf []))) [] with
  | some (r, []) => bif r.bnd 0 then some r else none
  | _ => none
def isRsv : AObj → Bool
  | .rsv => true
  | _ => false
def callH (R : Run) : FuncId → List A → Nat → Option (A × St) := fun f xs n => match R f (xs.map (vw anyRow (posOf []))) [] with
  | some (r, σ1) => bif σ1.any isRsv then none else some (ren [] n r, σ1.map (renO [] n))
  | none => none
theorem callZ_ok {R : Run} (hR : CallsOk P R) : Calls0Ok P (callZ R, callH R) := by
  refine ⟨fun f xs r h => ?_, fun f xs n r own h => ?_⟩
  · simp only [callZ] at h
    split at h <;> try (cases h; done)
    rename_i r0 h1
    cases hb : r0.bnd 0
    · rw [hb] at h; cases h
    · rw [hb] at h
      cases h
      obtain ⟨h2, h3⟩ := hR _ _ _ _ _ h1
      refine ⟨h2, fun τ => ?_⟩
      refine call_emb h3 [] (by simp) trivial argOk_vw ⟨?_, by simp [putAll]⟩
      simp only [ren, vw_id r hb]
  · simp only [callH] at h
    split at h <;> try (cases h; done)
    rename_i r0 σ1 h1
    cases hb : σ1.any isRsv
    · rw [hb] at h
      cases h
      obtain ⟨h2, h3⟩ := hR _ _ _ _ _ h1
      refine ⟨h2, fun o ho => ?_, fun τ hl => ?_⟩
      · obtain ⟨o', ho', rfl⟩ := List.mem_map.1 ho
        rw [List.any_eq_false] at hb
        have := hb o' ho'
        cases o' <;> simp [renO, vwO, isRsv] at this ⊢
      · subst hl
        exact call_emb h3 [] (by simp) trivial argOk_vw ⟨rfl, by simp [putAll]⟩
    · rw [hb] at h; cases h
def evG (C : Run) (g : KG) (l : List (Nat × A)) (σ : St) : Option (List (Nat × A) × St) := match g.guard with
  | none => (match evO C g.op (lkB l) σ with
    | some (r, σ') => some (putL g.op.dst r l, σ')
    | none => none)
  | some (s, want) => match lkB l s with
    | .lit (.bool b) => bif b == want then (match evO C g.op (lkB l) σ with
        | some (r, σ') => some (putL g.op.dst r l, σ')
        | none => none) else some (putL g.op.dst (.lit undef) l, σ)
    | .lit (.tuple _) => some (putL g.op.dst (.lit undef) l, σ)
    | _ => none
def evOps (C : Run) : List KG → List (Nat × A) → St → Option (List (Nat × A) × St)
  | [], l, σ => some (l, σ)
  | g :: gs, l, σ => match evG C g l σ with
    | some (l', σ') => evOps C gs l' σ'
    | none => none
def evDG (C : Run) (C0 : Cl0) (f : Nat) (g : KG) (l : List (Nat × A)) (σ : St) : Option (List (Nat × A) × St) := bif tgtB f g.op (lkB l) then (match g.guard with
  | none => (match evDop C C0 f g.op (lkB l) σ with
    | some (r, σ') => some (putL g.op.dst r l, σ')
    | none => none)
  | some (s, want) => match lkB l s with
    | .lit (.bool b) => bif b == want then (match evDop C C0 f g.op (lkB l) σ with
        | some (r, σ') => some (putL g.op.dst r l, σ')
        | none => none) else some (putL g.op.dst (.lit undef) l, σ)
    | .lit (.tuple _) => some (putL g.op.dst (.lit undef) l, σ)
    | _ => none) else none
def evDs (C : Run) (C0 : Cl0) : List (Nat × Nat × KG) → List (Nat × A) → St → Option (List (Nat × A) × St)
  | [], l, σ => some (l, σ)
  | x :: gs, l, σ => match evDG C C0 x.2.1 x.2.2 l σ with
    | some (l', σ') => evDs C C0 gs l' σ'
    | none => none
abbrev Res := Option (Ex × List (Nat × A) × St)
def iterL (f : List (Nat × A) → St → Res) : Nat → List (Nat × A) → St → Res
  | 0, _, _ => none
  | n + 1, l, σ => match f l σ with
    | some (.norm, l', σ') => iterL f n l' σ'
    | r => r
def maxL : List (Nat × Nat × KG) → Nat
  | [] => 0
  | x :: l => match x.2.2.op with
    | .alr _ q _ => max (q + 1) (maxL l)
    | _ => maxL l
def wants : K → Nat
  | .dops l => maxL l
  | _ => 0
def isWk : K → Bool
  | .wk _ => true
  | _ => false
def dedup : List (Nat × A) → List Nat → List Nat
  | [], acc => acc
  | p :: l, acc => dedup l (bif hasN p.1 acc then acc else p.1 :: acc)
def noRows (n0 : Nat) (σ : St) (i : Nat) : List AObj → List Nat
  | [] => []
  | o :: os => bif (match o with | .row .. => Nat.blt i n0 | _ => true) then i :: noRows n0 σ (i + 1) os else noRows n0 σ (i + 1) os
def firstB : Nat → List Nat → Bool
  | 0, _ => true
  | _ + 1, [] => false
  | n + 1, l => go 0 (n + 1) l
where go : Nat → Nat → List Nat → Bool
  | _, 0, _ => true
  | _, _ + 1, [] => false
  | i, n + 1, x :: l => Nat.beq x i && go (i + 1) n l
theorem firstB_go : ∀ {n i : Nat} {l : List Nat}, firstB.go i n l = true → ∀ j, j < n → l[j]? = some (i + j)
  | 0, i, l, _, j, hj => by omega
  | n + 1, i, [], h, j, hj => by simp [firstB.go] at h
  | n + 1, i, x :: l, h, j, hj => by
    simp only [firstB.go, Bool.and_eq_true] at h
    have hx := Nat.eq_of_beq_eq_true h.1
    cases j with
    | zero => simp [hx]
    | succ j => rw [List.getElem?_cons_succ, firstB_go h.2 j (by omega)]; simp; omega
theorem firstB_sound {n : Nat} {l : List Nat} (h : firstB n l = true) : ∀ j, j < n → l[j]? = some j := by
  cases n with
  | zero => intro j hj; omega
  | succ n =>
    cases l with
    | nil => simp [firstB] at h
    | cons x l => intro j hj; simpa using firstB_go (i := 0) h j hj
def frzS (n0 : Nat) (l : List (Nat × A)) (σ : St) : Option (List (Nat × A) × St) :=
  let ks := noRows n0 σ 0 σ
  bif nodupB ks && firstB n0 ks then (match selB σ (seen σ (posOf ks) 8) (posOf ks) ks with
    | some σ' => some ((dedup l []).map fun t => (t, vw (seen σ (posOf ks) 8) (posOf ks) (lkB l t)), σ')
    | none => none) else none
def evK (C : Run) (C0 : Cl0) (n0 lf : Nat) : K → List (Nat × A) → St → Res
  | .skip, l, σ => some (.norm, l, σ)
  | .seq a b, l, σ => match evK C C0 n0 lf a l σ with
    | some (.norm, l', σ') => evK C C0 n0 lf b l' σ'
    | r => r
  | .cond c a b, l, σ => match ev (lkB l) c with
    | .lit (.bool t) => bif t then evK C C0 n0 lf a l σ else evK C C0 n0 lf b l σ
    | _ => none
  | .block id b, l, σ => match evK C C0 n0 lf b l σ with
    | some (.exit i, l', σ') => bif Nat.beq i id then some (.norm, l', σ') else some (.exit i, l', σ')
    | r => r
  | .loop b, l, σ => iterL (evK C C0 n0 lf b) lf l σ
  | .exit id, l, σ => some (.exit id, l, σ)
  | .ret, l, σ => some (.ret, l, σ)
  | .ops gs, l, σ => match evOps C gs l σ with
    | some (l', σ') => some (.norm, l', σ')
    | none => none
  | .dops xs, l, σ => match evDs C C0 xs l σ with
    | some (l', σ') => some (.norm, l', σ')
    | none => none
  | .rng .., _, _ => none
  | .wk b, l, σ => bif isWk b then (match frzS n0 l σ with
      | some (l', σ') => evK C C0 n0 lf b l' σ'
      | none => none) else evK C C0 n0 lf b l (σ ++ List.replicate (wants b - σ.length) .rsv)
theorem evG_sound {C : Run} (hC : CallsOk P C) {g : KG} {l l' : List (Nat × A)} {σ σ' : St} (h : evG C g l σ = some (l', σ')) {Qp : Value → Env → St → Prop} {K : Env → St → Prop} (hK : K (mkEnv l') σ') : wpG P Qp K g (mkEnv l) σ := by
  unfold evG at h
  unfold wpG
  rw [lkB_eq] at h
  split at h
  · rename_i hg
    split at h <;> try (cases h; done)
    rename_i r τ h1
    cases h
    simp only [hg]
    exact evO_sound hC h1 (by rw [← putL_eq]; exact hK)
  · rename_i s want hg
    simp only [hg]
    split at h
    · rename_i b hb
      rw [hb]
      simp only
      cases hw : b == want
      · rw [hw] at h
        cases h
        exact ⟨fun e => (by cases e), fun _ => (by rw [skipK, ← putL_eq]; exact hK)⟩
      · rw [hw] at h
        simp only [cond_true] at h
        split at h <;> try (cases h; done)
        rename_i r τ h1
        cases h
        exact ⟨fun _ => evO_sound hC h1 (by rw [← putL_eq]; exact hK), fun e => (by cases e)⟩
    · rename_i hb
      cases h
      rw [hb]
      simp only [skipK, ← putL_eq]
      exact hK
    · cases h
theorem evOps_sound {C : Run} (hC : CallsOk P C) {Qp : Value → Env → St → Prop} {K : Env → St → Prop} : ∀ {gs : List KG} {l l' : List (Nat × A)} {σ σ' : St}, evOps C gs l σ = some (l', σ') → K (mkEnv l') σ' → wpOps P Qp K gs (mkEnv l) σ
  | [], l, l', σ, σ', h, hK => by cases h; exact hK
  | g :: gs, l, l', σ, σ', h, hK => by
    simp only [evOps] at h
    split at h <;> try (cases h; done)
    rename_i l1 σ1 h1
    exact evG_sound hC h1 (evOps_sound hC h hK)
theorem evDG_sound {C : Run} (hC : CallsOk P C) {C0 : Cl0} (hC0 : Calls0Ok P C0) {f : Nat} {g : KG} {l l' : List (Nat × A)} {σ σ' : St} (h : evDG C C0 f g l σ = some (l', σ')) {K : Env → St → Prop} (hK : K (mkEnv l') σ') :
    tgtC f g.op (mkEnv l) ∧ wpDG P f K g (mkEnv l) σ := by
  unfold evDG at h
  unfold wpDG
  rw [lkB_eq] at h
  cases ht : tgtB f g.op (mkEnv l)
  · rw [ht] at h; cases h
  · refine ⟨tgtB_sound ht, ?_⟩
    rw [ht] at h
    simp only [cond_true] at h
    split at h
    · rename_i hg
      split at h <;> try (cases h; done)
      rename_i r τ h1
      cases h
      simp only [hg]
      exact evDop_sound hC hC0 h1 (by rw [← putL_eq]; exact hK)
    · rename_i s want hg
      simp only [hg]
      split at h
      · rename_i b hb
        rw [hb]
        simp only
        cases hw : b == want
        · rw [hw] at h
          cases h
          exact ⟨fun e => (by cases e), fun _ => (by rw [skipK, ← putL_eq]; exact hK)⟩
        · rw [hw] at h
          simp only [cond_true] at h
          split at h <;> try (cases h; done)
          rename_i r τ h1
          cases h
          exact ⟨fun _ => evDop_sound hC hC0 h1 (by rw [← putL_eq]; exact hK), fun e => (by cases e)⟩
      · rename_i hb
        cases h
        rw [hb]
        simp only [skipK, ← putL_eq]
        exact hK
      · cases h
theorem evDs_sound {C : Run} (hC : CallsOk P C) {C0 : Cl0} (hC0 : Calls0Ok P C0) {K : Env → St → Prop} : ∀ {gs : List (Nat × Nat × KG)} {l l' : List (Nat × A)} {σ σ' : St}, evDs C C0 gs l σ = some (l', σ') → K (mkEnv l') σ' → wpD P K gs (mkEnv l) σ
  | [], l, l', σ, σ', h, hK => by cases h; exact hK
  | g :: gs, l, l', σ, σ', h, hK => by
    simp only [evDs] at h
    split at h <;> try (cases h; done)
    rename_i l1 σ1 h1
    exact evDG_sound hC hC0 h1 (evDs_sound hC hC0 h hK)
theorem weak_rsv {env : Env} {σ : St} : Weak n0 env (σ ++ [AObj.rsv]) env σ := by
  intro H0 L0 w0 H L w N tmps h0 h1 h2
  have hll := LLe.append L [(⟨none, 0, 0, false⟩ : LI)]
  refine ⟨H, L ++ [(⟨none, 0, 0, false⟩ : LI)], h1.trans ?_, h2.mono (HLe.refl _) hll⟩
  have hs := h1.st
  refine ⟨⟨hs.pers, by simp [hs.len], fun i l o hL hσ => ?_, fun i j x y b hi hj hx hy => ?_, fun i x b hi hx => ?_⟩, Step.refl _ _ _, hll, fun b ⟨i, x, hi, hx⟩ => ?_⟩
  · rcases get_snoc hL with hL' | ⟨rfl, rfl⟩
    · have hi : i < L.length := (List.getElem?_eq_some_iff.1 hL').1
      rw [List.getElem?_append_left (by rw [← hs.len]; exact hi)] at hσ
      exact (hs.obj i l o hL' hσ).carry (fun _ _ => rfl) (HLe.refl _) hll (fun _ _ _ => rfl)
    · rw [hs.len] at hσ
      rw [List.getElem?_append_right (Nat.le_refl _)] at hσ
      simp only [Nat.sub_self, List.getElem?_cons_zero, Option.some.injEq] at hσ
      subst hσ
      exact ⟨rfl, rfl⟩
  · rcases get_snoc hi with hi' | ⟨rfl, rfl⟩
    · rcases get_snoc hj with hj' | ⟨rfl, rfl⟩
      · exact hs.inj i j x y b hi' hj' hx hy
      · cases hy
    · cases hx
  · rcases get_snoc hi with hi' | ⟨rfl, rfl⟩
    · exact hs.lt i x b hi' hx
    · cases hx
  · rcases get_snoc hi with hi' | ⟨rfl, rfl⟩
    · exact .inl ⟨i, x, hi', hx⟩
    · cases hx
theorem weak_rsvs {env : Env} : ∀ (n : Nat) {σ : St}, Weak n0 env (σ ++ List.replicate n AObj.rsv) env σ
  | 0, σ => by simpa using Weak.refl n0 env σ
  | n + 1, σ => by
    have := (weak_rsv (n0 := n0) (env := env) (σ := σ)).trans (weak_rsvs n)
    rw [List.replicate_succ]
    simpa using this
theorem frzS_sound {l l' : List (Nat × A)} {σ σ' : St} (h : frzS n0 l σ = some (l', σ')) : Weak n0 (mkEnv l') σ' (mkEnv l) σ := by
  simp only [frzS] at h
  generalize noRows n0 σ 0 σ = ks at h
  cases hb : nodupB ks && firstB n0 ks
  · rw [hb] at h; cases h
  · rw [hb] at h
    simp only [Bool.and_eq_true] at hb
    simp only [cond_true] at h
    split at h <;> try (cases h; done)
    rename_i σ1 h1
    cases h
    refine Weak.sel ks 8 _ (firstB_sound hb.2) (nodupB_sound hb.1) (selB_sound h1) fun p hp => ?_
    obtain ⟨t, _, rfl⟩ := List.mem_map.1 hp
    left
    simp only [lkB_eq]
theorem evK_sound {C : Run} (hC : CallsOk P C) {C0 : Cl0} (hC0 : Calls0Ok P C0) {lf : Nat} : ∀ (k : K) {l l' : List (Nat × A)} {σ σ' : St} {x : Ex} {Q : Ex → Env → St → Prop}, evK C C0 n0 lf k l σ = some (x, l', σ') → Q x (mkEnv l') σ' → wpK P n0 k Q (mkEnv l) σ
  | .skip, l, l', σ, σ', x, Q, h, hQ => by cases h; exact hQ
  | .seq a b, l, l', σ, σ', x, Q, h, hQ => by
    simp only [evK] at h
    simp only [wpK]
    split at h
    · rename_i l1 σ1 h1
      exact evK_sound hC hC0 a h1 (evK_sound hC hC0 b h hQ)
    · rename_i r hr
      refine evK_sound hC hC0 a h ?_
      cases x <;> first | exact (hr _ _ h).elim | exact hQ
  | .cond c a b, l, l', σ, σ', x, Q, h, hQ => by
    simp only [evK, lkB_eq] at h
    simp only [wpK]
    split at h <;> try (cases h; done)
    rename_i t ht
    rw [ht]
    simp only
    cases t
    · exact ⟨fun e => (by cases e), fun _ => evK_sound hC hC0 b h hQ⟩
    · exact ⟨fun _ => evK_sound hC hC0 a h hQ, fun e => (by cases e)⟩
  | .block id b, l, l', σ, σ', x, Q, h, hQ => by
    simp only [evK] at h
    simp only [wpK]
    split at h
    · rename_i i l1 σ1 h1
      refine evK_sound hC hC0 b h1 ?_
      simp only [blk]
      cases hb : Nat.beq i id
      · rw [hb] at h
        cases h
        have : i ≠ id := fun e => by subst e; simp at hb
        rw [if_neg this]
        exact hQ
      · rw [hb] at h
        cases h
        rw [if_pos (Nat.eq_of_beq_eq_true hb)]
        exact hQ
    · rename_i r hr
      refine evK_sound hC hC0 b h ?_
      cases x <;> first | exact (hr _ _ _ h).elim | exact hQ
  | .loop b, l, l', σ, σ', x, Q, h, hQ => by
    simp only [evK] at h
    simp only [wpK]
    refine ⟨fun n env τ => ∃ l0, env = mkEnv l0 ∧ iterL (evK C C0 n0 lf b) n l0 τ = some (x, l', σ'), ⟨lf, Wk.here ⟨l, rfl, h⟩⟩, ?_⟩
    rintro n env τ ⟨l0, rfl, h0⟩
    cases n with
    | zero => cases h0
    | succ n =>
      simp only [iterL] at h0
      split at h0
      · rename_i l1 σ1 h1
        refine evK_sound hC hC0 b h1 ?_
        exact ⟨n, Nat.lt_succ_self n, Wk.here ⟨l1, rfl, h0⟩⟩
      · rename_i r hr
        refine evK_sound hC hC0 b h0 ?_
        cases x <;> first | exact (hr _ _ h0).elim | exact hQ
  | .exit id, l, l', σ, σ', x, Q, h, hQ => by cases h; exact hQ
  | .ret, l, l', σ, σ', x, Q, h, hQ => by cases h; exact hQ
  | .ops gs, l, l', σ, σ', x, Q, h, hQ => by
    simp only [evK] at h
    simp only [wpK]
    split at h <;> try (cases h; done)
    rename_i l1 σ1 h1
    cases h
    exact evOps_sound hC h1 hQ
  | .dops gs, l, l', σ, σ', x, Q, h, hQ => by
    simp only [evK] at h
    simp only [wpK]
    split at h <;> try (cases h; done)
    rename_i l1 σ1 h1
    cases h
    exact evDs_sound hC hC0 h1 hQ
  | .rng .., l, l', σ, σ', x, Q, h, hQ => by simp [evK] at h
  | .wk b, l, l', σ, σ', x, Q, h, hQ => by
    simp only [evK] at h
    simp only [wpK]
    cases hb : isWk b
    · rw [hb] at h
      exact Wk.by (weak_rsvs _) (Wk.here (evK_sound hC hC0 b h hQ))
    · rw [hb] at h
      simp only [cond_true] at h
      split at h <;> try (cases h; done)
      rename_i l1 σ1 h1
      exact Wk.by (frzS_sound h1) (Wk.here (evK_sound hC hC0 b h hQ))
structure Entry where
  k : K
  rs : List RS
  frz : Bool
def argsL : Nat → List A → List (Nat × A)
  | _, [] => []
  | i, a :: xs => (i, a) :: argsL (i + 1) xs
theorem argsL_get : ∀ {xs : List A} {i t : Nat}, mkEnv (argsL i xs) t = .any ∨ (i ≤ t ∧ xs[t - i]? = some (mkEnv (argsL i xs) t))
  | [], i, t => .inl rfl
  | a :: xs, i, t => by
    simp only [argsL, mkEnv]
    split
    · rename_i h; subst h; exact .inr ⟨Nat.le_refl _, by simp⟩
    · rcases argsL_get (xs := xs) (i := i + 1) (t := t) with h | ⟨h1, h2⟩
      · exact .inl h
      · refine .inr ⟨by omega, ?_⟩
        have : t - i = (t - (i + 1)) + 1 := by omega
        rw [this]
        simpa using h2
def isRet : Ex → Bool
  | .ret | .norm => true
  | _ => false
def leave (frz : Bool) (n0 : Nat) (r : A) (σ : St) : Option (A × St) :=
  let k0 := List.range n0
  let k1 := reachN (fun _ _ => true) σ 1000 (lvO (.box ((σ.take n0).map fun o => .agg ((lvO o).map fun l => .map l)))) k0
  let ks := reachN (fun _ o => bif frz then (match o with | .row .. => false | _ => true) else true) σ 1000 (lvA r) k1
  bif nodupB ks && firstB n0 ks then (match selB σ (seen σ (posOf ks) 8) (posOf ks) ks with
    | some σ1 => some (vw (seen σ (posOf ks) 8) (posOf ks) r, σ1)
    | none => none) else none
theorem leave_sound {frz : Bool} {r r1 : A} {σ σ1 : St} (h : leave frz n0 r σ = some (r1, σ1)) : RetQ n0 r1 σ1 (.ret r) σ := by
  simp only [leave] at h
  generalize reachN _ σ 1000 (lvA r) _ = ks at h
  cases hb : nodupB ks && firstB n0 ks
  · rw [hb] at h; cases h
  · rw [hb] at h
    simp only [Bool.and_eq_true] at hb
    simp only [cond_true] at h
    split at h <;> try (cases h; done)
    rename_i σ2 h1
    cases h
    exact ⟨r, ks, 8, rfl, firstB_sound hb.2, nodupB_sound hb.1, selB_sound h1, .inl rfl⟩
def findE (f : Nat) : List (Nat × Entry) → Option Entry
  | [] => none
  | p :: l => bif Nat.beq f p.1 then some p.2 else findE f l
def runF (T : List (Nat × Entry)) (orc : Run) (lf : Nat) : Nat → Run
  | 0 => fun _ _ _ => none
  | n + 1 => fun f xs σ => match findE f T with
    | none => orc f xs σ
    | some e => match evK (callG (runF T orc lf n)) (callZ (runF T orc lf n), callH (runF T orc lf n)) σ.length lf e.k (argsL 0 xs) σ with
      | some (x, l, σ') => bif isRet x then (match resA (lkB l) σ' e.rs with
        | some r => leave e.frz σ.length r σ'
        | none => none) else none
      | none => none
def EntryOk (P : Program) (f : FuncId) (e : Entry) : Prop :=
  callable P f = true ∧ ∃ fn c hint, P.funcs[f]? = some fn ∧ fn.body = some c ∧ compileH P fn.ntmps hint c = some e.k.erase ∧ slotsOf P fn.results.toList = some e.rs
theorem callA_of_wpE {hint : Nat → Option (List (Nat × Nat))} {f : FuncId} {fn : Func} {c : Code} {k : K} {rs : List RS} (hf : P.funcs[f]? = some fn) (hb : fn.body = some c) (hc : compileH P fn.ntmps hint c = some k.erase) (hr : slotsOf P fn.results.toList = some rs)
    {args : List A} {σ : St} {Q : Out → St → Prop} (h : wpK P σ.length k (fin rs Q) (mkEnv (argsL 0 args)) σ) : CallA P f args σ Q := by
  refine callA_of_wpH (k := .wk k) hf hb hc hr ?_
  unfold wpF
  simp only [wpK]
  refine Wk.by (env' := mkEnv (argsL 0 args)) (σ' := σ) ?_ (Wk.here h)
  intro H0 L0 w0 H L w N tmps _ h1 h2
  refine ⟨H, L, h1, h2.1, fun t => ?_⟩
  rcases argsL_get (xs := args) (i := 0) (t := t) with e | ⟨_, e⟩
  · rw [e]; simp [Rel]
  · have := h2.2 t
    simp only [argsEnv, List.getD] at this
    rw [Nat.sub_zero] at e
    rw [e] at this
    exact this
theorem runF_ok {T : List (Nat × Entry)} {orc : Run} {lf : Nat} (hT : ∀ f e, findE f T = some e → EntryOk P f e) (hO : CallsOk P orc) : ∀ n, CallsOk P (runF T orc lf n)
  | 0 => fun f xs σ r σ' h => (by cases h)
  | n + 1 => fun f xs σ r σ' h => by
    have ih := runF_ok (lf := lf) hT hO n
    simp only [runF] at h
    split at h
    · exact hO _ _ _ _ _ h
    · rename_i e he
      obtain ⟨hcal, fn, c, hint, h1, h2, h3, h4⟩ := hT _ _ he
      refine ⟨hcal, ?_⟩
      split at h <;> try (cases h; done)
      rename_i x l σ1 h5
      cases hx : isRet x
      · rw [hx] at h; cases h
      · rw [hx] at h
        simp only [cond_true] at h
        split at h <;> try (cases h; done)
        rename_i r0 h6
        refine ret_of_sel (callA_of_wpE h1 h2 h3 h4 (evK_sound (callG_ok ih) (callZ_ok ih) e.k h5 ?_))
        have hq := leave_sound h
        rw [lkB_eq] at h6
        cases x <;> first | (cases hx; done) | (simp only [fin, retP, h6]; exact hq)
end
end Go.Abs
namespace Go.Proofs.YthglhccibdlccaaGreatDoor
open Go.Abs
theorem lessD_iff {x y : Id} : lessD x y = true ↔ x.a < y.a ∨ (x.a = y.a ∧ (x.b < y.b ∨ (x.b = y.b ∧ x.c < y.c))) := by
  unfold lessD
  split
  · simp only [decide_eq_true_eq]; omega
  · split
    · simp only [decide_eq_true_eq]; omega
    · simp only [decide_eq_true_eq]; omega
theorem lessD_not {x y : Id} : lessD x y = false ↔ ¬ (x.a < y.a ∨ (x.a = y.a ∧ (x.b < y.b ∨ (x.b = y.b ∧ x.c < y.c)))) := by
  rw [← lessD_iff]; simp
theorem lessD_irrefl (x : Id) : lessD x x = false := by rw [lessD_not]; omega
theorem lessD_trans {x y z : Id} (h : lessD x y = true) (k : lessD y z = true) : lessD x z = true := by rw [lessD_iff] at *; omega
theorem lessD_anti {x y : Id} (h : lessD x y = false) (k : lessD y x = false) : x = y := by
  rw [lessD_not] at *
  rw [Id.eq_iff]; omega
theorem lessD_asym {x y : Id} (h : lessD x y = true) : lessD y x = false := by rw [lessD_iff] at h; rw [lessD_not]; omega
theorem cmpD_neg {x y : Id} : cmpD x y < 0 ↔ lessD x y = true := by
  rw [lessD_iff]
  simp only [cmpD, orI, cmpI]
  repeat' split
  all_goals omega
theorem lin_cmpD : Ord cmpD where
  irrefl x := by rw [cmpD_neg, lessD_irrefl]; simp
  trans x y z h k := by rw [cmpD_neg] at *; exact lessD_trans h k
  ntrans x y z h k := by
    rw [cmpD_neg, Bool.not_eq_true] at *
    rw [lessD_not] at *; omega
  anti x y h k := by
    rw [cmpD_neg, Bool.not_eq_true] at *
    exact lessD_anti h k
def SS (l : List Id) : Prop := l.Pairwise fun x y => lessD x y = true
theorem insD_mem {x y : Id} : ∀ {l : List Id}, y ∈ insD l x ↔ y ∈ l ∨ y = x
  | [] => by simp [insD]
  | z :: l => by
    simp only [insD]
    split
    · simp only [List.mem_cons, insD_mem (l := l), or_assoc]
    · split
      · rename_i h; subst h
        simp only [List.mem_cons]
        constructor
        · exact fun h => .inl h
        · rintro (h | h)
          · exact h
          · exact .inl h
      · simp only [List.mem_cons]
        constructor
        · rintro (h | h)
          · exact .inr h
          · exact .inl h
        · rintro (h | h)
          · exact .inr h
          · exact .inl h
theorem insD_ss {x : Id} : ∀ {l : List Id}, SS l → SS (insD l x)
  | [], _ => by simp [insD, SS]
  | z :: l, h => by
    have h' := List.pairwise_cons.1 h
    simp only [insD]
    split
    · rename_i hz
      refine List.pairwise_cons.2 ⟨fun y hy => ?_, insD_ss h'.2⟩
      rcases insD_mem.1 hy with hy | rfl
      · exact h'.1 y hy
      · exact hz
    · rename_i hz
      split
      · exact h
      · rename_i hne
        have hxz : lessD x z = true := by
          cases hh : lessD x z with
          | true => rfl
          | false => exact (hne (lessD_anti (by simpa using hz) hh)).elim
        refine List.pairwise_cons.2 ⟨fun y hy => ?_, h⟩
        rcases List.mem_cons.1 hy with rfl | hy
        · exact hxz
        · exact lessD_trans hxz (h'.1 y hy)
theorem foldD_ss : ∀ {l acc : List Id}, SS acc → SS (l.foldl insD acc)
  | [], _, h => h
  | _ :: l, _, h => foldD_ss (l := l) (insD_ss h)
theorem foldD_mem {y : Id} : ∀ {l acc : List Id}, y ∈ l.foldl insD acc ↔ y ∈ acc ∨ y ∈ l
  | [], _ => by simp
  | x :: l, acc => by
    simp only [List.foldl_cons, foldD_mem (l := l), insD_mem, List.mem_cons, or_assoc]
theorem SS.unique : ∀ {l l' : List Id}, SS l → SS l' → (∀ x, x ∈ l ↔ x ∈ l') → l = l'
  | [], [], _, _, _ => rfl
  | [], y :: l', _, _, h => by have := (h y).2 (List.mem_cons_self ..); simp at this
  | x :: l, [], _, _, h => by have := (h x).1 (List.mem_cons_self ..); simp at this
  | x :: l, y :: l', h1, h2, h => by
    have p1 := List.pairwise_cons.1 h1
    have p2 := List.pairwise_cons.1 h2
    have hxy : x = y := by
      rcases List.mem_cons.1 ((h x).1 (List.mem_cons_self ..)) with e | e
      · exact e
      · rcases List.mem_cons.1 ((h y).2 (List.mem_cons_self ..)) with e' | e'
        · exact e'.symm
        · have a := p2.1 x e
          have b := p1.1 y e'
          rw [lessD_asym b] at a; cases a
    subst hxy
    congr 1
    refine SS.unique p1.2 p2.2 fun z => ?_
    constructor
    · intro hz
      rcases List.mem_cons.1 ((h z).1 (List.mem_cons_of_mem _ hz)) with e | e
      · have := p1.1 z hz; subst e; rw [lessD_irrefl] at this; cases this
      · exact e
    · intro hz
      rcases List.mem_cons.1 ((h z).2 (List.mem_cons_of_mem _ hz)) with e | e
      · have := p2.1 z hz; subst e; rw [lessD_irrefl] at this; cases this
      · exact e
theorem snocRec {α : Type} {motive : List α → Prop} (nil : motive []) (snoc : ∀ l y, motive l → motive (l ++ [y])) (l : List α) : motive l := by
  have h : ∀ r : List α, motive r.reverse := fun r => by
    induction r with
    | nil => exact nil
    | cons a r ih => rw [List.reverse_cons]; exact snoc _ _ ih
  have := h l.reverse
  rwa [List.reverse_reverse] at this
def stepC (acc : List Id) (y : Id) : List Id := if acc.getLast? = some y then acc else acc ++ [y]
def compD (l : List Id) : List Id := l.foldl stepC []
theorem compD_snoc (l : List Id) (y : Id) : compD (l ++ [y]) = stepC (compD l) y := by simp [compD, List.foldl_append]
theorem compD_last : ∀ (l : List Id), (compD l).getLast? = l.getLast? := by
  intro l
  induction l using snocRec with
  | nil => rfl
  | snoc l y ih =>
    rw [compD_snoc, stepC]
    split
    · rename_i h; rw [h]; simp
    · simp
theorem compD_mem {x : Id} (l : List Id) : x ∈ compD l ↔ x ∈ l := by
  induction l using snocRec with
  | nil => simp [compD]
  | snoc l y ih =>
    rw [compD_snoc, stepC]
    split
    · rename_i h
      have hy : y ∈ compD l := List.mem_of_getLast? h
      simp only [ih, List.mem_append, List.mem_singleton]
      constructor
      · exact .inl
      · rintro (h | rfl)
        · exact h
        · exact ih.1 hy |> fun h => h
    · simp [ih]
theorem compD_ss (l : List Id) (h : l.Pairwise fun x y => lessD y x = false) : SS (compD l) := by
  induction l using snocRec with
  | nil => simp [compD, SS]
  | snoc l y ih =>
    rw [List.pairwise_append] at h
    have hi := ih h.1
    rw [compD_snoc, stepC]
    split
    · exact hi
    · rename_i hne
      unfold SS
      rw [List.pairwise_append]
      refine ⟨hi, by simp, fun z hz y' hy' => ?_⟩
      simp only [List.mem_singleton] at hy'
      subst hy'
      have hzl := (compD_mem l).1 hz
      have h1 := h.2.2 z hzl y' (by simp)
      cases hh : lessD z y' with
      | true => rfl
      | false =>
        exfalso
        have e := lessD_anti hh h1
        subst e
        -- the last element is z
        rw [compD_last] at hne
        have hl : l ≠ [] := fun e => by rw [e] at hzl; simp at hzl
        obtain ⟨w, hw⟩ : ∃ w, l.getLast? = some w := ⟨_, List.getLast?_eq_some_getLast hl⟩
        have hwl : w ∈ l := List.mem_of_getLast? hw
        have h2 := h.2.2 w hwl z (by simp)
        have hwz : w = z ∨ lessD w z = false := by
          obtain ⟨l', rfl⟩ : ∃ l', l = l' ++ [w] := List.getLast?_eq_some_iff.1 hw
          rcases List.mem_append.1 hzl with hz' | hz'
          · have := h.1
            rw [List.pairwise_append] at this
            exact .inr (this.2.2 z hz' w (by simp))
          · exact .inl (List.mem_singleton.1 hz').symm
        have : w = z := by
          rcases hwz with e | e
          · exact e
          · exact lessD_anti e h2
        subst this
        exact hne hw
def setD (l : List Id) : List Id := compD (sortL cmpD l)
theorem sortD_perm (l : List Id) : (sortL cmpD l).Perm l := List.mergeSort_perm l _
theorem sortD_sorted (l : List Id) : (sortL cmpD l).Pairwise fun x y => lessD y x = false := by
  have h := List.pairwise_mergeSort (le := fun x y => !decide (cmpD y x < 0)) (fun a b c h1 h2 => by simp only [Bool.not_eq_true', decide_eq_false_iff_not] at *; exact lin_cmpD.ntrans c b a h2 h1)
    (fun a b => by
      simp only [Bool.or_eq_true, Bool.not_eq_true', decide_eq_false_iff_not]
      by_cases h : cmpD b a < 0
      · exact .inr fun h' => lin_cmpD.irrefl _ (lin_cmpD.trans _ _ _ h h')
      · exact .inl h) l
  exact h.imp fun h => by
    simp only [Bool.not_eq_true', decide_eq_false_iff_not, cmpD_neg, Bool.not_eq_true] at h
    exact h
theorem setD_mem {l : List Id} {x : Id} : x ∈ setD l ↔ x ∈ l := by rw [setD, compD_mem, (sortD_perm l).mem_iff]
theorem setD_ss (l : List Id) : SS (setD l) := compD_ss _ (sortD_sorted l)
theorem setD_eq (l : List Id) : setD l = l.foldl insD [] :=
  SS.unique (setD_ss l) (foldD_ss (by simp [SS])) fun x => by rw [setD_mem, foldD_mem]; simp
end Go.Proofs.YthglhccibdlccaaGreatDoor
