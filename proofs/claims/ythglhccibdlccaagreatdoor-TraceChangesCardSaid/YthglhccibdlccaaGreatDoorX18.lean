/-
  States that begin with a caller's, of a length that is not written out; calls of a yield; rows that are frozen; growing calls in regions that draw.
  IDs: how they are compared, and lists of them.
-/
import Derived.Test.YthglhccibdlccaaGreatDoorX17
import Derived.Test.YthglhccibdlccaaGreatDoorRows
import Derived.IntWalk
set_option linter.unusedVariables false
set_option linter.unusedSimpArgs false
namespace Go.Abs
attribute [simp] A.bnd bndL AObj.bnd bndL_append
@[simp] theorem bnd_yv {b k : Nat} : (yv b).bnd k = true := rfl
section
variable {P : Program} {Qp : Value → Env → St → Prop} {K' : Env → St → Prop} {env : Env} {σ : St} {d : Option Nat} {x : Operand}
def litI : A → Option Int
  | .lit (.int _ j) => some j
  | _ => none
@[simp] theorem litI_int {k : IntKind} {j : Int} : litI (.lit (.int k j)) = some j := rfl
@[simp] theorem boundA_none {n : Nat} : boundA env n none = some (n : Int) := rfl
@[simp] theorem boundA_some {n : Nat} : boundA env n (some x) = litI (ev env x) := by
  simp only [boundA, litI]
  cases ev env x with
  | lit u => cases u <;> rfl
  | _ => rfl
def bothP (a b : Option Int) (J : Int → Int → Prop) : Prop := match a, b with
  | some l, some h => J l h
  | _, _ => False
@[simp] theorem bothP_some {l h : Int} {J : Int → Int → Prop} : bothP (some l) (some h) J = J l h := rfl
def slcP (a : A) (lo : Option Int) (hi : Nat → Option Int) (sz : Nat) (J : A → Prop) : Prop := match a with
  | .sl n cs => bothP lo (hi n) fun l h => (0 ≤ l ∧ l ≤ h ∧ h ≤ n) ∧ J (.sl (h - l).toNat ((cs.drop (l.toNat * sz)).take ((h - l).toNat * sz)))
  | .fsl n cs => bothP lo (hi n) fun l h => (0 ≤ l ∧ l ≤ h ∧ h ≤ n) ∧ J (.sl (h - l).toNat ((cs.drop (l.toNat * sz)).take ((h - l).toNat * sz)))
  | .nil => bothP lo (hi 0) fun l h => (l = 0 ∧ h = 0) ∧ J .nil
  | _ => False
@[simp] theorem slcP_sl {n : Nat} {cs : List A} {lo : Option Int} {hi : Nat → Option Int} {sz : Nat} {J : A → Prop} : slcP (.sl n cs) lo hi sz J = bothP lo (hi n) fun l h => (0 ≤ l ∧ l ≤ h ∧ h ≤ n) ∧ J (.sl (h - l).toNat ((cs.drop (l.toNat * sz)).take ((h - l).toNat * sz))) := rfl
@[simp] theorem slcP_fsl {n : Nat} {cs : List A} {lo : Option Int} {hi : Nat → Option Int} {sz : Nat} {J : A → Prop} : slcP (.fsl n cs) lo hi sz J = bothP lo (hi n) fun l h => (0 ≤ l ∧ l ≤ h ∧ h ≤ n) ∧ J (.sl (h - l).toNat ((cs.drop (l.toNat * sz)).take ((h - l).toNat * sz))) := rfl
@[simp] theorem slcP_nil {lo : Option Int} {hi : Nat → Option Int} {sz : Nat} {J : A → Prop} : slcP .nil lo hi sz J = bothP lo (hi 0) fun l h => (l = 0 ∧ h = 0) ∧ J .nil := rfl
@[simp] theorem wpO_slc {sz : Nat} {lo hi : Option Operand} : wpO P Qp K' (.slc d x sz lo hi none) env σ = slcP (ev env x) (boundA env 0 lo) (fun n => boundA env n hi) sz fun r => K' (env.put d r) σ := by
  show pureP (pureO env σ (.slc d x sz lo hi none)) _ = _
  simp only [pureO, slcP]
  generalize ev env x = a
  cases a <;> try rfl
  all_goals
    simp only [bothP]
    generalize boundA env _ lo = u
    generalize boundA env _ hi = v
    cases u <;> cases v <;> rfl
def rowLn (o : Option AObj) (n sz : Nat) (J : Prop) : Prop := match o with
  | some (.row _ _ s m _) => if n = m ∧ s = sz then J else False
  | _ => False
@[simp] theorem rowLn_some {fz : Bool} {e s n m sz : Nat} {cs : List A} {J : Prop} : rowLn (some (.row fz e s m cs)) n sz J = ((n = m ∧ s = sz) ∧ J) := by
  simp only [rowLn]
  by_cases h : n = m ∧ s = sz <;> simp [h]
def rslcP (σ : St) (a : A) (lo : Option Int) (hi : Nat → Option Int) (sz : Nat) (J : A → Prop) : Prop := match a with
  | .row l n => rowLn σ[l]? n sz (bothP lo (hi n) fun l' h => (0 ≤ l' ∧ l' ≤ h ∧ h ≤ n) ∧ J (.win l n (l'.toNat * sz) (h - l').toNat ((h - l').toNat * sz)))
  | .win l n o k _ => rowLn σ[l]? n sz (bothP lo (hi k) fun l' h => (0 ≤ l' ∧ l' ≤ h ∧ h ≤ k) ∧ J (.win l n (o + l'.toNat * sz) (h - l').toNat ((h - l').toNat * sz)))
  | _ => False
@[simp] theorem rslcP_row {l n : Nat} {lo : Option Int} {hi : Nat → Option Int} {sz : Nat} {J : A → Prop} : rslcP σ (.row l n) lo hi sz J = rowLn σ[l]? n sz (bothP lo (hi n) fun l' h => (0 ≤ l' ∧ l' ≤ h ∧ h ≤ n) ∧ J (.win l n (l'.toNat * sz) (h - l').toNat ((h - l').toNat * sz))) := rfl
@[simp] theorem rslcP_win {l n o k c : Nat} {lo : Option Int} {hi : Nat → Option Int} {sz : Nat} {J : A → Prop} : rslcP σ (.win l n o k c) lo hi sz J = rowLn σ[l]? n sz (bothP lo (hi k) fun l' h => (0 ≤ l' ∧ l' ≤ h ∧ h ≤ k) ∧ J (.win l n (o + l'.toNat * sz) (h - l').toNat ((h - l').toNat * sz))) := rfl
theorem rslc_pure {sz : Nat} {lo hi : Option Operand} {J : A → Prop} : pureP (pureO env σ (.rslc d x sz lo hi)) J = rslcP σ (ev env x) (boundA env 0 lo) (fun n => boundA env n hi) sz J := by
  simp only [pureO, rslcP]
  generalize ev env x = a
  have key : ∀ (ob : Option AObj) (n k : Nat) (f : Int → Int → Prop × A), pureP (match ob with
      | some (.row _ _ s m _) => if n = m ∧ s = sz then (match boundA env 0 lo, boundA env k hi with
        | some l', some h => some (f l' h)
        | _, _ => none) else none
      | _ => none) J = rowLn ob n sz (bothP (boundA env 0 lo) (boundA env k hi) fun l' h => (f l' h).1 ∧ J (f l' h).2) := by
    intro ob n k f
    simp only [rowLn, bothP]
    cases ob with
    | none => rfl
    | some ob =>
      cases ob <;> try rfl
      simp only
      split
      · generalize boundA env 0 lo = u
        generalize boundA env k hi = v
        cases u <;> cases v <;> rfl
      · rfl
  cases a <;> try rfl
  · rename_i l n
    exact key σ[l]? n n fun l' h => (0 ≤ l' ∧ l' ≤ h ∧ h ≤ n, .win l n (l'.toNat * sz) (h - l').toNat ((h - l').toNat * sz))
  · rename_i l n o k c
    exact key σ[l]? n k fun l' h => (0 ≤ l' ∧ l' ≤ h ∧ h ≤ k, .win l n (o + l'.toNat * sz) (h - l').toNat ((h - l').toNat * sz))
@[simp] theorem wpO_rslc {sz : Nat} {lo hi : Option Operand} : wpO P Qp K' (.rslc d x sz lo hi) env σ = rslcP σ (ev env x) (boundA env 0 lo) (fun n => boundA env n hi) sz fun r => K' (env.put d r) σ := rslc_pure (d := d)
@[simp] theorem wpDop_rslc {fl sz : Nat} {lo hi : Option Operand} : wpDop P fl K' (.rslc d x sz lo hi) env σ = rslcP (seeF fl σ) (ev env x) (boundA env 0 lo) (fun n => boundA env n hi) sz fun r => K' (env.put d r) σ := rslc_pure (d := d)
@[simp] theorem idxP_row {sz l n : Nat} {k : IntKind} {j : Int} {J : A → Prop} : idxP σ sz (.row l n) (.lit (.int k j)) J = rowLn σ[l]? n sz ((0 ≤ j ∧ j < n) ∧ J (.rwp l n (j.toNat * sz))) := by
  simp only [idxP, rowLn]
  cases σ[l]? with
  | none => rfl
  | some o => cases o <;> rfl
@[simp] theorem idxP_win {sz l n o k' c : Nat} {k : IntKind} {j : Int} {J : A → Prop} : idxP σ sz (.win l n o k' c) (.lit (.int k j)) J = rowLn σ[l]? n sz ((0 ≤ j ∧ j < k') ∧ J (.rwp l n (o + j.toNat * sz))) := by
  simp only [idxP, rowLn]
  cases σ[l]? with
  | none => rfl
  | some o => cases o <;> rfl
def rowLe (o : Option AObj) (n : Nat) (J : Prop) : Prop := match o with
  | some (.row _ _ _ m _) => if n = m then J else False
  | _ => False
@[simp] theorem rowLe_some {fz : Bool} {e s n m : Nat} {cs : List A} {J : Prop} : rowLe (some (.row fz e s m cs)) n J = (n = m ∧ J) := by
  simp only [rowLe]
  by_cases h : n = m <;> simp [h]
@[simp] theorem lenP_row {l n : Nat} {J : A → Prop} : lenP σ (.row l n) J = rowLe σ[l]? n (J (.lit (.int .i64 n))) := by
  simp only [lenP, rowLe]
  cases σ[l]? with
  | none => rfl
  | some o => cases o <;> rfl
@[simp] theorem lenP_win {l n o k c : Nat} {J : A → Prop} : lenP σ (.win l n o k c) J = rowLe σ[l]? n (J (.lit (.int .i64 k))) := by
  simp only [lenP, rowLe]
  cases σ[l]? with
  | none => rfl
  | some o => cases o <;> rfl
@[simp] theorem lenD_win {l n o k c : Nat} {J : A → Prop} : lenD σ (.win l n o k c) J = rowLe σ[l]? n (J (.lit (.int .i64 k))) := by
  simp only [lenD, rowLe]
  cases σ[l]? with
  | none => rfl
  | some o => cases o <;> rfl
def adRow (ob : Option AObj) (l n o off : Nat) : Option A := match ob with
  | some (.row _ _ _ m _) => if n = m then some (.rwp l n (o + off)) else none
  | _ => none
@[simp] theorem adRow_some {fz : Bool} {e s n m l o off : Nat} {cs : List A} : adRow (some (.row fz e s m cs)) l n o off = if n = m then some (.rwp l n (o + off)) else none := rfl
@[simp] theorem addrA_rwp {l n o off : Nat} : addrA σ off (.rwp l n o) = adRow σ[l]? l n o off := by
  simp only [addrA, adRow]
  cases σ[l]? with
  | none => rfl
  | some o => cases o <;> rfl
end
mutual
theorem vw_bnd {rf : Bool → Nat → Nat → A} {g : Nat → Option Nat} {k : Nat} (hg : ∀ l, l < k → g l = some l) : ∀ (a : A), a.bnd k = true → vw rf g a = a
  | .any, _ => by simp
  | .nil, _ => by simp
  | .lit _, _ => by simp
  | .agg cs, h => by simp [vwL_bnd hg cs h]
  | .tup cs, h => by simp [vwL_bnd hg cs h]
  | .sl _ cs, h => by simp [vwL_bnd hg cs h]
  | .fsl _ cs, h => by simp [vwL_bnd hg cs h]
  | .rptr cs, h => by simp [vwL_bnd hg cs h]
  | .ptr l _, h => by simp [hg l (by simpa using h)]
  | .row l _, h => by simp [hg l (by simpa using h)]
  | .rwp l _ _, h => by simp [hg l (by simpa using h)]
  | .win l _ _ _ _, h => by simp [hg l (by simpa [A.bnd] using h)]
  | .map l, h => by simp only [vw]; rw [hg l (by simpa using h)]
  | .clo _ fs cs, h => by
    simp only [A.bnd, Bool.and_eq_true] at h
    simp [vwL_bnd hg fs h.1, vwL_bnd hg cs h.2]
theorem vwL_bnd {rf : Bool → Nat → Nat → A} {g : Nat → Option Nat} {k : Nat} (hg : ∀ l, l < k → g l = some l) : ∀ (cs : List A), bndL k cs = true → vwL rf g cs = cs
  | [], _ => by simp
  | c :: cs, h => by
    simp only [bndL, Bool.and_eq_true] at h
    simp [vw_bnd hg c h.1, vwL_bnd hg cs h.2]
end
def Cl (m : Nat) (S : St) : Prop := S.length = m ∧ ∀ o ∈ S, o.bnd m = true
theorem Cl.app {m k : Nat} {S own : St} (h : Cl m S) (hk : own.length = k) (ho : ∀ o ∈ own, o.bnd (m + k) = true) : Cl (m + k) (S ++ own) := by
  refine ⟨by simp [h.1, hk], fun o hm => ?_⟩
  rcases List.mem_append.1 hm with hm | hm
  · exact AObj.bnd_mono (Nat.le_add_right m k) _ (h.2 o hm)
  · exact ho o hm
section
variable {P : Program} {n0 : Nat} {Qp : Value → Env → St → Prop} {K' : Env → St → Prop} {KD : Env → Prop} {Q : Ex → Env → St → Prop} {env : Env} {σ : St} {d : Option Nat}
theorem nxt_frz {H : Mem} {L : List LI} {w : World} (hs : RelSt H L σ w) {l n : Nat} {e : TypeId} {sz : Nat} {cs : List A} {v : Value} (hσ : σ[l]? = some (.row false e sz n cs)) (hv : Rel H L (.row l n) v) :
    ∃ H', Nxt H L w H' L (σ.set l (.row true e sz n cs)) w ∧ Rel H' L (.sl n cs) v := by
  simp only [Rel] at hv
  obtain ⟨_, li, e1, e2, e3, hv⟩ := hv
  have hob := hs.obj l li _ e1 hσ
  simp only [RelObj] at hob
  obtain ⟨_, hln, hcl, hob⟩ := hob
  have hv := hv hln.symm
  rcases hob with ⟨hb, h0⟩ | ⟨b, cur, hb, hh, k1, k2, k3, k4, k5, k6⟩
  · rw [hb] at hv
    subst h0
    have hcs : cs = [] := List.eq_nil_of_length_eq_zero (by simpa using hcl)
    refine ⟨H, ⟨⟨hs.pers, by simp [hs.len], fun i x o hL ho => ?_, hs.inj, hs.lt⟩, Step.refl _ _ _, LLe.refl _, fun _ h => .inl h⟩, ?_⟩
    · by_cases hi : i = l
      · subst hi
        rw [e1] at hL
        cases hL
        rw [List.getElem?_set_self (List.getElem?_eq_some_iff.1 hσ).1] at ho
        cases ho
        simp only [RelObj]
        exact ⟨e2, hln, hcl, .inl ⟨hb, trivial⟩⟩
      · rw [List.getElem?_set_ne (Ne.symm hi)] at ho
        exact hs.obj i x o hL ho
    · simp only [Rel]
      exact ⟨none, 0, hv, Nat.le_refl _, Nat.zero_le _, .inl ⟨trivial, hcs⟩⟩
  · rw [hb] at hv
    have hcell : ∀ (j : Nat) u, (cur.toList.take (n * sz))[j]? = some u → w.cell? ⟨b, j, none⟩ = some u := fun j u hu => by
      rw [cell_of_row w b j cur e (0, 0) hh]
      rw [List.getElem?_take] at hu
      split at hu
      · simpa using hu
      · cases hu
    have hle : HLe H (hAdd H b (cur.toList.take (n * sz))) := fun b' o' v' hv' => by
      simp only [hAdd]
      split
      · rename_i e; subst e; rw [k6] at hv'; cases hv'
      · exact hv'
    have hat : At (hAdd H b (cur.toList.take (n * sz))) b 0 (cur.toList.take (n * sz)) := fun i u hu => by simp [hAdd, hu]
    refine ⟨hAdd H b (cur.toList.take (n * sz)), nxt_set hs e1 hb rfl rfl rfl rfl (fun d => by rw [hh]; simp) rfl (fun _ _ => rfl) hle (fun b' o' v' hv' => ?_) (fun o' v' hv' => ?_) ?_, ?_⟩
    · simp only [hAdd] at hv'
      split at hv'
      · rename_i e; exact .inr e
      · exact .inl hv'
    · simp only [hAdd, if_true] at hv'
      exact hcell _ _ hv'
    · simp only [RelObj]
      refine ⟨e2, hln, hcl, .inr ⟨b, cur, hb, hh, k1, k2, k3, RelL.mono hle (LLe.refl _) _ k4, k5, hat, fun o ho => ?_⟩⟩
      simp only [hAdd, if_true]
      rw [List.getElem?_eq_none]
      simp only [List.length_take]
      omega
    · simp only [Rel]
      exact ⟨_, _, hv, k1, k2, .inr ⟨b, 0, _, rfl, RelL.mono hle (LLe.refl _) _ k4, k5, hat⟩⟩
theorem relSt_obj {H : Mem} {L : List LI} {w : World} (hs : RelSt H L σ w) {l : Nat} {o o' : AObj} (hl : σ[l]? = some o) (h : ∀ li, RelObj H L w li o → RelObj H L w li o') : RelSt H L (σ.set l o') w := by
  refine ⟨hs.pers, by simp [hs.len], fun i x p hL hp => ?_, hs.inj, hs.lt⟩
  by_cases hi : i = l
  · subst hi
    rw [List.getElem?_set_self (List.getElem?_eq_some_iff.1 hl).1] at hp
    cases hp
    exact h x (hs.obj i x o hL hl)
  · rw [List.getElem?_set_ne (Ne.symm hi)] at hp
    exact hs.obj i x p hL hp
theorem weak_nilbox {l o : Nat} {cs : List A} (hl : σ[l]? = some (.box cs)) (hc : cs[o]? = some .nil) (e : TypeId) (sz : Nat) : Weak n0 env (σ.set l (.box (cs.set o (.row σ.length 0))) ++ [AObj.row false e sz 0 []]) env σ := by
  intro H0 L0 w0 H L w N tmps h0 h1 h2
  have hn := nxt_nilrow h1.st e sz
  have hlt : l < σ.length := (List.getElem?_eq_some_iff.1 hl).1
  have hl' : (σ ++ [AObj.row false e sz 0 []])[l]? = some (.box cs) := by rw [List.getElem?_append_left hlt]; exact hl
  have hs := relSt_obj (o' := .box (cs.set o (.row σ.length 0))) hn.st hl' (fun li hob => by
    simp only [RelObj] at hob ⊢
    obtain ⟨g0, b, vs, e', g1, g2, g3, g4, g5⟩ := hob
    obtain ⟨v, hv, hrel⟩ := g3.get hc
    simp only [Rel] at hrel
    subst hrel
    have hset : vs = vs.set o (.slice none 0 0) := by
      apply List.ext_getElem?
      intro i
      by_cases hi : i = o
      · subst hi; rw [List.getElem?_set_self (List.getElem?_eq_some_iff.1 hv).1, hv]
      · rw [List.getElem?_set_ne (Ne.symm hi)]
    refine ⟨g0, b, vs, e', g1, g2, ?_, g4, g5⟩
    rw [hset]
    refine g3.set o ?_
    simp only [Rel]
    exact ⟨rfl, ⟨none, 0, 0, true⟩, by rw [← h1.st.len]; simp, rfl, Nat.le_refl _, fun _ => rfl⟩)
  rw [List.set_append_left _ _ hlt] at hs
  have hm := h1.trans hn
  exact ⟨H, _, ⟨hs, hm.step, hm.lle, hm.own⟩, h2.1, fun x => Rel.mono (HLe.refl _) hn.lle _ (h2.2 x)⟩
theorem dcallN {K : Env → St → Prop} {f : FuncId} {args args' : List A} {σ0 : St} {Q0 : Out → St → Prop} (h : CallA P f args σ0 Q0) (js : List Nat) (hd : js.Nodup) (ho : selOk σ anyRow (posOf js) js σ0) (ha : argOk js args' args) (hnp : ∀ v σ1, ¬ Q0 (.pan v) σ1)
    (hq : ∀ r σ1, Q0 (.ret r) σ1 → Keeps σ (putAll σ js (σ1.map (renO js σ.length))) ∧ K (env.put d (ren js σ.length r)) (putAll σ js (σ1.map (renO js σ.length)))) : wpDcallN P σ d K f args' env :=
  call_embG (C := fun vs w R => Calls P f vs.toArray w R) (callA_mono P f) h js hd ho ha hnp fun r σ1 hr => ⟨_, rfl, hq r σ1 hr⟩
theorem dcallH0 {K : Env → St → Prop} {f : FuncId} {args args' : List A} {r : A} {σ1 : St} (h : Ret P f args [] r σ1) (hn : ∀ o ∈ σ1, o ≠ AObj.rsv) (ha : argOk [] args' args) (hq : K (env.put d (ren [] σ.length r)) (σ ++ σ1.map (renO [] σ.length))) : wpDcallH P σ d K f args' env :=
  ⟨_, _, fun o ho => by
    obtain ⟨o', ho', rfl⟩ := List.mem_map.1 ho
    have := hn o' ho'
    cases o' <;> first | (exact (this rfl).elim) | (simp only [renO, vwO]; first | (split <;> simp) | simp), fun τ hl _ => by
    rw [← hl]
    exact call_emb h [] (by simp) trivial ha ⟨rfl, by simp⟩, hq⟩
theorem selOk_keepsR {rf : Bool → Nat → Nat → A} {g : Nat → Option Nat} {σ τ : St} (hk : KeepsR σ τ) : ∀ {js : List Nat} {os : St}, (∀ o ∈ os, o ≠ AObj.rsv) → selOk σ rf g js os → selOk τ rf g js os
  | [], [], _, h => h
  | j :: js, o :: os, hn, h => by
    simp only [selOk] at h ⊢
    cases hj : σ[j]? with
    | none => rw [hj] at h; exact h.1.elim
    | some x =>
      rw [hj] at h
      have hx : x ≠ AObj.rsv := fun e => by
        subst e
        rcases h.1 with e | e
        · exact hn o (List.mem_cons_self ..) (by simpa [vwO] using e)
        · exact hn o (List.mem_cons_self ..) (by simpa [vwO] using e)
      rw [hk j x hj hx]
      exact ⟨h.1, selOk_keepsR hk (fun o ho => hn o (List.mem_cons_of_mem _ ho)) h.2⟩
  | [], _ :: _, _, h => h
  | _ :: _, [], _, h => h
theorem dcallHR {K : Env → St → Prop} {f : FuncId} {args args' : List A} {r : A} {s0 : St} (h : Ret P f args s0 r s0) (js : List Nat) (hjs : js.Nodup) (hn : ∀ o ∈ s0, o ≠ AObj.rsv) (hd : selOk σ anyRow (posOf js) js s0) (ha : argOk js args' args)
    (hput : ∀ τ : St, KeepsR σ τ → putAll τ js (s0.map (renO js τ.length)) = τ) (hq : K (env.put d (ren js σ.length r)) σ) : wpDcallH P σ d K f args' env :=
  ⟨ren js σ.length r, [], fun o ho => (by cases ho), fun τ hl hk => by
    rw [← hl]
    exact call_emb h js hjs (selOk_keepsR hk hn hd) ha ⟨rfl, by simp [hput τ hk]⟩, by simpa using hq⟩
theorem putAll_ka {c : Nat} : ∀ {js : List Nat} {σ s1 : St}, (∀ j ∈ js, j < c) → (∀ j ∈ js, j < σ.length) → s1.length = js.length → KA c σ (putAll σ js s1)
  | [], σ, s1, _, _, hl => by
    have : s1 = [] := List.eq_nil_of_length_eq_zero hl
    subst this
    simpa [putAll] using KA.refl c σ
  | j :: js, σ, o :: s1, hc, hj, hl => by
    have h1 := hc j (List.mem_cons_self ..)
    have ih := putAll_ka (c := c) (js := js) (σ := σ.set j o) (s1 := s1) (fun i hi => hc i (List.mem_cons_of_mem _ hi)) (fun i hi => by rw [List.length_set]; exact hj i (List.mem_cons_of_mem _ hi)) (by simpa using hl)
    intro l cs hle hσ
    exact ih l cs hle (by rw [List.getElem?_set_ne (by omega)]; exact hσ)
  | _ :: _, _, [], _, _, hl => by simp at hl
theorem dcallJX {K : Env → St → Prop} {f : FuncId} {args args' : List A} {r : A} {s0 s1 : St} (h : Ret P f args s0 r s1) (js : List Nat) (hjs : js.Nodup) (hd : selOk σ anyRow (posOf js) js s0) (ha : argOk js args' args)
    (hq : K (env.put d (ren js σ.length r)) (putAll σ js (s1.map (renO js σ.length)))) : wpDcallX P σ d K f args' env := ⟨_, _, call_emb h js hjs hd ha ⟨rfl, rfl⟩, hq⟩
theorem dcallJK {K : Env → St → Prop} {c : Nat} {f : FuncId} {args args' : List A} {r : A} {s0 s1 : St} (h : Ret P f args s0 r s1) (js : List Nat) (hjs : js.Nodup) (hd : selOk σ anyRow (posOf js) js s0) (ha : argOk js args' args)
    (hc : ∀ j ∈ js, j < c) (hlt : ∀ j ∈ js, j < σ.length) (hl : s1.length = js.length) (hq : K (env.put d (ren js σ.length r)) (putAll σ js (s1.map (renO js σ.length)))) : wpDcallK P c σ d K f args' env :=
  ⟨_, _, putAll_ka hc hlt (by simpa using hl), call_emb h js hjs hd ha ⟨rfl, rfl⟩, hq⟩
theorem dcallJE {K : Env → St → Prop} {c : Nat} {f : FuncId} {args args' : List A} {r : A} {s0 s1 : St} (h : Ret P f args s0 r s1) (js : List Nat) (hjs : js.Nodup) (hd : selOk σ anyRow (posOf js) js s0) (ha : argOk js args' args)
    (hc : ∀ j ∈ js, j < c) (hlt : ∀ j ∈ js, j < σ.length) (hl : s1.length = js.length) (hr : RLen σ (putAll σ js (s1.map (renO js σ.length)))) (hq : K (env.put d (ren js σ.length r)) (putAll σ js (s1.map (renO js σ.length)))) : wpDcallE P c σ d K f args' env :=
  ⟨_, _, ⟨putAll_ka hc hlt (by simpa using hl), hr⟩, call_emb h js hjs hd ha ⟨rfl, rfl⟩, hq⟩
end
end Go.Abs
namespace Go.Proofs.YthglhccibdlccaaGreatDoor
open Go.Abs
def K70 : K :=
 K.seq (K.ops [kMb 2 false])
 (K.seq (K.ops [kM 3 0,
 kM 4 0,
 kQ 5 3 4 true,
 kM 2 5])
 (K.ret))
theorem c70 : compile Tryz.prog Tryz.f156.ntmps (Tryz.f156.body.getD .skip) = some K70.erase := by kernel_rfl
@[simp] theorem cal70 : callable Tryz.prog 156 = true := by kernel_rfl
def K47 : K :=
 K.seq (K.ops [kMi 4 0])
 (K.seq (K.ops [kM 7 0,
 kC 8 156 [(.tmp 7)],
 kM 5 8])
 (K.seq (K.ops [kM 9 1,
 kC 10 156 [(.tmp 9)],
 kM 6 10])
 (K.seq (K.seq (K.ops [kM 11 5])
 (K.cond (.tmp 11)
 (K.seq (K.seq (K.ops [kM 12 6])
 (K.cond (.tmp 12)
 (K.seq (K.ops [kMi 4 0])
 (K.ret))
 (K.skip)))
 (K.seq (K.ops [⟨none, .mov (some 4) (.const (.int .i64 (-1)))⟩])
 (K.ret)))
 (K.skip)))
 (K.seq (K.seq (K.ops [kM 13 6])
 (K.cond (.tmp 13)
 (K.seq (K.ops [kMi 4 1])
 (K.ret))
 (K.skip)))
 (K.seq (K.seq (K.ops [kM 14 0,
 kM 15 1,
 kB 16 14 15 .lss])
 (K.cond (.tmp 16)
 (K.seq (K.ops [⟨none, .mov (some 4) (.const (.int .i64 (-1)))⟩])
 (K.ret))
 (K.skip)))
 (K.seq (K.seq (K.ops [kM 17 0,
 kM 18 1,
 kB 19 17 18 .gtr])
 (K.cond (.tmp 19)
 (K.seq (K.ops [kMi 4 1])
 (K.ret))
 (K.skip)))
 (K.seq (K.ops [kMi 4 0])
 (K.ret))))))))
theorem c47 : compile Tryz.prog Tryz.f135.ntmps (Tryz.f135.body.getD .skip) = some K47.erase := by kernel_rfl
@[simp] theorem cal47 : callable Tryz.prog 135 = true := by kernel_rfl
def K46 : K :=
 K.seq (K.ops [kMi 2 0])
 (K.seq (K.ops [kMi 3 0])
 (K.seq (K.seq (K.ops [kM 6 0,
 kN 7 6,
 kMi 8 0])
 (K.block 0 (K.loop (K.seq (K.ops [kB 9 8 7 .lss])
 (K.seq (K.cond (.tmp 9)
 (K.skip)
 (K.exit 0))
 (K.seq (K.block 1 (K.seq (K.ops [kX 10 6 8 1,
 kL 11 10 1,
 kM 5 11])
 (K.seq (K.ops [kM 12 5,
 kM 13 3,
 kQ 14 12 13 true])
 (K.cond (.tmp 14)
 (K.seq (K.ops [kM 15 5,
 kM 2 15])
 (K.ret))
 (K.skip)))))
 (K.ops [kBi 16 8 1 .add,
 kM 8 16])))))))
 (K.seq (K.ops [kM 17 3,
 kM 2 17])
 (K.ret))))
theorem c46 : compile Tryz.prog Tryz.f134.ntmps (Tryz.f134.body.getD .skip) = some K46.erase := by kernel_rfl
@[simp] theorem cal46 : callable Tryz.prog 134 = true := by kernel_rfl
def K27 : K :=
 K.seq (K.ops [kO 2 0,
 kO 3 1,
 kMi 4 0])
 (K.seq (K.dops [(0, 0, kA 5 2 0),
 (1, 0, kL 6 5 1),
 (2, 0, kA 7 3 0),
 (3, 0, kL 8 7 1),
 (4, 0, kC 9 135 [(.tmp 6), (.tmp 8)]),
 (5, 0, kA 10 2 1),
 (6, 0, kL 11 10 1),
 (7, 0, kA 12 3 1),
 (8, 0, kL 13 12 1),
 (9, 0, kC 14 135 [(.tmp 11), (.tmp 13)]),
 (10, 0, kA 15 2 2),
 (11, 0, kL 16 15 1),
 (12, 0, kA 17 3 2),
 (13, 0, kL 18 17 1),
 (14, 0, kC 19 135 [(.tmp 16), (.tmp 18)]),
 (15, 0, ⟨none, .bslice (some 20) 3 1 3 [(.int .i64 0), (.int .i64 0), (.int .i64 0)] [(0, 1, (.tmp 9)), (1, 1, (.tmp 14)), (2, 1, (.tmp 19))]⟩),
 (16, 0, kC 21 134 [(.tmp 20)]),
 (17, 0, kM 4 21)])
 (K.ret))
theorem c27 : compile Tryz.prog Tryz.f96.ntmps (Tryz.f96.body.getD .skip) = some K27.erase := by kernel_rfl
@[simp] theorem cal27 : callable Tryz.prog 96 = true := by kernel_rfl
def K48 : K :=
 K.seq (K.ops [kO 2 0,
 kO 3 1,
 kMb 4 false])
 (K.seq (K.seq (K.ops [kA 5 2 0,
 kL 6 5 1,
 kA 7 3 0,
 kL 8 7 1,
 kQ 9 6 8 true])
 (K.cond (.tmp 9)
 (K.seq (K.ops [kA 10 2 0,
 kL 11 10 1,
 kA 12 3 0,
 kL 13 12 1,
 kB 14 11 13 .lss,
 kM 4 14])
 (K.ret))
 (K.skip)))
 (K.seq (K.seq (K.ops [kA 15 2 1,
 kL 16 15 1,
 kA 17 3 1,
 kL 18 17 1,
 kQ 19 16 18 true])
 (K.cond (.tmp 19)
 (K.seq (K.ops [kA 20 2 1,
 kL 21 20 1,
 kA 22 3 1,
 kL 23 22 1,
 kB 24 21 23 .lss,
 kM 4 24])
 (K.ret))
 (K.skip)))
 (K.seq (K.ops [kA 25 2 2,
 kL 26 25 1,
 kA 27 3 2,
 kL 28 27 1,
 kB 29 26 28 .lss,
 kM 4 29])
 (K.ret))))
theorem c48 : compile Tryz.prog Tryz.f110.ntmps (Tryz.f110.body.getD .skip) = some K48.erase := by kernel_rfl
@[simp] theorem cal48 : callable Tryz.prog 110 = true := by kernel_rfl
@[simp] theorem cal19 : callable Tryz.prog 23 = true := by kernel_rfl
def K13 : K :=
 K.seq (K.ops [kMb 4 false])
 (K.seq (K.seq (K.ops [kM 6 0,
 kN 7 6,
 kM 8 1,
 kN 9 8,
 kQ 10 7 9 true])
 (K.cond (.tmp 10)
 (K.seq (K.ops [kMb 4 false])
 (K.ret))
 (K.skip)))
 (K.seq (K.seq (K.ops [kMi 5 0])
 (K.block 0 (K.loop (K.seq (K.seq (K.ops [kM 11 5,
 kM 12 0,
 kN 13 12,
 kB 14 11 13 .lss])
 (K.cond (.tmp 14)
 (K.skip)
 (K.exit 0)))
 (K.seq (K.block 1 (K.seq (K.dops [(0, 0, kM 17 0),
 (1, 0, kM 18 5),
 (2, 0, kX 19 17 18 3),
 (3, 0, kG 20 19 3),
 (4, 0, kM 21 1),
 (5, 0, kM 22 5),
 (6, 0, kX 23 21 22 3),
 (7, 0, kG 24 23 3),
 (8, 0, ⟨none, .eqs (some 25) true [.i, .i, .i] (.tmp 20) (.tmp 24)⟩)])
 (K.cond (.tmp 25)
 (K.seq (K.ops [kMb 4 false])
 (K.ret))
 (K.skip))))
 (K.ops [kM 15 5,
 kBi 16 15 1 .add,
 kM 5 16]))))))
 (K.seq (K.ops [kMb 4 true])
 (K.ret))))
theorem c13 : compile Tryz.prog Tryz.f20.ntmps (Tryz.f20.body.getD .skip) = some K13.erase := by kernel_rfl
@[simp] theorem cal13 : callable Tryz.prog 20 = true := by kernel_rfl
theorem isNaN_ok (n : Int) : Ret Tryz.prog 156 [int n] [] (bl false) [] := by
  refine ret_of_wp Tryz.func156 rfl c70 (rs := [.slot 2]) (by kernel_rfl) ?_
  unfold K70
  simp -implicitDefEqProofs
  exact ret_end 0 (by simp)
def cmpI (a b : Int) : Int := if a < b then -1 else if b < a then 1 else 0
theorem compare_ok (a b : Int) : Ret Tryz.prog 135 [int a, int b] [] (int (cmpI a b)) [] := by
  refine ret_of_wp Tryz.func135 rfl c47 (rs := [.slot 4]) (by kernel_rfl) ?_
  unfold K47
  simp -implicitDefEqProofs
  refine call0 (isNaN_ok a) (by simp) (by simp) ?_
  simp -implicitDefEqProofs
  refine call0 (isNaN_ok b) (by simp) (by simp) ?_
  simp -implicitDefEqProofs
  refine condP_intro (fun h => ?_) (fun h => ?_) <;> simp at h <;> simp -implicitDefEqProofs
  · exact ret_end 0 (by simp [cmpI, h])
  refine condP_intro (fun h' => ?_) (fun h' => ?_) <;> simp at h' <;> simp -implicitDefEqProofs
  · exact ret_end 0 (by simp [cmpI, h', Int.not_lt.2 h])
  · exact ret_end 0 (by simp [cmpI, Int.not_lt.2 h, Int.not_lt.2 h'])
def orI : List Int → Int
  | [] => 0
  | a :: l => if a = 0 then orI l else a
def ints (l : List Int) : List A := l.map int
theorem ints_plain : ∀ (l : List Int), Plain (ints l)
  | [] => Plain.nil
  | _ :: l => Plain.lit (ints_plain l)
@[simp] theorem ints_len (l : List Int) : (ints l).length = l.length := by simp [ints]
@[simp] theorem nrm0_ints (l : List Int) : nrm0L (ints l) = ints l := (ints_plain l).1
@[simp] theorem vw_ints {rf g} (l : List Int) : vwL rf g (ints l) = ints l := (ints_plain l).2 _ _
@[simp] theorem ints_nil : ints [] = [] := rfl
@[simp] theorem ints_cons (n : Int) (l : List Int) : ints (n :: l) = .lit (.int .i64 n) :: ints l := rfl
@[simp] theorem ints_append (a b : List Int) : ints (a ++ b) = ints a ++ ints b := by simp [ints]
theorem ints_drop {l : List Int} {i : Nat} (h : i < l.length) : (ints l).drop i = .lit (.int .i64 l[i]) :: ints (l.drop (i + 1)) := by
  rw [ints, ← List.map_drop, List.drop_eq_getElem_cons h]; rfl
theorem wrap_succ {i n : Nat} (h : i < n) (hn : n ≤ maxLen) : IntKind.i64.wrap ((i : Int) + 1) = (i : Int) + 1 := IntWalk.i64_in _ (by simp [maxLen] at hn; omega)
theorem or_ok (l : List Int) : Ret Tryz.prog 134 [.sl l.length (ints l)] [] (int (orI l)) [] := by
  refine ret_of_wp Tryz.func134 rfl c46 (rs := [.slot 2]) (by kernel_rfl) ?_
  unfold K46
  simp -implicitDefEqProofs
  intro hl
  refine loopS (S := Nat) (fun i => [(3, int 0), (6, .sl l.length (ints l)), (7, int l.length), (8, int i)]) (fun s => []) (fun i => i ≤ l.length ∧ orI l = orI (l.drop i)) (fun i => l.length - i) 0 (by simp)
    (selW [] 0 (by simp) (by simp) (by simp) (by simp)) ?_
  rintro i ⟨hi, ho⟩
  simp -implicitDefEqProofs
  refine condP_intro (fun h => ?_) (fun h => ?_) <;> simp at h
  · simp -implicitDefEqProofs [h, ints_drop h]
    have hd : l.drop i = l[i] :: l.drop (i + 1) := List.drop_eq_getElem_cons h
    refine condP_intro (fun h' => ?_) (fun h' => ?_) <;> simp at h' <;> simp -implicitDefEqProofs
    · exact ret_end 0 (by rw [ho, hd]; simp [orI, h'])
    · refine roundS (i + 1) ⟨h, by rw [ho, hd]; simp [orI, h']⟩ (by omega) (selW [] 0 (by simp) (by simp) (by simp) (by simp [wrap_succ h hl]))
  · simp -implicitDefEqProofs
    have : i = l.length := by omega
    exact ret_end 0 (by rw [ho, this]; simp [orI])
structure Id where
  a : Int
  b : Int
  c : Int
  deriving DecidableEq
theorem Id.eq_iff {x y : Id} : x = y ↔ x.a = y.a ∧ x.b = y.b ∧ x.c = y.c := by cases x; cases y; simp
def encI (d : Id) : List A := [.lit (.int .i64 d.a), .lit (.int .i64 d.b), .lit (.int .i64 d.c)]
def keyI (d : Id) : List Int := [d.a, d.b, d.c]
def cellsI : List Id → List A
  | [] => []
  | d :: l => .lit (.int .i64 d.a) :: .lit (.int .i64 d.b) :: .lit (.int .i64 d.c) :: cellsI l
@[simp] theorem cellsI_nil : cellsI [] = [] := rfl
@[simp] theorem cellsI_cons (d : Id) (l : List Id) : cellsI (d :: l) = .lit (.int .i64 d.a) :: .lit (.int .i64 d.b) :: .lit (.int .i64 d.c) :: cellsI l := rfl
@[simp] theorem cellsI_len : ∀ l : List Id, (cellsI l).length = l.length * 3
  | [] => rfl
  | d :: l => by simp [cellsI_len l]; omega
theorem cellsI_append : ∀ (a b : List Id), cellsI (a ++ b) = cellsI a ++ cellsI b
  | [], b => rfl
  | d :: a, b => by simp [cellsI_append a b]
theorem cellsI_plain : ∀ (l : List Id), Plain (cellsI l)
  | [] => Plain.nil
  | _ :: l => Plain.lit (Plain.lit (Plain.lit (cellsI_plain l)))
@[simp] theorem nrm0_cellsI (l : List Id) : nrm0L (cellsI l) = cellsI l := (cellsI_plain l).1
@[simp] theorem vw_cellsI {rf g} (l : List Id) : vwL rf g (cellsI l) = cellsI l := (cellsI_plain l).2 _ _
theorem cellsI_drop : ∀ {l : List Id} {i : Nat} (h : i < l.length), (cellsI l).drop (i * 3) = .lit (.int .i64 l[i].a) :: .lit (.int .i64 l[i].b) :: .lit (.int .i64 l[i].c) :: cellsI (l.drop (i + 1))
  | v :: l, 0, h => by simp
  | v :: l, i + 1, h => by
    have e : (i + 1) * 3 = i * 3 + 3 := by omega
    rw [e, cellsI_cons]
    simpa using cellsI_drop (l := l) (i := i) (by simpa using h)
theorem cellsI_take : ∀ (l : List Id) (i : Nat), (cellsI l).take (i * 3) = cellsI (l.take i)
  | [], i => by simp
  | v :: l, 0 => by simp
  | v :: l, i + 1 => by
    have e : (i + 1) * 3 = i * 3 + 3 := by omega
    rw [e, cellsI_cons]
    simpa using cellsI_take l i
theorem cellsI_dropW : ∀ (l : List Id) (i : Nat), (cellsI l).drop (i * 3) = cellsI (l.drop i)
  | [], i => by simp
  | v :: l, 0 => by simp
  | v :: l, i + 1 => by
    have e : (i + 1) * 3 = i * 3 + 3 := by omega
    rw [e, cellsI_cons]
    simpa using cellsI_dropW l i
def cmpD (x y : Id) : Int := orI [cmpI x.a y.a, cmpI x.b y.b, cmpI x.c y.c]
def lessD (x y : Id) : Bool := if x.a ≠ y.a then decide (x.a < y.a) else if x.b ≠ y.b then decide (x.b < y.b) else decide (x.c < y.c)
theorem order_ok (x y : Id) : Ret Tryz.prog 96 [.agg (encI x), .agg (encI y)] [] (int (cmpD x y)) [] := by
  refine ret_of_wp Tryz.func96 rfl c27 (rs := [.slot 4]) (by kernel_rfl) ?_
  unfold K27
  simp -implicitDefEqProofs [encI]
  refine dcall0 (compare_ok x.a y.a) (by simp) (by simp) ?_
  simp -implicitDefEqProofs
  refine dcall0 (compare_ok x.b y.b) (by simp) (by simp) ?_
  simp -implicitDefEqProofs
  refine dcall0 (compare_ok x.c y.c) (by simp) (by simp) ?_
  simp -implicitDefEqProofs
  refine dcall0 (or_ok [cmpI x.a y.a, cmpI x.b y.b, cmpI x.c y.c]) (by simp) (by simp) ?_
  simp -implicitDefEqProofs
  exact ret_end 0 (by simp [cmpD])
theorem less_ok (x y : Id) : Ret Tryz.prog 110 [.agg (encI x), .agg (encI y)] [] (bl (lessD x y)) [] := by
  refine ret_of_wp Tryz.func110 rfl c48 (rs := [.slot 4]) (by kernel_rfl) ?_
  unfold K48
  by_cases h1 : x.a = y.a
  · by_cases h2 : x.b = y.b
    · simp -implicitDefEqProofs [encI, h1, h2]
      exact ret_end 0 (by simp [lessD, h1, h2])
    · simp -implicitDefEqProofs [encI, h1, h2]
      exact ret_end 0 (by simp [lessD, h1, h2])
  · simp -implicitDefEqProofs [encI, h1]
    exact ret_end 0 (by simp [lessD, h1])
theorem sameIDs_ok (a b : List Id) : Ret Tryz.prog 20 [.sl a.length (cellsI a), .sl b.length (cellsI b)] [] (bl (decide (a = b))) [] := by
  refine ret_of_wp Tryz.func20 rfl c13 (rs := [.slot 4]) (by kernel_rfl) ?_
  unfold K13
  by_cases hab : a.length = b.length
  · have hab' : (a.length : Int) = b.length := by omega
    simp -implicitDefEqProofs [hab]
    intro hlb
    refine loopS (S := Nat) (fun i => [(0, .sl a.length (cellsI a)), (1, .sl b.length (cellsI b)), (5, int i)]) (fun s => []) (fun i => i ≤ a.length ∧ a.take i = b.take i) (fun i => a.length - i) 0 (by simp)
      (selW [] 0 (by simp) (by simp) (by simp) (by simp [hab])) ?_
    rintro i ⟨hi, hn⟩
    by_cases h : i < a.length
    · have hb : i < b.length := by omega
      simp -implicitDefEqProofs [h, hb, cellsI_drop h, cellsI_drop hb]
      intro hl
      refine condP_intro (fun h' => ?_) (fun h' => ?_) <;> simp at h' <;> simp -implicitDefEqProofs
      · have hx : a[i] ≠ b[i] := fun e => by rw [e] at h'; simp at h'
        have hne : a ≠ b := fun e => hx (by subst e; rfl)
        exact ret_end 0 (by simp [hne])
      · have hx : a[i] = b[i] := Id.eq_iff.2 h'
        refine roundS (i + 1) ⟨h, ?_⟩ (by omega) (selW [] 0 (by simp) (by simp) (by simp) (by simp [wrap_succ h hl]))
        rw [List.take_succ_eq_append_getElem h, List.take_succ_eq_append_getElem hb, hn, hx]
    · have : i = a.length := by omega
      subst this
      simp -implicitDefEqProofs
      have : a = b := by rw [List.take_length, hab, List.take_length] at hn; exact hn
      exact fun _ => ret_end 0 (by simp [this])
  · have hne : a ≠ b := fun e => hab (by rw [e])
    have hab' : ¬ (a.length : Int) = b.length := by omega
    simp -implicitDefEqProofs [hab']
    exact fun _ _ => ret_end 0 (by simp [hne])
end Go.Proofs.YthglhccibdlccaaGreatDoor
