/-
  States that begin with a caller's, of a length that is not written out; calls of a yield; rows that are frozen; growing calls in regions that draw.
-/
import Derived.Test.YthglhccibdlccaaDoorE21
namespace Go.Abs

attribute [simp] A.bnd bndL AObj.bnd bndL_append
@[simp] theorem bnd_yv {b k : Nat} : (yv b).bnd k = true := rfl

/-! ### parts of slices -/

section
variable {P : Program} {Qp : Value → Env → St → Prop} {K' : Env → St → Prop} {env : Env} {σ : St} {d : Option Nat} {x : Operand}

def litI : A → Option Int
  | .lit (.int _ j) => some j
  | _ => none
@[simp] theorem litI_int {k : IntKind} {j : Int} : litI (.lit (.int k j)) = some j := rfl
@[simp] theorem boundA_none {n : Nat} : boundA env n none = some (n : Int) := rfl
@[simp] theorem boundA_some {n : Nat} : boundA env n (some x) = litI (ev env x) := by
  simp only [boundA, litI]
  cases ev env x with
  | lit u => cases u <;> rfl
  | _ => rfl
def bothP (a b : Option Int) (J : Int → Int → Prop) : Prop := match a, b with
  | some l, some h => J l h
  | _, _ => False
@[simp] theorem bothP_some {l h : Int} {J : Int → Int → Prop} : bothP (some l) (some h) J = J l h := rfl
def slcP (a : A) (lo : Option Int) (hi : Nat → Option Int) (sz : Nat) (J : A → Prop) : Prop := match a with
  | .sl n cs => bothP lo (hi n) fun l h => (0 ≤ l ∧ l ≤ h ∧ h ≤ n) ∧ J (.sl (h - l).toNat ((cs.drop (l.toNat * sz)).take ((h - l).toNat * sz)))
  | .fsl n cs => bothP lo (hi n) fun l h => (0 ≤ l ∧ l ≤ h ∧ h ≤ n) ∧ J (.sl (h - l).toNat ((cs.drop (l.toNat * sz)).take ((h - l).toNat * sz)))
  | .nil => bothP lo (hi 0) fun l h => (l = 0 ∧ h = 0) ∧ J .nil
  | _ => False
@[simp] theorem slcP_sl {n : Nat} {cs : List A} {lo : Option Int} {hi : Nat → Option Int} {sz : Nat} {J : A → Prop} : slcP (.sl n cs) lo hi sz J = bothP lo (hi n) fun l h => (0 ≤ l ∧ l ≤ h ∧ h ≤ n) ∧ J (.sl (h - l).toNat ((cs.drop (l.toNat * sz)).take ((h - l).toNat * sz))) := rfl
@[simp] theorem slcP_fsl {n : Nat} {cs : List A} {lo : Option Int} {hi : Nat → Option Int} {sz : Nat} {J : A → Prop} : slcP (.fsl n cs) lo hi sz J = bothP lo (hi n) fun l h => (0 ≤ l ∧ l ≤ h ∧ h ≤ n) ∧ J (.sl (h - l).toNat ((cs.drop (l.toNat * sz)).take ((h - l).toNat * sz))) := rfl
@[simp] theorem slcP_nil {lo : Option Int} {hi : Nat → Option Int} {sz : Nat} {J : A → Prop} : slcP .nil lo hi sz J = bothP lo (hi 0) fun l h => (l = 0 ∧ h = 0) ∧ J .nil := rfl
@[simp] theorem wpO_slc {sz : Nat} {lo hi : Option Operand} : wpO P Qp K' (.slc d x sz lo hi none) env σ = slcP (ev env x) (boundA env 0 lo) (fun n => boundA env n hi) sz fun r => K' (env.put d r) σ := by
  show pureP (pureO env σ (.slc d x sz lo hi none)) _ = _
  simp only [pureO, slcP]
  generalize ev env x = a
  cases a <;> try rfl
  all_goals
    simp only [bothP]
    generalize boundA env _ lo = u
    generalize boundA env _ hi = v
    cases u <;> cases v <;> rfl
/-- A row that has just so many elements. -/
def rowLn (o : Option AObj) (n sz : Nat) (J : Prop) : Prop := match o with
  | some (.row _ _ s m _) => if n = m ∧ s = sz then J else False
  | _ => False
@[simp] theorem rowLn_some {fz : Bool} {e s n m sz : Nat} {cs : List A} {J : Prop} : rowLn (some (.row fz e s m cs)) n sz J = ((n = m ∧ s = sz) ∧ J) := by
  simp only [rowLn]
  by_cases h : n = m ∧ s = sz <;> simp [h]
def rslcP (σ : St) (a : A) (lo : Option Int) (hi : Nat → Option Int) (sz : Nat) (J : A → Prop) : Prop := match a with
  | .row l n => rowLn σ[l]? n sz (bothP lo (hi n) fun l' h => (0 ≤ l' ∧ l' ≤ h ∧ h ≤ n) ∧ J (.win l n (l'.toNat * sz) (h - l').toNat ((h - l').toNat * sz)))
  | .win l n o k _ => rowLn σ[l]? n sz (bothP lo (hi k) fun l' h => (0 ≤ l' ∧ l' ≤ h ∧ h ≤ k) ∧ J (.win l n (o + l'.toNat * sz) (h - l').toNat ((h - l').toNat * sz)))
  | _ => False
@[simp] theorem rslcP_row {l n : Nat} {lo : Option Int} {hi : Nat → Option Int} {sz : Nat} {J : A → Prop} : rslcP σ (.row l n) lo hi sz J = rowLn σ[l]? n sz (bothP lo (hi n) fun l' h => (0 ≤ l' ∧ l' ≤ h ∧ h ≤ n) ∧ J (.win l n (l'.toNat * sz) (h - l').toNat ((h - l').toNat * sz))) := rfl
@[simp] theorem rslcP_win {l n o k c : Nat} {lo : Option Int} {hi : Nat → Option Int} {sz : Nat} {J : A → Prop} : rslcP σ (.win l n o k c) lo hi sz J = rowLn σ[l]? n sz (bothP lo (hi k) fun l' h => (0 ≤ l' ∧ l' ≤ h ∧ h ≤ k) ∧ J (.win l n (o + l'.toNat * sz) (h - l').toNat ((h - l').toNat * sz))) := rfl
theorem rslc_pure {sz : Nat} {lo hi : Option Operand} {J : A → Prop} : pureP (pureO env σ (.rslc d x sz lo hi)) J = rslcP σ (ev env x) (boundA env 0 lo) (fun n => boundA env n hi) sz J := by
  simp only [pureO, rslcP]
  generalize ev env x = a
  have key : ∀ (ob : Option AObj) (n k : Nat) (f : Int → Int → Prop × A), pureP (match ob with
      | some (.row _ _ s m _) => if n = m ∧ s = sz then (match boundA env 0 lo, boundA env k hi with
        | some l', some h => some (f l' h)
        | _, _ => none) else none
      | _ => none) J = rowLn ob n sz (bothP (boundA env 0 lo) (boundA env k hi) fun l' h => (f l' h).1 ∧ J (f l' h).2) := by
    intro ob n k f
    simp only [rowLn, bothP]
    cases ob with
    | none => rfl
    | some ob =>
      cases ob <;> try rfl
      simp only
      split
      · generalize boundA env 0 lo = u
        generalize boundA env k hi = v
        cases u <;> cases v <;> rfl
      · rfl
  cases a <;> try rfl
  · rename_i l n
    exact key σ[l]? n n fun l' h => (0 ≤ l' ∧ l' ≤ h ∧ h ≤ n, .win l n (l'.toNat * sz) (h - l').toNat ((h - l').toNat * sz))
  · rename_i l n o k c
    exact key σ[l]? n k fun l' h => (0 ≤ l' ∧ l' ≤ h ∧ h ≤ k, .win l n (o + l'.toNat * sz) (h - l').toNat ((h - l').toNat * sz))
@[simp] theorem wpO_rslc {sz : Nat} {lo hi : Option Operand} : wpO P Qp K' (.rslc d x sz lo hi) env σ = rslcP σ (ev env x) (boundA env 0 lo) (fun n => boundA env n hi) sz fun r => K' (env.put d r) σ := rslc_pure (d := d)
@[simp] theorem wpDop_rslc {fl sz : Nat} {lo hi : Option Operand} : wpDop P fl K' (.rslc d x sz lo hi) env σ = rslcP (seeF fl σ) (ev env x) (boundA env 0 lo) (fun n => boundA env n hi) sz fun r => K' (env.put d r) σ := rslc_pure (d := d)

@[simp] theorem idxP_row {sz l n : Nat} {k : IntKind} {j : Int} {J : A → Prop} : idxP σ sz (.row l n) (.lit (.int k j)) J = rowLn σ[l]? n sz ((0 ≤ j ∧ j < n) ∧ J (.rwp l n (j.toNat * sz))) := by
  simp only [idxP, rowLn]
  cases σ[l]? with
  | none => rfl
  | some o => cases o <;> rfl
@[simp] theorem idxP_win {sz l n o k' c : Nat} {k : IntKind} {j : Int} {J : A → Prop} : idxP σ sz (.win l n o k' c) (.lit (.int k j)) J = rowLn σ[l]? n sz ((0 ≤ j ∧ j < k') ∧ J (.rwp l n (o + j.toNat * sz))) := by
  simp only [idxP, rowLn]
  cases σ[l]? with
  | none => rfl
  | some o => cases o <;> rfl
def rowLe (o : Option AObj) (n : Nat) (J : Prop) : Prop := match o with
  | some (.row _ _ _ m _) => if n = m then J else False
  | _ => False
@[simp] theorem rowLe_some {fz : Bool} {e s n m : Nat} {cs : List A} {J : Prop} : rowLe (some (.row fz e s m cs)) n J = (n = m ∧ J) := by
  simp only [rowLe]
  by_cases h : n = m <;> simp [h]
@[simp] theorem lenP_row {l n : Nat} {J : A → Prop} : lenP σ (.row l n) J = rowLe σ[l]? n (J (.lit (.int .i64 n))) := by
  simp only [lenP, rowLe]
  cases σ[l]? with
  | none => rfl
  | some o => cases o <;> rfl
@[simp] theorem lenP_win {l n o k c : Nat} {J : A → Prop} : lenP σ (.win l n o k c) J = rowLe σ[l]? n (J (.lit (.int .i64 k))) := by
  simp only [lenP, rowLe]
  cases σ[l]? with
  | none => rfl
  | some o => cases o <;> rfl
@[simp] theorem lenD_win {l n o k c : Nat} {J : A → Prop} : lenD σ (.win l n o k c) J = rowLe σ[l]? n (J (.lit (.int .i64 k))) := by
  simp only [lenD, rowLe]
  cases σ[l]? with
  | none => rfl
  | some o => cases o <;> rfl
def adRow (ob : Option AObj) (l n o off : Nat) : Option A := match ob with
  | some (.row _ _ _ m _) => if n = m then some (.rwp l n (o + off)) else none
  | _ => none
@[simp] theorem adRow_some {fz : Bool} {e s n m l o off : Nat} {cs : List A} : adRow (some (.row fz e s m cs)) l n o off = if n = m then some (.rwp l n (o + off)) else none := rfl
@[simp] theorem addrA_rwp {l n o off : Nat} : addrA σ off (.rwp l n o) = adRow σ[l]? l n o off := by
  simp only [addrA, adRow]
  cases σ[l]? with
  | none => rfl
  | some o => cases o <;> rfl

end

/-! ### closed values and objects -/

mutual
theorem vw_bnd {rf : Bool → Nat → Nat → A} {g : Nat → Option Nat} {k : Nat} (hg : ∀ l, l < k → g l = some l) : ∀ (a : A), a.bnd k = true → vw rf g a = a
  | .any, _ => by simp
  | .nil, _ => by simp
  | .lit _, _ => by simp
  | .agg cs, h => by simp [vwL_bnd hg cs h]
  | .tup cs, h => by simp [vwL_bnd hg cs h]
  | .sl _ cs, h => by simp [vwL_bnd hg cs h]
  | .fsl _ cs, h => by simp [vwL_bnd hg cs h]
  | .rptr cs, h => by simp [vwL_bnd hg cs h]
  | .ptr l _, h => by simp [hg l (by simpa using h)]
  | .row l _, h => by simp [hg l (by simpa using h)]
  | .rwp l _ _, h => by simp [hg l (by simpa using h)]
  | .win l _ _ _ _, h => by simp [hg l (by simpa [A.bnd] using h)]
  | .map l, h => by simp only [vw]; rw [hg l (by simpa using h)]
  | .clo _ fs cs, h => by
    simp only [A.bnd, Bool.and_eq_true] at h
    simp [vwL_bnd hg fs h.1, vwL_bnd hg cs h.2]
theorem vwL_bnd {rf : Bool → Nat → Nat → A} {g : Nat → Option Nat} {k : Nat} (hg : ∀ l, l < k → g l = some l) : ∀ (cs : List A), bndL k cs = true → vwL rf g cs = cs
  | [], _ => by simp
  | c :: cs, h => by
    simp only [bndL, Bool.and_eq_true] at h
    simp [vw_bnd hg c h.1, vwL_bnd hg cs h.2]
end

theorem vwO_bnd {rf : Bool → Nat → Nat → A} {g : Nat → Option Nat} {k : Nat} (hg : ∀ l, l < k → g l = some l) (o : AObj) (h : o.bnd k = true) : vwO rf g o = o := by
  cases o with
  | dead => rfl
  | box cs => simp only [AObj.bnd] at h; simp [vwL_bnd hg cs h]
  | row fz e sz n cs => simp only [AObj.bnd] at h; simp [vwL_bnd hg cs h]
  | lp b r M es =>
    simp only [AObj.bnd, List.all_eq_true] at h
    simp only [vwO_lp, AObj.lp.injEq, true_and]
    conv => rhs; rw [← List.map_id es]
    exact List.map_congr_left fun p hp => by rw [vw_bnd hg _ (h p hp)]; rfl
  | mp fr nk es =>
    simp only [AObj.bnd, List.all_eq_true] at h
    simp only [vwO_mp, AObj.mp.injEq, true_and]
    conv => rhs; rw [← List.map_id es]
    exact List.map_congr_left fun p hp => by rw [vw_bnd hg _ (h p hp)]; rfl
  | it m n met =>
    simp only [AObj.bnd, decide_eq_true_eq] at h
    rw [vwO_it, hg m h]
  | rsv => rfl

theorem posOf_app : ∀ {l : List Nat} {x : Nat} {r : List Nat}, x ∉ l → posOf (l ++ r) x = (posOf r x).map (· + l.length)
  | [], x, r, _ => by simp
  | y :: l, x, r, h => by
    simp only [List.mem_cons, not_or] at h
    simp only [List.cons_append, posOf_cons, h.1, if_false, posOf_app h.2, Option.map_map]
    congr 1
theorem posOf_appl : ∀ {l : List Nat} {x i : Nat} {r : List Nat}, posOf l x = some i → posOf (l ++ r) x = some i
  | [], x, i, r, h => by simp at h
  | y :: l, x, i, r, h => by
    simp only [List.cons_append, posOf_cons] at h ⊢
    split
    · rename_i e; simpa [e] using h
    · rename_i e
      simp only [e, if_false, Option.map_eq_some_iff] at h
      obtain ⟨j, hj, rfl⟩ := h
      rw [posOf_appl hj]; rfl
theorem posOf_range : ∀ {k l : Nat}, l < k → posOf (List.range k) l = some l
  | k + 1, l, h => by
    rw [List.range_succ]
    rcases Nat.lt_or_ge l k with hl | hl
    · exact posOf_appl (posOf_range hl)
    · have e : l = k := by omega
      subst e
      rw [posOf_app (by simp)]
      simp

/-- Closed objects, all of them. -/
def Cl (m : Nat) (S : St) : Prop := S.length = m ∧ ∀ o ∈ S, o.bnd m = true
theorem Cl.app {m k : Nat} {S own : St} (h : Cl m S) (hk : own.length = k) (ho : ∀ o ∈ own, o.bnd (m + k) = true) : Cl (m + k) (S ++ own) := by
  refine ⟨by simp [h.1, hk], fun o hm => ?_⟩
  rcases List.mem_append.1 hm with hm | hm
  · exact AObj.bnd_mono (Nat.le_add_right m k) _ (h.2 o hm)
  · exact ho o hm

section
variable {P : Program} {n0 : Nat} {Qp : Value → Env → St → Prop} {K' : Env → St → Prop} {KD : Env → Prop} {Q : Ex → Env → St → Prop} {env : Env} {σ : St} {d : Option Nat}

theorem get_pre {m k : Nat} {S own : St} (h : S.length = m) : (S ++ own)[m + k]? = own[k]? := by
  rw [List.getElem?_append_right (by omega)]; congr 1; omega
theorem get_pre0 {m : Nat} {S own : St} (h : S.length = m) : (S ++ own)[m]? = own[0]? := by
  rw [List.getElem?_append_right (by omega)]; congr 1; omega
theorem set_pre {m k : Nat} {S own : St} {o : AObj} (h : S.length = m) : (S ++ own).set (m + k) o = S ++ own.set k o := by
  rw [List.set_append_right _ _ (by omega)]; congr 2; omega
theorem set_pre0 {m : Nat} {S own : St} {o : AObj} (h : S.length = m) : (S ++ own).set m o = S ++ own.set 0 o := by
  rw [List.set_append_right _ _ (by omega)]; congr 2; omega

theorem sel_pre0 {rf : Bool → Nat → Nat → A} {g : Nat → Option Nat} {m : Nat} (hg : ∀ l, l < m → g l = some l) {σ : St} : ∀ (k : Nat) (S : St), k + S.length ≤ m → (∀ i o, S[i]? = some o → σ[k + i]? = some o) → (∀ o ∈ S, o.bnd m = true) → selOk σ rf g (List.range' k S.length) S
  | _, [], _, _, _ => trivial
  | k, o :: S, hk, h, hb => by
    simp only [List.length_cons, List.range'_succ, selOk_cons]
    refine ⟨?_, sel_pre0 hg (k + 1) S (by simp only [List.length_cons] at hk; omega) (fun i o' hi => by have := h (i + 1) o' (by simpa using hi); rwa [show k + 1 + i = k + (i + 1) by omega]) (fun o' ho' => hb o' (List.mem_cons_of_mem _ ho'))⟩
    have := h 0 o (by simp)
    simp only [Nat.add_zero] at this
    rw [this]
    exact .inl (vwO_bnd hg o (hb o (List.mem_cons_self ..))).symm

/-- The first levels, as they are. -/
theorem sel_pre {rf : Bool → Nat → Nat → A} {m : Nat} {S own : St} (h : Cl m S) : selOk (S ++ own) rf (posOf (List.range m)) (List.range m) S := by
  have := sel_pre0 (rf := rf) (g := posOf (List.range m)) (m := m) (fun l hl => posOf_range hl) (σ := S ++ own) 0 S (by rw [h.1]; omega) (fun i o hi => by rw [Nat.zero_add, List.getElem?_append_left (List.getElem?_eq_some_iff.1 hi).1]; exact hi) h.2
  rw [h.1, ← List.range_eq_range'] at this
  exact this

theorem back_range' : ∀ {k j n l : Nat}, l < k → back (List.range' j k) n l = j + l
  | k + 1, j, n, 0, _ => by simp [List.range'_succ]
  | k + 1, j, n, l + 1, h => by
    simp only [List.range'_succ, back_succ]
    rw [back_range' (by omega)]; omega
theorem back_range {k n l : Nat} (h : l < k) : back (List.range k) n l = l := by
  rw [List.range_eq_range', back_range' h]; omega

theorem putAll_pre : ∀ {S' S own : St} (k : Nat) (pre : St), pre.length = k → S'.length = S.length → putAll (pre ++ S ++ own) (List.range' k S.length) S' = pre ++ S' ++ own
  | [], [], own, k, pre, _, _ => by simp
  | o' :: S', o :: S, own, k, pre, hk, hl => by
    simp only [List.length_cons, List.range'_succ, putAll_cons]
    have e : (pre ++ (o :: S) ++ own).set k o' = (pre ++ [o']) ++ S ++ own := by
      subst hk
      simp
    rw [e, putAll_pre (k + 1) (pre ++ [o']) (by simp [hk]) (by simpa using hl)]
    simp
  | [], o :: S, _, _, _, _, hl => by simp at hl
  | _ :: _, [], _, _, _, _, hl => by simp at hl

/-- A call of the yield: the caller's levels come first. -/
theorem callY_pre {b m : Nat} {S S' own : St} {x args : List A} (h : Cl m S) (h' : Cl m S') (hy : CallY P b x S fun o τ => o = .ret (.lit (.bool true)) ∧ τ = S') (ha : argOk (List.range m) args x) {Q : Out → St → Prop} (hq : Q (.ret (.lit (.bool true))) (S' ++ own)) :
    CallY P b args (S ++ own) Q := by
  refine callY_emb hy (List.range m) List.nodup_range (sel_pre h) ha ?_
  have e : S'.map (renO (List.range m) (S ++ own).length) = S' := by
    conv => rhs; rw [← List.map_id S']
    exact List.map_congr_left fun o ho => by
      simp only [renO, id]
      exact vwO_bnd (fun l hl => by rw [back_range hl]) o (h'.2 o ho)
  rw [e]
  have := putAll_pre (own := own) 0 [] rfl (by rw [h.1, h'.1] : S'.length = S.length)
  rw [h.1, ← List.range_eq_range'] at this
  simp only [List.nil_append] at this
  rw [this]
  simpa [ren] using hq

/-! ### freezing a row -/

theorem nxt_frz {H : Mem} {L : List LI} {w : World} (hs : RelSt H L σ w) {l n : Nat} {e : TypeId} {sz : Nat} {cs : List A} {v : Value} (hσ : σ[l]? = some (.row false e sz n cs)) (hv : Rel H L (.row l n) v) :
    ∃ H', Nxt H L w H' L (σ.set l (.row true e sz n cs)) w ∧ Rel H' L (.sl n cs) v := by
  simp only [Rel] at hv
  obtain ⟨_, li, e1, e2, e3, hv⟩ := hv
  have hob := hs.obj l li _ e1 hσ
  simp only [RelObj] at hob
  obtain ⟨_, hln, hcl, hob⟩ := hob
  have hv := hv hln.symm
  rcases hob with ⟨hb, h0⟩ | ⟨b, cur, hb, hh, k1, k2, k3, k4, k5, k6⟩
  · rw [hb] at hv
    subst h0
    have hcs : cs = [] := List.eq_nil_of_length_eq_zero (by simpa using hcl)
    refine ⟨H, ⟨⟨hs.pers, by simp [hs.len], fun i x o hL ho => ?_, hs.inj, hs.lt⟩, Step.refl _ _ _, LLe.refl _, fun _ h => .inl h⟩, ?_⟩
    · by_cases hi : i = l
      · subst hi
        rw [e1] at hL
        cases hL
        rw [List.getElem?_set_self (List.getElem?_eq_some_iff.1 hσ).1] at ho
        cases ho
        simp only [RelObj]
        exact ⟨e2, hln, hcl, .inl ⟨hb, trivial⟩⟩
      · rw [List.getElem?_set_ne (Ne.symm hi)] at ho
        exact hs.obj i x o hL ho
    · simp only [Rel]
      exact ⟨none, 0, hv, Nat.le_refl _, Nat.zero_le _, .inl ⟨trivial, hcs⟩⟩
  · rw [hb] at hv
    have hcell : ∀ (j : Nat) u, (cur.toList.take (n * sz))[j]? = some u → w.cell? ⟨b, j, none⟩ = some u := fun j u hu => by
      rw [cell_of_row w b j cur e (0, 0) hh]
      rw [List.getElem?_take] at hu
      split at hu
      · simpa using hu
      · cases hu
    have hle : HLe H (hAdd H b (cur.toList.take (n * sz))) := fun b' o' v' hv' => by
      simp only [hAdd]
      split
      · rename_i e; subst e; rw [k6] at hv'; cases hv'
      · exact hv'
    have hat : At (hAdd H b (cur.toList.take (n * sz))) b 0 (cur.toList.take (n * sz)) := fun i u hu => by simp [hAdd, hu]
    refine ⟨hAdd H b (cur.toList.take (n * sz)), nxt_set hs e1 hb rfl rfl rfl rfl (fun d => by rw [hh]; simp) rfl (fun _ _ => rfl) hle (fun b' o' v' hv' => ?_) (fun o' v' hv' => ?_) ?_, ?_⟩
    · simp only [hAdd] at hv'
      split at hv'
      · rename_i e; exact .inr e
      · exact .inl hv'
    · simp only [hAdd, if_true] at hv'
      exact hcell _ _ hv'
    · simp only [RelObj]
      refine ⟨e2, hln, hcl, .inr ⟨b, cur, hb, hh, k1, k2, k3, RelL.mono hle (LLe.refl _) _ k4, k5, hat, fun o ho => ?_⟩⟩
      simp only [hAdd, if_true]
      rw [List.getElem?_eq_none]
      simp only [List.length_take]
      omega
    · simp only [Rel]
      exact ⟨_, _, hv, k1, k2, .inr ⟨b, 0, _, rfl, RelL.mono hle (LLe.refl _) _ k4, k5, hat⟩⟩

/-- The yield is handed a row: frozen, for good. -/
theorem callY_frz {b l n : Nat} {e : TypeId} {sz : Nat} {cs : List A} (hσ : σ[l]? = some (.row false e sz n cs)) {Q : Out → St → Prop} (h : CallY P b [.sl n cs] (σ.set l (.row true e sz n cs)) Q) : CallY P b [.row l n] σ Q := by
  intro H L w vs hs hvs
  obtain ⟨v, vs', rfl, h1, h2⟩ := relL_cons_inv hvs
  have := relL_nil_inv h2
  subst this
  obtain ⟨H', hn, hr⟩ := nxt_frz hs hσ h1
  obtain ⟨f, tmps, x, y, k1, k2⟩ := h H' L w [v] hn.st (relL_cons hr relL_nil)
  refine ⟨f, tmps, x, y, k1, k2.mono fun e w' hh => ?_⟩
  obtain ⟨o, σ', H2, L2, g1, g2, g3⟩ := hh
  exact ⟨o, σ', H2, L2, g1, hn.trans g2, g3⟩

/-- .. in a region that draws. -/
theorem exY {b m k n : Nat} {S S' own : St} {e : TypeId} {sz : Nat} {cs : List A} {J : A → St → Prop} (ho : own[k]? = some (.row false e sz n cs)) (h : Cl m S) (h' : Cl m S') (hc : bndL 0 cs = true)
    (hy : CallY P b [.sl n cs] S fun o τ => o = .ret (.lit (.bool true)) ∧ τ = S') (hq : J (.lit (.bool true)) (S' ++ own.set k (.row true e sz n cs))) :
    ∃ r σ', (CallY P b [.row (m + k) n] (S ++ own) fun o τ => o = .ret r ∧ τ = σ') ∧ J r σ' := by
  refine ⟨_, _, callY_frz (by rw [get_pre h.1]; exact ho) ?_, hq⟩
  rw [set_pre h.1]
  exact callY_pre h h' hy (by simp [vwL_bnd (k := 0) (fun l hl => by omega) cs hc]) ⟨rfl, rfl⟩

/-! ### a nil variable becomes a row -/

theorem relSt_obj {H : Mem} {L : List LI} {w : World} (hs : RelSt H L σ w) {l : Nat} {o o' : AObj} (hl : σ[l]? = some o) (h : ∀ li, RelObj H L w li o → RelObj H L w li o') : RelSt H L (σ.set l o') w := by
  refine ⟨hs.pers, by simp [hs.len], fun i x p hL hp => ?_, hs.inj, hs.lt⟩
  by_cases hi : i = l
  · subst hi
    rw [List.getElem?_set_self (List.getElem?_eq_some_iff.1 hl).1] at hp
    cases hp
    exact h x (hs.obj i x o hL hl)
  · rw [List.getElem?_set_ne (Ne.symm hi)] at hp
    exact hs.obj i x p hL hp

theorem weak_nilbox {l o : Nat} {cs : List A} (hl : σ[l]? = some (.box cs)) (hc : cs[o]? = some .nil) (e : TypeId) (sz : Nat) : Weak n0 env (σ.set l (.box (cs.set o (.row σ.length 0))) ++ [AObj.row false e sz 0 []]) env σ := by
  intro H0 L0 w0 H L w N tmps h0 h1 h2
  have hn := nxt_nilrow h1.st e sz
  have hlt : l < σ.length := (List.getElem?_eq_some_iff.1 hl).1
  have hl' : (σ ++ [AObj.row false e sz 0 []])[l]? = some (.box cs) := by rw [List.getElem?_append_left hlt]; exact hl
  have hs := relSt_obj (o' := .box (cs.set o (.row σ.length 0))) hn.st hl' (fun li hob => by
    simp only [RelObj] at hob ⊢
    obtain ⟨g0, b, vs, e', g1, g2, g3, g4, g5⟩ := hob
    obtain ⟨v, hv, hrel⟩ := g3.get hc
    simp only [Rel] at hrel
    subst hrel
    have hset : vs = vs.set o (.slice none 0 0) := by
      apply List.ext_getElem?
      intro i
      by_cases hi : i = o
      · subst hi; rw [List.getElem?_set_self (List.getElem?_eq_some_iff.1 hv).1, hv]
      · rw [List.getElem?_set_ne (Ne.symm hi)]
    refine ⟨g0, b, vs, e', g1, g2, ?_, g4, g5⟩
    rw [hset]
    refine g3.set o ?_
    simp only [Rel]
    exact ⟨rfl, ⟨none, 0, 0, true⟩, by rw [← h1.st.len]; simp, rfl, Nat.le_refl _, fun _ => rfl⟩)
  rw [List.set_append_left _ _ hlt] at hs
  have hm := h1.trans hn
  exact ⟨H, _, ⟨hs, hm.step, hm.lle, hm.own⟩, h2.1, fun x => Rel.mono (HLe.refl _) hn.lle _ (h2.2 x)⟩

/-! ### calls in a region that draws -/

/-- A function that leaves new objects. -/
theorem dcallG0 {K : Env → St → Prop} {f : FuncId} {args args' : List A} {r : A} {σ1 : St} (h : Ret P f args [] r σ1) (ha : argOk [] args' args) (hq : K (env.put d (ren [] σ.length r)) (σ ++ σ1.map (renO [] σ.length))) : wpDcallG P σ d K f args' env :=
  ⟨_, _, Keeps.append _ _, call_emb h [] (by simp) trivial ha ⟨rfl, by simp⟩, hq⟩

/-- .. whose result may be any of several. -/
theorem dcallN {K : Env → St → Prop} {f : FuncId} {args args' : List A} {σ0 : St} {Q0 : Out → St → Prop} (h : CallA P f args σ0 Q0) (js : List Nat) (hd : js.Nodup) (ho : selOk σ anyRow (posOf js) js σ0) (ha : argOk js args' args) (hnp : ∀ v σ1, ¬ Q0 (.pan v) σ1)
    (hq : ∀ r σ1, Q0 (.ret r) σ1 → Keeps σ (putAll σ js (σ1.map (renO js σ.length))) ∧ K (env.put d (ren js σ.length r)) (putAll σ js (σ1.map (renO js σ.length)))) : wpDcallN P σ d K f args' env :=
  call_embG (C := fun vs w R => Calls P f vs.toArray w R) (callA_mono P f) h js hd ho ha hnp fun r σ1 hr => ⟨_, rfl, hq r σ1 hr⟩
/-- A call whose result may be any of several. -/
theorem callN_ {f : FuncId} {args args' : List A} {σ0 : St} {Q0 : Out → St → Prop} {K : Env → St → Prop} {Qp : Value → Env → St → Prop} (h : CallA P f args σ0 Q0) (js : List Nat) (hd : js.Nodup) (ho : selOk σ anyRow (posOf js) js σ0) (ha : argOk js args' args) (hnp : ∀ v σ1, ¬ Q0 (.pan v) σ1)
    (hq : ∀ r σ1, Q0 (.ret r) σ1 → K (env.put d (ren js σ.length r)) (putAll σ js (σ1.map (renO js σ.length)))) : CallA P f args' σ (outK d env K Qp) :=
  call_embG (C := fun vs w R => Calls P f vs.toArray w R) (callA_mono P f) h js hd ho ha hnp fun r σ1 hr => by simpa [outK] using hq r σ1 hr
/-- .. whatever boxes come beside it. -/
theorem dcallH0 {K : Env → St → Prop} {f : FuncId} {args args' : List A} {r : A} {σ1 : St} (h : Ret P f args [] r σ1) (hn : ∀ o ∈ σ1, o ≠ AObj.rsv) (ha : argOk [] args' args) (hq : K (env.put d (ren [] σ.length r)) (σ ++ σ1.map (renO [] σ.length))) : wpDcallH P σ d K f args' env :=
  ⟨_, _, fun o ho => by
    obtain ⟨o', ho', rfl⟩ := List.mem_map.1 ho
    have := hn o' ho'
    cases o' <;> first | (exact (this rfl).elim) | (simp only [renO, vwO]; first | (split <;> simp) | simp), fun τ hl _ => by
    rw [← hl]
    exact call_emb h [] (by simp) trivial ha ⟨rfl, by simp⟩, hq⟩

/-- The end of a walk: the caller's levels alone are kept. -/
theorem ret_pre {m : Nat} {S own : St} {r : A} (h : Cl m S) (hr : r.bnd 0 = true) : RetQ m r S (.ret r) (S ++ own) :=
  ret_keep (List.range m) 0 (fun i hi => by simp [hi]) List.nodup_range (sel_pre h) (.inl (vw_bnd (k := 0) (fun l hl => by omega) r hr).symm)

theorem iter_of_ret {g : FuncId} {first cap : List A} {X : List (List A)} (h : ∀ (b m : Nat) (T : Nat → St), (∀ i, i ≤ X.length → Cl m (T i)) → (∀ i (h : i < X.length), CallY P b X[i] (T i) fun o τ => o = .ret (.lit (.bool true)) ∧ τ = T (i + 1)) →
    Ret P g (first ++ [yv b] ++ cap) (T 0) (.tup []) (T X.length)) : IterA P g first cap X := fun b m T hT hY => CallA.mono (h b m T hT hY) fun _ _ ⟨h1, h2⟩ => ⟨⟨_, h1⟩, h2⟩

end
end Go.Abs
