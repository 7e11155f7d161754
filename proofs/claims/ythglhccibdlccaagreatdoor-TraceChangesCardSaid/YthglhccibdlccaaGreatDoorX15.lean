/-
  A choice of levels is kept; rows that are not kept become persistent.
-/
import Derived.Test.YthglhccibdlccaaGreatDoorX13
set_option linter.unusedVariables false
set_option linter.unusedSimpArgs false
namespace Go.Abs
def cutA (o k c : Nat) : A → A
  | .sl _ cs => if k = 0 then .sl 0 [] else .sl k ((cs.drop o).take c)
  | _ => .any
mutual
def vw (rf : Bool → Nat → Nat → A) (g : Nat → Option Nat) : A → A
  | .ptr l o => match g l with
    | some i => .ptr i o
    | none => rf true l o
  | .row l n => match g l with
    | some i => .row i n
    | none => rf false l n
  | .rwp l n o => match g l with
    | some i => .rwp i n o
    | none => .any
  | .map l => match g l with
    | some i => .map i
    | none => .any
  | .win l n o k c => match g l with
    | some i => .win i n o k c
    | none => cutA o k c (rf false l n)
  | .agg cs => .agg (vwL rf g cs)
  | .tup cs => .tup (vwL rf g cs)
  | .sl n cs => .sl n (vwL rf g cs)
  | .fsl n cs => .fsl n (vwL rf g cs)
  | .rptr cs => .rptr (vwL rf g cs)
  | .clo f a b => .clo f (vwL rf g a) (vwL rf g b)
  | .any => .any
  | .nil => .nil
  | .lit v => .lit v
def vwL (rf : Bool → Nat → Nat → A) (g : Nat → Option Nat) : List A → List A
  | [] => []
  | c :: cs => vw rf g c :: vwL rf g cs
end
def seen (σ : St) (g : Nat → Option Nat) : Nat → Bool → Nat → Nat → A
  | 0, _, _, _ => .any
  | k + 1, false, l, n => match σ[l]? with
    | some (.row _ _ _ m cs) => if n = m then .sl n (vwL (seen σ g k) g cs) else .any
    | _ => .any
  | k + 1, true, l, o => match σ[l]? with
    | some (.box cs) => .rptr ((vwL (seen σ g k) g cs).drop o)
    | _ => .any
def vwO (rf : Bool → Nat → Nat → A) (g : Nat → Option Nat) : AObj → AObj
  | .dead => .dead
  | .box cs => .box (vwL rf g cs)
  | .row fz e sz n cs => .row fz e sz n (vwL rf g cs)
  | .lp b r M es => .lp b r M (es.map fun p => (p.1, vw rf g p.2))
  | .mp fr nk es => .mp fr nk (es.map fun p => (p.1, vw rf g p.2))
  | .it m n met => match g m with
    | some i => .it i n met
    | none => .dead
  | .rsv => .rsv
def nrmO : AObj → AObj
  | .dead => .dead
  | .box cs => .box (nrm0L cs)
  | .row fz e sz n cs => .row fz e sz n (nrm0L cs)
  | .lp b r M es => .lp b r M (es.map fun p => (p.1, nrm0 p.2))
  | .mp fr nk es => .mp fr nk (es.map fun p => (p.1, nrm0 p.2))
  | .it m n met => .it m n met
  | .rsv => .rsv
def posOf : List Nat → Nat → Option Nat
  | [], _ => none
  | k :: ks, l => if l = k then some 0 else (posOf ks l).map (· + 1)
theorem posOf_get : ∀ {ks : List Nat} {l i : Nat}, posOf ks l = some i → ks[i]? = some l
  | [], l, i, h => by simp [posOf] at h
  | k :: ks, l, i, h => by
    simp only [posOf] at h
    split at h
    · cases h; rename_i h; simp [h]
    · simp only [Option.map_eq_some_iff] at h
      obtain ⟨j, hj, rfl⟩ := h
      simpa using posOf_get hj
theorem posOf_none : ∀ {ks : List Nat} {l : Nat}, posOf ks l = none → l ∉ ks
  | [], l, _ => by simp
  | k :: ks, l, h => by
    simp only [posOf] at h
    split at h
    · cases h
    · rename_i hne
      simp only [Option.map_eq_none_iff] at h
      simp [hne, posOf_none h]
section
variable {P : Program} {H H' : Mem} {L L' : List LI} {σ : St} {w : World}
theorem nodup_inj : ∀ {ks : List Nat} {i j x : Nat}, ks.Nodup → ks[i]? = some x → ks[j]? = some x → i = j
  | [], i, j, x, _, h, _ => by simp at h
  | k :: ks, i, j, x, hd, h1, h2 => by
    rw [List.nodup_cons] at hd
    cases i with
    | zero =>
      cases j with
      | zero => rfl
      | succ j =>
        simp only [List.getElem?_cons_zero, List.getElem?_cons_succ, Option.some.injEq] at h1 h2
        subst h1
        exact (hd.1 (List.mem_of_getElem? h2)).elim
    | succ i =>
      cases j with
      | zero =>
        simp only [List.getElem?_cons_zero, List.getElem?_cons_succ, Option.some.injEq] at h1 h2
        subst h2
        exact (hd.1 (List.mem_of_getElem? h1)).elim
      | succ j =>
        simp only [List.getElem?_cons_succ] at h1 h2
        rw [nodup_inj hd.2 h1 h2]
mutual
theorem Rel.vw {rf : Bool → Nat → Nat → A} {g : Nat → Option Nat} (hh : HLe H H') (hg : ∀ l i, g l = some i → L'[i]? = L[l]?) (hr : ∀ l n v, g l = none → Rel H L (.row l n) v → Rel H' L' (rf false l n) v) (hp : ∀ l n v, g l = none → Rel H L (.ptr l n) v → Rel H' L' (rf true l n) v) :
    ∀ (a : A) {v : Value}, Rel H L a v → Rel H' L' (vw rf g a) v
  | .ptr l o, v, h => by
    simp only [Abs.vw]
    split
    · rename_i i hi
      simp only [Rel] at h ⊢
      rw [hg l i hi]
      exact h
    · rename_i hi
      exact hp l o v hi h
  | .row l n, v, h => by
    simp only [Abs.vw]
    split
    · rename_i i hi
      simp only [Rel] at h ⊢
      rw [hg l i hi]
      exact h
    · rename_i hi
      exact hr l n v hi h
  | .rwp l n o, v, h => by
    simp only [Abs.vw]
    split
    · rename_i i hi
      simp only [Rel] at h ⊢
      rw [hg l i hi]
      exact h
    · simp [Rel]
  | .map l, v, h => by
    simp only [Abs.vw]
    split
    · rename_i i hi
      simp only [Rel] at h ⊢
      rw [hg l i hi]
      exact h
    · simp [Rel]
  | .win l n o k c, v, h => by
    simp only [Abs.vw]
    split
    · rename_i i hi
      simp only [Rel] at h ⊢
      rw [hg l i hi]
      exact h
    · rename_i hi
      simp only [Rel] at h
      obtain ⟨h0, li, e, h1, h2, h3⟩ := h
      by_cases hn : n = li.len
      · obtain ⟨g0, ad, cap, rfl, g1, g2, g3⟩ := h3 hn
        have h4 := hr l n (match li.block with | none => .slice none 0 0 | some b => .slice (some ⟨b, 0, none⟩) n li.cap) hi (by
          simp only [Rel]
          exact ⟨by split <;> rfl, li, e, h1, h2, fun _ => rfl⟩)
        generalize rf false l n = x at h4
        cases x <;> simp only [cutA] <;> try (simp only [Rel]; done)
        rename_i n' cs
        split
        · rename_i hk
          subst hk
          simp only [Rel]
          exact ⟨ad, cap, rfl, Nat.zero_le _, g2, .inl (by simp)⟩
        · rename_i hk
          rcases g3 with g3 | ⟨b, g3, rfl⟩
          · exact (hk g3).elim
          · simp only [g3, Rel] at h4 ⊢
            obtain ⟨a', cap', k1, k2, k3, k4⟩ := h4
            simp only [Value.slice.injEq] at k1
            obtain ⟨rfl, rfl, rfl⟩ := k1
            refine ⟨_, cap, rfl, g1, g2, ?_⟩
            rcases k4 with ⟨rfl, rfl⟩ | ⟨b', o', us, k5, k6, k7, k8⟩
            · omega
            · cases k5
              refine .inr ⟨b, o, _, rfl, (k6.drop o).take c, mem_take_drop k7, ?_⟩
              have := (k8.drop o).take c
              rwa [Nat.zero_add] at this
      · have h4 := hr l n (.bool true) hi (by
          simp only [Rel]
          exact ⟨rfl, li, e, h1, h2, fun e => (hn e).elim⟩)
        generalize rf false l n = x at h4
        cases x <;> simp only [cutA] <;> try (simp only [Rel]; done)
        simp only [Rel] at h4
        obtain ⟨_, _, h4, _⟩ := h4
        cases h4
  | .agg cs, v, h => by
    simp only [Rel, Abs.vw] at h ⊢
    obtain ⟨vs, rfl, h1, h2⟩ := h
    exact ⟨vs, rfl, RelL.vw hh hg hr hp cs h1, h2⟩
  | .tup cs, v, h => by
    simp only [Rel, Abs.vw] at h ⊢
    obtain ⟨vs, rfl, h1⟩ := h
    exact ⟨vs, rfl, RelL.vw hh hg hr hp cs h1⟩
  | .sl n cs, v, h => by
    simp only [Rel, Abs.vw] at h ⊢
    obtain ⟨a, cap, rfl, h1, h2, h3⟩ := h
    refine ⟨a, cap, rfl, h1, h2, ?_⟩
    rcases h3 with ⟨h3, rfl⟩ | ⟨b, o, us, rfl, h4, h5, h6⟩
    · exact .inl ⟨h3, by simp [vwL]⟩
    · exact .inr ⟨b, o, us, rfl, RelL.vw hh hg hr hp cs h4, h5, h6.mono hh⟩
  | .fsl n cs, v, h => by
    simp only [Rel, Abs.vw] at h ⊢
    obtain ⟨a, rfl, h1, h3⟩ := h
    refine ⟨a, rfl, h1, ?_⟩
    rcases h3 with ⟨h3, rfl⟩ | ⟨b, o, us, rfl, h4, h5, h6⟩
    · exact .inl ⟨h3, by simp [vwL]⟩
    · exact .inr ⟨b, o, us, rfl, RelL.vw hh hg hr hp cs h4, h5, h6.mono hh⟩
  | .rptr cs, v, h => by
    simp only [Rel, Abs.vw] at h ⊢
    obtain ⟨b, o, us, rfl, h4, h5, h6⟩ := h
    exact ⟨b, o, us, rfl, RelL.vw hh hg hr hp cs h4, h5, h6.mono hh⟩
  | .clo f first cap, v, h => by
    simp only [Rel, Abs.vw] at h ⊢
    obtain ⟨fs, cs, rfl, h1, h2⟩ := h
    exact ⟨fs, cs, rfl, RelL.vw hh hg hr hp first h1, RelL.vw hh hg hr hp cap h2⟩
  | .any, _, _ => by simp [Rel, Abs.vw]
  | .nil, _, h => by simpa [Rel, Abs.vw] using h
  | .lit _, _, h => by simpa [Rel, Abs.vw] using h
theorem RelL.vw {rf : Bool → Nat → Nat → A} {g : Nat → Option Nat} (hh : HLe H H') (hg : ∀ l i, g l = some i → L'[i]? = L[l]?) (hr : ∀ l n v, g l = none → Rel H L (.row l n) v → Rel H' L' (rf false l n) v) (hp : ∀ l n v, g l = none → Rel H L (.ptr l n) v → Rel H' L' (rf true l n) v) :
    ∀ (cs : List A) {vs : List Value}, RelL H L cs vs → RelL H' L' (vwL rf g cs) vs
  | [], vs, h => by simpa [RelL, vwL] using h
  | c :: cs, vs, h => by
    simp only [RelL, vwL] at h ⊢
    obtain ⟨u, us, rfl, h1, h2⟩ := h
    exact ⟨u, us, rfl, Rel.vw hh hg hr hp c h1, RelL.vw hh hg hr hp cs h2⟩
end
def AObj.held : AObj → Nat
  | .row _ _ sz n _ => n * sz
  | .box cs => cs.length
  | _ => 0
def inRowX (g : Nat → Option Nat) (L : List LI) (σ : St) (b o : Nat) : Prop :=
  ∃ (i : Nat) (li : LI) (ob : AObj), g i = none ∧ L[i]? = some li ∧ σ[i]? = some ob ∧ li.block = some b ∧ o < ob.held
open Classical in
noncomputable def hSel (g : Nat → Option Nat) (H : Mem) (L : List LI) (σ : St) (w : World) : Mem := fun b o => match H b o with
  | some v => some v
  | none => if inRowX g L σ b o then w.cell? ⟨b, o, none⟩ else none
theorem hSel_le {g : Nat → Option Nat} : HLe H (hSel g H L σ w) := fun b o v h => by simp [hSel, h]
theorem hSel_inv {g : Nat → Option Nat} {b o : Nat} {v : Value} (h : hSel g H L σ w b o = some v) : H b o = some v ∨ (inRowX g L σ b o ∧ w.cell? ⟨b, o, none⟩ = some v) := by
  unfold hSel at h
  split at h
  · rename_i u hu; cases h; exact .inl hu
  · split at h
    · rename_i hr; exact .inr ⟨hr, h⟩
    · cases h
theorem hSel_new {g : Nat → Option Nat} (hs : RelSt H L σ w) {b o : Nat} {v : Value} (hx : inRowX g L σ b o) (hc : w.cell? ⟨b, o, none⟩ = some v) : hSel g H L σ w b o = some v := by
  unfold hSel
  split
  · rename_i x hx
    have := hs.pers b o x hx
    rw [hc] at this
    exact this.symm
  · rw [if_pos hx]
    exact hc
theorem Rel.seen {g : Nat → Option Nat} (hs : RelSt H L σ w) (hg : ∀ l i, g l = some i → L'[i]? = L[l]?) :
    ∀ (k : Nat), (∀ (l n : Nat) (v : Value), g l = none → Rel H L (.row l n) v → Rel (hSel g H L σ w) L' (seen σ g k false l n) v) ∧ ∀ (l n : Nat) (v : Value), g l = none → Rel H L (.ptr l n) v → Rel (hSel g H L σ w) L' (seen σ g k true l n) v
  | 0 => ⟨fun l n v _ _ => by simp [Abs.seen, Rel], fun l n v _ _ => by simp [Abs.seen, Rel]⟩
  | k + 1 => by
    obtain ⟨ih1, ih2⟩ := Rel.seen hs hg k
    refine ⟨fun l n v hl h => ?_, fun l n v hl h => ?_⟩
    · simp only [Abs.seen]
      split
      · rename_i fz e sz m cs hσ
        split
        · rename_i hn
          subst hn
          simp only [Rel] at h ⊢
          obtain ⟨_, li, e1, e2, e3, hv⟩ := h
          have hob := hs.obj l li _ e1 hσ
          simp only [RelObj] at hob
          obtain ⟨_, g1, g2, hob⟩ := hob
          have hv := hv g1.symm
          rcases hob with ⟨hb, h0⟩ | ⟨b, cur, hb, k1, k2, k3, k4, k5, k6, k7⟩
          · rw [hb] at hv
            subst h0
            have hcs : cs = [] := List.eq_nil_of_length_eq_zero (by simpa using g2)
            exact ⟨none, 0, hv, Nat.le_refl _, Nat.zero_le _, .inl ⟨rfl, by simp [hcs, vwL]⟩⟩
          · rw [hb] at hv
            refine ⟨_, _, hv, k2, k3, .inr ⟨b, 0, _, rfl, RelL.vw hSel_le hg ih1 ih2 cs k5, k6, fun j u hu => ?_⟩⟩
            have hj : j < n * sz := by
              rw [List.getElem?_take] at hu
              split at hu
              · assumption
              · cases hu
            have hc : w.cell? ⟨b, j, none⟩ = some u := by
              rw [cell_of_row w b j cur e (0, 0) k1]
              rw [List.getElem?_take, if_pos hj] at hu
              simpa using hu
            simp only [Nat.zero_add]
            exact hSel_new hs ⟨l, li, _, hl, e1, hσ, hb, hj⟩ hc
        · simp [Rel]
      · simp [Rel]
    · simp only [Abs.seen]
      split
      · rename_i cs hσ
        simp only [Rel] at h ⊢
        obtain ⟨li, b, e1, e2, e3, hv⟩ := h
        have hob := hs.obj l li _ e1 hσ
        simp only [RelObj] at hob
        obtain ⟨_, b', vs, e, hb', hh, hr, h1, _⟩ := hob
        rw [e2] at hb'
        cases hb'
        refine ⟨b, n, vs.drop n, hv, (RelL.vw hSel_le hg ih1 ih2 cs hr).drop n, fun u hu => h1 u (List.mem_of_mem_drop hu), fun j u hu => ?_⟩
        rw [List.getElem?_drop] at hu
        have hlt : n + j < cs.length := by
          rw [← hr.length]
          exact (List.getElem?_eq_some_iff.1 hu).1
        refine hSel_new hs ⟨l, li, _, hl, e1, hσ, e2, hlt⟩ ?_
        rw [cell_of_row w b _ _ e (0, 0) hh]
        simpa using hu
      · simp [Rel]
def selOk (σ : St) (rf : Bool → Nat → Nat → A) (g : Nat → Option Nat) : List Nat → St → Prop
  | [], [] => True
  | j :: js, o' :: os => (match σ[j]? with
    | some o => o' = vwO rf g o ∨ o' = nrmO (vwO rf g o)
    | none => False) ∧ selOk σ rf g js os
  | _, _ => False
theorem selOk_len {rf : Bool → Nat → Nat → A} {g : Nat → Option Nat} : ∀ {ks : List Nat} {σ' : St}, selOk σ rf g ks σ' → σ'.length = ks.length
  | [], [], _ => rfl
  | _ :: _, _ :: _, h => by simp [selOk_len h.2]
theorem selOk_get {rf : Bool → Nat → Nat → A} {g : Nat → Option Nat} : ∀ {ks : List Nat} {σ' : St}, selOk σ rf g ks σ' → ∀ {i j : Nat} {o' : AObj}, ks[i]? = some j → σ'[i]? = some o' → ∃ o, σ[j]? = some o ∧ (o' = vwO rf g o ∨ o' = nrmO (vwO rf g o))
  | [], [], _, i, j, o', h, _ => by simp at h
  | k :: ks, p :: σ', h, i, j, o', h1, h2 => by
    cases i with
    | zero =>
      simp only [List.getElem?_cons_zero, Option.some.injEq] at h1 h2
      subst h1; subst h2
      have := h.1
      split at this
      · rename_i o ho; exact ⟨o, ho, this⟩
      · exact this.elim
    | succ i =>
      simp only [List.getElem?_cons_succ] at h1 h2
      exact selOk_get h.2 h1 h2
theorem RelObj.nrm {li : LI} {o : AObj} (h : RelObj H L w li o) : RelObj H L w li (nrmO o) := by
  cases o with
  | dead => trivial
  | box cs =>
    simp only [RelObj, nrmO] at h ⊢
    obtain ⟨h0, b, vs, e, h1, h2, h3, h4, h5⟩ := h
    exact ⟨h0, b, vs, e, h1, h2, RelL.nrm0 _ h3, h4, h5⟩
  | row fz e sz n cs =>
    simp only [RelObj, nrmO] at h ⊢
    obtain ⟨h0, h1, h2, h3⟩ := h
    have hl : ∀ cs : List A, (nrm0L cs).length = cs.length := fun cs => by induction cs with
      | nil => rfl
      | cons c cs ih => simp [nrm0L, ih]
    refine ⟨h0, h1, by rw [hl]; exact h2, ?_⟩
    rcases h3 with h3 | ⟨b, cur, g1, g2, g3, g4, g5, g6, g7, g8⟩
    · exact .inl h3
    · exact .inr ⟨b, cur, g1, g2, g3, g4, g5, RelL.nrm0 _ g6, g7, g8⟩
  | lp b r M es =>
    simp only [RelObj, nrmO] at h ⊢
    obtain ⟨h0, h1, tmps, h2, h3, h4⟩ := h
    exact ⟨h0, h1, tmps, h2, h3, h4.map _ fun a v ha => Rel.nrm0 a ha⟩
  | mp fr nk es =>
    simp only [RelObj, nrmO] at h ⊢
    obtain ⟨h0, b, ents, ck, h1, h2, h3, h4⟩ := h
    exact ⟨h0, b, ents, ck, h1, h2, RelMp.map _ (fun p _ v hv => Rel.nrm0 _ hv) h3, h4.1, lens_map h4.2⟩
  | it m n met => exact h
  | rsv => exact h
theorem vwL_length {rf : Bool → Nat → Nat → A} {g : Nat → Option Nat} : ∀ {cs : List A}, (vwL rf g cs).length = cs.length
  | [] => rfl
  | c :: cs => by simp [vwL, vwL_length]
theorem nxt_sel {H0 : Mem} {L0 : List LI} {w0 : World} (ks : List Nat) (fuel : Nat) {σ' : St} (hk : ∀ i, i < L0.length → ks[i]? = some i) (hd : ks.Nodup)
    (ho : selOk σ (Abs.seen σ (posOf ks) fuel) (posOf ks) ks σ') (h : Nxt H0 L0 w0 H L σ w) :
    ∃ H' L', Nxt H0 L0 w0 H' L' σ' w ∧ HLe H H' ∧ ∀ a v, Rel H L a v → Rel H' L' (Abs.vw (Abs.seen σ (posOf ks) fuel) (posOf ks) a) v := by
  have hs := h.st
  let g := posOf ks
  let L' : List LI := ks.map fun k => L.getD k ⟨none, 0, 0, false⟩
  have hin : ∀ (i j : Nat), ks[i]? = some j → ∃ li, L[j]? = some li ∧ L'[i]? = some li := by
    intro i j hij
    have hi : i < σ'.length := by rw [selOk_len ho]; exact (List.getElem?_eq_some_iff.1 hij).1
    obtain ⟨o, hσ, _⟩ := selOk_get ho hij (List.getElem?_eq_getElem hi)
    have hj : j < L.length := by rw [hs.len]; exact (List.getElem?_eq_some_iff.1 hσ).1
    refine ⟨L[j], List.getElem?_eq_getElem hj, ?_⟩
    simp [L', hij, hj]
  have hback : ∀ {i : Nat} {li : LI}, L'[i]? = some li → ∃ j, ks[i]? = some j ∧ L[j]? = some li := by
    intro i li hi
    have hi' : i < ks.length := by simpa [L'] using (List.getElem?_eq_some_iff.1 hi).1
    obtain ⟨li', h1, h2⟩ := hin i ks[i] (List.getElem?_eq_getElem hi')
    rw [hi] at h2
    cases h2
    exact ⟨_, List.getElem?_eq_getElem hi', h1⟩
  have hg : ∀ l i, g l = some i → L'[i]? = L[l]? := by
    intro l i hl
    obtain ⟨li, h1, h2⟩ := hin i l (posOf_get hl)
    rw [h1, h2]
  have hrel : ∀ a v, Rel H L a v → Rel (hSel g H L σ w) L' (Abs.vw (Abs.seen σ g fuel) g a) v := fun a v ha => Rel.vw hSel_le hg (Rel.seen hs hg fuel).1 (Rel.seen hs hg fuel).2 a ha
  have hrelL : ∀ cs vs, RelL H L cs vs → RelL (hSel g H L σ w) L' (vwL (Abs.seen σ g fuel) g cs) vs := fun a v ha => RelL.vw hSel_le hg (Rel.seen hs hg fuel).1 (Rel.seen hs hg fuel).2 a ha
  -- a kept block has nothing new in it
  have hkeep : ∀ (j : Nat) (li : LI) (b : Nat), j ∈ ks → L[j]? = some li → li.block = some b → ∀ o, hSel g H L σ w b o = H b o := by
    intro j li b hj hL hb o
    unfold hSel
    cases hH : H b o with
    | some v => rfl
    | none =>
      simp only
      rw [if_neg]
      rintro ⟨i, li', ob, g1, g2, g3, g4, g5⟩
      have := hs.inj i j li' li b g2 hL g4 hb
      subst this
      exact posOf_none g1 hj
  refine ⟨hSel g H L σ w, L', ⟨⟨fun b o v hv => (hSel_inv hv).elim (hs.pers b o v) fun h => h.2, by simp [L', selOk_len ho], fun i li o hL hσ => ?_, fun i j x y b hi hj hx hy => ?_, fun i li b hi hb => ?_⟩,
    ⟨h.step.os, h.step.tape, h.step.output, h.step.size, h.step.keep, h.step.hle.trans hSel_le, fun b o v hv => ?_, h.step.drawn, h.step.dfr⟩, fun i x hx => ?_, fun b ⟨i, x, hi, hx⟩ => ?_⟩, hSel_le, hrel⟩
  · obtain ⟨j, hj, hLj⟩ := hback hL
    obtain ⟨o0, hσ0, heq⟩ := selOk_get ho hj hσ
    have hob := hs.obj j li o0 hLj hσ0
    have hjm : j ∈ ks := List.mem_of_getElem? hj
    have key : RelObj (hSel g H L σ w) L' w li (vwO (Abs.seen σ g fuel) g o0) := by
      cases o0 with
      | dead => trivial
      | box cs =>
        simp only [RelObj, vwO] at hob ⊢
        obtain ⟨h0, b, vs, e, h1, h2, h3, h4, h5⟩ := hob
        exact ⟨h0, b, vs, e, h1, h2, hrelL _ _ h3, h4, fun o => by rw [hkeep j li b hjm hLj h1]; exact h5 o⟩
      | row fz e sz n cs =>
        simp only [RelObj, vwO] at hob ⊢
        obtain ⟨h0, h1, h2, h3⟩ := hob
        refine ⟨h0, h1, by rw [vwL_length]; exact h2, ?_⟩
        rcases h3 with h3 | ⟨b, cur, g1, g2, g3, g4, g5, g6, g7, g8⟩
        · exact .inl h3
        · refine .inr ⟨b, cur, g1, g2, g3, g4, g5, hrelL _ _ g6, g7, ?_⟩
          cases fz with
          | false => exact fun o => by rw [hkeep j li b hjm hLj g1]; exact g8 o
          | true => exact ⟨g8.1.mono hSel_le, fun o ho => by rw [hkeep j li b hjm hLj g1]; exact g8.2 o ho⟩
      | lp b r M es =>
        simp only [RelObj, vwO] at hob ⊢
        obtain ⟨h0, h1, tmps, h2, h3, h4⟩ := hob
        exact ⟨h0, h1, tmps, h2, h3, h4.map _ hrel⟩
      | mp fr nk es =>
        simp only [RelObj, vwO] at hob ⊢
        obtain ⟨h0, b, ents, ck, h1, h2, h3, h4⟩ := hob
        exact ⟨h0, b, ents, ck, h1, h2, RelMp.map _ (fun p _ v hv => hrel _ _ hv) h3, h4.1, lens_map h4.2⟩
      | it m n met =>
        simp only [vwO]
        split
        · rename_i i0 hi0
          simp only [RelObj] at hob ⊢
          obtain ⟨h0, b, mb, lm, h1, h2, h3, h4, h5⟩ := hob
          have hp : Rel H L (.ptr m 0) (.pointer (some ⟨mb, 0, none⟩)) := by simp only [Rel]; exact ⟨lm, mb, h2, h3, h4, rfl⟩
          have hp := hrel _ _ hp
          simp only [Abs.vw, hi0, Rel] at hp
          obtain ⟨lm', mb', k2, k3, k4, k5⟩ := hp
          cases k5
          exact ⟨h0, b, mb, lm', h1, k2, k3, k4, h5⟩
        · trivial
      | rsv => exact hob
    rcases heq with rfl | rfl
    · exact key
    · exact key.nrm
  · obtain ⟨i', hi', hLi⟩ := hback hi
    obtain ⟨j', hj', hLj⟩ := hback hj
    have := hs.inj i' j' x y b hLi hLj hx hy
    subst this
    have hi1 := (List.getElem?_eq_some_iff.1 hi').1
    have hj1 := (List.getElem?_eq_some_iff.1 hj').1
    exact nodup_inj hd hi' hj'
  · obtain ⟨j, _, hLj⟩ := hback hi
    exact hs.lt j li b hLj hb
  · rcases hSel_inv hv with h1 | ⟨⟨i, li, _, _, hL, _, hb, _⟩, _⟩
    · exact h.step.hnew b o v h1
    · exact .inr (h.own b ⟨i, li, hL, hb⟩)
  · obtain ⟨x', hx', hr⟩ := h.lle i x hx
    have hi : i < L0.length := (List.getElem?_eq_some_iff.1 hx).1
    obtain ⟨li, h1, h2⟩ := hin i i (hk i hi)
    rw [hx'] at h1
    cases h1
    exact ⟨_, h2, hr⟩
  · obtain ⟨j, _, hLj⟩ := hback hi
    exact h.own b ⟨j, x, hLj, hx⟩
theorem Weak.sel {n0 : Nat} {env : Env} (ks : List Nat) (fuel : Nat) (l : List (Nat × A)) {σ' : St} (hk : ∀ i, i < n0 → ks[i]? = some i) (hd : ks.Nodup) (ho : selOk σ (Abs.seen σ (posOf ks) fuel) (posOf ks) ks σ')
    (hl : ∀ p ∈ l, p.2 = Abs.vw (Abs.seen σ (posOf ks) fuel) (posOf ks) (env p.1) ∨ p.2 = nrm0 (Abs.vw (Abs.seen σ (posOf ks) fuel) (posOf ks) (env p.1))) : Weak n0 (mkEnv l) σ' env σ := by
  intro H0 L0 w0 H L w N tmps h0 h1 h2
  subst h0
  obtain ⟨H', L', g1, _, g3⟩ := nxt_sel ks fuel hk hd ho h1
  refine ⟨H', L', g1, h2.1, fun t => ?_⟩
  rcases mkEnv_mem l t with h | h
  · rw [h]; simp [Rel]
  · have := g3 _ _ (h2.2 t)
    rcases hl _ h with e | e
    · simp only at e; rw [e]; exact this
    · simp only at e; rw [e]; exact Rel.nrm0 _ this
end
end Go.Abs
