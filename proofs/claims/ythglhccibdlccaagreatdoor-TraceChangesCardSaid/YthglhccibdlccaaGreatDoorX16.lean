/-
  Contracts of functions that work on some objects, and how a call meets them in any state.
-/
import Derived.Test.YthglhccibdlccaaGreatDoorX15
set_option linter.unusedVariables false
set_option linter.unusedSimpArgs false
namespace Go.Abs
def Ret (P : Program) (f : FuncId) (args : List A) (σ0 : St) (r : A) (σ1 : St) : Prop := CallA P f args σ0 fun o σ' => o = .ret r ∧ σ' = σ1
def anyRow : Bool → Nat → Nat → A := fun _ _ _ => .any
def putAll {α : Type} : List α → List Nat → List α → List α
  | s, [], t => s ++ t
  | s, j :: js, o :: os => putAll (s.set j o) js os
  | s, _ :: _, [] => s
theorem putAll_length {α : Type} : ∀ {js : List Nat} {s t : List α}, js.length ≤ t.length → (putAll s js t).length = s.length + (t.length - js.length)
  | [], s, t, _ => by simp [putAll]
  | j :: js, s, [], h => by simp at h
  | j :: js, s, o :: os, h => by
    simp only [putAll, List.length_cons] at h ⊢
    rw [putAll_length (by omega)]
    simp
theorem putAll_old {α : Type} : ∀ {js : List Nat} {s t : List α} {x : Nat}, js.length ≤ t.length → x < s.length → x ∉ js → (putAll s js t)[x]? = s[x]?
  | [], s, t, x, _, hx, _ => by simp [putAll, List.getElem?_append_left hx]
  | j :: js, s, [], x, h, _, _ => by simp at h
  | j :: js, s, o :: os, x, h, hx, hn => by
    simp only [putAll, List.length_cons, List.mem_cons, not_or] at h hn ⊢
    rw [putAll_old (by omega) (by simpa using hx) hn.2, List.getElem?_set_ne (Ne.symm hn.1)]
theorem putAll_in {α : Type} : ∀ {js : List Nat} {s t : List α} {i x : Nat}, js.length ≤ t.length → js.Nodup → (∀ y ∈ js, y < s.length) → js[i]? = some x → (putAll s js t)[x]? = t[i]?
  | [], s, t, i, x, _, _, _, h => by simp at h
  | j :: js, s, [], i, x, h, _, _, _ => by simp at h
  | j :: js, s, o :: os, i, x, h, hd, hb, hi => by
    rw [List.nodup_cons] at hd
    simp only [putAll, List.length_cons] at h ⊢
    cases i with
    | zero =>
      simp only [List.getElem?_cons_zero, Option.some.injEq] at hi
      subst hi
      have hj := hb j (List.mem_cons_self ..)
      rw [putAll_old (by omega) (by simpa using hj) hd.1, List.getElem?_set_self hj]
      rfl
    | succ i =>
      simp only [List.getElem?_cons_succ] at hi ⊢
      exact putAll_in (by omega) hd.2 (fun y hy => by simpa using hb y (List.mem_cons_of_mem _ hy)) hi
theorem putAll_new {α : Type} : ∀ {js : List Nat} {s t : List α} {k : Nat}, js.length ≤ t.length → (putAll s js t)[s.length + k]? = t[js.length + k]?
  | [], s, t, k, _ => by
    simp only [putAll, List.length_nil, Nat.zero_add]
    rw [List.getElem?_append_right (by omega), Nat.add_sub_cancel_left]
  | j :: js, s, [], k, h => by simp at h
  | j :: js, s, o :: os, k, h => by
    simp only [putAll, List.length_cons] at h ⊢
    have := putAll_new (js := js) (s := s.set j o) (t := os) (k := k) (by omega)
    rw [List.length_set] at this
    rw [this]
    have e : js.length + 1 + k = js.length + k + 1 := by omega
    rw [e, List.getElem?_cons_succ]
def back (js : List Nat) (n l : Nat) : Nat := match js, l with
  | [], l => n + l
  | j :: _, 0 => j
  | _ :: js, l + 1 => back js n l
theorem back_in : ∀ {js : List Nat} {n i x : Nat}, js[i]? = some x → back js n i = x
  | [], n, i, x, h => by simp at h
  | j :: js, n, 0, x, h => by simpa [back] using h
  | j :: js, n, i + 1, x, h => by simp only [back]; exact back_in (by simpa using h)
theorem back_new : ∀ {js : List Nat} {n k : Nat}, back js n (js.length + k) = n + k
  | [], n, k => by simp [back]
  | j :: js, n, k => by
    have e : (j :: js).length + k = js.length + k + 1 := by simp; omega
    rw [e]
    simp only [back]
    exact back_new
def ren (js : List Nat) (n : Nat) (a : A) : A := vw anyRow (fun l => some (back js n l)) a
def renL (js : List Nat) (n : Nat) (cs : List A) : List A := vwL anyRow (fun l => some (back js n l)) cs
def renO (js : List Nat) (n : Nat) (o : AObj) : AObj := vwO anyRow (fun l => some (back js n l)) o
def argOk (js : List Nat) : List A → List A → Prop
  | [], [] => True
  | a' :: as', a :: as => (a = vw anyRow (posOf js) a' ∨ a = nrm0 (vw anyRow (posOf js) a')) ∧ argOk js as' as
  | _, _ => False
section
variable {P : Program} {H H' : Mem} {L L' : List LI} {σ : St} {w : World}
theorem RelObj.vw {H' : Mem} {L' : List LI} {w' : World} {rf : Bool → Nat → Nat → A} {g : Nat → Option Nat} {li : LI} {o : AObj} (h : RelObj H L w li o) (hrel : ∀ cs vs, RelL H L cs vs → RelL H' L' (vwL rf g cs) vs)
    (hw : ∀ b, li.block = some b → w'.heap[b]? = w.heap[b]?) (hh : HLe H H') (hb : ∀ b, li.block = some b → ∀ o, H' b o = H b o) : RelObj H' L' w' li (vwO rf g o) := by
  cases o with
  | dead => trivial
  | box cs =>
    simp only [RelObj, vwO] at h ⊢
    obtain ⟨h0, b, vs, e, h1, h2, h3, h4, h5⟩ := h
    exact ⟨h0, b, vs, e, h1, by rw [hw b h1]; exact h2, hrel _ _ h3, h4, fun o => by rw [hb b h1]; exact h5 o⟩
  | row fz e sz n cs =>
    simp only [RelObj, vwO] at h ⊢
    obtain ⟨h0, h1, h2, h3⟩ := h
    refine ⟨h0, h1, by rw [vwL_length]; exact h2, ?_⟩
    rcases h3 with h3 | ⟨b, cur, g1, g2, g3, g4, g5, g6, g7, g8⟩
    · exact .inl h3
    · refine .inr ⟨b, cur, g1, by rw [hw b g1]; exact g2, g3, g4, g5, hrel _ _ g6, g7, ?_⟩
      cases fz with
      | false => exact fun o => by rw [hb b g1]; exact g8 o
      | true => exact ⟨g8.1.mono hh, fun o ho => by rw [hb b g1]; exact g8.2 o ho⟩
  | lp b r M es =>
    simp only [RelObj, vwO] at h ⊢
    obtain ⟨h0, h1, tmps, h2, h3, h4⟩ := h
    exact ⟨h0, h1, tmps, by rw [hw b h1]; exact h2, h3, h4.map _ fun a v ha => by
      have := hrel [a] [v] (relL_cons ha relL_nil)
      simp only [vwL] at this
      obtain ⟨u, us, k1, k2, _⟩ := relL_cons_inv this
      cases k1
      exact k2⟩
  | mp fr nk es =>
    simp only [RelObj, vwO] at h ⊢
    obtain ⟨h0, b, ents, ck, h1, h2, h3, h4⟩ := h
    refine ⟨h0, b, ents, ck, h1, by rw [hw b h1]; exact h2, RelMp.map _ (fun p _ v ha => ?_) h3, h4.1, lens_map h4.2⟩
    have := hrel [p.2] [v] (relL_cons ha relL_nil)
    simp only [vwL] at this
    obtain ⟨u, us, k1, k2, _⟩ := relL_cons_inv this
    cases k1
    exact k2
  | it m n met =>
    simp only [vwO]
    split
    · rename_i i0 hi0
      simp only [RelObj] at h ⊢
      obtain ⟨h0, b, mb, lm, h1, h2, h3, h4, h5⟩ := h
      have hp : Rel H L (.ptr m 0) (.pointer (some ⟨mb, 0, none⟩)) := by simp only [Rel]; exact ⟨lm, mb, h2, h3, h4, rfl⟩
      have := hrel [_] [_] (relL_cons hp relL_nil)
      simp only [vwL, Abs.vw, hi0] at this
      obtain ⟨u, us, k1, k2, _⟩ := relL_cons_inv this
      cases k1
      simp only [Rel] at k2
      obtain ⟨lm', mb', g2, g3, g4, g5⟩ := k2
      cases g5
      exact ⟨h0, b, mb, lm', h1, g2, g3, g4, by rw [hw b h1]; exact h5⟩
    · trivial
  | rsv => exact h
theorem rel_sub {js : List Nat} {σ0 : St} (hs : RelSt H L σ w) (hd : js.Nodup) (ho : selOk σ anyRow (posOf js) js σ0) :
    ∃ L0 : List LI, L0.length = js.length ∧ (∀ i j : Nat, js[i]? = some j → ∃ li, L[j]? = some li ∧ L0[i]? = some li) ∧ RelSt H L0 σ0 w ∧ ∀ a v, Rel H L a v → Rel H L0 (Abs.vw anyRow (posOf js) a) v := by
  let L0 : List LI := js.map fun k => L.getD k ⟨none, 0, 0, false⟩
  have hin : ∀ (i j : Nat), js[i]? = some j → ∃ li, L[j]? = some li ∧ L0[i]? = some li := by
    intro i j hij
    have hi : i < σ0.length := by rw [selOk_len ho]; exact (List.getElem?_eq_some_iff.1 hij).1
    obtain ⟨o, hσ, _⟩ := selOk_get ho hij (List.getElem?_eq_getElem hi)
    have hj : j < L.length := by rw [hs.len]; exact (List.getElem?_eq_some_iff.1 hσ).1
    refine ⟨L[j], List.getElem?_eq_getElem hj, ?_⟩
    simp [L0, hij, hj]
  have hback : ∀ {i : Nat} {li : LI}, L0[i]? = some li → ∃ j, js[i]? = some j ∧ L[j]? = some li := by
    intro i li hi
    have hi' : i < js.length := by simpa [L0] using (List.getElem?_eq_some_iff.1 hi).1
    obtain ⟨li', h1, h2⟩ := hin i js[i] (List.getElem?_eq_getElem hi')
    rw [hi] at h2
    cases h2
    exact ⟨_, List.getElem?_eq_getElem hi', h1⟩
  have hg : ∀ l i, posOf js l = some i → L0[i]? = L[l]? := by
    intro l i hl
    obtain ⟨li, h1, h2⟩ := hin i l (posOf_get hl)
    rw [h1, h2]
  have hr0 : ∀ (l n : Nat) (v : Value), posOf js l = none → Rel H L (.row l n) v → Rel H L0 (anyRow false l n) v := fun _ _ _ _ _ => by simp [anyRow, Rel]
  have hp0 : ∀ (l n : Nat) (v : Value), posOf js l = none → Rel H L (.ptr l n) v → Rel H L0 (anyRow true l n) v := fun _ _ _ _ _ => by simp [anyRow, Rel]
  refine ⟨L0, by simp [L0], hin, ⟨hs.pers, by simp [L0, selOk_len ho], fun i li o hL hσ => ?_, fun i j x y b hi hj hx hy => ?_, fun i li b hi hb => ?_⟩, fun a v ha => Rel.vw (HLe.refl _) hg hr0 hp0 a ha⟩
  · obtain ⟨j, hj, hLj⟩ := hback hL
    obtain ⟨o0, hσ0, heq⟩ := selOk_get ho hj hσ
    have key := (hs.obj j li o0 hLj hσ0).vw (H' := H) (L' := L0) (w' := w) (rf := anyRow) (g := posOf js) (fun cs vs h => RelL.vw (HLe.refl _) hg hr0 hp0 cs h) (fun _ _ => rfl) (HLe.refl _) (fun _ _ _ => rfl)
    rcases heq with rfl | rfl
    · exact key
    · exact key.nrm
  · obtain ⟨i', hi', hLi⟩ := hback hi
    obtain ⟨j', hj', hLj⟩ := hback hj
    have := hs.inj i' j' x y b hLi hLj hx hy
    subst this
    exact nodup_inj hd hi' hj'
  · obtain ⟨j, _, hLj⟩ := hback hi
    exact hs.lt j li b hLj hb
def CallG (C : List Value → World → (Ending → World → Prop) → Prop) (args : List A) (σ : St) (Q : Out → St → Prop) : Prop :=
  ∀ (H : Mem) (L : List LI) (w : World) (vs : List Value), RelSt H L σ w → RelL H L args vs → C vs w fun e w' => ∃ o σ' H' L', OutRel H' L' o e ∧ Nxt H L w H' L' σ' w' ∧ Q o σ'
theorem call_embG {C : List Value → World → (Ending → World → Prop) → Prop} (hmono : ∀ vs w R R', C vs w R → (∀ e w', R e w' → R' e w') → C vs w R') {args args' : List A} {σ0 : St} {Q0 : Out → St → Prop} (h : CallG C args σ0 Q0) (js : List Nat) (hd : js.Nodup) (ho : selOk σ anyRow (posOf js) js σ0) (ha : argOk js args' args) {Q : Out → St → Prop}
    (hnp : ∀ v σ1, ¬ Q0 (.pan v) σ1) (hq : ∀ r σ1, Q0 (.ret r) σ1 → Q (.ret (ren js σ.length r)) (putAll σ js (σ1.map (renO js σ.length)))) : CallG C args' σ Q := by
  intro H L w vs hs hvs
  obtain ⟨L0, hL0, hin, hs0, hrel0⟩ := rel_sub hs hd ho
  have hvs0 : RelL H L0 args vs := by
    clear hq h hnp
    induction args' generalizing args vs with
    | nil => cases args with
      | nil => rw [relL_nil_inv hvs]; exact relL_nil
      | cons _ _ => exact ha.elim
    | cons a' as' ih => cases args with
      | nil => exact ha.elim
      | cons a as =>
        obtain ⟨u, us, rfl, h1, h2⟩ := relL_cons_inv hvs
        refine relL_cons ?_ (ih (vs := us) ha.2 h2)
        rcases ha.1 with e | e
        · rw [e]; exact hrel0 _ _ h1
        · rw [e]; exact Rel.nrm0 _ (hrel0 _ _ h1)
  refine hmono _ _ _ _ (h H L0 w vs hs0 hvs0) fun e w' hh => ?_
  obtain ⟨o, σ', H1, L1, g1, g2, hq0⟩ := hh
  have hret : ∃ r, o = .ret r := by
    cases o with
    | ret r => exact ⟨r, rfl⟩
    | pan v => exact (hnp v σ' hq0).elim
  obtain ⟨r, rfl⟩ := hret
  have hq := hq r σ' hq0
  obtain ⟨v, rfl, hv⟩ := g1
  have hjs : js.length ≤ L1.length := by
    rcases Nat.lt_or_ge L1.length js.length with hlt | hge
    · have hlt0 : L1.length < L0.length := by omega
      obtain ⟨l', hl', _⟩ := g2.lle L1.length L0[L1.length] (List.getElem?_eq_getElem hlt0)
      exact absurd (List.getElem?_eq_some_iff.1 hl').1 (Nat.lt_irrefl _)
    · exact hge
  have hjs1 : js.length ≤ (σ'.map (renO js σ.length)).length := by rw [List.length_map, ← g2.st.len]; exact hjs
  have hjb : ∀ y ∈ js, y < L.length := by
    intro y hy
    obtain ⟨i, hi⟩ := List.getElem?_of_mem hy
    obtain ⟨li, h1, _⟩ := hin i y hi
    exact (List.getElem?_eq_some_iff.1 h1).1
  have hjb' : ∀ y ∈ js, y < σ.length := fun y hy => by rw [← hs.len]; exact hjb y hy
  let L' := putAll L js L1
  have hlen' : L'.length = (putAll σ js (σ'.map (renO js σ.length))).length := by
    rw [putAll_length hjs, putAll_length hjs1, List.length_map, hs.len, g2.st.len]
  -- the callee's levels in the caller's numbering
  have hgf : ∀ l, L'[back js σ.length l]? = L1[l]? := by
    intro l
    rcases Nat.lt_or_ge l js.length with hl | hl
    · have := List.getElem?_eq_getElem hl
      rw [back_in this]
      exact putAll_in hjs hd hjb this
    · obtain ⟨k, rfl⟩ := Nat.le.dest hl
      rw [back_new, ← hs.len]
      exact putAll_new hjs
  have hgs : ∀ l, (putAll σ js (σ'.map (renO js σ.length)))[back js σ.length l]? = (σ'[l]?).map (renO js σ.length) := by
    intro l
    rw [← List.getElem?_map]
    rcases Nat.lt_or_ge l js.length with hl | hl
    · have := List.getElem?_eq_getElem hl
      rw [back_in this]
      exact putAll_in hjs1 hd hjb' this
    · obtain ⟨k, rfl⟩ := Nat.le.dest hl
      rw [back_new]
      exact putAll_new hjs1
  have hg : ∀ l i, (fun l => some (back js σ.length l)) l = some i → L'[i]? = L1[l]? := by
    intro l i hl
    simp only [Option.some.injEq] at hl
    subst hl
    exact hgf l
  have hr0 : ∀ (l n : Nat) (v : Value), (fun l => some (back js σ.length l)) l = none → Rel H1 L1 (.row l n) v → Rel H1 L' (anyRow false l n) v := fun _ _ _ _ _ => by simp [anyRow, Rel]
  have hp0 : ∀ (l n : Nat) (v : Value), (fun l => some (back js σ.length l)) l = none → Rel H1 L1 (.ptr l n) v → Rel H1 L' (anyRow true l n) v := fun _ _ _ _ _ => by simp [anyRow, Rel]
  -- each level is one of the callee's, or an old one
  have hcase : ∀ x, x < L'.length → (∃ l, l < L1.length ∧ back js σ.length l = x) ∨ (x < L.length ∧ x ∉ js) := by
    intro x hx
    by_cases hm : x ∈ js
    · obtain ⟨i, hi⟩ := List.getElem?_of_mem hm
      exact .inl ⟨i, by have := (List.getElem?_eq_some_iff.1 hi).1; omega, back_in hi⟩
    · rcases Nat.lt_or_ge x L.length with h | h
      · exact .inr ⟨h, hm⟩
      · obtain ⟨k, rfl⟩ := Nat.le.dest h
        refine .inl ⟨js.length + k, ?_, by rw [back_new, hs.len]⟩
        rw [putAll_length hjs] at hx
        omega
  have hold : ∀ x, x < L.length → x ∉ js → L'[x]? = L[x]? := fun x hx hm => putAll_old hjs hx hm
  have holds : ∀ x, x < L.length → x ∉ js → (putAll σ js (σ'.map (renO js σ.length)))[x]? = σ[x]? := fun x hx hm => putAll_old hjs1 (by rw [← hs.len]; exact hx) hm
  have hown0 : ∀ b, ownS L0 b → ∃ (j : Nat) (li : LI), j ∈ js ∧ L[j]? = some li ∧ li.block = some b := by
    rintro b ⟨i, li, h1, h2⟩
    have hi : i < js.length := by rw [← hL0]; exact (List.getElem?_eq_some_iff.1 h1).1
    obtain ⟨li', h3, h4⟩ := hin i js[i] (List.getElem?_eq_getElem hi)
    rw [h1] at h4
    cases h4
    exact ⟨_, li, List.getElem_mem hi, h3, h2⟩
  have hnot : ∀ x li b, x ∉ js → L[x]? = some li → li.block = some b → ¬ ownS L0 b := by
    intro x li b hx h1 h2 ho
    obtain ⟨j, li', hj, h3, h4⟩ := hown0 b ho
    have := hs.inj x j li li' b h1 h3 h2 h4
    subst this
    exact hx hj
  have hlle : LLe L L' := by
    intro x li hx
    have hxl : x < L.length := (List.getElem?_eq_some_iff.1 hx).1
    by_cases hm : x ∈ js
    · obtain ⟨i, hi⟩ := List.getElem?_of_mem hm
      obtain ⟨li', h1, h2⟩ := hin i x hi
      rw [hx] at h1
      cases h1
      obtain ⟨l', h3, h4⟩ := g2.lle i li h2
      exact ⟨l', by rw [putAll_in hjs hd hjb hi]; exact h3, h4⟩
    · exact ⟨li, by rw [hold x hxl hm]; exact hx, .inl rfl⟩
  refine ⟨.ret (ren js σ.length r), putAll σ js (σ'.map (renO js σ.length)), H1, L', ⟨v, rfl, Rel.vw (HLe.refl _) hg hr0 hp0 r hv⟩, ⟨⟨g2.st.pers, hlen', fun x li o hL hσ => ?_, fun x y lx ly b hx hy hbx hby => ?_, fun x li b hx hb => ?_⟩,
    ⟨g2.step.os, g2.step.tape, g2.step.output, g2.step.size, fun k hk hn => g2.step.keep k hk fun ho => hn (by obtain ⟨j, li, _, h1, h2⟩ := hown0 k ho; exact ⟨j, li, h1, h2⟩), g2.step.hle, fun b o v hv => ?_, g2.step.drawn, g2.step.dfr⟩, hlle, fun b ⟨x, li, hx, hb⟩ => ?_⟩, hq⟩
  · rcases hcase x (List.getElem?_eq_some_iff.1 hL).1 with ⟨l, hl, rfl⟩ | ⟨h1, h2⟩
    · rw [hgf] at hL
      rw [hgs, Option.map_eq_some_iff] at hσ
      obtain ⟨o1, ho1, rfl⟩ := hσ
      exact (g2.st.obj l li o1 hL ho1).vw (fun cs vs h => RelL.vw (HLe.refl _) hg hr0 hp0 cs h) (fun _ _ => rfl) (HLe.refl _) (fun _ _ _ => rfl)
    · rw [hold x h1 h2] at hL
      rw [holds x h1 h2] at hσ
      refine (hs.obj x li o hL hσ).carry (fun b hb => g2.step.keep b (hs.lt x li b hL hb) (hnot x li b h2 hL hb)) g2.step.hle hlle (fun b hb o' => ?_)
      cases hH : H b o' with
      | some u => exact g2.step.hle _ _ _ hH
      | none =>
        cases hH1 : H1 b o' with
        | none => rfl
        | some u =>
          rcases g2.step.hnew b o' u hH1 with k1 | k1 | k1
          · rw [hH] at k1; cases k1
          · exact (hnot x li b h2 hL hb k1).elim
          · have := hs.lt x li b hL hb; omega
  · have cross : ∀ (l y : Nat) (lx ly : LI), L1[l]? = some lx → lx.block = some b → y ∉ js → L[y]? = some ly → ly.block = some b → False := by
      intro l y lx ly k1 k2 k3 k4 k5
      rcases g2.own b ⟨l, lx, k1, k2⟩ with k | k
      · exact hnot y ly b k3 k4 k5 k
      · have := hs.lt y ly b k4 k5; omega
    rcases hcase x (List.getElem?_eq_some_iff.1 hx).1 with ⟨l, hl, rfl⟩ | ⟨h1, h2⟩
    · rw [hgf] at hx
      rcases hcase y (List.getElem?_eq_some_iff.1 hy).1 with ⟨m, hm, rfl⟩ | ⟨h3, h4⟩
      · rw [hgf] at hy
        rw [g2.st.inj l m lx ly b hx hy hbx hby]
      · rw [hold y h3 h4] at hy
        exact (cross l y lx ly hx hbx h4 hy hby).elim
    · rw [hold x h1 h2] at hx
      rcases hcase y (List.getElem?_eq_some_iff.1 hy).1 with ⟨m, hm, rfl⟩ | ⟨h3, h4⟩
      · rw [hgf] at hy
        exact (cross m x ly lx hy hby h2 hx hbx).elim
      · rw [hold y h3 h4] at hy
        exact hs.inj x y lx ly b hx hy hbx hby
  · rcases hcase x (List.getElem?_eq_some_iff.1 hx).1 with ⟨l, hl, rfl⟩ | ⟨h1, h2⟩
    · rw [hgf] at hx
      exact g2.st.lt l li b hx hb
    · rw [hold x h1 h2] at hx
      exact Nat.lt_of_lt_of_le (hs.lt x li b hx hb) g2.step.size
  · rcases g2.step.hnew b o v hv with k | k | k
    · exact .inl k
    · obtain ⟨j, li, _, h1, h2⟩ := hown0 b k
      exact .inr (.inl ⟨j, li, h1, h2⟩)
    · exact .inr (.inr k)
  · rcases hcase x (List.getElem?_eq_some_iff.1 hx).1 with ⟨l, hl, rfl⟩ | ⟨h1, h2⟩
    · rw [hgf] at hx
      rcases g2.own b ⟨l, li, hx, hb⟩ with k | k
      · obtain ⟨j, li', _, h1, h2⟩ := hown0 b k
        exact .inl ⟨j, li', h1, h2⟩
      · exact .inr k
    · rw [hold x h1 h2] at hx
      exact .inl ⟨x, li, hx, hb⟩
theorem callA_mono (P : Program) (f : FuncId) : ∀ (vs : List Value) (w : World) (R R' : Ending → World → Prop), Calls P f vs.toArray w R → (∀ e w', R e w' → R' e w') → Calls P f vs.toArray w R' := fun _ _ _ _ h k => h.mono k
theorem call_emb {f : FuncId} {args args' : List A} {σ0 σ1 : St} {r : A} (h : Ret P f args σ0 r σ1) (js : List Nat) (hd : js.Nodup) (ho : selOk σ anyRow (posOf js) js σ0) (ha : argOk js args' args) {Q : Out → St → Prop}
    (hq : Q (.ret (ren js σ.length r)) (putAll σ js (σ1.map (renO js σ.length)))) : CallA P f args' σ Q :=
  call_embG (C := fun vs w R => Calls P f vs.toArray w R) (callA_mono P f) (Q0 := fun o σ' => o = .ret r ∧ σ' = σ1) h js hd ho ha (fun v σ1 h => by cases h.1) (fun r' σ' h => by obtain ⟨h1, rfl⟩ := h; cases h1; exact hq)
theorem ret_of_sel {f : FuncId} {args : List A} {σ0 σ1 : St} {r : A}
    (h : CallA P f args σ0 fun o σ' => ∃ (r' : A) (ks : List Nat) (fuel : Nat), o = .ret r' ∧ (∀ i, i < σ0.length → ks[i]? = some i) ∧ ks.Nodup ∧ selOk σ' (seen σ' (posOf ks) fuel) (posOf ks) ks σ1 ∧
      (r = vw (seen σ' (posOf ks) fuel) (posOf ks) r' ∨ r = nrm0 (vw (seen σ' (posOf ks) fuel) (posOf ks) r'))) : Ret P f args σ0 r σ1 := by
  intro H L w vs hs ha
  refine (h H L w vs hs ha).mono fun e w' hh => ?_
  obtain ⟨o, σ', H', L', g1, g2, r', ks, fuel, rfl, hk, hd, ho, hr⟩ := hh
  obtain ⟨v, rfl, hv⟩ := g1
  obtain ⟨H2, L2, k1, _, k3⟩ := nxt_sel ks fuel (by rw [hs.len]; exact hk) hd ho g2
  refine ⟨.ret r, σ1, H2, L2, ⟨v, rfl, ?_⟩, k1, rfl, rfl⟩
  rcases hr with e | e
  · rw [e]; exact k3 _ _ hv
  · rw [e]; exact Rel.nrm0 _ (k3 _ _ hv)
end
end Go.Abs
