/-
  The reference's comparisons of nodes and definitions.
-/
import Derived.Test.YthglhccibdlccaaGreatDoorX40
set_option linter.unusedVariables false
set_option linter.unusedSimpArgs false
namespace Go.Proofs.YthglhccibdlccaaGreatDoor
open Go.Abs
theorem sameNodeR_ok (a b : Exp) : Ret Tryz.prog 64 [.agg (encE a), .agg (encE b)] [] (bl (sameNd a b)) [] := by
  refine ret_of_wp Tryz.func64 rfl cSameN (rs := [.slot 4]) (by kernel_rfl) ?_
  unfold KSameN
  by_cases h1 : a.k = b.k
  · by_cases h2 : a.n = b.n
    · by_cases h3 : a.ref = b.ref
      · have hs := sameTy_ok a.typ b.typ
        cases h4 : sameT a.typ b.typ
        · rw [h4] at hs
          simp -implicitDefEqProofs [encE, h1, h2, h3]
          refine call0 hs (by simp [encT]) (by simp) ?_
          simp -implicitDefEqProofs
          exact ret_end 0 (by simp [sameNd, h4])
        · rw [h4] at hs
          by_cases h5 : a.kids.length = b.kids.length
          · simp -implicitDefEqProofs [encE, h1, h2, h3, h5]
            refine call0 hs (by simp [encT]) (by simp) ?_
            simp -implicitDefEqProofs [h5, encE]
            intros
            refine loopS (S := Nat) (fun j => [(2, .ptr 0 0), (3, .ptr 1 0), (5, int j)]) (fun _ => [.box (encE a), .box (encE b)]) (fun j => j ≤ a.kids.length ∧ ∀ (m : Nat) (hm : m < j) (hma : m < a.kids.length) (hmb : m < b.kids.length), sameK a.kids[m] b.kids[m] = true) (fun j => a.kids.length - j) 0 (by simp)
              (selW [0, 1] 0 (by decide) (by simp) (by simp [encE, h1, h2, h3, h5]) (by simp)) ?_
            rintro j ⟨hj, hs'⟩
            by_cases h : j < a.kids.length
            · have hb : j < b.kids.length := by omega
              have hda := cellsE_drop h
              have hdb := cellsE_drop hb
              have q1 : j * 15 + 3 ≤ a.kids.length * 15 := by omega
              have q2 : j * 15 + 3 ≤ b.kids.length * 15 := by omega
              by_cases he : a.kids[j].id = b.kids[j].id
              · have he3 : same3 a.kids[j].id.a a.kids[j].id.b a.kids[j].id.c b.kids[j].id.a b.kids[j].id.b b.kids[j].id.c = true := by rw [same3_id]; exact decide_eq_true he
                simp -implicitDefEqProofs [encE, h, hb, hda, hdb, q1, q2, he3]
                intros
                exact roundS (j + 1) ⟨h, fun m hm hma hmb => by
                  by_cases e : m = j
                  · subst e; simp [sameK, he]
                  · exact hs' m (by omega) hma hmb⟩ (by omega) (selW [0, 1] 0 (by decide) (by simp) (by simp [encE]) (by simp [wrap_succ h (by assumption)]))
              · have he3 : same3 a.kids[j].id.a a.kids[j].id.b a.kids[j].id.c b.kids[j].id.a b.kids[j].id.b b.kids[j].id.c = false := by rw [same3_id]; exact decide_eq_false he
                have hno : allS sameK a.kids b.kids = false := by
                  rw [← Bool.not_eq_true, allS_iff h5]
                  intro hh
                  have := hh j h
                  simp [sameK, he] at this
                simp -implicitDefEqProofs [encE, h, hb, hda, hdb, q1, q2, he3]
                intros
                exact ret_end 0 (by simp [sameNd, hno])
            · have hj' : j = a.kids.length := by omega
              have : allS sameK a.kids b.kids = true := (allS_iff h5).2 fun m hm => hs' m (by omega) hm (by omega)
              simp -implicitDefEqProofs [encE, h]
              intros
              exact ret_end 0 (by simp [sameNd, h1, h2, h3, h4, this])
          · have hno := allS_len (same := sameK) h5
            have h5' : ¬ ((a.kids.length : Int) = b.kids.length) := by omega
            simp -implicitDefEqProofs [encE, h1, h2, h3, h5, h5']
            refine call0 hs (by simp [encT]) (by simp) ?_
            simp -implicitDefEqProofs [encE, h5, h5']
            intros
            exact ret_end 0 (by simp [sameNd, hno])
      · have h3' : same3 a.ref.a a.ref.b a.ref.c b.ref.a b.ref.b b.ref.c = false := by rw [same3_id]; exact decide_eq_false h3
        simp -implicitDefEqProofs [encE, h1, h2, h3']
        exact ret_end 0 (by simp [sameNd, h3])
    · simp -implicitDefEqProofs [encE, h1, h2]
      exact ret_end 0 (by simp [sameNd, h2])
  · simp -implicitDefEqProofs [encE, h1]
    exact ret_end 0 (by simp [sameNd, h1])
theorem sameDefR_ok (a b : Dfn) : Ret Tryz.prog 60 [.agg (encD a), .agg (encD b)] [] (bl (sameDf a b)) [] := by
  refine ret_of_wp Tryz.func60 rfl cSameD (rs := [.slot 4]) (by kernel_rfl) ?_
  unfold KSameD
  by_cases h1 : a.kind = b.kind
  · have hs := sameTy_ok a.res b.res
    cases h4 : sameT a.res b.res
    · rw [h4] at hs
      simp -implicitDefEqProofs [encD, h1]
      refine call0 hs (by simp [encT]) (by simp) ?_
      simp -implicitDefEqProofs
      exact ret_end 0 (by simp [sameDf, h4])
    · rw [h4] at hs
      by_cases h5 : a.slots.length = b.slots.length
      · simp -implicitDefEqProofs [encD, h1, h5]
        refine call0 hs (by simp [encT]) (by simp) ?_
        simp -implicitDefEqProofs [h5, encD]
        intros
        refine loopS (S := Nat) (fun j => [(2, .ptr 0 0), (3, .ptr 1 0), (5, int j)]) (fun _ => [.box (encD a), .box (encD b)]) (fun j => j ≤ a.slots.length ∧ ∀ (m : Nat) (hm : m < j) (hma : m < a.slots.length) (hmb : m < b.slots.length), sameS a.slots[m] b.slots[m] = true) (fun j => a.slots.length - j) 0 (by simp)
          (selW [0, 1] 0 (by decide) (by simp) (by simp [encD, h1, h5]) (by simp)) ?_
        rintro j ⟨hj, hs'⟩
        by_cases h : j < a.slots.length
        · have hb : j < b.slots.length := by omega
          have hda := cellsS_drop h
          have hdb := cellsS_drop hb
          have hda4 : List.drop (j * 11 + 4) (cellsS a.slots) = (encS a.slots[j] ++ cellsS (a.slots.drop (j + 1))).drop 4 := by rw [← List.drop_drop, hda]
          have hdb4 : List.drop (j * 11 + 4) (cellsS b.slots) = (encS b.slots[j] ++ cellsS (b.slots.drop (j + 1))).drop 4 := by rw [← List.drop_drop, hdb]
          have hda9 : List.drop (j * 11 + 9) (cellsS a.slots) = (encS a.slots[j] ++ cellsS (a.slots.drop (j + 1))).drop 9 := by rw [← List.drop_drop, hda]
          have hdb9 : List.drop (j * 11 + 9) (cellsS b.slots) = (encS b.slots[j] ++ cellsS (b.slots.drop (j + 1))).drop 9 := by rw [← List.drop_drop, hdb]
          have q1 : j * 11 + 3 ≤ a.slots.length * 11 := by omega
          have q2 : j * 11 + 3 ≤ b.slots.length * 11 := by omega
          have q3 : j * 11 + 4 + 5 ≤ a.slots.length * 11 := by omega
          have q4 : j * 11 + 4 + 5 ≤ b.slots.length * 11 := by omega
          have q5 : j * 11 + 9 + 1 ≤ a.slots.length * 11 := by omega
          have q6 : j * 11 + 9 + 1 ≤ b.slots.length * 11 := by omega
          have fin0 : sameS a.slots[j] b.slots[j] = false → sameDf a b = false := fun hh => by
            have hno : allS sameS a.slots b.slots = false := by
              rw [← Bool.not_eq_true, allS_iff h5]
              intro h6
              have := h6 j h
              rw [hh] at this
              cases this
            simp [sameDf, hno]
          have hst := sameTy_ok a.slots[j].typ b.slots[j].typ
          have hround : sameS a.slots[j] b.slots[j] = true → ∀ (m : Nat) (hm : m < j + 1) (hma : m < a.slots.length) (hmb : m < b.slots.length), sameS a.slots[m] b.slots[m] = true := fun hh m hm hma hmb => by
            by_cases e : m = j
            · subst e; exact hh
            · exact hs' m (by omega) hma hmb
          generalize a.slots[j] = x at *
          generalize b.slots[j] = y at *
          by_cases he : x.id = y.id
          · have he3 : same3 x.id.a x.id.b x.id.c y.id.a y.id.b y.id.c = true := by rw [same3_id]; exact decide_eq_true he
            by_cases hm : x.most = y.most
            · cases ht : sameT x.typ y.typ
              · rw [ht] at hst
                simp -implicitDefEqProofs [encD, h, hb, hda, hdb, hda4, hdb4, hda9, hdb9, q1, q2, q3, q4, q5, q6, encS, he3, hm]
                intros
                refine dcall0 hst (by simp [encT]) (by simp) ?_
                simp -implicitDefEqProofs
                exact ret_end 0 (by simp [fin0 (by simp [sameS, ht])])
              · rw [ht] at hst
                simp -implicitDefEqProofs [encD, h, hb, hda, hdb, hda4, hdb4, hda9, hdb9, q1, q2, q3, q4, q5, q6, encS, he3, hm]
                intros
                refine dcall0 hst (by simp [encT]) (by simp) ?_
                simp -implicitDefEqProofs
                exact roundS (j + 1) ⟨h, hround (by simp [sameS, ht, he, hm])⟩ (by omega) (selW [0, 1] 0 (by decide) (by simp) (by simp [encD]) (by simp [wrap_succ h (by assumption)]))
            · simp -implicitDefEqProofs [encD, h, hb, hda, hdb, hda4, hdb4, hda9, hdb9, q1, q2, q3, q4, q5, q6, encS, he3, hm]
              intros
              exact ret_end 0 (by simp [fin0 (by simp [sameS, hm])])
          · have he3 : same3 x.id.a x.id.b x.id.c y.id.a y.id.b y.id.c = false := by rw [same3_id]; exact decide_eq_false he
            simp -implicitDefEqProofs [encD, h, hb, hda, hdb, hda4, hdb4, hda9, hdb9, q1, q2, q3, q4, q5, q6, encS, he3]
            intros
            exact ret_end 0 (by simp [fin0 (by simp [sameS, he])])
        · have hj' : j = a.slots.length := by omega
          have hal : allS sameS a.slots b.slots = true := (allS_iff h5).2 fun m hm => hs' m (by omega) hm (by omega)
          have hb3 := hasB_ok a
          cases hk : bodK a.kind
          · rw [hk] at hb3
            simp -implicitDefEqProofs [encD, h]
            intros
            refine call0 hb3 (by simp [encD]) (by simp) ?_
            simp -implicitDefEqProofs
            exact ret_end 0 (by simp [sameDf, ← h1, hal, h4, hk])
          · rw [hk] at hb3
            by_cases he : a.body.id = b.body.id
            · have he3 : same3 a.body.id.a a.body.id.b a.body.id.c b.body.id.a b.body.id.b b.body.id.c = true := by rw [same3_id]; exact decide_eq_true he
              simp -implicitDefEqProofs [encD, h]
              intros
              refine call0 hb3 (by simp [encD]) (by simp) ?_
              simp -implicitDefEqProofs [encD, he3]
              exact ret_end 0 (by simp [sameDf, h1, hal, h4, he])
            · have he3 : same3 a.body.id.a a.body.id.b a.body.id.c b.body.id.a b.body.id.b b.body.id.c = false := by rw [same3_id]; exact decide_eq_false he
              simp -implicitDefEqProofs [encD, h]
              intros
              refine call0 hb3 (by simp [encD]) (by simp) ?_
              simp -implicitDefEqProofs [encD, he3]
              exact ret_end 0 (by simp [sameDf, he, hk])
      · have hno := allS_len (same := sameS) h5
        have h5' : ¬ ((a.slots.length : Int) = b.slots.length) := by omega
        simp -implicitDefEqProofs [encD, h1, h5, h5']
        refine call0 hs (by simp [encT]) (by simp) ?_
        simp -implicitDefEqProofs [encD, h5, h5']
        intros
        exact ret_end 0 (by simp [sameDf, hno])
  · simp -implicitDefEqProofs [encD, h1]
    exact ret_end 0 (by simp [sameDf, h1])
end Go.Proofs.YthglhccibdlccaaGreatDoor
