/-
  What is proved: for every input, DomainBefore returns true, and its arguments read behind the call as they read before. Condition: none.
-/
import Derived.Test.YtbkiphnlbadhcaaL5
import Derived.ProofKit
namespace Go.Proofs.Ytbkiphnlbadhcaa
open Go.ChangeShapes Go.WideShapes Go.ChangeAt Go.RowKit Go.Abs

theorem prog_own : ownKnob Try.prog.godebug = none := by kernel_rfl
theorem prog_laidOut : laidOutB Try.prog = true := by kernel_rfl

theorem below_nxt {W W' : World} {H' : Mem} {L' : List LI} {σ' : St} (h : Nxt (memOf W) [] W H' L' σ' W') : Below W.heap.size W W' :=
  ⟨h.step.os, h.step.tape, h.step.output, h.step.size, fun k hk => h.step.keep k hk (fun ⟨i, l, hi, _⟩ => by simp at hi)⟩

set_option maxRecDepth 100000 in
theorem arg_vals {H : Type} {enc : TypeId × Value → H} {W : World} {base : Nat} {v : Value} {d : DataW H} {ps : List MemPlace} (hval : Value.okWide Try.prog W .any base 36 v) (h : DataW.Trod enc Try.prog W 0 (fun _ => true) true 36 v d ps) :
    ∃ l : List Val, Rel (memOf W) [] (.sl l.length (cellsV l)) v ∧ ∀ b ∈ l, OkV b := by
  obtain ⟨a, len, cap, rfl⟩ := okWide_slice Try.underlying36 hval
  obtain ⟨n, hn⟩ := h
  obtain ⟨l, h1, _, h3⟩ := open_vals n (v := .slice a len cap) hn
  exact ⟨l, h1, h3⟩

set_option maxRecDepth 100000 in
theorem before_lifted (os : Os) (started : os.Started) (H : Type) (enc : TypeId × Value → H) :
    ReturnsInHanded {} Try.checked os 5 .any (Rows.domainBeforeSpec.pre6 enc Try.prog Try.f5 Rows.domainBeforeRow.domain false) (Rows.domainBeforeSpec.post enc Try.prog Try.f5 false true false false) := by
  refine returnsInHanded_of_change (C := Try.checked) prog_own started (by kernel_rfl) Try.func5
    (ChangeSpec.witness6 (enc := enc) (C := Try.checked) false ⟨#[], #[.slice none 0 0, .slice none 0 0, .slice none 0 0], []⟩ 8 (by kernel_rfl) (by kernel_rfl) (by kernel_rfl) (by kernel_rfl)) ?_
  intro W base args ds gs before hval0 hW hcnd _
  have hval : ∀ (j : Nat) t v, Try.f5.params[j]? = some t → args[j]? = some v → Value.okWide Try.prog W .any base t v := hval0
  have hW' := hW
  obtain ⟨p, q, hA0, hV, rfl, hfz, hnd⟩ := hW
  have hA : DataW.TrodAll enc Try.prog W 0 (fun _ => true) true Try.f5.params.toList args.toList ds p := hA0
  rw [Try.params5] at hA hval
  obtain ⟨v0, v1, v2, d0, d1, d2, p0, p1, p2, rfl, rfl, rfl, h0, h1, h2⟩ := trodAll_three hA
  obtain ⟨rfl, rfl⟩ := trodVars_none hV
  have hlt : ∀ x ∈ p0 ++ p1 ++ p2, x.block < W.heap.size := fun x hx => hW'.lt x (by simpa using hx)
  obtain ⟨a, ra, oa⟩ := arg_vals (hval 0 36 v0 rfl rfl) h0
  obtain ⟨b, rb, ob⟩ := arg_vals (hval 1 36 v1 rfl rfl) h1
  obtain ⟨c, rc, oc⟩ := arg_vals (hval 2 36 v2 rfl rfl) h2
  refine (before_law [a, b, c] rfl (by simpa using ⟨oa, ob, oc⟩) a b c rfl (memOf W) [] W [v0, v1, v2] (relSt_memOf W) (relL_cons ra (relL_cons rb (relL_cons rc relL_nil)))).mono fun e W' hh => ?_
  obtain ⟨o, σ', H', L', ho, hn, rfl, rfl⟩ := hh
  obtain ⟨v, rfl, hv⟩ := ho
  have hv : v = .bool true := hv
  subst hv
  have hB := below_nxt hn
  refine ⟨_, rfl, [d0, d1, d2], [], _, [], p0 ++ (p1 ++ p2), [], hW', trodAll_mk1 (shut_bool Try.underlying4 _), ?_, rfl, ?_, fun hh => by cases hh⟩
  · exact trodAll_mk3 (Below.trod prog_laidOut (by kernel_rfl) (of_decide_eq_true (by kernel_rfl)) h0 hB (fun x hx => hlt x (by simp [hx]))) (Below.trod prog_laidOut (by kernel_rfl) (of_decide_eq_true (by kernel_rfl)) h1 hB (fun x hx => hlt x (by simp [hx])))
      (Below.trod prog_laidOut (by kernel_rfl) (of_decide_eq_true (by kernel_rfl)) h2 hB (fun x hx => hlt x (by simp [hx])))
  · exact hB.frame _

theorem domainBefore_holds : Rows.DomainBeforeSaid :=
  OpenClaim.holds_of_wide 5 Try.f5 rfl rfl rfl rfl rfl rfl rfl ⟨rfl, rfl, rfl, rfl, rfl⟩ rfl rfl rfl rfl rfl (by kernel_rfl) Try.func5 (by kernel_rfl)
    (of_decide_eq_true (by kernel_rfl)) (by unfold Func.isWrapper; first | (rw [if_pos (by decide +kernel)]; kernel_rfl) | (rw [if_neg (by decide +kernel)]; exact ⟨rfl, rfl⟩))
    (fun os started H enc _ => before_lifted os started H enc)

#print axioms domainBefore_holds
end Go.Proofs.Ytbkiphnlbadhcaa
