/-
  What is proved: for every input, DomainValues returns true, and its arguments read behind the call as they read before. Condition: none.
-/
import Derived.Test.YtbkiphnlbadhcaaL3
import Derived.Test.YtbkiphnlbadhcaaJ2
import Derived.OpenShut
namespace Go.Proofs.Ytbkiphnlbadhcaa
open Go.ChangeShapes Go.WideShapes Go.ChangeAt Go.RowKit Go.Abs

theorem own3 : ownKnob Try.prog.godebug = none := by kernel_rfl
theorem laidOut3 : laidOutB Try.prog = true := by kernel_rfl

theorem below3 {W W' : World} {H' : Mem} {L' : List LI} {σ' : St} (h : Nxt (memOf W) [] W H' L' σ' W') : Below W.heap.size W W' :=
  ⟨h.step.os, h.step.tape, h.step.output, h.step.size, fun k hk => h.step.keep k hk (fun ⟨i, l, hi, _⟩ => by simp at hi)⟩

set_option maxRecDepth 100000 in
theorem values_lifted (os : Os) (started : os.Started) (H : Type) (enc : TypeId × Value → H) :
    ReturnsInHanded {} Try.checked os 3 .any (Rows.domainValuesSpec.pre6 enc Try.prog Try.f3 Rows.domainValuesRow.domain false) (Rows.domainValuesSpec.post enc Try.prog Try.f3 false true false false) := by
  refine returnsInHanded_of_change (C := Try.checked) own3 started (by kernel_rfl) Try.func3
    (ChangeSpec.witness6 (enc := enc) (C := Try.checked) false ⟨#[], #[.slice none 0 0, .int .i64 0, .agg #[.int .i64 0, .int .i64 0, .int .i64 0, .int .i64 0, .slice none 0 0], .agg #[.int .i64 0, .int .i64 0, .int .i64 0, .int .i64 0, .slice none 0 0], .int .i64 0], []⟩ 8 (by kernel_rfl) (by kernel_rfl) (by kernel_rfl) (by kernel_rfl)) ?_
  intro W base args ds gs before hval0 hW hcnd _
  have hval : ∀ (j : Nat) t v, Try.f3.params[j]? = some t → args[j]? = some v → Value.okWide Try.prog W .any base t v := hval0
  have hW' := hW
  obtain ⟨p, q, hA0, hV, rfl, hfz, hnd⟩ := hW
  have hA : DataW.TrodAll enc Try.prog W 0 (fun _ => true) true Try.f3.params.toList args.toList ds p := hA0
  rw [Try.params3] at hA hval
  obtain ⟨v0, vs0, d0, ds0, p0, q0, hargs, rfl, rfl, h0, r0⟩ := trodAll_cons hA
  obtain ⟨v1, vs1, d1, ds1, p1, q1, rfl, rfl, rfl, h1, r1⟩ := trodAll_cons r0
  obtain ⟨v2, vs2, d2, ds2, p2, q2, rfl, rfl, rfl, h2, r2⟩ := trodAll_cons r1
  obtain ⟨v3, vs3, d3, ds3, p3, q3, rfl, rfl, rfl, h3, r3⟩ := trodAll_cons r2
  obtain ⟨v4, vs4, d4, ds4, p4, q4, rfl, rfl, rfl, h4, r4⟩ := trodAll_cons r3
  obtain ⟨rfl, rfl, rfl⟩ := trodAll_nil r4
  obtain rfl : args = #[v0, v1, v2, v3, v4] := by cases args; simp_all
  obtain ⟨rfl, rfl⟩ := trodVars_none hV
  obtain ⟨l, e0, o0⟩ := arg_nums (hval 0 22 v0 rfl rfl) h0
  obtain ⟨turn, e1, o1⟩ := arg_int (hval 1 3 v1 rfl rfl) h1
  obtain ⟨t, e2⟩ := arg_typ (hval 2 27 v2 rfl rfl) h2
  obtain ⟨u, e3⟩ := arg_typ (hval 3 27 v3 rfl rfl) h3
  obtain ⟨most, e4, o4⟩ := arg_int (hval 4 3 v4 rfl rfl) h4
  refine (values_law l o0 turn o1 t u most o4 (memOf W) [] W [v0, v1, v2, v3, v4] (relSt_memOf W) (relL_cons e0 (relL_cons e1 (relL_cons e2 (relL_cons e3 (relL_cons e4 relL_nil)))))).mono fun e W' hh => ?_
  obtain ⟨o, σ', H', L', ho, hn, rfl, rfl⟩ := hh
  obtain ⟨v, rfl, hv⟩ := ho
  have hv : v = .bool true := hv
  subst hv
  have hB := below3 hn
  have hlt : ∀ x, (x ∈ p0 ∨ x ∈ p1 ∨ x ∈ p2 ∨ x ∈ p3 ∨ x ∈ p4) → x.block < W.heap.size := fun x hx => hW'.lt x (by simpa using hx)
  refine ⟨_, rfl, [d0, d1, d2, d3, d4], [], _, [], p0 ++ (p1 ++ (p2 ++ (p3 ++ (p4 ++ [])))), [], hW', trodAll_mk1 (shut_bool Try.underlying4 _), ?_, rfl, hB.frame _, fun hh => by cases hh⟩
  exact trodAll_cons_mk (Below.trod laidOut3 (by kernel_rfl) (of_decide_eq_true (by kernel_rfl)) h0 hB (fun x hx => hlt x (.inl hx)))
    (trodAll_cons_mk (Below.trod laidOut3 (by kernel_rfl) (of_decide_eq_true (by kernel_rfl)) h1 hB (fun x hx => hlt x (.inr (.inl hx))))
    (trodAll_cons_mk (Below.trod laidOut3 (by kernel_rfl) (of_decide_eq_true (by kernel_rfl)) h2 hB (fun x hx => hlt x (.inr (.inr (.inl hx)))))
    (trodAll_cons_mk (Below.trod laidOut3 (by kernel_rfl) (of_decide_eq_true (by kernel_rfl)) h3 hB (fun x hx => hlt x (.inr (.inr (.inr (.inl hx))))))
    (trodAll_cons_mk (Below.trod laidOut3 (by kernel_rfl) (of_decide_eq_true (by kernel_rfl)) h4 hB (fun x hx => hlt x (.inr (.inr (.inr (.inr hx)))))) trodAll_mk0))))

theorem domainValues_holds : Rows.DomainValuesSaid :=
  OpenClaim.holds_of_wide 3 Try.f3 rfl rfl rfl rfl rfl rfl rfl ⟨rfl, rfl, rfl, rfl, rfl⟩ rfl rfl rfl rfl rfl (by kernel_rfl) Try.func3 (by kernel_rfl)
    (of_decide_eq_true (by kernel_rfl)) (by unfold Func.isWrapper; first | (rw [if_pos (by decide +kernel)]; kernel_rfl) | (rw [if_neg (by decide +kernel)]; exact ⟨rfl, rfl⟩))
    (fun os started H enc _ => values_lifted os started H enc)

#print axioms domainValues_holds
end Go.Proofs.Ytbkiphnlbadhcaa
