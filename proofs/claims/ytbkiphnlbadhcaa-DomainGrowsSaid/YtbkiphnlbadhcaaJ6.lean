/-
  What is proved: for every input, DomainGrows returns true, and its arguments read behind the call as they read before. Condition: none.
-/
import Derived.Test.YtbkiphnlbadhcaaL6
import Derived.Test.YtbkiphnlbadhcaaP7
import Derived.Test.YtbkiphnlbadhcaaJ2
import Derived.OpenShut
namespace Go.Proofs.Ytbkiphnlbadhcaa
open Go.ChangeShapes Go.WideShapes Go.ChangeAt Go.RowKit Go.Abs

theorem own6 : ownKnob Try.prog.godebug = none := by kernel_rfl
theorem laidOut6 : laidOutB Try.prog = true := by kernel_rfl

theorem below6 {W W' : World} {H' : Mem} {L' : List LI} {σ' : St} (h : Nxt (memOf W) [] W H' L' σ' W') : Below W.heap.size W W' :=
  ⟨h.step.os, h.step.tape, h.step.output, h.step.size, fun k hk => h.step.keep k hk (fun ⟨i, l, hi, _⟩ => by simp at hi)⟩

theorem grows_true (l : List Int) (hl : ∀ x ∈ l, w64 x = x) (which : Int) (hwh : w64 which = which) (most : Int) (hm : w64 most = most) :
    Ret Try.prog 6 [.sl l.length (cellsN l), int which, int most] [] (bl true) [] := by
  have hr := around_range hm (show (0 : Int) < 3 by decide)
  have hat : ∀ i, w64 (atV l i 65536) = atV l i 65536 := fun i => by
    have := at_range (i := i) hl (show (0 : Int) < 65536 by omega)
    exact IntWalk.i64_in _ (by omega)
  have hp := types_GP hl hat
  have ht : GT (manyV l) (pickT which (manyV l)) := pick_GT hwh (by omega)
  refine grows_law l hl which hwh most hm (sml_types l hl) _ _ rfl rfl ?_ ?_
  all_goals
    generalize aroundV most 3 = n at hr ⊢
    have c1 : ¬ (n < 0 ∨ 64 < n) := by omega
    have c2 : ¬ (n + 1 < 0 ∨ 64 < n + 1) := by omega
    unfold valuesV
    rw [if_neg c1, if_neg c2]
  · by_cases he : (size (typesV l) (n + 1) (pickT which (manyV l))).e = 0
    · have hz := (size_mono (typesV l) n hr.1 24 _ he).1
      intro _
      have d1 : ¬ (size (typesV l) (n + 1) (pickT which (manyV l))).e ≠ 0 := fun h => h he
      have d2 : ¬ (size (typesV l) n (pickT which (manyV l))).e ≠ 0 := fun h => h hz
      rw [if_neg d1, if_neg d2]
      exact ⟨rfl, grows_sub _ n hr.1 24 _⟩
    · rw [if_pos he]
      exact fun h => absurd h he
  · have g1 := size_04 hp (n + 1) 24 _ ht
    have g2 := size_04 hp n 24 _ ht
    intro h
    constructor
    · split at h
      · rename_i hh
        rw [if_pos hh]
        exact g1.resolve_left hh
      · simp at h
    · split
      · exact g2
      · exact .inl rfl

set_option maxRecDepth 100000 in
theorem grows_lifted (os : Os) (started : os.Started) (H : Type) (enc : TypeId × Value → H) :
    ReturnsInHanded {} Try.checked os 6 .any (Rows.domainGrowsSpec.pre6 enc Try.prog Try.f6 Rows.domainGrowsRow.domain false) (Rows.domainGrowsSpec.post enc Try.prog Try.f6 false true false false) := by
  refine returnsInHanded_of_change (C := Try.checked) own6 started (by kernel_rfl) Try.func6
    (ChangeSpec.witness6 (enc := enc) (C := Try.checked) false ⟨#[], #[.slice none 0 0, .int .i64 0, .int .i64 0], []⟩ 8 (by kernel_rfl) (by kernel_rfl) (by kernel_rfl) (by kernel_rfl)) ?_
  intro W base args ds gs before hval0 hW hcnd _
  have hval : ∀ (j : Nat) t v, Try.f6.params[j]? = some t → args[j]? = some v → Value.okWide Try.prog W .any base t v := hval0
  have hW' := hW
  obtain ⟨p, q, hA0, hV, rfl, hfz, hnd⟩ := hW
  have hA : DataW.TrodAll enc Try.prog W 0 (fun _ => true) true Try.f6.params.toList args.toList ds p := hA0
  have params6 : Try.f6.params = #[22, 3, 3] := by kernel_rfl
  rw [params6] at hA hval
  obtain ⟨v0, vs0, d0, ds0, p0, q0, hargs, rfl, rfl, h0, r0⟩ := trodAll_cons hA
  obtain ⟨v1, vs1, d1, ds1, p1, q1, rfl, rfl, rfl, h1, r1⟩ := trodAll_cons r0
  obtain ⟨v2, vs2, d2, ds2, p2, q2, rfl, rfl, rfl, h2, r2⟩ := trodAll_cons r1
  obtain ⟨rfl, rfl, rfl⟩ := trodAll_nil r2
  obtain rfl : args = #[v0, v1, v2] := by cases args; simp_all
  obtain ⟨rfl, rfl⟩ := trodVars_none hV
  obtain ⟨l, e0, o0⟩ := arg_nums (hval 0 22 v0 rfl rfl) h0
  obtain ⟨which, e1, o1⟩ := arg_int (hval 1 3 v1 rfl rfl) h1
  obtain ⟨most, e2, o2⟩ := arg_int (hval 2 3 v2 rfl rfl) h2
  refine (grows_true l o0 which o1 most o2 (memOf W) [] W [v0, v1, v2] (relSt_memOf W) (relL_cons e0 (relL_cons e1 (relL_cons e2 relL_nil)))).mono fun e W' hh => ?_
  obtain ⟨o, σ', H', L', ho, hn, rfl, rfl⟩ := hh
  obtain ⟨v, rfl, hv⟩ := ho
  have hv : v = .bool true := hv
  subst hv
  have hB := below6 hn
  have hlt : ∀ x, (x ∈ p0 ∨ x ∈ p1 ∨ x ∈ p2) → x.block < W.heap.size := fun x hx => hW'.lt x (by simpa using hx)
  refine ⟨_, rfl, [d0, d1, d2], [], _, [], p0 ++ (p1 ++ (p2 ++ [])), [], hW', trodAll_mk1 (shut_bool Try.underlying4 _), ?_, rfl, hB.frame _, fun hh => by cases hh⟩
  exact trodAll_cons_mk (Below.trod laidOut6 (by kernel_rfl) (of_decide_eq_true (by kernel_rfl)) h0 hB (fun x hx => hlt x (.inl hx)))
    (trodAll_cons_mk (Below.trod laidOut6 (by kernel_rfl) (of_decide_eq_true (by kernel_rfl)) h1 hB (fun x hx => hlt x (.inr (.inl hx))))
    (trodAll_cons_mk (Below.trod laidOut6 (by kernel_rfl) (of_decide_eq_true (by kernel_rfl)) h2 hB (fun x hx => hlt x (.inr (.inr hx)))) trodAll_mk0))

theorem domainGrows_holds : Rows.DomainGrowsSaid :=
  OpenClaim.holds_of_wide 6 Try.f6 rfl rfl rfl rfl rfl rfl rfl ⟨rfl, rfl, rfl, rfl, rfl⟩ rfl rfl rfl rfl rfl (by kernel_rfl) Try.func6 (by kernel_rfl)
    (of_decide_eq_true (by kernel_rfl)) (by unfold Func.isWrapper; first | (rw [if_pos (by decide +kernel)]; kernel_rfl) | (rw [if_neg (by decide +kernel)]; exact ⟨rfl, rfl⟩))
    (fun os started H enc _ => grows_lifted os started H enc)

#print axioms domainGrows_holds
end Go.Proofs.Ytbkiphnlbadhcaa
