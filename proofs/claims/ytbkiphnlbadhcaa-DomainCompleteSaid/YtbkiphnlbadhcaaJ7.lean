/-
  What is proved: for every input, DomainComplete returns true, and its arguments read behind the call as they read before. Condition: none.
-/
import Derived.Test.YtbkiphnlbadhcaaL7
import Derived.Test.YtbkiphnlbadhcaaP8
import Derived.Test.YtbkiphnlbadhcaaJ2
import Derived.OpenShut
namespace Go.Proofs.Ytbkiphnlbadhcaa
open Go.ChangeShapes Go.WideShapes Go.ChangeAt Go.RowKit Go.Abs

theorem own6 : ownKnob Try.prog.godebug = none := by kernel_rfl
theorem laidOut6 : laidOutB Try.prog = true := by kernel_rfl

theorem below6 {W W' : World} {H' : Mem} {L' : List LI} {σ' : St} (h : Nxt (memOf W) [] W H' L' σ' W') : Below W.heap.size W W' :=
  ⟨h.step.os, h.step.tape, h.step.output, h.step.size, fun k hk => h.step.keep k hk (fun ⟨i, l, hi, _⟩ => by simp at hi)⟩

theorem complete_true (l : List Int) (hl : ∀ x ∈ l, w64 x = x) (m : List Int) (hml : ∀ x ∈ m, w64 x = x) (which : Int) (hwh : w64 which = which) (most : Int) (hm : w64 most = most) :
    Ret Try.prog 7 [.sl l.length (cellsN l), .sl m.length (cellsN m), int which, int most] [] (bl true) [] := by
  have hr := around_range hm (show (0 : Int) < 3 by decide)
  have hat : ∀ i, w64 (atV l i 65536) = atV l i 65536 := fun i => by
    have := at_range (i := i) hl (show (0 : Int) < 65536 by omega)
    exact IntWalk.i64_in _ (by omega)
  have h4 := (many_range hl).2.1
  have hs := sml_types l hl
  have hp := types_GP hl hat
  have ht : GT (manyV l) (pickT which (manyV l)) := pick_GT hwh (by omega)
  obtain ⟨w1, w2⟩ := GT_wf (types_GP2 hl hat) (manyV l) (manyV l) (Nat.le_refl _) (Nat.le_refl _) _ ht
  have w1 := Wf_mono (typesV l) (f' := 10) (by omega) w1
  have w2 := Wz_mono (typesV l) (f' := 5) (by omega) w2
  obtain ⟨f, hf, hshp⟩ := valueV_shp (typesV l) m hml _ w1 w2
  obtain ⟨n, hn⟩ : ∃ n, n = aroundV most 3 := ⟨_, rfl⟩
  rw [← hn] at hr
  have c1 : ¬ (n < 0 ∨ 64 < n) := by omega
  obtain ⟨V, hV⟩ : ∃ V, V = valuesV (typesV l) (pickT which (manyV l)) n := ⟨_, rfl⟩
  have hV' := hV
  unfold valuesV at hV'
  rw [if_neg c1] at hV'
  by_cases he : (size (typesV l) n (pickT which (manyV l))).e = 0
  · rw [if_neg (fun h => h he)] at hV'
    have hmem : ∀ v, v ∈ V.1 ↔ v ∈ allV (typesV l) n 24 (pickT which (manyV l)) := fun v => by rw [hV']; exact (sortL_perm _ _).mem_iff
    have h256 := (sizeN_ok (typesV l) n (by omega) 24 _ he).2.2.2
    refine complete_law l m hl hml which hwh most hm hs _ rfl w1 w2 n hn V hV (fun h => absurd (by rw [hV']) h) (fun v hv => ?_) ?_ _ rfl (shp_thin _ hs f _ _ hshp) ?_ (fun _ => ?_)
    · obtain ⟨k1, k2, k3, k4⟩ := allV_shp (typesV l) n (by omega) 24 _ v he ((hmem v).1 hv)
      exact ⟨k2, by omega, k4, 24, k1⟩
    · rw [hV']
      exact (sorted_strict (typesV l) n 24 _).imp cmpW_lt
    · have h1 := (sizeN_ok (typesV l) n (by omega) 24 _ he).2.1
      have h2 := size_len (typesV l) n (by omega) 24 _ he
      have h3 : V.1.length = (allV (typesV l) n 24 (pickT which (manyV l))).length := by rw [hV']; exact (sortL_perm _ _).length_eq
      omega
    · rw [fndV, List.any_eq_true]
      exact ⟨_, (hmem _).2 (clip_mem (typesV l) n (by omega) f 24 _ _ hf hshp), by simp [lin_cmpV.refl]⟩
  · rw [if_pos he] at hV'
    have g1 := (size_04 hp n 24 _ ht).resolve_left he
    refine complete_law l m hl hml which hwh most hm hs _ rfl w1 w2 n hn V hV (fun _ => ?_) (fun v hv => ?_) ?_ _ rfl (shp_thin _ hs f _ _ hshp) ?_ (fun h => ?_)
    · rw [hV']; exact ⟨g1, rfl⟩
    · rw [hV'] at hv; simp at hv
    · rw [hV']; exact List.Pairwise.nil
    · rw [hV']; simp
    · rw [hV'] at h; exact absurd h he

set_option maxRecDepth 100000 in
theorem complete_lifted (os : Os) (started : os.Started) (H : Type) (enc : TypeId × Value → H) :
    ReturnsInHanded {} Try.checked os 7 .any (Rows.domainCompleteSpec.pre6 enc Try.prog Try.f7 Rows.domainCompleteRow.domain false) (Rows.domainCompleteSpec.post enc Try.prog Try.f7 false true false false) := by
  refine returnsInHanded_of_change (C := Try.checked) own6 started (by kernel_rfl) Try.func7
    (ChangeSpec.witness6 (enc := enc) (C := Try.checked) false ⟨#[], #[.slice none 0 0, .slice none 0 0, .int .i64 0, .int .i64 0], []⟩ 8 (by kernel_rfl) (by kernel_rfl) (by kernel_rfl) (by kernel_rfl)) ?_
  intro W base args ds gs before hval0 hW hcnd _
  have hval : ∀ (j : Nat) t v, Try.f7.params[j]? = some t → args[j]? = some v → Value.okWide Try.prog W .any base t v := hval0
  have hW' := hW
  obtain ⟨p, q, hA0, hV, rfl, hfz, hnd⟩ := hW
  have hA : DataW.TrodAll enc Try.prog W 0 (fun _ => true) true Try.f7.params.toList args.toList ds p := hA0
  have params7 : Try.f7.params = #[22, 22, 3, 3] := by kernel_rfl
  rw [params7] at hA hval
  obtain ⟨v0, vs0, d0, ds0, p0, q0, hargs, rfl, rfl, h0, r0⟩ := trodAll_cons hA
  obtain ⟨v1, vs1, d1, ds1, p1, q1, rfl, rfl, rfl, h1, r1⟩ := trodAll_cons r0
  obtain ⟨v2, vs2, d2, ds2, p2, q2, rfl, rfl, rfl, h2, r2⟩ := trodAll_cons r1
  obtain ⟨v3, vs3, d3, ds3, p3, q3, rfl, rfl, rfl, h3, r3⟩ := trodAll_cons r2
  obtain ⟨rfl, rfl, rfl⟩ := trodAll_nil r3
  obtain rfl : args = #[v0, v1, v2, v3] := by cases args; simp_all
  obtain ⟨rfl, rfl⟩ := trodVars_none hV
  obtain ⟨l, e0, o0⟩ := arg_nums (hval 0 22 v0 rfl rfl) h0
  obtain ⟨m, e1, o1⟩ := arg_nums (hval 1 22 v1 rfl rfl) h1
  obtain ⟨which, e2, o2⟩ := arg_int (hval 2 3 v2 rfl rfl) h2
  obtain ⟨most, e3, o3⟩ := arg_int (hval 3 3 v3 rfl rfl) h3
  refine (complete_true l o0 m o1 which o2 most o3 (memOf W) [] W [v0, v1, v2, v3] (relSt_memOf W) (relL_cons e0 (relL_cons e1 (relL_cons e2 (relL_cons e3 relL_nil))))).mono fun e W' hh => ?_
  obtain ⟨o, σ', H', L', ho, hn, rfl, rfl⟩ := hh
  obtain ⟨v, rfl, hv⟩ := ho
  have hv : v = .bool true := hv
  subst hv
  have hB := below6 hn
  have hlt : ∀ x, (x ∈ p0 ∨ x ∈ p1 ∨ x ∈ p2 ∨ x ∈ p3) → x.block < W.heap.size := fun x hx => hW'.lt x (by simpa using hx)
  refine ⟨_, rfl, [d0, d1, d2, d3], [], _, [], p0 ++ (p1 ++ (p2 ++ (p3 ++ []))), [], hW', trodAll_mk1 (shut_bool Try.underlying4 _), ?_, rfl, hB.frame _, fun hh => by cases hh⟩
  exact trodAll_cons_mk (Below.trod laidOut6 (by kernel_rfl) (of_decide_eq_true (by kernel_rfl)) h0 hB (fun x hx => hlt x (.inl hx)))
    (trodAll_cons_mk (Below.trod laidOut6 (by kernel_rfl) (of_decide_eq_true (by kernel_rfl)) h1 hB (fun x hx => hlt x (.inr (.inl hx))))
    (trodAll_cons_mk (Below.trod laidOut6 (by kernel_rfl) (of_decide_eq_true (by kernel_rfl)) h2 hB (fun x hx => hlt x (.inr (.inr (.inl hx)))))
    (trodAll_cons_mk (Below.trod laidOut6 (by kernel_rfl) (of_decide_eq_true (by kernel_rfl)) h3 hB (fun x hx => hlt x (.inr (.inr (.inr hx))))) trodAll_mk0)))

theorem domainComplete_holds : Rows.DomainCompleteSaid :=
  OpenClaim.holds_of_wide 7 Try.f7 rfl rfl rfl rfl rfl rfl rfl ⟨rfl, rfl, rfl, rfl, rfl⟩ rfl rfl rfl rfl rfl (by kernel_rfl) Try.func7 (by kernel_rfl)
    (of_decide_eq_true (by kernel_rfl)) (by unfold Func.isWrapper; first | (rw [if_pos (by decide +kernel)]; kernel_rfl) | (rw [if_neg (by decide +kernel)]; exact ⟨rfl, rfl⟩))
    (fun os started H enc _ => complete_lifted os started H enc)

#print axioms domainComplete_holds
end Go.Proofs.Ytbkiphnlbadhcaa
