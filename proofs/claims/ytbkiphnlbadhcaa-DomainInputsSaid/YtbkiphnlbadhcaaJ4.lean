/-
  What is proved: for every input, DomainInputs returns true, and its arguments read behind the call as they read before. Condition: none.
-/
import Derived.Test.YtbkiphnlbadhcaaL4
import Derived.Test.YtbkiphnlbadhcaaJ2
import Derived.OpenShut
namespace Go.Proofs.Ytbkiphnlbadhcaa
open Go.ChangeShapes Go.WideShapes Go.ChangeAt Go.RowKit Go.Abs

section
variable {H : Type} {enc : TypeId × Value → H} {W : World} {sp : Nat → Bool} {hd : Bool}
theorem cells9 : Try.prog.cellsOf 9 = 1 := by kernel_rfl
theorem cells45 : Try.prog.cellsOf 45 = 11 := by kernel_rfl
theorem open_str {n : Nat} {c : Value} {x : DataW H × List MemPlace} (h : DataW.trod enc Try.prog W 0 sp hd n 9 [c] = some x) : ∃ s : ByteArray, c = .string s := by
  cases n with
  | zero => simp [DataW.trod] at h
  | succ n =>
    cases c with
    | string s => exact ⟨s, rfl⟩
    | _ =>
      unfold DataW.trod at h
      simp [Try.underlying9] at h
theorem cellsS_flat (l : List Slt) : cellsS l = l.flatMap encS := by
  induction l with
  | nil => rfl
  | cons v l ih => simp [cellsS, ih]
set_option maxRecDepth 100000 in
theorem open_slot {n : Nat} {cs : List Value} {x : DataW H × List MemPlace} (hl : cs.length = 11) (h : DataW.trod enc Try.prog W 0 sp hd n 45 cs = some x) : ∃ s : Slt, RelL (memOf W) [] (encS s) cs ∧ ∀ u ∈ cs, Go.Abs.one u := by
  cases n with
  | zero => simp [DataW.trod] at h
  | succ n =>
    obtain ⟨c0, c1, c2, c3, c4, c5, c6, c7, c8, c9, c10, rfl⟩ : ∃ a b c d e f g h i j k, cs = [a, b, c, d, e, f, g, h, i, j, k] := by
      match cs, hl with
      | [a, b, c, d, e, f, g, h, i, j, k], _ => exact ⟨a, b, c, d, e, f, g, h, i, j, k, rfl⟩
    unfold DataW.trod at h
    simp only [Try.underlying45] at h
    rw [if_pos (by rw [cells45]; rfl)] at h
    simp only [Option.map_eq_some_iff] at h
    obtain ⟨ys, h, _⟩ := h
    have g0 := mapM_get h _ (List.mem_cons_self ..)
    have g1 := mapM_get h _ (List.mem_cons_of_mem _ (List.mem_cons_self ..))
    have g2 := mapM_get h _ (List.mem_cons_of_mem _ (List.mem_cons_of_mem _ (List.mem_cons_self ..)))
    have g3 := mapM_get h _ (List.mem_cons_of_mem _ (List.mem_cons_of_mem _ (List.mem_cons_of_mem _ (List.mem_cons_self ..))))
    have g4 := mapM_get h _ (List.mem_cons_of_mem _ (List.mem_cons_of_mem _ (List.mem_cons_of_mem _ (List.mem_cons_of_mem _ (List.mem_cons_self ..)))))
    simp only [cells3, cells24, cells9, cells27, List.drop_zero, List.drop_succ_cons, List.take_succ_cons, List.take_zero] at g0 g1 g2 g3 g4
    obtain ⟨_, g0⟩ := g0
    obtain ⟨_, g1⟩ := g1
    obtain ⟨_, g2⟩ := g2
    obtain ⟨_, g3⟩ := g3
    obtain ⟨_, g4⟩ := g4
    obtain ⟨d, q1, q2, q3, q4⟩ := open_id g0
    obtain ⟨nm, rfl⟩ := open_str g1
    obtain ⟨t, r1, r2⟩ := open_typ n 27 (.inr rfl) rfl g2
    obtain ⟨mo, rfl, _⟩ := open_i64 Try.underlying3 g3
    obtain ⟨pl, rfl, _⟩ := open_i64 Try.underlying3 g4
    have e : encS ⟨d, nm, t, mo, pl⟩ = encI d ++ ([.lit (.string nm)] ++ (encT t ++ [int mo, int pl])) := by simp [encS, encI, encT]
    refine ⟨⟨d, nm, t, mo, pl⟩, ?_, ?_⟩
    · rw [e]
      exact q1.append (RelL.append (vs := [.string nm]) (relL_cons (by simp [Rel]) relL_nil) (RelL.append (us := [.int .i64 mo, .int .i64 pl]) r1 (relL_cons (by simp [Rel]) (relL_cons (by simp [Rel]) relL_nil))))
    · intro u hu
      have hu : u = c0 ∨ u = c1 ∨ u = c2 ∨ u = .string nm ∨ u ∈ [c4, c5, c6, c7, c8] ∨ u = .int .i64 mo ∨ u = .int .i64 pl := by
        simp only [List.mem_cons, List.not_mem_nil, or_false, or_assoc] at hu ⊢
        exact hu
      rcases hu with rfl | rfl | rfl | rfl | hu | rfl | rfl
      · exact q2
      · exact q3
      · exact q4
      · rfl
      · exact r2 u hu
      · rfl
      · rfl
end

set_option maxRecDepth 100000 in
theorem arg_slots {H : Type} {enc : TypeId × Value → H} {W : World} {base : Nat} {v : Value} {d : DataW H} {ps : List MemPlace} (hval : Value.okWide Try.prog W .any base 43 v) (h : DataW.Trod enc Try.prog W 0 (fun _ => true) true 43 v d ps) :
    ∃ l : List Slt, Rel (memOf W) [] (.sl l.length (cellsS l)) v := by
  obtain ⟨a, len, cap, rfl⟩ := okWide_slice Try.underlying43 hval
  obtain ⟨n, hn⟩ := h
  cases n with
  | zero => simp [DataW.trod] at hn
  | succ n =>
    obtain ⟨l, h1, _, _⟩ := open_sl (v := .slice a len cap) (encA := encS) (Ok := fun _ => True) (sz := 11) (by omega) (fun _ => rfl) Try.underlying43 cells45 hn (fun cs y hl hy => by
      obtain ⟨s, q1, q2⟩ := open_slot hl hy
      exact ⟨s, q1, q2, trivial⟩)
    rw [← cellsS_flat] at h1
    exact ⟨l, h1⟩

theorem own4 : ownKnob Try.prog.godebug = none := by kernel_rfl
theorem laidOut4 : laidOutB Try.prog = true := by kernel_rfl
theorem below4 {W W' : World} {H' : Mem} {L' : List LI} {σ' : St} (h : Nxt (memOf W) [] W H' L' σ' W') : Below W.heap.size W W' :=
  ⟨h.step.os, h.step.tape, h.step.output, h.step.size, fun k hk => h.step.keep k hk (fun ⟨i, l, hi, _⟩ => by simp at hi)⟩

set_option maxRecDepth 100000 in
theorem inputs_lifted (os : Os) (started : os.Started) (H : Type) (enc : TypeId × Value → H) :
    ReturnsInHanded {} Try.checked os 4 .any (Rows.domainInputsSpec.pre6 enc Try.prog Try.f4 Rows.domainInputsRow.domain false) (Rows.domainInputsSpec.post enc Try.prog Try.f4 false true false false) := by
  refine returnsInHanded_of_change (C := Try.checked) own4 started (by kernel_rfl) Try.func4
    (ChangeSpec.witness6 (enc := enc) (C := Try.checked) false ⟨#[], #[.slice none 0 0, .int .i64 0, .agg #[.int .i64 0, .int .i64 0, .int .i64 0, .int .i64 0, .slice none 0 0], .slice none 0 0, .int .i64 0], []⟩ 8 (by kernel_rfl) (by kernel_rfl) (by kernel_rfl) (by kernel_rfl)) ?_
  intro W base args ds gs before hval0 hW hcnd _
  have hval : ∀ (j : Nat) t v, Try.f4.params[j]? = some t → args[j]? = some v → Value.okWide Try.prog W .any base t v := hval0
  have hW' := hW
  obtain ⟨p, q, hA0, hV, rfl, hfz, hnd⟩ := hW
  have hA : DataW.TrodAll enc Try.prog W 0 (fun _ => true) true Try.f4.params.toList args.toList ds p := hA0
  rw [Try.params4] at hA hval
  obtain ⟨v0, vs0, d0, ds0, p0, q0, hargs, rfl, rfl, h0, r0⟩ := trodAll_cons hA
  obtain ⟨v1, vs1, d1, ds1, p1, q1, rfl, rfl, rfl, h1, r1⟩ := trodAll_cons r0
  obtain ⟨v2, vs2, d2, ds2, p2, q2, rfl, rfl, rfl, h2, r2⟩ := trodAll_cons r1
  obtain ⟨v3, vs3, d3, ds3, p3, q3, rfl, rfl, rfl, h3, r3⟩ := trodAll_cons r2
  obtain ⟨v4, vs4, d4, ds4, p4, q4, rfl, rfl, rfl, h4, r4⟩ := trodAll_cons r3
  obtain ⟨rfl, rfl, rfl⟩ := trodAll_nil r4
  obtain rfl : args = #[v0, v1, v2, v3, v4] := by cases args; simp_all
  obtain ⟨rfl, rfl⟩ := trodVars_none hV
  obtain ⟨l, e0, o0⟩ := arg_nums (hval 0 22 v0 rfl rfl) h0
  obtain ⟨turn, e1, o1⟩ := arg_int (hval 1 3 v1 rfl rfl) h1
  obtain ⟨t, e2⟩ := arg_typ (hval 2 27 v2 rfl rfl) h2
  obtain ⟨S, e3⟩ := arg_slots (hval 3 43 v3 rfl rfl) h3
  obtain ⟨most, e4, o4⟩ := arg_int (hval 4 3 v4 rfl rfl) h4
  refine (inputs_law l o0 turn o1 t S most o4 (memOf W) [] W [v0, v1, v2, v3, v4] (relSt_memOf W) (relL_cons e0 (relL_cons e1 (relL_cons e2 (relL_cons e3 (relL_cons e4 relL_nil)))))).mono fun e W' hh => ?_
  obtain ⟨o, σ', H', L', ho, hn, rfl, rfl⟩ := hh
  obtain ⟨v, rfl, hv⟩ := ho
  have hv : v = .bool true := hv
  subst hv
  have hB := below4 hn
  have hlt : ∀ x, (x ∈ p0 ∨ x ∈ p1 ∨ x ∈ p2 ∨ x ∈ p3 ∨ x ∈ p4) → x.block < W.heap.size := fun x hx => hW'.lt x (by simpa using hx)
  refine ⟨_, rfl, [d0, d1, d2, d3, d4], [], _, [], p0 ++ (p1 ++ (p2 ++ (p3 ++ (p4 ++ [])))), [], hW', trodAll_mk1 (shut_bool Try.underlying4 _), ?_, rfl, hB.frame _, fun hh => by cases hh⟩
  exact trodAll_cons_mk (Below.trod laidOut4 (by kernel_rfl) (of_decide_eq_true (by kernel_rfl)) h0 hB (fun x hx => hlt x (.inl hx)))
    (trodAll_cons_mk (Below.trod laidOut4 (by kernel_rfl) (of_decide_eq_true (by kernel_rfl)) h1 hB (fun x hx => hlt x (.inr (.inl hx))))
    (trodAll_cons_mk (Below.trod laidOut4 (by kernel_rfl) (of_decide_eq_true (by kernel_rfl)) h2 hB (fun x hx => hlt x (.inr (.inr (.inl hx)))))
    (trodAll_cons_mk (Below.trod laidOut4 (by kernel_rfl) (of_decide_eq_true (by kernel_rfl)) h3 hB (fun x hx => hlt x (.inr (.inr (.inr (.inl hx))))))
    (trodAll_cons_mk (Below.trod laidOut4 (by kernel_rfl) (of_decide_eq_true (by kernel_rfl)) h4 hB (fun x hx => hlt x (.inr (.inr (.inr (.inr hx)))))) trodAll_mk0))))

theorem domainInputs_holds : Rows.DomainInputsSaid :=
  OpenClaim.holds_of_wide 4 Try.f4 rfl rfl rfl rfl rfl rfl rfl ⟨rfl, rfl, rfl, rfl, rfl⟩ rfl rfl rfl rfl rfl (by kernel_rfl) Try.func4 (by kernel_rfl)
    (of_decide_eq_true (by kernel_rfl)) (by unfold Func.isWrapper; first | (rw [if_pos (by decide +kernel)]; kernel_rfl) | (rw [if_neg (by decide +kernel)]; exact ⟨rfl, rfl⟩))
    (fun os started H enc _ => inputs_lifted os started H enc)

#print axioms domainInputs_holds
end Go.Proofs.Ytbkiphnlbadhcaa
