/-
  From the data that a statement reads to abstract values: numbers, types, and how a law's row is closed.
-/
import Derived.Test.YtbkiphnlbadhcaaJ1
import Derived.Test.YtbkiphnlbadhcaaC11
namespace Go.Proofs.Ytbkiphnlbadhcaa
open Go.Abs Go.ChangeShapes Go.WideShapes Go.ChangeAt Go.RowKit

section
variable {H : Type} {enc : TypeId × Value → H} {W : World} {sp : Nat → Bool} {hd : Bool}

theorem cells24 : Try.prog.cellsOf 24 = 3 := by kernel_rfl
theorem cells25 : Try.prog.cellsOf 25 = 1 := by kernel_rfl
theorem cells26 : Try.prog.cellsOf 26 = 5 := by kernel_rfl
theorem cells27 : Try.prog.cellsOf 27 = 5 := by kernel_rfl

theorem cellsN_flat (l : List Int) : cellsN l = l.flatMap fun i => [int i] := by
  induction l with
  | nil => rfl
  | cons v l ih => simp [ih]
set_option maxRecDepth 100000 in
theorem open_nums {n : Nat} {v : Value} {x : DataW H × List MemPlace} (h : DataW.trod enc Try.prog W 0 sp hd n 22 [v] = some x) : ∃ l : List Int, Rel (memOf W) [] (.sl l.length (cellsN l)) v ∧ ∀ i ∈ l, w64 i = i := by
  cases n with
  | zero => simp [DataW.trod] at h
  | succ n =>
    obtain ⟨l, h1, _, h3⟩ := open_sl (encA := fun i => [int i]) (Ok := fun i => w64 i = i) (sz := 1) (by omega) (fun _ => rfl) Try.underlying22 cells3 h (fun cs y hl hy => by
      match cs, hl with
      | [c], _ =>
        obtain ⟨i, rfl, hi⟩ := open_i64 Try.underlying3 hy
        exact ⟨i, relL_cons (by simp [Rel]) relL_nil, fun u hu => by simp at hu; subst hu; rfl, hi⟩)
    rw [← cellsN_flat] at h1
    exact ⟨l, h1, h3⟩

set_option maxRecDepth 100000 in
theorem open_id {n : Nat} {a b c : Value} {x : DataW H × List MemPlace} (h : DataW.trod enc Try.prog W 0 sp hd n 24 [a, b, c] = some x) : ∃ d : Id, RelL (memOf W) [] (encI d) [a, b, c] ∧ Go.Abs.one a ∧ Go.Abs.one b ∧ Go.Abs.one c := by
  cases n with
  | zero => simp [DataW.trod] at h
  | succ n =>
    unfold DataW.trod at h
    simp only [Try.underlying24] at h
    rw [if_pos (by rw [cells24]; rfl)] at h
    simp only [Option.map_eq_some_iff] at h
    obtain ⟨ys, h, _⟩ := h
    have g0 := mapM_get h _ (List.mem_cons_self ..)
    have g1 := mapM_get h _ (List.mem_cons_of_mem _ (List.mem_cons_self ..))
    have g2 := mapM_get h _ (List.mem_cons_of_mem _ (List.mem_cons_of_mem _ (List.mem_cons_self ..)))
    simp only [cells3, List.drop_zero, List.drop_succ_cons, List.take_succ_cons, List.take_zero] at g0 g1 g2
    obtain ⟨_, g0⟩ := g0
    obtain ⟨_, g1⟩ := g1
    obtain ⟨_, g2⟩ := g2
    obtain ⟨i, rfl, _⟩ := open_i64 Try.underlying3 g0
    obtain ⟨j, rfl, _⟩ := open_i64 Try.underlying3 g1
    obtain ⟨k, rfl, _⟩ := open_i64 Try.underlying3 g2
    exact ⟨⟨i, j, k⟩, relL_cons (by simp [Rel]) (relL_cons (by simp [Rel]) (relL_cons (by simp [Rel]) relL_nil)), rfl, rfl, rfl⟩

theorem cellsT_flat (l : List Typ) : cellsT l = l.flatMap encT := by
  induction l with
  | nil => simp
  | cons v l ih => simp [encT, ih]
set_option maxRecDepth 100000 in
theorem open_typ : ∀ (n : Nat) (e : TypeId) {cs : List Value} {x : DataW H × List MemPlace}, e = 26 ∨ e = 27 → cs.length = 5 → DataW.trod enc Try.prog W 0 sp hd n e cs = some x → ∃ t : Typ, RelL (memOf W) [] (encT t) cs ∧ ∀ u ∈ cs, Go.Abs.one u := by
  intro n
  induction n using Nat.strongRecOn with
  | _ n ih =>
  intro e cs x he hl h
  cases n with
  | zero => simp [DataW.trod] at h
  | succ n =>
    obtain ⟨c0, c1, c2, c3, c4, rfl⟩ : ∃ a b c d e, cs = [a, b, c, d, e] := by
      match cs, hl with
      | [a, b, c, d, e], _ => exact ⟨a, b, c, d, e, rfl⟩
    have hu : Try.prog.underlying e = some (TypeDesc.struct #[{ name := "Kind", type := 3, offset := 0, embedded := false, tag := "", pkgPath := "", byteOffset := 0 }, { name := "Def", type := 24, offset := 1, embedded := false, tag := "", pkgPath := "", byteOffset := 8 }, { name := "Kids", type := 25, offset := 4, embedded := false, tag := "", pkgPath := "", byteOffset := 32 }]) := by
      rcases he with rfl | rfl
      · exact Try.underlying26
      · exact Try.underlying27
    have hc : Try.prog.cellsOf e = 5 := by
      rcases he with rfl | rfl
      · exact cells26
      · exact cells27
    unfold DataW.trod at h
    simp only [hu] at h
    rw [if_pos (by rw [hc]; rfl)] at h
    simp only [Option.map_eq_some_iff] at h
    obtain ⟨ys, h, _⟩ := h
    have g0 := mapM_get h _ (List.mem_cons_self ..)
    have g1 := mapM_get h _ (List.mem_cons_of_mem _ (List.mem_cons_self ..))
    have g2 := mapM_get h _ (List.mem_cons_of_mem _ (List.mem_cons_of_mem _ (List.mem_cons_self ..)))
    simp only [cells3, cells24, cells25, List.drop_zero, List.drop_succ_cons, List.take_succ_cons, List.take_zero] at g0 g1 g2
    obtain ⟨_, g0⟩ := g0
    obtain ⟨_, g1⟩ := g1
    obtain ⟨_, g2⟩ := g2
    obtain ⟨k, rfl, _⟩ := open_i64 Try.underlying3 g0
    obtain ⟨d, q1, q2, q3, q4⟩ := open_id g1
    cases n with
    | zero => simp [DataW.trod] at g2
    | succ n =>
      obtain ⟨l, r1, r2, _⟩ := open_sl (encA := encT) (Ok := fun _ => True) (sz := 5) (by omega) (fun _ => rfl) Try.underlying25 (by first | exact cells26 | exact cells27) g2 (fun cs y hl hy => by
        obtain ⟨t, ht1, ht2⟩ := ih n (by omega) _ (by first | exact .inl rfl | exact .inr rfl) hl hy
        exact ⟨t, ht1, ht2, trivial⟩)
      rw [← cellsT_flat] at r1
      obtain ⟨u0, us, e1, s1, s2⟩ := relL_cons_inv q1
      obtain ⟨u1, us1, e2, s3, s4⟩ := relL_cons_inv s2
      obtain ⟨u2, us2, e3, s5, s6⟩ := relL_cons_inv s4
      have e4 := relL_nil_inv s6
      subst e4
      subst e3
      subst e2
      simp only [List.cons.injEq, and_true] at e1
      obtain ⟨rfl, rfl, rfl⟩ := e1
      refine ⟨.mk k d l, relL_cons (by simp [Rel]) (relL_cons s1 (relL_cons s3 (relL_cons s5 (relL_cons r1 relL_nil)))), ?_⟩
      intro u hu'
      simp only [List.mem_cons, List.not_mem_nil, or_false] at hu'
      rcases hu' with rfl | rfl | rfl | rfl | rfl
      · rfl
      · exact q2
      · exact q3
      · exact q4
      · exact r2
end

set_option maxRecDepth 100000 in
theorem arg_nums {H : Type} {enc : TypeId × Value → H} {W : World} {base : Nat} {v : Value} {d : DataW H} {ps : List MemPlace} (hval : Value.okWide Try.prog W .any base 22 v) (h : DataW.Trod enc Try.prog W 0 (fun _ => true) true 22 v d ps) :
    ∃ l : List Int, Rel (memOf W) [] (.sl l.length (cellsN l)) v ∧ ∀ i ∈ l, w64 i = i := by
  obtain ⟨a, len, cap, rfl⟩ := okWide_slice Try.underlying22 hval
  obtain ⟨n, hn⟩ := h
  exact open_nums (v := .slice a len cap) hn
set_option maxRecDepth 100000 in
theorem arg_int {H : Type} {enc : TypeId × Value → H} {W : World} {base : Nat} {v : Value} {d : DataW H} {ps : List MemPlace} (hval : Value.okWide Try.prog W .any base 3 v) (h : DataW.Trod enc Try.prog W 0 (fun _ => true) true 3 v d ps) :
    ∃ i : Int, Rel (memOf W) [] (int i) v ∧ w64 i = i := by
  obtain ⟨i, rfl⟩ := okWide_int Try.underlying3 hval
  obtain ⟨n, hn⟩ := h
  obtain ⟨j, e, hj⟩ := open_i64 Try.underlying3 hn
  cases e
  exact ⟨i, by simp [Rel], hj⟩
set_option maxRecDepth 100000 in
theorem arg_typ {H : Type} {enc : TypeId × Value → H} {W : World} {base : Nat} {v : Value} {d : DataW H} {ps : List MemPlace} (hval : Value.okWide Try.prog W .any base 27 v) (h : DataW.Trod enc Try.prog W 0 (fun _ => true) true 27 v d ps) :
    ∃ t : Typ, Rel (memOf W) [] (.agg (encT t)) v := by
  obtain ⟨cs, rfl, hcs⟩ := okWide_struct Try.underlying27 hval
  obtain ⟨n, hn⟩ := h
  obtain ⟨t, h1, h2⟩ := open_typ n 27 (cs := cs.toList) (.inr rfl) (by rw [Array.length_toList, hcs]; exact cells27) hn
  exact ⟨t, by simp only [Rel]; exact ⟨cs.toList, by simp, h1, h2⟩⟩
end Go.Proofs.Ytbkiphnlbadhcaa
