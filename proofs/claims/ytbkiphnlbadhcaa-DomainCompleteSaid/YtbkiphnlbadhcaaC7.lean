/-
  slices.Repeat for one element and up to two copies, by the kit's own walk, and as a contract over abstract states.
-/
import Derived.Test.YtbkiphnlbadhcaaC4
import Derived.Tactics2
import Derived.Handy
import Derived.Deep.Draws
import Derived.Laws.MakeOwn
import Derived.Deep.RegionLaw
import Derived.Laws.CopyRow
import Derived.Laws.IdiomCopy
import Derived.Laws.Rows
namespace Go.Proofs.Ytbkiphnlbadhcaa
open Go.Proofs Go.Abs
set_option maxHeartbeats 2000000 in
theorem mul64_at (c : Int) (hc : c = 0 ∨ c = 1 ∨ c = 2) (w : World) : Calls Try.prog 105 #[.int .u64 1, .int .u64 c] w fun e w' => e = .returned (.tuple #[.int .u64 0, .int .u64 c]) ∧ w' = w := by
  rcases hc with rfl | rfl | rfl
  all_goals
    go_enter Try.func105, Try.ntmps105
    go_wp2
    go_ret2
    exact ⟨by kernel_rfl, rfl⟩
set_option maxHeartbeats 2000000 in
theorem mul_at (c : Int) (hc : c = 0 ∨ c = 1 ∨ c = 2) (w : World) : Calls Try.prog 81 #[.int .u64 1, .int .u64 c] w fun e w' => e = .returned (.tuple #[.int .u64 0, .int .u64 c]) ∧ w' = w := by
  have h := mul64_at c hc
  have hw : IntKind.u64.wrap c = c := by rcases hc with rfl | rfl | rfl <;> rfl
  go_enter Try.func81, Try.ntmps81
  go_wp2_with (go_at_call 105; refine (h _).mono ?_; rintro e w' ⟨rfl, rfl⟩)
  go_ret2
  exact ⟨rfl, rfl⟩

theorem u49 : Try.prog.underlying 49 = some (.slice 36) := by kernel_rfl
theorem sz36 : (Try.prog.info? 36).map (·.size) = some 1 := by kernel_rfl
theorem i36 : (Try.prog.info? 36).map (fun i => (i.size, i.bytes, i.zero)) = some (1, 24, some (.slice none 0 0)) := by kernel_rfl
theorem mk_run (c : Nat) (hc : c ≤ 2) (w : World) : (Instr.makeSlice 49 (.int .i64 c) (.int .i64 c)).run Try.prog w = .ok (.slice (some ⟨w.heap.size, 0, none⟩) c c) (w.alloc (.cells (madeCells #[.slice none 0 0] c) 36)) := by
  obtain ⟨i, hi, hh⟩ := Option.map_eq_some_iff.1 i36
  simp only [Prod.mk.injEq] at hh
  obtain ⟨h1, h2, h3⟩ := hh
  have := run_make w 49 36 i (.slice none 0 0) u49 hi h3 .i64 .i64 c c (by omega) (by omega) (by rw [h2]; omega) (by omega)
  rw [this, h1]
  simp [Value.cells]
theorem step_copy {P : Program} {ops : Array Oper} {o : Oper} {a : Act} {w w' : World} {K : Act → World → Prop} {Q : Exit → Act → World → Prop} {E : Prop}
    (hg : o.guard = none) (d s : Operand) (t : TypeId) (hop : o.op = Op.call { callee := Callee.builtin Builtin.copy, args := #[d, s], argTypes := #[t, t] })
    (vd vs : Value) (hd : a.eval d = vd) (hs : a.eval s = vs) (v : Value) (hrun : (Builtin.copy_ #[t, t] o.type #[vd, vs]).run P w = .ok v w') (hK : K (a.put o.dst v) w') :
    if Region.wanted o (yielded ops a.tmps) = true then Oper.wp P o a w K Q else E := by
  have hw : Region.wanted o (yielded ops a.tmps) = true := by simp [Region.wanted, hg]
  rw [if_pos hw]
  unfold Oper.wp
  simp [execOp, hop, resolve, invoke, builtin, hs, hd, hrun, Result.andThen]
  exact hK
theorem madeC (z : Value) (n : Nat) : madeCells #[z] n = Array.replicate n z := Array.ext (by simp [madeCells]) (by intro i h1 h2; simp [madeCells, Nat.mod_one])
theorem alloc_row (w : World) (cur cur' : Array Value) : (w.alloc (.cells cur 36)).setRow w.heap.size cur' = w.alloc (.cells cur' 36) := by
  unfold World.setRow World.alloc
  simp only [World.mk.injEq, and_true]
  apply Array.ext_getElem?
  intro k
  simp only [Array.getElem?_modify, Array.getElem?_push]
  split <;> split <;> simp_all
set_option maxHeartbeats 40000000 in
set_option maxRecDepth 100000 in
theorem repeat0_at (b o cap : Nat) (v : Value) (w : World) (hv : w.cell? ⟨b, o, none⟩ = some v) :
    Calls Try.prog 63 #[.slice (some ⟨b, o, none⟩) 1 cap, .int .i64 0] w fun e w' => e = .returned (.slice (some ⟨w.heap.size, 0, none⟩) 0 0) ∧ w' = w.alloc (.cells #[] 36) := by
  have h := mul_at 0 (by simp)
  have hm : ∀ w : World, (Instr.makeSlice 49 (.int .i64 0) (.int .i64 0)).run Try.prog w = .ok (.slice (some ⟨w.heap.size, 0, none⟩) 0 0) (w.alloc (.cells #[] 36)) := fun w => (mk_run 0 (by decide) w).trans (by rw [madeC]; rfl)
  go_enter Try.func63, Try.ntmps63
  go_wp2_with (go_at_call 81; refine (h _).mono ?_; rintro e w' ⟨rfl, rfl⟩)
  have hcp := run_copy_none (P := Try.prog) (w'.alloc (.cells #[] 36)) 49 49 3 36 (some ⟨w'.heap.size, 0, none⟩) (some ⟨b, o, none⟩) 0 0 1 cap u49 sz36 (by rfl)
  go_wp2
  rw [hcp]
  go_wp2
  refine wp_loop_rounds 1 ?_
  simp only [Code.rounds]
  go_wp2
  go_ret
  exact ⟨rfl, rfl⟩
set_option maxHeartbeats 40000000 in
set_option maxRecDepth 100000 in
theorem repeat1_at (b o cap : Nat) (v : Value) (w : World) (hv : w.cell? ⟨b, o, none⟩ = some v) (h1 : v.oneCell' = true) (hb : b < w.heap.size) :
    Calls Try.prog 63 #[.slice (some ⟨b, o, none⟩) 1 cap, .int .i64 1] w fun e w' => e = .returned (.slice (some ⟨w.heap.size, 0, none⟩) 1 1) ∧ w' = w.alloc (.cells #[v] 36) := by
  have h := mul_at 1 (by simp)
  have hm : ∀ w : World, (Instr.makeSlice 49 (.int .i64 1) (.int .i64 1)).run Try.prog w = .ok (.slice (some ⟨w.heap.size, 0, none⟩) 1 1) (w.alloc (.cells #[.slice none 0 0] 36)) := fun w => (mk_run 1 (by decide) w).trans (by rw [madeC]; rfl)
  go_enter Try.func63, Try.ntmps63
  go_wp2_with (go_at_call 81; refine (h _).mono ?_; rintro e w' ⟨rfl, rfl⟩)
  have hcp := run_copy_row (P := Try.prog) (w'.alloc (.cells #[.slice none 0 0] 36)) 49 49 3 36 w'.heap.size 0 1 1 ⟨b, o, none⟩ 1 cap #[.slice none 0 0] 36 [v] u49 sz36 (heap_alloc_new _ _) (by rfl)
    (by
      intro j u hj
      cases j with
      | succ j => simp at hj
      | zero =>
        simp at hj
        subst hj
        rw [← hv]
        exact World.cell?_alloc_lt _ _ (a := ⟨b, o + 0, none⟩) hb) (by simp) (by simpa using h1)
  rw [alloc_row] at hcp
  simp only [List.take_zero, List.nil_append, List.length_cons, List.length_nil, List.drop_succ_cons, Nat.zero_add, List.drop_nil, List.append_nil] at hcp
  go_wp2
  rw [hcp]
  go_wp2
  refine wp_loop_rounds 1 ?_
  simp only [Code.rounds]
  go_wp2
  go_ret
  exact ⟨rfl, rfl⟩
set_option maxHeartbeats 40000000 in
set_option maxRecDepth 100000 in
theorem repeat2_at (b o cap : Nat) (v : Value) (w : World) (hv : w.cell? ⟨b, o, none⟩ = some v) (h1 : v.oneCell' = true) (hb : b < w.heap.size) :
    Calls Try.prog 63 #[.slice (some ⟨b, o, none⟩) 1 cap, .int .i64 2] w fun e w' => e = .returned (.slice (some ⟨w.heap.size, 0, none⟩) 2 2) ∧ w' = (w.alloc (.cells #[v, v] 36)).drew := by
  have h := mul_at 2 (by simp)
  have hm : ∀ w : World, (Instr.makeSlice 49 (.int .i64 2) (.int .i64 2)).run Try.prog w = .ok (.slice (some ⟨w.heap.size, 0, none⟩) 2 2) (w.alloc (.cells #[.slice none 0 0, .slice none 0 0] 36)) := fun w => (mk_run 2 (by decide) w).trans (by rw [madeC]; rfl)
  go_enter Try.func63, Try.ntmps63
  go_wp2_with (go_at_call 81; refine (h _).mono ?_; rintro e w' ⟨rfl, rfl⟩)
  have hcp := run_copy_row (P := Try.prog) (w'.alloc (.cells #[.slice none 0 0, .slice none 0 0] 36)) 49 49 3 36 w'.heap.size 0 2 2 ⟨b, o, none⟩ 1 cap #[.slice none 0 0, .slice none 0 0] 36 [v] u49 sz36 (heap_alloc_new _ _) (by rfl)
    (by
      intro j u hj
      cases j with
      | succ j => simp at hj
      | zero =>
        simp at hj
        subst hj
        rw [← hv]
        exact World.cell?_alloc_lt _ _ (a := ⟨b, o + 0, none⟩) hb) (by simp) (by simpa using h1)
  rw [alloc_row] at hcp
  simp only [List.take_zero, List.nil_append, List.length_cons, List.length_nil, List.drop_succ_cons, List.drop_zero, Nat.zero_add, List.cons_append] at hcp
  go_wp2
  rw [hcp]
  go_wp2
  refine wp_loop_rounds 2 ?_
  simp only [Code.rounds]
  go_wp2
  have hcp2 := run_copy_row (P := Try.prog) (w'.alloc (.cells #[v, .slice none 0 0] 36)).drew 49 49 3 36 w'.heap.size 1 1 1 ⟨w'.heap.size, 0, none⟩ 1 2 #[v, .slice none 0 0] 36 [v] u49 sz36 (heap_alloc_new _ _) (by rfl)
    (by
      intro j u hj
      cases j with
      | succ j => simp at hj
      | zero =>
        simp at hj
        subst hj
        exact World.cell?_alloc_new _ _ 36 0) (by simp) (by simpa using h1)
  have e : (w'.alloc (.cells #[v, .slice none 0 0] 36)).drew.setRow w'.heap.size (List.take 1 #[v, .slice none 0 0].toList ++ [v] ++ List.drop (1 + [v].length) #[v, .slice none 0 0].toList).toArray = (w'.alloc (.cells #[v, v] 36)).drew := by
    show ((w'.alloc (.cells #[v, .slice none 0 0] 36)).setRow w'.heap.size _).drew = _
    rw [alloc_row]
    rfl
  rw [e] at hcp2
  go_region_law (refine step_copy rfl (.tmp 41) (.tmp 44) 49 rfl _ _ rfl rfl _ hcp2 ?_)
  go_wp2
  go_ret
  exact ⟨rfl, rfl⟩

theorem nxt_drew {H : Mem} {L : List LI} {σ : St} {w : World} (hs : RelSt H L σ w) : Nxt H L w H L σ w.drew :=
  ⟨hs.heap_eq rfl, ⟨rfl, rfl, rfl, Nat.le_refl _, fun _ _ _ => rfl, HLe.refl _, fun _ _ _ h => .inl h, Nat.le_succ _, fun _ _ h => h⟩, LLe.refl _, fun _ h => .inl h⟩

theorem relL_replicate {H : Mem} {L : List LI} {c : A} {v : Value} (h : Rel H L c v) : ∀ n, RelL H L (List.replicate n c) (List.replicate n v)
  | 0 => relL_nil
  | n + 1 => relL_cons h (relL_replicate h n)

theorem repeat_ok (n : Nat) (hn : n ≤ 2) (c : A) : Ret Try.prog 63 [.sl 1 [c], int n] [] (.sl n (List.replicate n c)) [] := by
  intro H L w vs hs hvs
  obtain ⟨x, t, rfl, hx, ht⟩ := relL_cons_inv hvs
  obtain ⟨y, t, rfl, hy, ht⟩ := relL_cons_inv ht
  obtain rfl := relL_nil_inv ht
  simp only [int, Rel] at hx hy
  subst hy
  obtain ⟨a, cap, rfl, h1, h2, h3⟩ := hx
  rcases h3 with h3 | ⟨b, o, us, rfl, hc, ho, hat⟩
  · omega
  obtain ⟨v, t, rfl, hv, ht⟩ := relL_cons_inv hc
  obtain rfl := relL_nil_inv ht
  have hp := hs.pers b o v (by simpa using hat 0 v rfl)
  have h1v : v.oneCell' = true := ho v (by simp)
  have hb := World.block_lt_of_cell? w _ hp
  have key : Calls Try.prog 63 #[.slice (some ⟨b, o, none⟩) 1 cap, .int .i64 n] w fun e w' => e = .returned (.slice (some ⟨w.heap.size, 0, none⟩) n n) ∧
      (w' = w.alloc (.cells (List.replicate n v).toArray 36) ∨ w' = (w.alloc (.cells (List.replicate n v).toArray 36)).drew) := by
    have h : n = 0 ∨ n = 1 ∨ n = 2 := by omega
    rcases h with rfl | rfl | rfl
    · exact (repeat0_at b o cap v w hp).mono fun e w' h => ⟨h.1, .inl h.2⟩
    · exact (repeat1_at b o cap v w hp h1v hb).mono fun e w' h => ⟨h.1, .inl h.2⟩
    · exact (repeat2_at b o cap v w hp h1v hb).mono fun e w' h => ⟨h.1, .inr h.2⟩
  refine key.mono fun e w' h => ?_
  obtain ⟨rfl, hw⟩ := h
  obtain ⟨hn1, hn2⟩ := nxt_persist hs (List.replicate n v) 36
  refine ⟨.ret (.sl n (List.replicate n c)), [], hAdd H w.heap.size (List.replicate n v), L, ⟨_, rfl, ?_⟩, ?_, rfl, rfl⟩
  · simp only [Rel]
    refine ⟨_, n, rfl, Nat.le_refl _, by simp [maxLen]; omega, .inr ⟨w.heap.size, 0, List.replicate n v, rfl, ?_, fun u hu => ?_, hn2⟩⟩
    · have hv' := Rel.mono hn1.step.hle (LLe.refl _) _ hv
      exact relL_replicate hv' n
    · rw [(List.mem_replicate.1 hu).2]; exact h1v
  · rcases hw with rfl | rfl
    · exact hn1
    · exact hn1.trans (nxt_drew hn1.st)
end Go.Proofs.Ytbkiphnlbadhcaa
