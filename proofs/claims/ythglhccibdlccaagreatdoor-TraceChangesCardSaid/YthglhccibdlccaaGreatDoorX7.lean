/-
  append to nil and to a full slice; what every operation does; its soundness.
  Keys of maps that are made of integers: they are compared cell by cell, they may be keys, and they stay.
-/
import Derived.Test.YthglhccibdlccaaGreatDoorX6
import Derived.RangeFuncRecord
import Derived.WideKeyRuns
set_option linter.unusedVariables false
set_option linter.unusedSimpArgs false
namespace Go.Abs
section
variable {P : Program} {H : Mem} {L : List LI} {σ : St} {w : World} {N : Nat} {env : Env} {a : Act}
theorem get_snoc {α : Type} {l : List α} {x y : α} {i : Nat} (h : (l ++ [x])[i]? = some y) : l[i]? = some y ∨ (i = l.length ∧ y = x) := by
  rcases Nat.lt_or_ge i l.length with hi | hi
  · rw [List.getElem?_append_left hi] at h; exact .inl h
  · rw [List.getElem?_append_right hi] at h
    have h0 : i - l.length = 0 := by
      rcases Nat.eq_zero_or_pos (i - l.length) with h0 | h0
      · exact h0
      · rw [List.getElem?_eq_none (by simp; omega)] at h; cases h
    rw [h0] at h
    simp only [List.getElem?_cons_zero, Option.some.injEq] at h
    exact .inr ⟨by omega, h.symm⟩
theorem nxt_nilrow (hs : RelSt H L σ w) (e : TypeId) (sz : Nat) : Nxt H L w H (L ++ [(⟨none, 0, 0, true⟩ : LI)]) (σ ++ [AObj.row false e sz 0 []]) w := by
  have hll := LLe.append L [⟨none, 0, 0, true⟩]
  refine ⟨⟨hs.pers, by simp [hs.len], fun i l o hL hσ => ?_, fun i j x y b hi hj hx hy => ?_, fun i x b hi hx => ?_⟩, Step.refl _ _ _, hll, fun b ⟨i, x, hi, hx⟩ => ?_⟩
  · rcases get_snoc hL with hL' | ⟨rfl, rfl⟩
    · have hi : i < L.length := (List.getElem?_eq_some_iff.1 hL').1
      rw [List.getElem?_append_left (by rw [← hs.len]; exact hi)] at hσ
      exact (hs.obj i l o hL' hσ).carry (fun _ _ => rfl) (HLe.refl _) hll (fun _ _ _ => rfl)
    · rw [hs.len] at hσ
      rw [List.getElem?_append_right (Nat.le_refl _)] at hσ
      simp only [Nat.sub_self, List.getElem?_cons_zero, Option.some.injEq] at hσ
      subst hσ
      simp [RelObj]
  · rcases get_snoc hi with hi' | ⟨rfl, rfl⟩
    · rcases get_snoc hj with hj' | ⟨rfl, rfl⟩
      · exact hs.inj i j x y b hi' hj' hx hy
      · cases hy
    · cases hx
  · rcases get_snoc hi with hi' | ⟨rfl, rfl⟩
    · exact hs.lt i x b hi' hx
    · cases hx
  · rcases get_snoc hi with hi' | ⟨rfl, rfl⟩
    · exact .inl ⟨i, x, hi', hx⟩
    · cases hx
theorem elemsA_append {σ τ : St} {sz : Nat} {x : A} {r : Nat × List A} (h : elemsA σ sz x = some r) : elemsA (σ ++ τ) sz x = some r := by
  cases x <;> simp only [elemsA] at h ⊢ <;> try exact h
  rename_i l n
  split at h <;> try (cases h; done)
  rename_i hds
  rw [List.getElem?_append_left (List.getElem?_eq_some_iff.1 hds).1, hds]
  exact h
theorem app_nil {t ty e : TypeId} {i : TypeInfo} {z : Value} (ht : P.underlying t = some (.slice e)) (hi : P.info? e = some i) (hz : i.zero = some z) (hzc : okCells z.cells.toList = true) (hzs : z.cells.size = i.size) (hsz : 0 < i.size)
    (hs : RelSt H L σ w) {y : Value} {ya : A} {m : Nat} {ys : List A} (hy : Rel H L ya y) (hye : elemsA σ i.size ya = some (m, ys)) (hyl : ys.length = m * i.size)
    (hm : m ≤ maxLen) (hby : m * i.bytes ≤ 140737488355328) :
    ∃ v' w' H' L', (Builtin.append_ #[t, t] ty #[.slice none 0 0, y]).run P w = .ok v' w' ∧ Nxt H L w H' L' (σ ++ [AObj.row false e i.size m ys]) w' ∧ HLe H H' ∧ Rel H' L' (.row σ.length m) v' := by
  have hn := nxt_nilrow hs e i.size
  have hσ : (σ ++ [AObj.row false e i.size 0 []])[σ.length]? = some (.row false e i.size 0 []) := by simp
  have hx : Rel H (L ++ [(⟨none, 0, 0, true⟩ : LI)]) (.row σ.length 0) (.slice none 0 0) := by
    simp only [Rel]
    exact ⟨rfl, ⟨none, 0, 0, true⟩, by rw [← hs.len]; simp, rfl, Nat.le_refl _, fun _ => rfl⟩
  obtain ⟨v', w', H', L', h1, h2, h3, h4⟩ := app_row (ty := ty) ht hi hz hzc hzs hsz hn.st hσ hx (Rel.mono (HLe.refl _) (LLe.append _ _) _ hy) (elemsA_append hye) hyl (by simpa using hm) (by simpa using hby)
  refine ⟨v', w', H', L', h1, ?_, h3, by simpa using h4⟩
  have := hn.trans h2
  have he : (σ ++ [AObj.row false e i.size 0 []]).set σ.length (AObj.row false e i.size (0 + m) ([] ++ ys)) = σ ++ [AObj.row false e i.size m ys] := by simp
  rw [he] at this
  exact this
theorem app_full {t ty e : TypeId} {i : TypeInfo} {z : Value} (ht : P.underlying t = some (.slice e)) (hi : P.info? e = some i) (hz : i.zero = some z) (hzs : z.cells.size = i.size) (hsz : 0 < i.size)
    (hs : RelSt H L σ w) {n : Nat} {cs : List A} {s y : Value} (hx : Rel H L (.fsl n cs) s) (hcl : cs.length = n * i.size) {ya : A} {m : Nat} {ys : List A} (hy : Rel H L ya y) (hye : elemsA σ i.size ya = some (m, ys)) (hyl : ys.length = m * i.size)
    (hm0 : m ≠ 0) (hm : n + m ≤ maxLen) (hby : (n + m) * i.bytes ≤ 140737488355328) :
    ∃ v' w' H' L', (Builtin.append_ #[t, t] ty #[s, y]).run P w = .ok v' w' ∧ Nxt H L w H' L' (σ ++ [AObj.row false e i.size (n + m) (cs ++ ys)]) w' ∧ HLe H H' ∧ Rel H' L' (.row σ.length (n + m)) v' := by
  obtain ⟨ad, c, rfl, hels⟩ := elems_rel hs hy hye hyl hsz
  rcases hels with h0 | ⟨yb, yo, us, rfl, g1, g2, g3, g4⟩
  · exact (hm0 h0).elim
  have hn := nxt_nilrow hs e i.size
  have hsm : n + m ≤ 9223372036854775807 := by simp only [maxLen] at hm; omega
  have e1 : (L ++ [(⟨none, 0, 0, true⟩ : LI)])[σ.length]? = some (⟨none, 0, 0, true⟩ : LI) := by rw [← hs.len]; simp
  have fresh : ∀ (olds : List Value) (old : Nat), RelL H L cs olds → (∀ u ∈ olds, one u) → old < n + m →
      (Builtin.append_ #[t, t] ty #[s, .slice (some ⟨yb, yo, none⟩) m c]).run P w = .ok (.slice (some ⟨w.heap.size, 0, none⟩) (n + m) (grownCap w (n + m) old e))
        (w.drew.alloc (.cells (olds.toArray ++ us.toArray ++ Builtin.zeroCells z.cells (grownCap w (n + m) old e - (n + m))) e)) →
      ∃ v' w' H' L', (Builtin.append_ #[t, t] ty #[s, .slice (some ⟨yb, yo, none⟩) m c]).run P w = .ok v' w' ∧ Nxt H L w H' L' (σ ++ [AObj.row false e i.size (n + m) (cs ++ ys)]) w' ∧ HLe H H' ∧ Rel H' L' (.row σ.length (n + m)) v' := by
    intro olds old ho1 ho2 ho4 hrun
    have ho3 : olds.length = n * i.size := by rw [ho1.length, hcl]
    have hge := grownCap_ge w (n + m) old e
    have hcm : grownCap w (n + m) old e ≤ maxLen := grownCap_le_maxLen w (n + m) old e hm
    have hpl : (olds ++ us).length = (n + m) * i.size := by rw [List.length_append, ho3, g2, Nat.add_mul]
    have hcur : (olds.toArray ++ us.toArray ++ Builtin.zeroCells z.cells (grownCap w (n + m) old e - (n + m))).toList.take ((n + m) * i.size) = olds ++ us := by
      simp only [Array.toList_append, List.append_assoc]
      rw [← List.append_assoc, ← hpl]
      exact List.take_left
    have hheap : (w.drew.alloc (.cells (olds.toArray ++ us.toArray ++ Builtin.zeroCells z.cells (grownCap w (n + m) old e - (n + m))) e)).heap[w.heap.size]? = some (.cells (olds.toArray ++ us.toArray ++ Builtin.zeroCells z.cells (grownCap w (n + m) old e - (n + m))) e (0, 0)) := heap_alloc_new w.drew _
    have hnone : ∀ o, H w.heap.size o = none := fun o => by
      cases hH : H w.heap.size o with
      | none => rfl
      | some v => have := hs.h_lt hH; omega
    have hll := lle_set (li' := (⟨some w.heap.size, grownCap w (n + m) old e, n + m, true⟩ : LI)) e1 rfl rfl (by simp only; omega)
    have hnx : Nxt H (L ++ [(⟨none, 0, 0, true⟩ : LI)]) w H ((L ++ [(⟨none, 0, 0, true⟩ : LI)]).set σ.length (⟨some w.heap.size, grownCap w (n + m) old e, n + m, true⟩ : LI))
        ((σ ++ [AObj.row false e i.size 0 []]).set σ.length (AObj.row false e i.size (n + m) (cs ++ ys)))
        (w.drew.alloc (.cells (olds.toArray ++ us.toArray ++ Builtin.zeroCells z.cells (grownCap w (n + m) old e - (n + m))) e)) := by
      refine nxt_row hn.st e1 rfl rfl (by simp only; omega) rfl (.inr (Nat.le_refl _)) (by simp) rfl rfl rfl (Nat.le_succ _) (fun d => by simp) (by simp) (fun k hk _ => heap_alloc_old w.drew _ k hk) (HLe.refl _) (fun b' o' v hv' => .inl hv')
        (fun o' v hv' => by rw [hnone] at hv'; cases hv') ?_
      simp only [RelObj]
      refine ⟨trivial, trivial, by rw [List.length_append, hcl, hyl, Nat.add_mul], .inr ⟨w.heap.size, _, rfl, hheap, hge, hcm, ?_, ?_, ?_, hnone⟩⟩
      · simp only [Array.size_append, List.size_toArray, size_zeroCells, hzs, ho3, g2, ← Nat.add_mul]
        congr 1
        omega
      · rw [hcur]
        exact RelL.mono (HLe.refl _) ((LLe.append _ _).trans hll) _ (ho1.append g1)
      · rw [hcur]
        intro u hu
        rcases List.mem_append.1 hu with hu | hu
        · exact ho2 u hu
        · exact g3 u hu
    have he : (σ ++ [AObj.row false e i.size 0 []]).set σ.length (AObj.row false e i.size (n + m) (cs ++ ys)) = σ ++ [AObj.row false e i.size (n + m) (cs ++ ys)] := by simp
    rw [he] at hnx
    refine ⟨_, _, _, _, hrun, hn.trans hnx, HLe.refl _, ?_⟩
    simp only [Rel]
    exact ⟨rfl, _, List.getElem?_set_self (List.getElem?_eq_some_iff.1 e1).1, rfl, Nat.le_refl _, fun _ => rfl⟩
  simp only [Rel] at hx
  obtain ⟨sa, rfl, hnm, hcs⟩ := hx
  rcases hcs with ⟨rfl, rfl⟩ | ⟨b, o, vs, rfl, k1, k2, k3⟩
  · cases sa with
    | none =>
      have hr := run_append_nil (P := P) w t ty e i z ht hi hz ⟨yb, yo, none⟩ m c us g2 g4 (by omega) (by omega) (by simp only [Nat.zero_add] at hby; omega)
      refine fresh [] 0 relL_nil (by simp) (by omega) ?_
      simpa using hr
    | some ba =>
      have hr := run_append_grow (P := P) w t ty e i z ht hi hz ba 0 0 [] (by simp) (by simp) ⟨yb, yo, none⟩ m c us g2 g4 (by omega) (by omega) (growslice_fits (by omega) hby)
      exact fresh [] 0 relL_nil (by simp) (by omega) hr
  · have hr := run_append_grow (P := P) w t ty e i z ht hi hz ⟨b, o, none⟩ n n vs (by rw [k1.length, hcl]) (fun j u hu => by rw [Addr.add_lit]; exact hs.pers _ _ _ (k3 j u hu)) ⟨yb, yo, none⟩ m c us g2 g4 (by omega) (by omega) (growslice_fits (by omega) hby)
    exact fresh vs n k1 k2 (by omega) hr
inductive Out where
  | ret (r : A)
  | pan (v : Value)
def OutRel (H : Mem) (L : List LI) : Out → Ending → Prop
  | .ret r, e => ∃ v, e = .returned v ∧ Rel H L r v
  | .pan v, e => e = .panicked [{ v, recovered := false }]
def CallA (P : Program) (f : FuncId) (args : List A) (σ : St) (Q : Out → St → Prop) : Prop :=
  ∀ (H : Mem) (L : List LI) (w : World) (vs : List Value), RelSt H L σ w → RelL H L args vs →
    Calls P f vs.toArray w fun e w' => ∃ o σ' H' L', OutRel H' L' o e ∧ Nxt H L w H' L' σ' w' ∧ Q o σ'
def CallY (P : Program) (b : Nat) (args : List A) (σ : St) (Q : Out → St → Prop) : Prop :=
  ∀ (H : Mem) (L : List LI) (w : World) (vs : List Value), RelSt H L σ w → RelL H L args vs →
    ∃ f tmps x y, (Instr.yield b vs.toArray).run P w = .ok (.round b f tmps x y) w ∧ RoundIn Fence.wide 0 P b f tmps x y w fun e w' => ∃ o σ' H' L', OutRel H' L' o e ∧ Nxt H L w H' L' σ' w' ∧ Q o σ'
def Wr (r : Option Nat) : Fence := { Fence.wide with round := r }
def pureP (o : Option (Prop × A)) (J : A → Prop) : Prop := match o with
  | some (p, r) => p ∧ J r
  | none => False
def outK (d : Option Nat) (env : Env) (K : Env → St → Prop) (Qp : Value → Env → St → Prop) : Out → St → Prop
  | .ret r, σ' => K (env.put d r) σ'
  | .pan v, σ' => Qp v env σ'
def condP (t : Bool) (A B : Env → St → Prop) (env : Env) (σ : St) : Prop := (t = true → A env σ) ∧ (t = false → B env σ)
def skipK (d : Option Nat) (K : Env → St → Prop) (env : Env) (σ : St) : Prop := K (env.put d (.lit undef)) σ
noncomputable def wpO (P : Program) (Qp : Value → Env → St → Prop) (K : Env → St → Prop) : KOp → Env → St → Prop
  | .alloc d zs, env, σ => K (env.put d (.ptr σ.length 0)) (σ ++ [.box (zs.map ofCell)])
  | .box d x, env, σ => match cellsOf (ev env x) with
    | some cs => K (env.put d (.ptr σ.length 0)) (σ ++ [.box cs])
    | none => False
  | .bslice d _ _ n zero parts, env, σ => match fillA (zero.map ofCell) (parts.map fun (o, s, x) => (o, s, ev env x)) with
    | some cs => K (env.put d (.fsl n cs)) σ
    | none => False
  | .isz d ng x, env, σ => match ev env x with
    | .nil => K (env.put d (.lit (.bool !ng))) σ
    | .sl n _ => K (env.put d (.lit (.bool ng))) σ ∧ (n = 0 → K (env.put d (.lit (.bool !ng))) σ)
    | .row l n => (match σ[l]? with
      | some (.row _ _ _ m _) => n = m ∧ K (env.put d (.lit (.bool ng))) σ ∧ (n = 0 → K (env.put d (.lit (.bool !ng))) σ)
      | _ => False)
    | _ => False
  | .brow d e sz n zero parts, env, σ => match fillA (zero.map ofCell) (parts.map fun (o, s, x) => (o, s, ev env x)) with
    | some cs => K (env.put d (.row σ.length n)) (σ ++ [.row false e sz n cs])
    | none => False
  | .st d x v n, env, σ => match cellsOf (ev env v) with
    | some cs => if cs.length = n then (match stA σ cs (ev env x) with
        | some σ' => K (env.put d (.lit undef)) σ'
        | none => False) else False
    | none => False
  | .app d e sz bytes x y, env, σ => match elemsA σ sz (ev env y) with
    | some (m, ys) => ys.length = m * sz ∧ (match ev env x with
      | .nil => (m ≤ maxLen ∧ m * bytes ≤ 140737488355328) ∧ K (env.put d (.row σ.length m)) (σ ++ [.row false e sz m ys])
      | .row l n => (match σ[l]? with
        | some (.row fz e' s n' cs) => if n = n' ∧ e' = e ∧ s = sz then (n + m ≤ maxLen ∧ (n + m) * bytes ≤ 140737488355328) ∧ K (env.put d (.row l (n + m))) (σ.set l (.row fz e sz (n + m) (cs ++ ys))) else False
        | _ => False)
      | .fsl n cs => cs.length = n * sz ∧ (m = 0 → K (env.put d (.fsl n cs)) σ) ∧ (m ≠ 0 → (n + m ≤ maxLen ∧ (n + m) * bytes ≤ 140737488355328) ∧ K (env.put d (.row σ.length (n + m))) (σ ++ [.row false e sz (n + m) (cs ++ ys)]))
      | _ => False)
    | none => False
  | .len d false x, env, σ => match ev env x with
    | .sl n _ => n ≤ maxLen → K (env.put d (.lit (.int .i64 n))) σ
    | .fsl n _ => n ≤ maxLen → K (env.put d (.lit (.int .i64 n))) σ
    | _ => pureP (pureO env σ (.len d false x)) fun r => K (env.put d r) σ
  | .call d f args, env, σ => match ev env f with
    | .clo g first cap => callable P g = true ∧ CallA P g (first ++ args.map (ev env) ++ cap) σ (outK d env K Qp)
    | .lit (.func (.yield b) ⟨[]⟩ ⟨[]⟩) => CallY P b (args.map (ev env)) σ (outK d env K Qp)
    | _ => False
  | .alr d q zs, env, σ => (match σ[q]? with
    | some .rsv => K (env.put d (.ptr q 0)) (σ.set q (.box (zs.map ofCell)))
    | _ => False)
  | .mop d m xs, env, σ => mopW m (xs.map (ev env)) (fun r σ' => K (env.put d r) σ') σ
  | k, env, σ => pureP (pureO env σ k) fun r => K (env.put k.dst r) σ
end
end Go.Abs
namespace Go.Abs
def valT (P : Program) (t : TypeId) (xs : List Int) : Value := match P.underlying t with
  | some (.struct _) => .agg (xs.map intV).toArray
  | _ => intV (xs.headD 0)
section
variable {P : Program} {w : World}
theorem part_int {t : TypeId} {d n : Nat} (h : intsT P d t = some n) (hi : (P.info? t).map (·.size) = some n) {pre xs : List Int} (hx : n ≤ xs.length) :
    (part t ((pre ++ xs).map intV).toArray pre.length).run P w = .ok (valT P t (xs.take n)) w := by
  cases d with
  | zero => simp [intsT] at h
  | succ d =>
  unfold intsT at h
  unfold part valT
  split at h
  · rename_i hu
    cases h
    rw [Sem.run_bind, run_isAgg hu, Result.andThen_ok, hu]
    simp only [aggD, Bool.false_eq_true, if_false]
    cases xs with
    | nil => simp at hx
    | cons x xs => simp
  · rename_i fs hu
    obtain ⟨i, hii, hsz⟩ := Option.map_eq_some_iff.1 hi
    rw [Sem.run_bind, run_isAgg hu, Result.andThen_ok, hu]
    simp only [aggD, if_true, Sem.run_bind, run_sizeOf' hii, Result.andThen_ok, hsz, Sem.run_pure]
    congr 2
    apply Array.ext'
    simp [Array.toList_extract, List.extract, List.drop_append, List.map_take]
  · cases h
theorem eqI : ∀ (d D n : Nat) (t : TypeId) (xs ys : List Int), d ≤ D → intsT P d t = some n → xs.length = n → ys.length = n → (Op.equalIn D t (valT P t xs) (valT P t ys)).run P w = .ok (decide (xs = ys)) w
  | 0, _, _, _, _, _, _, h, _, _ => by simp [intsT] at h
  | d + 1, 0, _, _, _, _, hD, _, _, _ => by omega
  | d + 1, D + 1, n, t, xs, ys, hD, h, hx, hy => by
    unfold intsT at h
    split at h
    · rename_i hu
      cases h
      unfold valT
      rw [hu]
      match xs, hx, ys, hy with
      | [x], _, [y], _ =>
        simp only [List.headD_cons, intV]
        rw [run_equalIn_int w D t .i64 .i64 x y hu]
        congr 1
        by_cases hxy : x = y <;> simp [hxy]
    · rename_i fs hu
      split at h
      · cases h
      rename_i hst
      unfold valT
      rw [hu]
      have hfo : P.fieldsOf t = fs := by simp [Program.fieldsOf, hu]
      rw [run_equalIn_struct w D t _ _ (by rw [hfo]; exact hu) (by simpa using hst), hfo]
      have go : ∀ (fs : List Field) (pre pre' xs ys : List Int), pre.length = pre'.length → intsF P (intsT P d) pre.length fs = some n → pre.length + xs.length = n → pre.length + ys.length = n →
          (Op.eqFields D ((pre ++ xs).map intV).toArray ((pre' ++ ys).map intV).toArray fs).run P w = .ok (decide (xs = ys)) w := by
        intro fs
        induction fs with
        | nil =>
          intro pre pre' xs ys hp hf hx hy
          simp only [intsF, Option.some.injEq] at hf
          have e1 : xs = [] := List.length_eq_zero_iff.1 (by omega)
          have e2 : ys = [] := List.length_eq_zero_iff.1 (by omega)
          simp [Op.eqFields, e1, e2]
        | cons f fs ih =>
          intro pre pre' xs ys hp hf hx hy
          unfold intsF at hf
          split at hf <;> try (cases hf; done)
          rename_i hof
          obtain ⟨hof, hnm⟩ := hof
          split at hf <;> try (cases hf; done)
          rename_i k hk
          split at hf <;> try (cases hf; done)
          rename_i hsz
          have hkn : pre.length + k ≤ n := by
            have mono : ∀ (fs : List Field) (o n : Nat), intsF P (intsT P d) o fs = some n → o ≤ n := by
              intro fs
              induction fs with
              | nil => intro o n h; simp only [intsF, Option.some.injEq] at h; omega
              | cons f fs ih =>
                intro o n h
                unfold intsF at h
                split at h <;> try (cases h; done)
                split at h <;> try (cases h; done)
                split at h <;> try (cases h; done)
                have := ih _ _ h
                omega
            exact mono _ _ _ hf
          have p1 := part_int (w := w) (pre := pre) (xs := xs) hk hsz (by omega)
          have p2 := part_int (w := w) (pre := pre') (xs := ys) hk hsz (by omega)
          rw [← hof] at p1
          rw [← hp, ← hof] at p2
          have hq := eqI d D k f.type (xs.take k) (ys.take k) (by omega) hk (by simp; omega) (by simp; omega)
          have := ih (pre ++ xs.take k) (pre' ++ ys.take k) (xs.drop k) (ys.drop k) (by simp; omega) (by simpa [Nat.min_eq_left (show k ≤ xs.length by omega)] using hf) (by simp; omega) (by simp; omega)
          simp only [List.append_assoc, List.take_append_drop] at this
          simp only [Op.eqFields, hnm, ne_eq, not_false_eq_true, if_true, Sem.run_bind, p1, p2, Result.andThen_ok, hq]
          have hdec : decide (xs = ys) = (decide (xs.take k = ys.take k) && decide (xs.drop k = ys.drop k)) := by
            by_cases h : xs = ys
            · simp [h]
            · have : ¬ (xs.take k = ys.take k ∧ xs.drop k = ys.drop k) := fun ⟨a, b⟩ => h (by rw [← List.take_append_drop k xs, a, b, List.take_append_drop])
              simp only [h, decide_false]
              symm
              rw [Bool.and_eq_false_iff]
              by_cases h1 : xs.take k = ys.take k
              · right; simp only [decide_eq_false_iff_not]; exact fun e => this ⟨h1, e⟩
              · left; simp [h1]
          rw [hdec]
          by_cases h1 : xs.take k = ys.take k
          · simp only [h1, decide_true, Bool.not_true, Bool.false_eq_true, if_false, this, Bool.true_and]
          · simp [h1]
      exact go fs.toList [] [] xs ys rfl h (by simpa using hx) (by simpa using hy)
    · cases h
theorem checkI (em : Bool) : ∀ (d D n : Nat) (t : TypeId) (xs : List Int), d ≤ D → intsT P d t = some n → xs.length = n → (Instr.checkKey em D t (valT P t xs)).run P w = .ok () w
  | 0, _, _, _, _, _, h, _ => by simp [intsT] at h
  | d + 1, 0, _, _, _, hD, _, _ => by omega
  | d + 1, D + 1, n, t, xs, hD, h, hx => by
    unfold intsT at h
    split at h
    · rename_i hu
      cases h
      unfold valT
      rw [hu]
      simp [Instr.checkKey, run_underlying hu, intV]
    · rename_i fs hu
      split at h
      · cases h
      rename_i hst
      unfold valT
      rw [hu]
      simp only [Instr.checkKey, Sem.run_bind, run_underlying hu, Result.andThen_ok]
      rw [← Array.forIn_toList]
      have go : ∀ (fs : List Field) (pre xs : List Int), intsF P (intsT P d) pre.length fs = some n → pre.length + xs.length = n →
          (forIn (m := Sem) fs PUnit.unit fun f (_ : PUnit) => (if f.name ≠ "_" then do
              let a ← part f.type ((pre ++ xs).map intV).toArray f.offset
              Instr.checkKey em D f.type a
              pure (ForInStep.yield PUnit.unit)
            else pure (ForInStep.yield PUnit.unit))).run P w = .ok PUnit.unit w := by
        intro fs
        induction fs with
        | nil => intro pre xs _ _; simp
        | cons f fs ih =>
          intro pre xs hf hx
          unfold intsF at hf
          split at hf <;> try (cases hf; done)
          rename_i hof
          obtain ⟨hof, hnm⟩ := hof
          split at hf <;> try (cases hf; done)
          rename_i k hk
          split at hf <;> try (cases hf; done)
          rename_i hsz
          have hkn : pre.length + k ≤ n := by
            have mono : ∀ (fs : List Field) (o n : Nat), intsF P (intsT P d) o fs = some n → o ≤ n := by
              intro fs
              induction fs with
              | nil => intro o n h; simp only [intsF, Option.some.injEq] at h; omega
              | cons f fs ih =>
                intro o n h
                unfold intsF at h
                split at h <;> try (cases h; done)
                split at h <;> try (cases h; done)
                split at h <;> try (cases h; done)
                have := ih _ _ h
                omega
            exact mono _ _ _ hf
          have p1 := part_int (w := w) (pre := pre) (xs := xs) hk hsz (by omega)
          rw [← hof] at p1
          have hq := checkI em d D k f.type (xs.take k) (by omega) hk (by simp; omega)
          have := ih (pre ++ xs.take k) (xs.drop k) (by simpa [Nat.min_eq_left (show k ≤ xs.length by omega)] using hf) (by simp; omega)
          simp only [List.append_assoc, List.take_append_drop] at this
          simp only [List.forIn_cons, hnm, ne_eq, not_false_eq_true, if_true, Sem.run_bind, p1, Result.andThen_ok, hq, Sem.run_pure]
          exact this
      have h' := go fs.toList [] xs h (by simpa using hx)
      simp at h' ⊢
      rw [h']
      rfl
    · cases h
end
end Go.Abs
