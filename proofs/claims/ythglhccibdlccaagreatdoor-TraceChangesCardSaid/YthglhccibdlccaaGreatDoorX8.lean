/-
  The operations on maps: what they run to, and that they keep the abstract state.
-/
import Derived.Test.YthglhccibdlccaaGreatDoorX7
import Derived.Maps.RangeRun
import Derived.Carry
set_option linter.unusedVariables false
set_option linter.unusedSimpArgs false
namespace Go.Abs
section
variable {P : Program} {H : Mem} {L : List LI} {σ : St} {w : World} {N : Nat} {env : Env} {a : Act}
theorem litsI_rel : ∀ {cs : List A} {ks : List Int} {vs : List Value}, litsI cs = some ks → RelL H L cs vs → vs = ks.map intV
  | [], ks, vs, h, hr => by simp only [litsI, Option.some.injEq] at h; subst h; rw [relL_nil_inv hr]; rfl
  | c :: cs, ks, vs, h, hr => by
    unfold litsI at h
    split at h <;> try (cases h; done)
    · rename_i heq; cases heq
    rename_i n l heq
    cases heq
    simp only [Option.map_eq_some_iff] at h
    obtain ⟨ks', hk, rfl⟩ := h
    obtain ⟨u, us, rfl, h1, h2⟩ := relL_cons_inv hr
    simp only [Rel] at h1
    rw [h1, litsI_rel hk h2]
    rfl
theorem keyA_rel {nk : Nat} {x : A} {ks : List Int} {v : Value} (h : keyA nk x = some ks) (hr : Rel H L x v) : v = keyV ks ∧ ks.length = nk := by
  unfold keyA at h
  split at h <;> try (cases h; done)
  split at h <;> try (cases h; done)
  rename_i ks' hk
  split at h <;> try (cases h; done)
  rename_i hn
  cases h
  simp only [Rel] at hr
  obtain ⟨vs, rfl, h1, _⟩ := hr
  exact ⟨by rw [litsI_rel hk h1]; rfl, hn⟩
theorem rel_keyB (ks : List Int) : Rel H L (keyB ks) (keyV ks) := by
  simp only [keyB, keyV, Rel]
  refine ⟨ks.map intV, rfl, ?_, fun u hu => ?_⟩
  · induction ks with
    | nil => exact relL_nil
    | cons k ks ih => exact relL_cons (by simp [Rel, intV]) ih
  · obtain ⟨n, _, rfl⟩ := List.mem_map.1 hu
    rfl
theorem wide_of {k : TypeId} {nk : Nat} (h : keyN P k = some nk) : (match P.underlying k with | some (.array _ _) | some (.struct _) => true | _ => false) = true ∧ intsT P 20 k = some nk ∧ ∀ ks, valT P k ks = keyV ks := by
  unfold keyN at h
  split at h <;> try (cases h; done)
  rename_i fs hu
  refine ⟨by rw [hu], h, fun ks => ?_⟩
  unfold valT
  rw [hu]
  rfl
theorem find_run {k : TypeId} {nk : Nat} (hk : keyN P k = some nk) {ks : List Int} (hks : ks.length = nk) : ∀ (es : List (List Int × A)) (l : List MapEntry) (i : Nat), RelMp H L es l → (∀ p ∈ es, p.1.length = nk) →
    (findI ks es = none ∧ (Instr.findAsking k (keyV ks) l i).run P w = .ok none w ∧ (∀ v, putI ks v es = es ++ [(ks, v)]) ∧ delI ks es = es) ∨
    ∃ (j : Nat) (p : List Int × A) (e : MapEntry), es[j]? = some p ∧ p.1 = ks ∧ findI ks es = some p.2 ∧ l[j]? = some e ∧ Rel H L p.2 e.val ∧ e.key = keyV ks ∧ (Instr.findAsking k (keyV ks) l i).run P w = .ok (some (i + j, e.val)) w ∧ (∀ v, putI ks v es = es.set j (ks, v)) ∧ delI ks es = es.eraseIdx j
  | [], l, i, h, _ => by
    rw [show l = [] from h]
    exact .inl ⟨rfl, by simp [Instr.findAsking], fun v => rfl, rfl⟩
  | p :: es, l, i, h, hn => by
    obtain ⟨e, l', rfl, h1, h2, h3⟩ := h
    obtain ⟨_, hi, hv⟩ := wide_of hk
    have heq := eqI (P := P) (w := w) 20 10000 nk k ks p.1 (by decide) hi hks (hn p (List.mem_cons_self ..))
    rw [hv, hv, ← h1] at heq
    have heq : (Op.equal k (keyV ks) e.key).run P w = .ok (decide (ks = p.1)) w := heq
    by_cases hp : p.1 = ks
    · refine .inr ⟨0, p, e, rfl, hp, by simp [findI, hp], rfl, h2, by rw [h1, hp], ?_, fun v => by simp [putI, hp], by simp [delI, hp]⟩
      simp [Instr.findAsking, heq, hp]
    · have hp' : ¬ ks = p.1 := fun e => hp e.symm
      rcases find_run hk hks es l' (i + 1) h3 (fun q hq => hn q (List.mem_cons_of_mem _ hq)) with ⟨g1, g2, g3, g4⟩ | ⟨j, q, e', g1, g2, g3, g4, g5, g6, g7, g8, g9⟩
      · refine .inl ⟨by simp [findI, hp, g1], ?_, fun v => by simp [putI, hp, g3], by simp [delI, hp, g4]⟩
        simp [Instr.findAsking, heq, hp', g2]
      · refine .inr ⟨j + 1, q, e', by simpa using g1, g2, by simp [findI, hp, g3], by simpa using g4, g5, g6, ?_, fun v => by simp [putI, hp, g8], by simp [delI, hp, g9]⟩
        simp only [Instr.findAsking, Sem.run_bind, heq, Result.andThen_ok, hp', decide_false, Bool.false_eq_true, if_false, g7]
        congr 3
        omega
theorem check_run {k : TypeId} {nk : Nat} (hk : keyN P k = some nk) {ks : List Int} (hks : ks.length = nk) (em : Bool) : (Instr.checkKey em 10000 k (keyV ks)).run P w = .ok () w := by
  obtain ⟨_, hi, hv⟩ := wide_of hk
  have := checkI (P := P) (w := w) em 20 10000 nk k ks (by decide) hi hks
  rwa [hv] at this
theorem sameBits_key (ks : List Int) : Instr.sameBits 10000 (keyV ks) (keyV ks) = true := by
  simp only [keyV, Instr.sameBits, beq_self_eq_true, Bool.true_and, List.all_eq_true]
  intro p hp
  obtain ⟨x, y⟩ := p
  have hxy : x = y ∧ ∃ n, x = intV n := by
    have : ∀ (l : List Value), (∀ v ∈ l, ∃ n, v = intV n) → ∀ q ∈ l.zip l, q.1 = q.2 ∧ ∃ n, q.1 = intV n := by
      intro l
      induction l with
      | nil => intro _ q hq; simp at hq
      | cons v l ih =>
        intro h q hq
        simp only [List.zip_cons_cons, List.mem_cons] at hq
        rcases hq with rfl | hq
        · exact ⟨rfl, h v (List.mem_cons_self ..)⟩
        · exact ih (fun v hv => h v (List.mem_cons_of_mem _ hv)) q hq
    exact this _ (fun v hv => by
      simp only [List.mem_map] at hv
      obtain ⟨n, _, rfl⟩ := hv
      exact ⟨n, rfl⟩) _ hp
  obtain ⟨rfl, n, rfl⟩ := hxy
  simp [intV, Instr.sameBits]
theorem get_run {t k e : TypeId} {nk : Nat} (ht : P.underlying t = some (.map k e)) (hk : keyN P k = some nk) {i : TypeInfo} (hi : P.info? e = some i) {z : Value} (hz : i.zero = some z) {ks : List Int} (hks : ks.length = nk) {es : List (List Int × A)} {ents : Array MapEntry} {ck b : Nat}
    (hb : w.heap[b]? = some (.map ents ck)) (hr : RelMp H L es ents.toList) (hn : ∀ p ∈ es, p.1.length = nk) (ok : Bool) :
    ∃ v, (Instr.lookup t (.map (some b)) (keyV ks) ok).run P w = .ok v w ∧ Rel H L (getR z ok (findI ks es)) v := by
  obtain ⟨hw, _, _⟩ := wide_of hk
  have hzr : (zeroValue e).run P w = .ok z w := by simp [zeroValue, typeInfo, hi, hz]
  have hg : (getObj b).run P w = .ok (.map ents ck) w := by simp [getObj, Sem.run, hb]
  rcases find_run (w := w) hk hks es ents.toList 0 hr hn with ⟨g1, g2, _, _⟩ | ⟨j, p, en, g1, g2, g3, g4, g5, g6, g7, _, _⟩
  · refine ⟨if ok then .tuple #[z, .bool false] else z, ?_, ?_⟩
    · simp only [Instr.lookup, Sem.run_bind, run_underlying ht, Result.andThen_ok, hg, Sem.run_pure, check_run hk hks, run_findKey_eq w hw, g2, hzr]
    · cases ok
      · simp only [getR, g1, Option.getD_none]
        exact rel_ofConst z
      · simp only [getR, g1, if_true, Option.getD_none, Option.isSome_none, Rel]
        exact ⟨[z, .bool false], rfl, relL_cons (rel_ofConst z) (relL_cons (by simp [Rel]) relL_nil)⟩
  · refine ⟨if ok then .tuple #[en.val, .bool true] else en.val, ?_, ?_⟩
    · simp only [Instr.lookup, Sem.run_bind, run_underlying ht, Result.andThen_ok, hg, Sem.run_pure, check_run hk hks, run_findKey_eq w hw, g7]
    · cases ok
      · simp only [getR, g3, Option.getD_some]
        exact g5
      · simp only [getR, g3, if_true, Option.getD_some, Option.isSome_some, Rel]
        exact ⟨[en.val, .bool true], rfl, relL_cons g5 (relL_cons (by simp [Rel]) relL_nil)⟩
theorem nxt_newobj (hs : RelSt H L σ w) (ob : AObj) (o : Obj) (ho : RelObj H (L ++ [(⟨some w.heap.size, 0, 0, false⟩ : LI)]) (w.alloc o) ⟨some w.heap.size, 0, 0, false⟩ ob) :
    Nxt H L w H (L ++ [(⟨some w.heap.size, 0, 0, false⟩ : LI)]) (σ ++ [ob]) (w.alloc o) := by
  have hll := LLe.append L [(⟨some w.heap.size, 0, 0, false⟩ : LI)]
  refine ⟨⟨fun b o v hv => ?_, by simp [hs.len], fun i l o hL hσ => ?_, fun i j l l' b hi hj hb hb' => ?_, fun i l b hL hb => ?_⟩,
    ⟨rfl, rfl, rfl, by simp, fun k hk _ => heap_alloc_old w _ hk, HLe.refl _, fun b o v hv => .inl hv, Nat.le_refl _, dfr_old (fun k hk => heap_alloc_old w _ hk)⟩, hll, fun b ⟨i, l, hL, hb⟩ => ?_⟩
  · rw [World.cell?_alloc_lt _ _ _ (hs.h_lt hv)]
    exact hs.pers b o v hv
  · rcases get_snoc hL with hL' | ⟨rfl, rfl⟩
    · have hi : i < L.length := (List.getElem?_eq_some_iff.1 hL').1
      rw [List.getElem?_append_left (by rw [← hs.len]; exact hi)] at hσ
      exact (hs.obj i l o hL' hσ).carry (fun b hb => heap_alloc_old w _ (hs.lt i l b hL' hb)) (HLe.refl _) hll (fun _ _ _ => rfl)
    · rw [hs.len] at hσ
      rw [List.getElem?_append_right (Nat.le_refl _)] at hσ
      simp only [Nat.sub_self, List.getElem?_cons_zero, Option.some.injEq] at hσ
      subst hσ
      exact ho
  · rcases get_snoc hi with hi' | ⟨rfl, rfl⟩
    · rcases get_snoc hj with hj' | ⟨rfl, rfl⟩
      · exact hs.inj i j l l' b hi' hj' hb hb'
      · cases hb'; have := hs.lt i l _ hi' hb; omega
    · cases hb
      rcases get_snoc hj with hj' | ⟨rfl, rfl⟩
      · have := hs.lt j l' _ hj' hb'; omega
      · rfl
  · rcases get_snoc hL with hL' | ⟨rfl, rfl⟩
    · have := hs.lt i l b hL' hb; simp; omega
    · cases hb; simp
  · rcases get_snoc hL with hL' | ⟨rfl, rfl⟩
    · exact .inl ⟨i, l, hL', hb⟩
    · cases hb; exact .inr (Nat.le_refl _)
theorem nxt_putobj (hs : RelSt H L σ w) {l b : Nat} {li : LI} {o0 o : Obj} {ob : AObj} (hl : L[l]? = some li) (hb : li.block = some b) (h0 : w.heap[b]? = some o0) (hc : ∀ c e f, o0 ≠ .cells c e f) (hv : ∀ a t, o0 ≠ .view a t) (hp : ∀ c e, o0 ≠ .pending c e) (hn : ∀ a x, o0 ≠ .number a x) (hd : ∀ d, o0 ≠ .deferred d)
    (ho : RelObj H L (w.putObj b o) li ob) : Nxt H L w H L (σ.set l ob) (w.putObj b o) := by
  have hnone : ∀ o, H b o = none := fun o => by
    cases hH : H b o with
    | none => rfl
    | some v =>
      have := hs.pers b o v hH
      simp only [World.cell?, h0] at this
      cases o0 <;> simp_all
  exact nxt_set hs hl hb rfl rfl rfl rfl (fun d => by rw [h0]; exact fun e => hd d (Option.some.inj e)) (by simp) (fun k hk => World.putObj_heap_other hk) (HLe.refl _) (fun _ _ _ h => .inl h) (fun o' v hv => by rw [hnone] at hv; cases hv) ho
theorem setMap_run {r : Nat} {es : Array MapEntry} {ck : Nat} (o : Obj) (h : w.heap[r]? = some (.map es ck)) : (setObj r o).run P w = .ok () (w.putObj r o) := by simp [setObj, Sem.run, h, World.putObj]
theorem modify_eq_set' {α : Type} (a : Array α) (j : Nat) (f : α → α) (x : α) (h : a[j]? = some x) : a.modify j f = a.setIfInBounds j (f x) := by
  apply Array.ext'
  rw [Array.toList_modify, Array.toList_setIfInBounds]
  apply List.ext_getElem?
  intro i
  rw [List.getElem?_modify, List.getElem?_set]
  rw [← Array.getElem?_toList] at h
  by_cases hi : j = i
  · subst hi
    have := (List.getElem?_eq_some_iff.1 h).1
    rw [Array.length_toList] at this
    have hx : a[j] = x := by rw [Array.getElem?_toList, Array.getElem?_eq_getElem this] at h; exact Option.some.inj h
    simp [this, hx, h]
  · simp [hi]
theorem RelMp.setAt : ∀ {es : List (List Int × A)} {l : List MapEntry} {j : Nat} {e : MapEntry} {ks : List Int} {a : A}, RelMp H L es l → e.key = keyV ks → Rel H L a e.val → RelMp H L (es.set j (ks, a)) (l.set j e)
  | [], l, j, e, ks, a, h, _, _ => by rw [show l = [] from h]; exact rfl
  | p :: es, _, 0, e, ks, a, ⟨e0, l', rfl, h1, h2, h3⟩, hk, hr => ⟨e, l', rfl, hk, hr, h3⟩
  | p :: es, _, j + 1, e, ks, a, ⟨e0, l', rfl, h1, h2, h3⟩, hk, hr => ⟨e0, _, rfl, h1, h2, RelMp.setAt h3 hk hr⟩
theorem RelMp.snoc : ∀ {es : List (List Int × A)} {l : List MapEntry} {e : MapEntry} {ks : List Int} {a : A}, RelMp H L es l → e.key = keyV ks → Rel H L a e.val → RelMp H L (es ++ [(ks, a)]) (l ++ [e])
  | [], l, e, ks, a, h, hk, hr => by rw [show l = [] from h]; exact ⟨e, [], rfl, hk, hr, rfl⟩
  | p :: es, _, e, ks, a, ⟨e0, l', rfl, h1, h2, h3⟩, hk, hr => ⟨e0, _, rfl, h1, h2, RelMp.snoc h3 hk hr⟩
theorem RelMp.eraseAt : ∀ {es : List (List Int × A)} {l : List MapEntry} {j : Nat}, RelMp H L es l → RelMp H L (es.eraseIdx j) (l.eraseIdx j)
  | [], l, j, h => by rw [show l = [] from h]; exact rfl
  | p :: es, _, 0, ⟨e0, l', rfl, h1, h2, h3⟩ => by simpa using h3
  | p :: es, _, j + 1, ⟨e0, l', rfl, h1, h2, h3⟩ => ⟨e0, _, rfl, h1, h2, RelMp.eraseAt h3⟩
theorem set_ok {t k e : TypeId} {nk : Nat} (ht : P.underlying t = some (.map k e)) (hk : keyN P k = some nk) (hs : RelSt H L σ w) {l : Nat} {fr : Bool} {ks : List Int} (hks : ks.length = nk) {es : List (List Int × A)} {m v : Value} {x : A}
    (hm : Rel H L (.map l) m) (hσ : σ[l]? = some (.mp fr nk es)) (hv : Rel H L x v) :
    ∃ w', (Instr.mapUpdate t m (keyV ks) v).run P w = .ok () w' ∧ Nxt H L w H L (σ.set l (.mp fr nk (putI ks x es))) w' := by
  obtain ⟨hw, _, _⟩ := wide_of hk
  simp only [Rel] at hm
  obtain ⟨li, b, hL, hb, hrow, rfl⟩ := hm
  have hob := hs.obj l li _ hL hσ
  simp only [RelObj] at hob
  obtain ⟨_, b', ents, ck, e1, h2, hr, hbn, hn⟩ := hob
  rw [hb] at e1
  cases e1
  have hg : (getObj b).run P w = .ok (.map ents ck) w := by simp [getObj, Sem.run, h2]
  have hlt := hs.lt l li b hL hb
  have hsame : ∀ o, (w.putObj b o).heap[b]? = some o := fun o => World.putObj_heap_same hlt
  rcases find_run (w := w) hk hks es ents.toList 0 hr hn with ⟨g1, g2, g3, _⟩ | ⟨j, p, en, g1, g2, g3, g4, g5, g6, g7, g8, _⟩
  · refine ⟨w.putObj b (.map (ents.push ⟨keyV ks, v, ck⟩) (ck + 1)), ?_, ?_⟩
    · simp only [Instr.mapUpdate, Sem.run_bind, run_underlying ht, Result.andThen_ok, hg, check_run hk hks, run_findKey_eq w hw, g2, setMap_run _ h2]
    · rw [g3]
      refine nxt_putobj hs hL hb h2 (by simp) (by simp) (by simp) (by simp) (by simp) ?_
      simp only [RelObj]
      refine ⟨hrow, b, _, _, hb, hsame _, by rw [Array.toList_push]; exact RelMp.snoc hr rfl hv, fun hf => ?_, fun q hq => ?_⟩
      · obtain ⟨c1, c2⟩ := hbn hf
        refine ⟨by simp [c1], fun i e he => ?_⟩
        rw [Array.toList_push] at he
        rcases get_snoc he with he | ⟨rfl, rfl⟩
        · exact c2 i e he
        · exact c1
      · rcases List.mem_append.1 hq with hq | hq
        · exact hn q hq
        · simp at hq; rw [hq]; exact hks
  · have hj : ents[j]? = some en := by rw [← Array.getElem?_toList]; exact g4
    have hmod : ents.modify j (fun e => { e with key := keyV ks, val := v }) = ents.setIfInBounds j { en with key := keyV ks, val := v } := modify_eq_set' ents j _ en hj
    refine ⟨w.putObj b (.map (ents.setIfInBounds j { en with key := keyV ks, val := v }) ck), ?_, ?_⟩
    · simp only [Instr.mapUpdate, Sem.run_bind, run_underlying ht, Result.andThen_ok, hg, check_run hk hks, run_findKey_eq w hw, g7, Nat.zero_add, hj, Option.map_some, Option.getD_some, g6, Instr.keyThatStays, sameBits_key, if_true, Sem.run_pure, hmod, setMap_run _ h2]
    · rw [g8]
      refine nxt_putobj hs hL hb h2 (by simp) (by simp) (by simp) (by simp) (by simp) ?_
      simp only [RelObj]
      refine ⟨hrow, b, _, _, hb, hsame _, by rw [Array.toList_setIfInBounds]; exact RelMp.setAt hr rfl hv, fun hf => ?_, fun q hq => ?_⟩
      · obtain ⟨c1, c2⟩ := hbn hf
        refine ⟨by simp [c1], fun i e he => ?_⟩
        rw [Array.toList_setIfInBounds, List.getElem?_set] at he
        split at he
        · rename_i hji
          subst hji
          split at he
          · cases he
            exact c2 _ en g4
          · cases he
        · exact c2 i e he
      · rcases List.mem_or_eq_of_mem_set hq with hq | rfl
        · exact hn q hq
        · exact hks
theorem del_ok {t k e : TypeId} {nk : Nat} (ht : P.underlying t = some (.map k e)) (hk : keyN P k = some nk) (hs : RelSt H L σ w) {l : Nat} {fr : Bool} {ks : List Int} (hks : ks.length = nk) {es : List (List Int × A)} {m : Value}
    (hm : Rel H L (.map l) m) (hσ : σ[l]? = some (.mp fr nk es)) (ats : Array TypeId) (hat : ats[0]? = some t) (ty : TypeId) :
    ∃ w', (Builtin.delete_ ats ty #[m, keyV ks]).run P w = .ok (.tuple #[]) w' ∧ Nxt H L w H L (σ.set l (.mp false nk (delI ks es))) w' := by
  obtain ⟨hw, _, _⟩ := wide_of hk
  simp only [Rel] at hm
  obtain ⟨li, b, hL, hb, hrow, rfl⟩ := hm
  have hob := hs.obj l li _ hL hσ
  simp only [RelObj] at hob
  obtain ⟨_, b', ents, ck, e1, h2, hr, hbn, hn⟩ := hob
  rw [hb] at e1
  cases e1
  have hg : (getObj b).run P w = .ok (.map ents ck) w := by simp [getObj, Sem.run, h2]
  have hlt := hs.lt l li b hL hb
  have hsame : ∀ o, (w.putObj b o).heap[b]? = some o := fun o => World.putObj_heap_same hlt
  rcases find_run (w := w) hk hks es ents.toList 0 hr hn with ⟨g1, g2, _, g4⟩ | ⟨j, p, en, g1, g2, g3, g4, g5, g6, g7, _, g9⟩
  · refine ⟨w.putObj b (.map ents ck), ?_, ?_⟩
    · simp only [Builtin.delete_, hat, List.getElem?_toArray, List.getElem?_cons_zero, List.getElem?_cons_succ, Sem.run_bind, run_underlying ht, Result.andThen_ok, hg, check_run hk hks, run_findKey_eq w hw, g2, setMap_run _ h2]
      rfl
    · rw [g4]
      refine nxt_putobj hs hL hb h2 (by simp) (by simp) (by simp) (by simp) (by simp) ?_
      simp only [RelObj]
      exact ⟨hrow, b, _, _, hb, hsame _, hr, fun hf => (by cases hf), hn⟩
  · refine ⟨w.putObj b (.map (ents.eraseIdxIfInBounds j) ck), ?_, ?_⟩
    · simp only [Builtin.delete_, hat, List.getElem?_toArray, List.getElem?_cons_zero, List.getElem?_cons_succ, Sem.run_bind, run_underlying ht, Result.andThen_ok, hg, check_run hk hks, run_findKey_eq w hw, g7, Nat.zero_add, setMap_run _ h2]
      rfl
    · rw [g9]
      refine nxt_putobj hs hL hb h2 (by simp) (by simp) (by simp) (by simp) (by simp) ?_
      simp only [RelObj]
      have hsub : (ents.eraseIdxIfInBounds j).toList = ents.toList.eraseIdx j := by
        unfold Array.eraseIdxIfInBounds
        split
        · simp
        · rw [List.eraseIdx_of_length_le (by simp; omega)]
      exact ⟨hrow, b, _, _, hb, hsame _, by rw [hsub]; exact RelMp.eraseAt hr, fun hf => (by cases hf), fun q hq => hn q (List.mem_of_mem_eraseIdx hq)⟩
theorem mk_ok (hs : RelSt H L σ w) (nk : Nat) : Nxt H L w H (L ++ [(⟨some w.heap.size, 0, 0, false⟩ : LI)]) (σ ++ [AObj.mp true nk []]) (w.alloc (.map #[] 0)) := by
  refine nxt_newobj hs _ _ ?_
  simp only [RelObj]
  exact ⟨trivial, w.heap.size, #[], 0, rfl, heap_alloc_new w _, rfl, fun _ => ⟨rfl, fun i e he => by simp at he⟩, by simp⟩
theorem rng_ok {t k e : TypeId} (ht : P.underlying t = some (.map k e)) (hs : RelSt H L σ w) {l nk : Nat} {es : List (List Int × A)} {m : Value} (hm : Rel H L (.map l) m) (hσ : σ[l]? = some (.mp true nk es)) :
    ∃ w', (Instr.range t m).run P w = .ok (.pointer (some ⟨w.heap.size, 0, none⟩)) w' ∧ Nxt H L w H (L ++ [(⟨some w.heap.size, 0, 0, false⟩ : LI)]) (σ ++ [AObj.it l es.length []]) w' := by
  simp only [Rel] at hm
  obtain ⟨li, b, hL, hb, hrow, rfl⟩ := hm
  have hob := hs.obj l li _ hL hσ
  simp only [RelObj] at hob
  obtain ⟨_, b', ents, ck, e1, h2, hr, hbn, hn⟩ := hob
  rw [hb] at e1
  cases e1
  obtain ⟨c1, c2⟩ := hbn rfl
  have hck : ck = es.length := by rw [c1, hr.length]
  refine ⟨w.alloc (.mapIter (some b) ck #[] ck), ?_, ?_⟩
  · have hg : (getObj b).run P w = .ok (.map ents ck) w := by simp [getObj, Sem.run, h2]
    simp only [Instr.range, Sem.run_bind, run_underlying ht, Result.andThen_ok, hg, Sem.run_pure, run_newObj]
    rfl
  · refine nxt_newobj hs _ _ ?_
    simp only [RelObj]
    refine ⟨trivial, w.heap.size, b, li, rfl, ?_, hb, hrow, ?_⟩
    · rw [List.getElem?_append_left (List.getElem?_eq_some_iff.1 hL).1]; exact hL
    · rw [heap_alloc_new, hck]
theorem left_mem {ents : Array MapEntry} {met : List Nat} {e : MapEntry} : e ∈ (leftOf ents met.toArray).toList ↔ e ∈ ents.toList ∧ e.born ∉ met := by
  unfold leftOf
  simp
theorem nxt_drew (hs : RelSt H L σ w) : Nxt H L w H L σ w.drew :=
  ⟨hs.heap_eq rfl, ⟨rfl, rfl, rfl, Nat.le_refl _, fun _ _ _ => rfl, HLe.refl _, fun _ _ _ h => .inl h, Nat.le_succ _, fun _ _ h => h⟩, LLe.refl _, fun _ h => .inl h⟩
theorem next_ok (ty : TypeId) (hs : RelSt H L σ w) {j l nk n : Nat} {met : List Nat} {es : List (List Int × A)} {it : Value} (hi : Rel H L (.ptr j 0) it) (hσ : σ[j]? = some (.it l n met)) (hσl : σ[l]? = some (.mp true nk es)) (hnn : n = es.length) :
    ((∀ i, i < n → i ∈ met) ∧ (Instr.next it false ty).run P w = .ok (.tuple #[.bool false]) w) ∨
    ∃ (i : Nat) (p : List Int × A) (v : Value) (w' : World), i ∉ met ∧ es[i]? = some p ∧ (Instr.next it false ty).run P w = .ok (.tuple #[.bool true, keyV p.1, v]) w' ∧ Rel H L p.2 v ∧ Nxt H L w H L (σ.set j (.it l n (met ++ [i]))) w' := by
  simp only [Rel] at hi
  obtain ⟨li, b, hL, hb, hrow, rfl⟩ := hi
  have hob := hs.obj j li _ hL hσ
  simp only [RelObj] at hob
  obtain ⟨_, b', mb, lm, e1, e2, e3, e4, hit⟩ := hob
  rw [hb] at e1
  cases e1
  have hom := hs.obj l lm _ e2 hσl
  simp only [RelObj] at hom
  obtain ⟨_, mb', ents, ck, g1, g2, hr, hbn, hn⟩ := hom
  rw [e3] at g1
  cases g1
  obtain ⟨c1, c2⟩ := hbn rfl
  have hck : ck = n := by rw [c1, hr.length, hnn]
  have hborn : ∀ x ∈ ents.toList, x.born < n := fun x hx => by
    obtain ⟨i, hi, rfl⟩ := List.mem_iff_getElem.1 hx
    have := c2 i _ (List.getElem?_eq_getElem hi)
    rw [this, ← hck, c1]
    exact hi
  rcases run_next_at (P := P) w ty b mb n n met.toArray ents ck hit g2 hborn (Nat.le_refl _) with ⟨k1, k2⟩ | ⟨e, he, w1, k1, k2⟩
  · refine .inl ⟨fun i hi => ?_, k2⟩
    have hie : i < ents.toList.length := by rw [hr.length]; omega
    have hbi := c2 i _ (List.getElem?_eq_getElem hie)
    by_cases hmi : i ∈ met
    · exact hmi
    · have : ents.toList[i] ∈ (leftOf ents met.toArray).toList := left_mem.2 ⟨List.getElem_mem hie, by rw [hbi]; exact hmi⟩
      have h0 : leftOf ents met.toArray = #[] := Array.eq_empty_of_size_eq_zero k1
      rw [h0] at this
      simp at this
  · obtain ⟨he1, he2⟩ := left_mem.1 he
    obtain ⟨i, hi, rfl⟩ := List.mem_iff_getElem.1 he1
    have hbi := c2 i _ (List.getElem?_eq_getElem hi)
    have hie : i < es.length := by rw [← hr.length]; exact hi
    obtain ⟨e', q1, q2, q3⟩ := hr.get (List.getElem?_eq_getElem hie)
    rw [List.getElem?_eq_getElem hi] at q1
    cases q1
    refine .inr ⟨i, es[i], _, _, by rw [← hbi]; exact he2, List.getElem?_eq_getElem hie, by rw [← q2]; exact k2, q3, ?_⟩
    have hnx1 : Nxt H L w H L σ w1 := by
      rcases k1 with rfl | rfl
      · exact Nxt.refl hs
      · exact nxt_drew hs
    have hh : w1.heap = w.heap := by rcases k1 with rfl | rfl <;> rfl
    have hit1 : w1.heap[b]? = some (.mapIter (some mb) n met.toArray n) := by rw [hh]; exact hit
    have hlt : b < w1.heap.size := by rw [hh]; exact hs.lt j li b hL hb
    refine hnx1.trans ?_
    refine nxt_putobj hnx1.st hL hb hit1 (by simp) (by simp) (by simp) (by simp) (by simp) ?_
    simp only [RelObj]
    refine ⟨hrow, b, mb, lm, hb, e2, e3, e4, ?_⟩
    rw [World.putObj_heap_same hlt, hbi, hck]
    simp
theorem ent_ok (hs : RelSt H L σ w) {j l nk n i : Nat} {met : List Nat} {es : List (List Int × A)} {it : Value} (hi : Rel H L (.ptr j 0) it) (hσ : σ[j]? = some (.it l n met)) (hσl : σ[l]? = some (.mp true nk es)) (hnn : n = es.length) (hmet : met.getLast? = some i) {p : List Int × A} (hp : es[i]? = some p) :
    ∃ v, (Instr.entry it).run P w = .ok (.tuple #[keyV p.1, v]) w ∧ Rel H L p.2 v := by
  simp only [Rel] at hi
  obtain ⟨li, b, hL, hb, hrow, rfl⟩ := hi
  have hob := hs.obj j li _ hL hσ
  simp only [RelObj] at hob
  obtain ⟨_, b', mb, lm, e1, e2, e3, e4, hit⟩ := hob
  rw [hb] at e1
  cases e1
  have hom := hs.obj l lm _ e2 hσl
  simp only [RelObj] at hom
  obtain ⟨_, mb', ents, ck, g1, g2, hr, hbn, hn⟩ := hom
  rw [e3] at g1
  cases g1
  obtain ⟨c1, c2⟩ := hbn rfl
  have hck : ck = n := by rw [c1, hr.length, hnn]
  obtain ⟨e, q1, q2, q3⟩ := hr.get hp
  have hbi := c2 i e q1
  obtain ⟨ini, hini⟩ : ∃ ini, met = ini ++ [i] := by
    rw [List.getLast?_eq_some_iff] at hmet
    exact hmet
  have hnod : (ents.toList.map (·.born)).Nodup := by
    rw [List.nodup_iff_pairwise_ne, List.pairwise_iff_getElem]
    intro x y hx hy hxy
    simp only [List.length_map] at hx hy
    simp only [List.getElem_map, c2 x _ (List.getElem?_eq_getElem hx), c2 y _ (List.getElem?_eq_getElem hy)]
    omega
  refine ⟨e.val, ?_, q3⟩
  rw [← q2]
  refine run_entry_at w b mb n ini.toArray ents ck e ?_ g2 (List.mem_of_getElem? q1) hnod
  rw [hit, hini, hbi, hck]
  simp
end
end Go.Abs
