/-
  Soundness: building structs and arrays; all operations that leave the state alone, in one theorem.
-/
import Derived.Test.YthglhccibdlccaaDoorE5
namespace Go.Abs

section
variable {P : Program} {H : Mem} {L : List LI} {σ : St} {w : World} {N : Nat} {env : Env} {a : Act}

theorem fold_set (off : Nat) : ∀ (vs : List Value) (k : Nat) (cs : Array Value), off + k + vs.length ≤ cs.size →
    ((vs.zipIdx k).foldl (fun cs (p : Value × Nat) => cs.setIfInBounds (off + p.2) p.1) cs).toList = cs.toList.take (off + k) ++ vs ++ cs.toList.drop (off + k + vs.length)
  | [], k, cs, _ => by simp
  | v :: vs, k, cs, h => by
    simp only [List.length_cons] at h
    have ih := fold_set off vs (k + 1) (cs.setIfInBounds (off + k) v) (by simpa using by omega)
    rw [List.zipIdx_cons, List.foldl_cons, ih]
    simp only [Array.toList_setIfInBounds, List.length_cons]
    have hk : off + k < cs.toList.length := by simpa using by omega
    rw [show off + (k + 1) = off + k + 1 from by omega, List.take_succ_eq_append_getElem (by simpa using hk), List.take_set_of_le (Nat.le_refl _), List.getElem_set_self,
      List.drop_set_of_lt (by omega)]
    simp only [List.append_assoc, List.singleton_append]
    rw [show off + k + 1 + vs.length = off + k + (vs.length + 1) from by omega]

theorem fill_rel (he : RelEnv H L N env a.tmps) (place : Nat → Option (Nat × Nat)) : ∀ (parts : List (Nat × Operand)) (ps : List (Nat × Nat × Operand)) (zs : List A) (arr : Array Value) (cs : List A),
    partsOf place parts = some ps → fillA zs (ps.map fun (o, s, x) => (o, s, ev env x)) = some cs → RelL H L zs arr.toList → (∀ u ∈ arr.toList, one u) →
    ∃ arr' : Array Value, Instr.fill place arr (parts.map fun (i, x) => (i, a.eval x)) = some arr' ∧ RelL H L cs arr'.toList ∧ ∀ u ∈ arr'.toList, one u
  | [], ps, zs, arr, cs, hp, hf, hz, h1 => by
    simp only [partsOf, List.mapM_nil, Option.pure_def, Option.some.injEq] at hp
    subst hp
    simp only [List.map_nil, fillA, Option.some.injEq] at hf
    subst hf
    exact ⟨arr, rfl, hz, h1⟩
  | (i, x) :: parts, ps, zs, arr, cs, hp, hf, hz, h1 => by
    simp only [partsOf, List.mapM_cons, Option.pure_def, Option.bind_eq_bind, Option.bind_eq_some_iff, Option.map_eq_some_iff, Option.some.injEq] at hp
    obtain ⟨q, ⟨⟨off, size⟩, hpl, rfl⟩, ps', hps, rfl⟩ := hp
    simp only [List.map_cons, fillA] at hf
    split at hf <;> try (cases hf; done)
    rename_i l hl
    split at hf <;> try (cases hf; done)
    rename_i hc
    obtain ⟨hc1, hc2⟩ := hc
    obtain ⟨g1, g2⟩ := rel_cellsOf (rel_ev he x) hl
    have hlen := g1.length
    have hzl := hz.length
    have hls : (a.eval x).cells.size = size := by rw [← Array.length_toList, hlen, hc1]
    have hsz : off + (a.eval x).cells.size ≤ arr.size := by rw [hls, ← Array.length_toList, hzl]; exact hc2
    have hfold : (((a.eval x).cells.zipIdx.foldl (fun cs (p : Value × Nat) => cs.setIfInBounds (off + p.2) p.1) arr)).toList = arr.toList.take off ++ (a.eval x).cells.toList ++ arr.toList.drop (off + size) := by
      have := fold_set off (a.eval x).cells.toList 0 arr (by simpa using hsz)
      simp only [Nat.add_zero, Array.length_toList, hls] at this
      rw [← this, ← Array.foldl_toList, Array.toList_zipIdx]
    obtain ⟨arr', k1, k2, k3⟩ := fill_rel he place parts ps' _ ((a.eval x).cells.zipIdx.foldl (fun cs (p : Value × Nat) => cs.setIfInBounds (off + p.2) p.1) arr) cs hps hf
      (by rw [hfold]; exact ((hz.take off).append g1).append (hz.drop _))
      (by
        rw [hfold]
        intro u hu
        simp only [List.mem_append] at hu
        rcases hu with (hu | hu) | hu
        · exact h1 u (List.mem_of_mem_take hu)
        · exact g2 u hu
        · exact h1 u (List.mem_of_mem_drop hu))
    refine ⟨arr', ?_, k2, k3⟩
    simp only [List.map_cons, Instr.fill, hpl]
    rw [if_neg (by simp only [Bool.or_eq_true, decide_eq_true_eq, not_or, Decidable.not_not, hls, true_and, Nat.not_lt, ne_eq]; rw [hls] at hsz; exact hsz)]
    exact k1

theorem mapM_places {fs : Array Field} {P : Program} (hall : fs.all (fun f => (P.info? f.type).isSome) = true) :
    ∃ ps : Array (Nat × Nat), (fs.mapM fun f => (do pure (f.offset, ← sizeOf f.type) : Sem (Nat × Nat))).run P w = .ok ps w ∧ ∀ i : Nat, ps[i]? = placeAt P fs.toList i := by
  obtain ⟨l⟩ := fs
  have hall' : ∀ f ∈ l, (P.info? f.type).isSome := by simpa using hall
  have key : ∀ (l : List Field), (∀ f ∈ l, (P.info? f.type).isSome) → ∃ ps : List (Nat × Nat), (l.mapM fun f => (do pure (f.offset, ← sizeOf f.type) : Sem (Nat × Nat))).run P w = .ok ps w ∧
      ∀ i : Nat, ps[i]? = placeAt P l i := by
    intro l
    induction l with
    | nil => intro _; exact ⟨[], by simp, by simp [placeAt]⟩
    | cons f l ih =>
      intro h
      obtain ⟨ps, h1, h2⟩ := ih (fun g hg => h g (List.mem_cons_of_mem _ hg))
      obtain ⟨j, hj⟩ := Option.isSome_iff_exists.1 (h f (List.mem_cons_self ..))
      refine ⟨(f.offset, j.size) :: ps, ?_, ?_⟩
      · rw [List.mapM_cons]
        simp only [Sem.run_bind, run_sizeOf' hj, Result.andThen_ok, Sem.run_pure, h1]
      · intro i
        cases i with
        | zero => simp [placeAt, hj]
        | succ i => simpa [placeAt] using h2 i
  obtain ⟨ps, h1, h2⟩ := key l hall'
  refine ⟨ps.toArray, ?_, fun i => by simpa using h2 i⟩
  rw [List.mapM_toArray]
  simp only [Sem.run_map, h1, Result.andThen_ok]

theorem gives_build {o : Oper} {t : TypeId} {parts : Array (Nat × Operand)} {i : TypeInfo} {z : Value} {place : Nat → Option (Nat × Nat)} {ps : List (Nat × Nat × Operand)} (ho : o.op = .build t parts)
    (hi : P.info? t = some i) (hz : i.zero = some z) (hok : okCells z.cells.toList = true) (hps : partsOf place parts.toList = some ps)
    (hpl : (∃ fs, P.underlying t = some (.struct fs) ∧ fs.all (fun f => (P.info? f.type).isSome) = true ∧ place = placeAt P fs.toList) ∨
      (∃ n e j, P.underlying t = some (.array n e) ∧ P.info? e = some j ∧ place = fun i => some (i * j.size, j.size)))
    (he : RelEnv H L N env a.tmps) {r : A} {p : Prop} (h : pureO env σ (.build o.dst z.cells.toList ps) = some (p, r)) : Gives P H L w a o r := by
  simp only [pureO, Option.map_eq_some_iff, Prod.mk.injEq] at h
  obtain ⟨cs, hcs, _, rfl⟩ := h
  have hone : ∀ u ∈ z.cells.toList, one u := fun u hu => List.all_eq_true.1 hok u hu
  obtain ⟨arr, h1, h2, h3⟩ := fill_rel he place parts.toList ps _ z.cells cs hps hcs (relL_ofCell _) hone
  refine ⟨.agg arr, ?_, by simp only [Rel]; exact ⟨arr.toList, by simp, h2, h3⟩⟩
  unfold execOp
  simp only [ho]
  refine value_run ?_
  have hmap : (parts.map fun (i, x) => (i, a.eval x)).toList = parts.toList.map fun (i, x) => (i, a.eval x) := by simp
  unfold Instr.build
  have hzr : (zeroValue t).run P w = .ok z w := by simp [zeroValue, typeInfo, hi, hz]
  rcases hpl with ⟨fs, hu, hall, rfl⟩ | ⟨n, e, j, hu, hj, rfl⟩
  · obtain ⟨pls, hm1, hm2⟩ := mapM_places (w := w) hall
    have hfn : (fun i : Nat => pls[i]?) = placeAt P fs.toList := funext hm2
    simp only [Sem.run_bind, hzr, Result.andThen_ok, run_underlying hu, hm1, hmap]
    rw [hfn, h1]
    rfl
  · simp only [Sem.run_bind, hzr, Result.andThen_ok, run_underlying hu, run_sizeOf' hj, hmap]
    rw [h1]
    rfl

end
end Go.Abs
