/-
  What tweaks and new names keep.
  Tweaked programs, walked.
-/
import Derived.Test.YthglhccibdlccaaGreatDoorX43
import Derived.Test.YthglhccibdlccaaGreatDoorX48
import Derived.Test.YthglhccibdlccaaGreatDoorX45
set_option linter.unusedVariables false
set_option linter.unusedSimpArgs false
namespace Go.Proofs.YthglhccibdlccaaGreatDoor
open Go.Abs
mutual
def Exp.nice : Exp → Prop
  | .mk _ k _ _ _ ks ns => (k = 5 → ks.length = 3) ∧ ns.length ≤ 10 ∧ niceL ks
def niceL : List Exp → Prop
  | [] => True
  | e :: l => e.nice ∧ niceL l
end
theorem niceL_iff : ∀ l : List Exp, niceL l ↔ ∀ e ∈ l, e.nice
  | [] => by simp [niceL]
  | e :: l => by simp [niceL, niceL_iff l]
theorem nice_def (e : Exp) : e.nice ↔ (e.k = 5 → e.kids.length = 3) ∧ e.names.length ≤ 10 ∧ ∀ k ∈ e.kids, k.nice := by
  cases e; simp only [Exp.nice, niceL_iff, Exp.k_mk, Exp.kids_mk, Exp.names_mk]
theorem nice_zero : Exp.zero.nice := by simp [Exp.zero, Exp.nice, niceL]
mutual
theorem nice_if : ∀ (e : Exp), e.nice → IfOk e
  | .mk i k n r t ks ns, h => by
    intro z hz hk
    simp only [Exp.nice] at h
    simp only [belowE] at hz
    rcases List.mem_cons.1 hz with rfl | hz
    · exact h.1 hk
    · exact niceL_if ks h.2.2 z hz hk
theorem niceL_if : ∀ (l : List Exp), niceL l → ∀ z ∈ belowL l, z.k = 5 → z.kids.length = 3
  | [], _, z, hz, _ => by simp [belowL] at hz
  | e :: l, h, z, hz, hk => by
    simp only [belowL, List.mem_append] at hz
    rcases hz with hz | hz
    · exact nice_if e h.1 z hz hk
    · exact niceL_if l h.2 z hz hk
end
mutual
theorem nice_few : ∀ (e : Exp), e.nice → (tmps e).length ≤ 1000000 → e.few
  | .mk i k n r t ks ns, h, hs => by
    have hk := small_kids hs
    simp only [Exp.nice] at h
    simp only [Exp.few]
    exact ⟨by omega, hk.1, niceL_few ks h.2.2 hk.2⟩
theorem niceL_few : ∀ (l : List Exp), niceL l → (∀ k ∈ l, (tmps k).length ≤ 1000000) → fewL l
  | [], _, _ => trivial
  | e :: l, h, hs => ⟨nice_few e h.1 (hs e (by simp)), niceL_few l h.2 fun k hk => hs k (by simp [hk])⟩
end
mutual
theorem ren_nice (f : Int → Id) : ∀ (e : Exp), e.nice → (renE f e).nice ∧ (tmps (renE f e)).length = (tmps e).length
  | .mk i k n r t ks ns, h => by
    simp only [Exp.nice] at h
    have := rens_nice f ks h.2.2
    simp only [renE, Exp.nice, tmps, List.length_append, List.length_singleton, this.2.1, this.2.2]
    exact ⟨⟨h.1, h.2.1, this.1⟩, trivial⟩
theorem rens_nice (f : Int → Id) : ∀ (l : List Exp), niceL l → niceL (renEs f l) ∧ (tmpsL (renEs f l)).length = (tmpsL l).length ∧ (renEs f l).length = l.length
  | [], _ => ⟨trivial, rfl, rfl⟩
  | e :: l, h => by
    have h1 := ren_nice f e h.1
    have h2 := rens_nice f l h.2
    simp only [renEs, niceL, tmpsL, List.length_append, List.length_cons, h1.2, h2.2.1, h2.2.2, and_true]
    exact ⟨h1.1, h2.1⟩
end
mutual
theorem nam_nice (s : ByteArray) : ∀ (e : Exp), e.nice → (namE s e).nice ∧ (tmps (namE s e)).length = (tmps e).length
  | .mk i k n r t ks ns, h => by
    simp only [Exp.nice] at h
    have := nams_nice s ks h.2.2
    simp only [namE, Exp.nice, tmps, List.length_append, List.length_singleton, List.length_map, this.2.1, this.2.2]
    exact ⟨⟨h.1, h.2.1, this.1⟩, trivial⟩
theorem nams_nice (s : ByteArray) : ∀ (l : List Exp), niceL l → niceL (namL s l) ∧ (tmpsL (namL s l)).length = (tmpsL l).length ∧ (namL s l).length = l.length
  | [], _ => ⟨trivial, rfl, rfl⟩
  | e :: l, h => by
    have h1 := nam_nice s e h.1
    have h2 := nams_nice s l h.2
    simp only [namL, niceL, tmpsL, List.length_append, List.length_cons, h1.2, h2.2.1, h2.2.2, and_true]
    exact ⟨h1.1, h2.1⟩
end
theorem twHead_nice {e : Exp} (h : e.nice) (x : Int) : (twHead e x).nice ∧ (tmps (twHead e x)).length = (tmps e).length := by
  have hN : ∀ n, (twN e n).nice ∧ (tmps (twN e n)).length = (tmps e).length := fun n => by
    cases e
    simp only [Exp.nice] at h
    simp only [twN, Exp.nice, Exp.id_mk, Exp.k_mk, Exp.ref_mk, Exp.typ_mk, Exp.kids_mk, Exp.names_mk, tmps]
    exact ⟨h, trivial⟩
  unfold twHead
  split
  · exact hN _
  · split
    · exact hN _
    · split
      · split
        · exact hN _
        · split
          · exact hN _
          · exact ⟨h, rfl⟩
      · split
        · split
          · rename_i a b c hk
            cases e with
            | mk i k n r t ks ns =>
              simp only [Exp.kids_mk] at hk
              subst hk
              simp only [Exp.nice, niceL] at h
              simp only [twK, Exp.nice, niceL, Exp.id_mk, Exp.k_mk, Exp.n_mk, Exp.ref_mk, Exp.typ_mk, Exp.names_mk, tmps, tmpsL, List.length_append, List.length_singleton, List.length_nil]
              obtain ⟨h1, h2, h3, h4, h5, _⟩ := h
              exact ⟨⟨fun _ => rfl, h2, h3, h5, h4, trivial⟩, by omega⟩
          · exact ⟨h, rfl⟩
        · exact ⟨h, rfl⟩
mutual
theorem tweak_nice (x : Int) : ∀ (e : Exp) (a : Int), e.nice → (tweakE e a x).1.nice ∧ (tmps (tweakE e a x).1).length = (tmps e).length
  | .mk i k n r t ks ns, a, h => by
    simp only [tweakE]
    split
    · exact twHead_nice h x
    · simp only [Exp.nice] at h
      have := tweaks_nice x ks (a - 1) h.2.2
      simp only [Exp.nice, tmps, List.length_append, List.length_singleton, this.2, tweakL_len]
      exact ⟨⟨h.1, h.2.1, this.1⟩, trivial⟩
theorem tweaks_nice (x : Int) : ∀ (l : List Exp) (a : Int), niceL l → niceL (tweakL l a x).1 ∧ (tmpsL (tweakL l a x).1).length = (tmpsL l).length
  | [], _, _ => ⟨trivial, rfl⟩
  | e :: l, a, h => by
    simp only [tweakL]
    split
    · have h1 := tweak_nice x e a h.1
      have h2 := tweaks_nice x l (tweakE e a x).2 h.2
      simp only [niceL, tmpsL, List.length_append, h1.2, h2.2, and_true]
      exact ⟨h1.1, h2.1⟩
    · have h2 := tweaks_nice x l a h.2
      simp only [niceL, tmpsL, List.length_append, h2.2, and_true]
      exact ⟨h.1, h2.1⟩
end
theorem wt_nice {hs : List Hd} {own : Int} {env : List Bnd} {e : Exp} {t : Typ} (h : WT hs own env e t) : e.nice := by
  induction h with
  | int env i n h1 h2 => simp [Exp.nice, niceL]
  | bool env i n h => simp [Exp.nice, niceL]
  | var env i n x t h => simp [Exp.nice, niceL]
  | call env i k h ks ho hk hlen hw ih =>
    simp only [Exp.nice, niceL_iff]
    refine ⟨fun h => by omega, by simp, fun e hm => ?_⟩
    obtain ⟨j, hj, rfl⟩ := List.getElem_of_mem hm
    exact ih j hj
  | arith env i n a b h1 h2 ha hb iha ihb => simp [Exp.nice, niceL, iha, ihb]
  | less env i a b ha hb iha ihb => simp [Exp.nice, niceL, iha, ihb]
  | same env i a b u ha hb iha ihb => simp [Exp.nice, niceL, iha, ihb]
  | andor env i n a b h ha hb iha ihb => simp [Exp.nice, niceL, iha, ihb]
  | not env i a ha iha => simp [Exp.nice, niceL, iha]
  | join env i a b t ha hb iha ihb => simp [Exp.nice, niceL, iha, ihb]
  | len env i a t ha iha => simp [Exp.nice, niceL, iha]
  | ite env i a b c t ha hb hc iha ihb ihc => simp [Exp.nice, niceL, iha, ihb, ihc]
  | lets env i a b u t ns hn ha hb iha ihb => simp [Exp.nice, niceL, iha, ihb, hn]
  | record env i k h ks hk hlen hw ih =>
    simp only [Exp.nice, niceL_iff]
    refine ⟨fun h => by omega, by simp, fun e hm => ?_⟩
    obtain ⟨j, hj, rfl⟩ := List.getElem_of_mem hm
    exact ih j hj
  | field env i k h j hj a hk ha iha => simp [Exp.nice, niceL, iha]
  | case env i k h j hj a hk ha iha => simp [Exp.nice, niceL, iha]
  | mtch env i k h a ks t ns hn hk hlen ha hw iha ih =>
    simp only [Exp.nice, niceL_iff]
    refine ⟨fun h => by omega, hn, fun e hm => ?_⟩
    rcases List.mem_cons.1 hm with rfl | hm
    · exact iha
    · obtain ⟨j, hj, rfl⟩ := List.getElem_of_mem hm
      exact ih j hj
  | list env i t ks hw ih =>
    simp only [Exp.nice, niceL_iff]
    refine ⟨fun h => by omega, by simp, fun e hm => ?_⟩
    obtain ⟨j, hj, rfl⟩ := List.getElem_of_mem hm
    exact ih j hj
  | fold env i l s b u t ns hn hl' hs' hb' ihl ihs ihb => simp [Exp.nice, niceL, ihl, ihs, ihb, hn]
structure FineP (p : Prg) : Prop where
  defs : p.defs.length ≤ 9
  mods : p.mods.length ≤ 100
  slots : ∀ d ∈ p.defs, 1 ≤ d.slots.length ∧ d.slots.length ≤ 6
  nice : ∀ d ∈ p.defs, d.body.nice
  size : ∀ d ∈ p.defs, (tmps d.body).length ≤ 32768
theorem FineP.small {p : Prg} (h : FineP p) : (fstD p.defs).length ≤ 100000 ∧ (nodD p.defs).length ≤ 300000 ∧ (nodesV p.defs).length ≤ 300000 := by
  have h9 := h.defs
  have hn := nodesV_le p.defs 32768 h.size
  have h3 : (nodesV p.defs).length ≤ 300000 := by omega
  have key : ∀ {α : Type} (idf : α → Id) (L acc : List α), (L.foldl (insL idf) acc).length ≤ acc.length + L.length := by
    intro α idf L
    induction L with
    | nil => intro acc; simp
    | cons x L ih =>
      intro acc
      rw [List.foldl_cons]
      have := ih (insL idf acc x)
      have h2 : (insL idf acc x).length ≤ acc.length + 1 := by
        unfold insL
        split
        · omega
        · simp
      simp only [List.length_cons]
      omega
  refine ⟨?_, ?_, h3⟩
  · have := key Dfn.id p.defs []
    simp only [List.length_nil, Nat.zero_add] at this
    unfold fstD
    omega
  · rw [nodD_fold]
    have := key Exp.id (nodesV p.defs) []
    simp only [List.length_nil, Nat.zero_add] at this
    omega
theorem FineP.toSmall {p : Prg} (h : FineP p) : SmallP p := ⟨by have := h.defs; omega, fun d hd => by have := h.size d hd; omega, h.small.2.2⟩
end Go.Proofs.YthglhccibdlccaaGreatDoor
namespace Go.Proofs.YthglhccibdlccaaGreatDoor
open Go.Abs
def KTwP : K :=
 K.seq (K.ops [kO 3 0,
 kZ 6 [(.slice none 0 0), (.slice none 0 0)]])
 (K.seq (K.ops [⟨none, .bslice (some 10) 39 31 0 [] []⟩,
 kA 11 3 1,
 kL 12 11 1,
 kP 13 39 31 352 10 12,
 kA 14 3 1,
 kS 14 13 1])
 (K.seq (K.seq (K.ops [kMi 7 0])
 (K.block 0 (K.loop (K.seq (K.seq (K.ops [kM 15 7,
 kM 16 2,
 kB 17 15 16 .lss,
 kM 18 17,
 kT 18 true (kM 19 7),
 kT 18 true (kBi 20 19 2 .add),
 kT 18 true (kM 21 1),
 kT 18 true (kN 22 21),
 kT 18 true (kB 23 20 22 .lss),
 kPf 24 18 23,
 kM 25 24,
 kT 25 true (kA 26 3 1),
 kT 25 true (kL 27 26 1),
 kT 25 true (kN 28 27),
 kT 25 true (kBi 29 28 0 .gtr),
 kPf 30 25 29])
 (K.cond (.tmp 30)
 (K.skip)
 (K.exit 0)))
 (K.seq (K.block 1 (K.seq (K.ops [kM 33 1,
 kM 34 7,
 kA 35 3 1,
 kL 36 35 1,
 kN 37 36,
 kC 38 31 [(.tmp 33), (.tmp 34), (.tmp 37)],
 kM 8 38])
 (K.seq (K.ops [kA 39 3 1,
 kL 40 39 1,
 kM 41 8,
 kX 42 40 41 31,
 kG 43 42 31,
 kC 44 25 [(.tmp 43)]])
 (K.cond (.tmp 44)
 (K.seq (K.ops [kM 45 1,
 kM 46 7,
 kBi 47 46 1 .add,
 kA 48 3 1,
 kL 49 48 1,
 kM 50 8,
 kX 51 49 50 31,
 kA 52 51 14,
 kG 53 52 15,
 kC 54 52 [(.tmp 53)],
 kC 55 31 [(.tmp 45), (.tmp 47), (.tmp 54)],
 kM 9 55])
 (K.dops [(0, 0, kA 57 3 1),
 (1, 0, kL 58 57 1),
 (2, 0, kM 59 8),
 (3, 0, kA 60 3 1),
 (4, 0, kL 61 60 1),
 (5, 0, kM 62 8),
 (6, 0, kX 63 61 62 31),
 (7, 0, kA 64 63 14),
 (8, 0, kG 65 64 15),
 (9, 0, kM 66 9),
 (10, 0, kM 67 1),
 (11, 0, kM 68 7),
 (12, 0, kBi 69 68 2 .add),
 (13, 0, kC 70 31 [(.tmp 67), (.tmp 69), (.const (.int .i64 1000))]),
 (14, 0, kC 71 53 [(.tmp 65), (.tmp 66), (.tmp 70)]),
 (15, 0, kM 56 71),
 (16, 0, kE 72 56 0),
 (17, 0, kE 73 56 1),
 (18, 0, kX 74 58 59 31),
 (19, 0, kA 75 74 14),
 (20, 0, kS 75 72 15)]))
 (K.skip)))))
 (K.ops [kM 31 7,
 kBi 32 31 1 .add,
 kM 7 32]))))))
 (K.seq (K.ops [kG 76 3 2,
 kS 6 76 2])
 (K.ret))))
theorem cTwP : compile Tryz.prog Tryz.f18.ntmps (Tryz.f18.body.getD .skip) = some KTwP.erase := by kernel_rfl
@[simp] theorem calTwP : callable Tryz.prog 18 = true := by kernel_rfl
def twStep (l : List Int) (ds : List Dfn) (i : Nat) : List Dfn := match ds[(atV l i ds.length).toNat]? with
  | some d => if bodK d.kind then ds.set (atV l i ds.length).toNat (d.wb (tweakE d.body (atV l (i + 1) (tmps d.body).length) (atV l (i + 2) 1000)).1) else ds
  | none => ds
def twAll (l : List Int) (ds : List Dfn) : Nat → List Dfn
  | 0 => ds
  | i + 1 => twStep l (twAll l ds i) i
theorem twStep_len (l : List Int) (ds : List Dfn) (i : Nat) : (twStep l ds i).length = ds.length := by
  unfold twStep
  split
  · split <;> simp
  · rfl
theorem twAll_len (l : List Int) (ds : List Dfn) : ∀ i : Nat, (twAll l ds i).length = ds.length
  | 0 => rfl
  | i + 1 => by simp only [twAll]; rw [twStep_len, twAll_len l ds i]
theorem twStep_keep (l : List Int) {ds : List Dfn} {i : Nat} {P : Dfn → Prop} (h : ∀ d ∈ ds, P d) (hs : ∀ d, P d → ∀ a x, P (d.wb (tweakE d.body a x).1)) : ∀ d ∈ twStep l ds i, P d := by
  unfold twStep
  split
  · rename_i d hd
    split
    · intro d' hd'
      rcases List.mem_or_eq_of_mem_set hd' with hd' | rfl
      · exact h d' hd'
      · exact hs _ (h _ (List.mem_of_getElem? hd)) _ _
    · exact h
  · exact h
theorem twAll_keep (l : List Int) {ds : List Dfn} {P : Dfn → Prop} (h : ∀ d ∈ ds, P d) (hs : ∀ d, P d → ∀ a x, P (d.wb (tweakE d.body a x).1)) : ∀ i : Nat, ∀ d ∈ twAll l ds i, P d
  | 0 => h
  | i + 1 => twStep_keep l (twAll_keep l h hs i) hs
structure FineD (d : Dfn) : Prop where
  s1 : 1 ≤ d.slots.length
  s6 : d.slots.length ≤ 6
  nice : d.body.nice
  size : (tmps d.body).length ≤ 32768
theorem FineP.get {p : Prg} (h : FineP p) : ∀ d ∈ p.defs, FineD d := fun d hd => ⟨(h.slots d hd).1, (h.slots d hd).2, h.nice d hd, h.size d hd⟩
theorem FineP.mk' {p : Prg} (h1 : p.defs.length ≤ 9) (h2 : p.mods.length ≤ 100) (h : ∀ d ∈ p.defs, FineD d) : FineP p := ⟨h1, h2, fun d hd => ⟨(h d hd).s1, (h d hd).s6⟩, fun d hd => (h d hd).nice, fun d hd => (h d hd).size⟩
theorem FineD.tweak {d : Dfn} (h : FineD d) (a x : Int) : FineD (d.wb (tweakE d.body a x).1) := by
  have := tweak_nice x d.body a h.nice
  exact ⟨h.s1, h.s6, this.1, by have := this.2; have := h.size; simp only [Dfn.wb]; omega⟩
theorem twAll_fine (l : List Int) {p : Prg} (h : FineP p) (i : Nat) : FineP ⟨p.mods, twAll l p.defs i⟩ :=
  FineP.mk' (by simp only [twAll_len]; exact h.defs) h.mods (twAll_keep l h.get (fun d hd a x => hd.tweak a x) i)
def twN3 (l : List Int) (most : Nat) : Nat := min most (l.length - 2)
set_option maxHeartbeats 4000000 in
theorem tweakP_ok (p : Prg) (hf : FineP p) (h0 : 0 < p.defs.length) (l : List Int) (hl : ∀ x ∈ l, w64 x = x) (most : Nat) (hm : most ≤ 100) :
    Ret Tryz.prog 18 [.agg (encP p), .sl l.length (ints l), int most] [] (.agg (encP ⟨p.mods, twAll l p.defs (twN3 l most)⟩)) [] := by
  obtain ⟨N, hN⟩ : ∃ N, N = twN3 l most := ⟨_, rfl⟩
  rw [← hN]
  have hNm : N ≤ most := by rw [hN]; exact Nat.min_le_left _ _
  have hNl : N ≤ l.length - 2 := by rw [hN]; exact Nat.min_le_right _ _
  have hd9 := hf.defs
  refine ret_of_wp Tryz.func18 rfl cTwP (rs := [.cell 6 2 true]) (by kernel_rfl) ?_
  unfold KTwP
  have hnil : p.defs ≠ [] := fun e => by rw [e] at h0; simp at h0
  simp -implicitDefEqProofs [encP, hnil]
  refine ⟨⟨by simp [maxLen]; omega, by omega⟩, ?_⟩
  refine loopS (S := Nat) (fun i => [(1, .sl l.length (ints l)), (2, int most), (3, .ptr 0 0), (6, .ptr 1 0), (7, int i)])
    (fun i => [.box [.sl p.mods.length (cellsM p.mods), .row 2 p.defs.length], .box [.nil, .nil], .row false 39 31 p.defs.length (cellsD (twAll l p.defs i))]) (fun i => i ≤ N) (fun i => N - i) 0 (by simp)
    (selW [0, 1, 2] 0 (by decide) (by simp) (by simp [twAll]) (by simp)) ?_
  intro i hi
  have wi2 : IntKind.i64.wrap ((i : Int) + 2) = i + 2 := IntWalk.i64_in _ (by omega)
  by_cases h : i < N
  · have c1 : (i : Int) < most := by omega
    have c2 : (i : Int) + 2 < l.length := by omega
    have wi1 : IntKind.i64.wrap ((i : Int) + 1) = i + 1 := IntWalk.i64_in _ (by omega)
    have hlen := twAll_len l p.defs i
    have hfi := (twAll_fine l hf i).get
    have hstep : twAll l p.defs (i + 1) = twStep l (twAll l p.defs i) i := rfl
    simp only at hfi
    generalize hTs : twAll l p.defs (i + 1) = T' at hstep
    generalize hT : twAll l p.defs i = T at *
    have hat := at_ok l i p.defs.length (by omega)
    obtain ⟨a1, a2⟩ := at_range (i := i) hl (most := (p.defs.length : Int)) (by omega)
    obtain ⟨k, hk⟩ : ∃ k : Nat, atV l i p.defs.length = k := ⟨(atV l i p.defs.length).toNat, by omega⟩
    have hkT : k < T.length := by omega
    have hkd : k < p.defs.length := by omega
    rw [hk] at hat
    unfold twStep at hstep
    rw [hlen, hk, Int.toNat_natCast, List.getElem?_eq_getElem hkT] at hstep
    have hdr := cellsD_drop hkT
    have hwb := fun e => cellsD_wb hkT e
    have hfd := hfi _ (List.getElem_mem hkT)
    generalize T[k] = d at *
    simp only at hstep
    have hb31 : k * 31 + 31 ≤ p.defs.length * 31 := by omega
    have hb14 : k * 31 + 14 + 15 ≤ p.defs.length * 31 := by omega
    have hdr14 : List.drop (k * 31 + 14) (cellsD T) = (encD d ++ cellsD (T.drop (k + 1))).drop 14 := by rw [← List.drop_drop, hdr]
    have hhb := hasB_ok d
    simp -implicitDefEqProofs [c1, c2, wi2, h0]
    intros
    refine call0 hat (by simp) (by simp) ?_
    simp -implicitDefEqProofs [hkd, hdr, hb31, encD, hlen]
    refine call0 hhb (by simp [encD]) (by simp) ?_
    cases hbk : bodK d.kind
    · rw [hbk] at hstep
      simp only [Bool.false_eq_true, if_false] at hstep
      subst hstep
      simp -implicitDefEqProofs
      exact roundS (i + 1) h (by omega) (selW [0, 1, 2] 0 (by decide) (by simp) (by simp [hT, hTs]) (by simp [wi1]))
    · rw [hbk] at hstep
      simp only [if_true] at hstep
      have hsz := hfd.size
      have hn1 : 1 ≤ (tmps d.body).length := by rw [tmps_def, List.length_append, List.length_singleton]; omega
      have hnod := nodes11_ok d.body (by omega)
      have hat1 := at_ok l (i + 1) (tmps d.body).length (by omega)
      obtain ⟨b1, b2⟩ := at_range (i := i + 1) hl (most := ((tmps d.body).length : Int)) (by omega)
      have hat2 := at_ok l (i + 2) 1000 (by omega)
      have htw := tweak_ok d.body (nice_if _ hfd.nice) (by omega) (atV l (i + 1) (tmps d.body).length) (atV l (i + 2) 1000) b1 (by omega)
      simp -implicitDefEqProofs [hlen, hkd, hdr14, hb14, encD, wi1]
      refine call0 hnod (by simp [encE]) (by simp) ?_
      simp -implicitDefEqProofs [wi1]
      refine call0 hat1 (by simp) (by simp) ?_
      simp -implicitDefEqProofs [hlen, hkd, hdr14, hb14, encD, wi2]
      refine dcall0 hat2 (by simp) (by simp) ?_
      simp -implicitDefEqProofs [hlen, hkd, hdr14, hb14, encD]
      refine dcall0 htw (by simp [encE]) (by simp [twR]) ?_
      simp -implicitDefEqProofs [hlen, twR, hkd, hb14]
      exact roundS (i + 1) h (by omega) (selW [0, 1, 2] 0 (by decide) (by simp) (by simp [hTs, hstep, ← hwb]) (by simp [wi1]))
  · have hie : i = N := by omega
    subst hie
    have hlen := twAll_len l p.defs i
    by_cases c1 : (i : Int) < most
    · have c2 : ¬ (i : Int) + 2 < l.length := by
        have : i = min most (l.length - 2) := hN
        omega
      simp -implicitDefEqProofs [c1, c2, wi2]
      intros
      exact ret_end 1 (by simp [encP, hlen])
    · simp -implicitDefEqProofs [c1]
      exact ret_end 1 (by simp [encP, hlen])
end Go.Proofs.YthglhccibdlccaaGreatDoor
