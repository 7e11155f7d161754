/-
  The maker's bodies exist.
  The numbers of nodes become IDs: the data.
-/
import Derived.Test.YthglhccibdlccaaGreatDoorX45
import Derived.Test.YthglhccibdlccaaGreatDoorX26
set_option linter.unusedVariables false
set_option linter.unusedSimpArgs false
namespace Go.Proofs.YthglhccibdlccaaGreatDoor
open Go.Abs
theorem seq_ex {α : Type} (I : Nat → α → Prop) (S : Nat → α → α → Prop) (a0 : α) (h0 : I 0 a0) : ∀ n : Nat, (∀ i < n, ∀ a, I i a → ∃ b, I (i + 1) b ∧ S i a b) → ∃ f : Nat → α, f 0 = a0 ∧ (∀ i ≤ n, I i (f i)) ∧ ∀ i < n, S i (f i) (f (i + 1))
  | 0, _ => ⟨fun _ => a0, rfl, (fun i hi => by
      obtain rfl : i = 0 := by omega
      exact h0), fun i hi => by omega⟩
  | n + 1, h => by
    obtain ⟨f, f0, f1, f2⟩ := seq_ex I S a0 h0 n fun i hi => h i (by omega)
    obtain ⟨b, b1, b2⟩ := h n (by omega) (f n) (f1 n (Nat.le_refl _))
    refine ⟨fun i => if i ≤ n then f i else b, by simp [f0], fun i hi => ?_, fun i hi => ?_⟩
    · by_cases e : i ≤ n
      · simp only [e, if_true]; exact f1 i e
      · obtain rfl : i = n + 1 := by omega
        simp only [show ¬ n + 1 ≤ n by omega, if_false]; exact b1
    · by_cases e : i = n
      · subst e
        simp only [Nat.le_refl, if_true, show ¬ i + 1 ≤ i by omega, if_false]; exact b2
      · simp only [show i ≤ n by omega, show i + 1 ≤ n by omega, if_true]; exact f2 i (by omega)
def Dfn.wb (d : Dfn) (e : Exp) : Dfn := { d with body := e }
@[simp] theorem Dfn.hd_wb (d : Dfn) (e : Exp) : (d.wb e).hd = d.hd := rfl
def envV (d : Dfn) : List Bnd := d.slots.map fun s => ⟨s.id, 0, s.typ⟩
@[simp] theorem envV_len (d : Dfn) : (envV d).length = d.slots.length := by simp [envV]
@[simp] theorem envV_wb (d : Dfn) (e : Exp) : envV (d.wb e) = envV d := rfl
def mkA (m : Mk) (i : Nat) (d : Dfn) : Mk := { m with own := i, home := d.mod, left := 14, name := 0 }
def mkD (m : Mk) (i : Nat) (d : Dfn) : Mk := { m with defs := m.defs.set i d }
def mkL (m : Mk) : Mk := { m with left := 0 }
theorem heads_set {ds : List Dfn} {i : Nat} {d : Dfn} (h : ds[i]? = some d) (e : Exp) : (ds.set i (d.wb e)).map Dfn.hd = ds.map Dfn.hd := by
  apply List.ext_getElem?
  intro j
  rw [List.getElem?_map, List.getElem?_map]
  by_cases hj : j = i
  · subst hj
    rw [List.getElem?_set_self (List.getElem?_eq_some_iff.1 h).1, h]; rfl
  · rw [List.getElem?_set_ne (Ne.symm hj)]
def BStep (i : Nat) (m m' : Mk) : Prop := ∃ d, m.defs[i]? = some d ∧
  ((d.kind = 0 ∨ d.kind = 1) ∧ m' = m ∨
    (d.kind ≠ 0 ∧ d.kind ≠ 1) ∧ ∃ (e1 : Exp) (m1 : Mk), Ret Tryz.prog exprF [.ptr 0 0, .agg (encT d.res), .sl (envV d).length (cellsB (envV d)), int 4] (mkS (mkA m i d)) (.agg (encE e1)) (mkS m1) ∧ m1.defs = m.defs ∧ m1.mods = m.mods ∧ (tmps e1).length ≤ 1000000000 ∧
      ((tmps e1).length ≤ 30 ∧ m' = mkD m1 i (d.wb e1) ∨
        30 < (tmps e1).length ∧ ∃ (e2 : Exp) (m2 : Mk), Ret Tryz.prog exprF [.ptr 0 0, .agg (encT d.res), .sl (envV d).length (cellsB (envV d)), int 0] (mkS (mkL (mkD m1 i (d.wb e1)))) (.agg (encE e2)) (mkS m2) ∧ m2.defs = m.defs.set i (d.wb e1) ∧ m2.mods = m.mods ∧
          m' = mkD m2 i (d.wb e2)))
structure BGood (hs : List Hd) (k : Nat) (d : Dfn) (lo hi : Int) (e : Exp) : Prop where
  wt : WT hs k (envV d) e d.res
  seg : Seg lo hi (tmps e)
  num : e.num0
  len : (tmps e).length ≤ 32768
def BFact (hs : List Hd) (i : Nat) (m m' : Mk) : Prop := ∃ d, m.defs[i]? = some d ∧ m.temp ≤ m'.temp ∧
  ((d.kind = 0 ∨ d.kind = 1) ∧ m'.defs = m.defs ∨ (d.kind ≠ 0 ∧ d.kind ≠ 1) ∧ ∃ e, m'.defs = m.defs.set i (d.wb e) ∧ BGood hs i d m.temp m'.temp e)
structure BInv (l : List Int) (mods : Int) (i : Nat) (m : Mk) : Prop where
  heads : m.defs.map Dfn.hd = hsV l mods
  mods : m.mods = modsV mods (plansV l mods)
  l : m.l = l
  at0 : 0 ≤ m.at_
  at1 : m.at_ ≤ 24 + i * 200000000
  temp0 : 0 ≤ m.temp
  temp1 : m.temp ≤ i * 200000000
theorem seg_len {a b : Int} {l : List Int} (h : Seg a b l) (hab : a ≤ b) : (l.length : Int) ≤ b - a := by
  have hp : (l.map fun x => (x - a).toNat).Nodup := by
    rw [List.nodup_iff_pairwise_ne, List.pairwise_map]
    refine List.Pairwise.imp_of_mem (fun {x y} hx hy hne => ?_) (List.nodup_iff_pairwise_ne.1 h.nd)
    have := h.rng x hx
    have := h.rng y hy
    intro e
    exact hne (by omega)
  have hs : (l.map fun x => (x - a).toNat) ⊆ List.range (b - a).toNat := fun n hn => by
    obtain ⟨x, hx, rfl⟩ := List.mem_map.1 hn
    have := h.rng x hx
    rw [List.mem_range]
    omega
  have := hp.length_le_of_subset hs
  rw [List.length_map, List.length_range] at this
  omega
section
variable {l : List Int} {mods : Int} (hm : 1 ≤ mods) (hm2 : mods ≤ 2) (hl : ∀ x ∈ l, w64 x = x)
include hm hm2 hl
theorem env_ok {i : Nat} {d : Dfn} (h : (hsV l mods)[i]? = some d.hd) (temp : Int) : EnvOk (hsV l mods) 4 temp (envV d) ∧ 1 ≤ (envV d).length ∧ (envV d).length ≤ 6 ∧ TyOk (hsV l mods) 4 d.res := by
  obtain ⟨hi, he⟩ := List.getElem?_eq_some_iff.1 h
  have hi' : i < (plansV l mods).length := by simpa using hi
  rw [hdsV_get mods (plansV l mods) hi'] at he
  have hp := plansV_ok l mods hm hm2 hl _ (List.getElem_mem hi')
  have ht := plan_typs l mods hm hm2 hl _ (List.getElem_mem hi')
  obtain ⟨n1, n2⟩ := nextV_range (show 0 ≤ mods by omega) (fun p hp => (plansV_ok l mods hm hm2 hl p hp).t6) i
  have n8 := (plansV_len l mods).2
  have eS : d.slots = slotsV (nextV mods (plansV l mods) i) (plansV l mods)[i] := by
    have := congrArg Hd.slots he
    exact this.symm
  have eR : d.res = (plansV l mods)[i].out := by
    have := congrArg Hd.res he
    exact this.symm
  generalize (plansV l mods)[i] = p at *
  generalize nextV mods (plansV l mods) i = nx at *
  refine ⟨⟨fun b hb => ?_, ?_, fun b hb h0 => ?_⟩, by simp only [envV_len, eS, slotsV_len]; exact hp.t1, by simp only [envV_len, eS, slotsV_len]; exact hp.t6, by rw [eR]; exact ht.2⟩
  · simp only [envV, List.mem_map] at hb
    obtain ⟨s, hs, rfl⟩ := hb
    rw [eS] at hs
    exact ht.1 _ (slotsV_typ hs)
  · simp only [envV, eS, slotsV, List.map_map]
    rw [List.pairwise_map]
    refine List.Pairwise.imp_of_mem (fun {a b} ha hb hlt => ?_) List.pairwise_lt_range
    rw [List.mem_range] at ha hb
    have := hp.t6
    intro e
    have := idR_inj (by omega) (by omega) (by omega) (by omega) e.1
    omega
  · exfalso
    simp only [envV, List.mem_map] at hb
    obtain ⟨s, hs, rfl⟩ := hb
    rw [eS] at hs
    simp only [slotsV, List.mem_map, List.mem_range] at hs
    obtain ⟨k, hk, rfl⟩ := hs
    have := hp.t6
    have := idR_b (k := nx + k) (by omega) (by omega)
    simp only [slotV] at h0
    omega
theorem body_ex (i : Nat) (hi : i < (plansV l mods).length) (m : Mk) (h : BInv l mods i m) : ∃ m', BInv l mods (i + 1) m' ∧ BStep i m m' ∧ BFact (hsV l mods) i m m' := by
  have hlen : m.defs.length = (plansV l mods).length := by have := congrArg List.length h.heads; simpa using this
  have n8 := (plansV_len l mods).2
  obtain ⟨d, hd⟩ : ∃ d, m.defs[i]? = some d := ⟨m.defs[i]'(by omega), by simp⟩
  have hhd : (hsV l mods)[i]? = some d.hd := by rw [← h.heads, List.getElem?_map, hd]; rfl
  by_cases hk : d.kind = 0 ∨ d.kind = 1
  · refine ⟨m, ⟨h.heads, h.mods, h.l, h.at0, by have := h.at1; omega, h.temp0, by have := h.temp1; omega⟩, ⟨d, hd, .inl ⟨hk, rfl⟩⟩, ⟨d, hd, Int.le_refl _, .inl ⟨hk, rfl⟩⟩⟩
  have hk' : d.kind ≠ 0 ∧ d.kind ≠ 1 := ⟨fun e => hk (.inl e), fun e => hk (.inr e)⟩
  have hmne : 0 < m.mods.length := by rw [h.mods]; simp [modsV]
  have h89 : (8 : Int) ^ (4 + 4 + 1) = 134217728 := by decide
  have h85 : (8 : Int) ^ (0 + 4 + 1) = 32768 := by decide
  obtain ⟨k4, _⟩ := expr_all (hsV l mods) 4 (by omega) (by omega) 4 (by omega)
  obtain ⟨k0, _⟩ := expr_all (hsV l mods) 4 (by omega) (by omega) 0 (by omega)
  rw [h89] at k4
  rw [h85] at k0
  obtain ⟨at0, at1, tp0, tp1⟩ := (⟨h.at0, h.at1, h.temp0, h.temp1⟩ : _ ∧ _ ∧ _ ∧ _)
  have hi8 : (i : Int) ≤ 8 := by omega
  obtain ⟨eo, e1, e6, et⟩ := env_ok hm hm2 hl hhd (mkA m i d).temp
  have cA : Cx (hsV l mods) 4 (mkA m i d) := cxV l mods hm hm2 hl _ h.heads hmne h.l (by simp only [mkA]; omega)
  have lA : Lim (mkA m i d) 134217728 := ⟨at0, by simp only [mkA]; omega, tp0, by simp only [mkA]; omega, by simp only [mkA]; omega, by simp only [mkA]; omega, by simp only [mkA]; omega, by simp only [mkA]; omega⟩
  obtain ⟨x1, m1, g1, g2, g3, g4, g5⟩ := k4 (mkA m i d) 4 d.res (envV d) cA lA et (Nat.le_refl _) eo e1 (by omega)
  have htA : (mkA m i d).temp = m.temp := rfl
  have sl1 := seg_len g4 g2.temp1
  rw [htA] at sl1 g4
  have a1 : m.at_ ≤ m1.at_ := g2.at1
  have a2 : m1.at_ ≤ m.at_ + 134217728 := g2.at2
  have b1 : m.temp ≤ m1.temp := g2.temp1
  have b2 : m1.temp ≤ m.temp + 134217728 := g2.temp2
  have dd : m1.defs = m.defs := g2.defs
  have dm : m1.mods = m.mods := g2.mods
  have dl : m1.l = m.l := g2.l
  by_cases h30 : (tmps x1).length ≤ 30
  · refine ⟨mkD m1 i (d.wb x1), ⟨?_, dm.trans h.mods, dl.trans h.l, by simp only [mkD]; omega, by simp only [mkD]; omega, by simp only [mkD]; omega, by simp only [mkD]; omega⟩, ⟨d, hd, .inr ⟨hk', x1, m1, g1, dd, dm, by omega, .inl ⟨h30, rfl⟩⟩⟩, ⟨d, hd, b1, .inr ⟨hk', x1, ?_, g3, g4, g5, by omega⟩⟩⟩
    · simp only [mkD, dd]; rw [heads_set hd]; exact h.heads
    · simp only [mkD, dd]
  · have cB : Cx (hsV l mods) 4 (mkL (mkD m1 i (d.wb x1))) := cxV l mods hm hm2 hl _ (by simp only [mkL, mkD, dd]; rw [heads_set hd]; exact h.heads) (by simp only [mkL, mkD, dm]; exact hmne) (dl.trans h.l) (by
      have : m1.own = i := g2.own
      simp only [mkL, mkD]; omega)
    have nm : m1.name ≤ 134217728 := by have : m1.name ≤ 0 + 134217728 := g2.name2; omega
    have nm0 : 0 ≤ m1.name := g2.name1
    have lB : Lim (mkL (mkD m1 i (d.wb x1))) 32768 := ⟨by simp only [mkL, mkD]; omega, by simp only [mkL, mkD]; omega, by simp only [mkL, mkD]; omega, by simp only [mkL, mkD]; omega, by simp only [mkL, mkD]; omega, by simp only [mkL, mkD]; omega, nm0, by simp only [mkL, mkD]; omega⟩
    obtain ⟨x2, m2, f1, f2, f3, f4, f5⟩ := k0 (mkL (mkD m1 i (d.wb x1))) 4 d.res (envV d) cB lB et (Nat.le_refl _) (env_ok hm hm2 hl hhd _).1 e1 (by omega)
    have sl2 := seg_len f4 f2.temp1
    have p1 : m1.at_ ≤ m2.at_ := f2.at1
    have p2 : m2.at_ ≤ m1.at_ + 32768 := f2.at2
    have q1 : m1.temp ≤ m2.temp := f2.temp1
    have q2 : m2.temp ≤ m1.temp + 32768 := f2.temp2
    have dd2 : m2.defs = m.defs.set i (d.wb x1) := by have := f2.defs; rw [this]; simp only [mkL, mkD, dd]
    have dm2 : m2.mods = m.mods := by have := f2.mods; rw [this]; simp only [mkL, mkD, dm]
    have dl2 : m2.l = m.l := by have := f2.l; rw [this]; simp only [mkL, mkD, dl]
    have hset : (m.defs.set i (d.wb x1)).set i (d.wb x2) = m.defs.set i (d.wb x2) := by rw [List.set_set]
    have o1 : m1.own = i := g2.own
    have hwt : WT (hsV l mods) i (envV d) x2 d.res := by
      have : (mkL (mkD m1 i (d.wb x1))).own = i := o1
      rw [this] at f3; exact f3
    have ht1 : (mkL (mkD m1 i (d.wb x1))).temp = m1.temp := rfl
    rw [ht1] at f4 sl2
    refine ⟨mkD m2 i (d.wb x2), ⟨?_, dm2.trans h.mods, dl2.trans h.l, by simp only [mkD]; omega, by simp only [mkD]; omega, by simp only [mkD]; omega, by simp only [mkD]; omega⟩, ⟨d, hd, .inr ⟨hk', x1, m1, g1, dd, dm, by omega, .inr ⟨by omega, x2, m2, f1, dd2, dm2, rfl⟩⟩⟩,
      ⟨d, hd, by simp only [mkD]; omega, .inr ⟨hk', x2, ?_, hwt, f4.mono b1 (Int.le_refl _), f5, by omega⟩⟩⟩
    · simp only [mkD, dd2, hset]; rw [heads_set hd]; exact h.heads
    · simp only [mkD, dd2, hset]
theorem bodies_ex (m0 : Mk) (h0 : BInv l mods 0 m0) : ∃ ms : Nat → Mk, ms 0 = m0 ∧ (∀ i ≤ (plansV l mods).length, BInv l mods i (ms i)) ∧ ∀ i < (plansV l mods).length, BStep i (ms i) (ms (i + 1)) ∧ BFact (hsV l mods) i (ms i) (ms (i + 1)) :=
  seq_ex (BInv l mods) (fun i m m' => BStep i m m' ∧ BFact (hsV l mods) i m m') m0 h0 _ fun i hi a ha => by
    obtain ⟨b, h1, h2⟩ := body_ex hm hm2 hl i hi a ha
    exact ⟨b, h1, h2⟩
end
end Go.Proofs.YthglhccibdlccaaGreatDoor
namespace Go.Abs
theorem dcallS {P : Program} {KD : Env → Prop} {env : Env} {σ : St} {d : Option Nat} {f : FuncId} {args args' : List A} {σ0 : St} {r : A} (h : Ret P f args σ0 r σ0) (js : List Nat) (hd : js.Nodup) (ho : selOk σ anyRow (posOf js) js σ0) (ha : argOk js args' args)
    (hr : ren js σ.length r = r) (hp : putAll σ js (σ0.map (renO js σ.length)) = σ) (hq : KD (env.put d r)) : wpDcall P σ d KD f args' env := by
  refine ⟨r, call_emb h js hd ho ha ?_, hq⟩
  rw [hr, hp]
  simp
end Go.Abs
namespace Go.Proofs.YthglhccibdlccaaGreatDoor
open Go.Abs
def setI : List Id → Int → List Int → List Id
  | ids, _, [] => ids
  | ids, next, c :: cs => setI (ids.set c.toNat (idR next)) (next + 1) cs
theorem setI_snoc (c : Int) : ∀ (cs : List Int) (ids : List Id) (next : Int), setI ids next (cs ++ [c]) = (setI ids next cs).set c.toNat (idR (next + cs.length))
  | [], ids, next => by simp [setI]
  | x :: cs, ids, next => by
    simp only [List.cons_append, setI]
    rw [setI_snoc c cs, List.length_cons, show next + 1 + (cs.length : Int) = next + ((cs.length + 1 : Nat) : Int) by omega]
theorem setI_take {cs : List Int} {k : Nat} (h : k < cs.length) (ids : List Id) (next : Int) : setI ids next (cs.take (k + 1)) = (setI ids next (cs.take k)).set cs[k].toNat (idR (next + k)) := by
  rw [List.take_succ_eq_append_getElem h, setI_snoc, List.length_take, Nat.min_eq_left (by omega)]
@[simp] theorem setI_len : ∀ (cs : List Int) (ids : List Id) (next : Int), (setI ids next cs).length = ids.length
  | [], _, _ => rfl
  | _ :: cs, ids, next => by simp only [setI]; rw [setI_len cs, List.length_set]
theorem setI_other {c : Nat} : ∀ (cs : List Int) (ids : List Id) (next : Int), (∀ x ∈ cs, 0 ≤ x ∧ x ≠ c) → (setI ids next cs)[c]? = ids[c]?
  | [], _, _, _ => rfl
  | x :: cs, ids, next, h => by
    simp only [setI]
    obtain ⟨h1, h2⟩ := h x (by simp)
    rw [setI_other cs _ _ (fun y hy => h y (by simp [hy])), List.getElem?_set_ne (by omega)]
theorem setI_get : ∀ (cs : List Int) (ids : List Id) (next : Int), cs.Nodup → (∀ x ∈ cs, 0 ≤ x ∧ x < ids.length) → ∀ (k : Nat) (h : k < cs.length), idAt (setI ids next cs) cs[k] = idR (next + k)
  | [], _, _, _, _, k, h => by simp at h
  | x :: cs, ids, next, hn, hb, 0, h => by
    rw [List.nodup_cons] at hn
    obtain ⟨h1, h2⟩ := hb x (by simp)
    obtain ⟨n, rfl⟩ : ∃ n : Nat, x = n := ⟨x.toNat, by omega⟩
    have hne : ∀ y ∈ cs, 0 ≤ y ∧ y ≠ n := fun y hy => ⟨(hb y (by simp [hy])).1, fun e => hn.1 (e ▸ hy)⟩
    simp only [List.getElem_cons_zero, setI, idAt, Int.toNat_natCast, List.getD_eq_getElem?_getD]
    rw [setI_other cs _ _ hne, List.getElem?_set_self (by omega)]
    simp
  | x :: cs, ids, next, hn, hb, k + 1, h => by
    rw [List.nodup_cons] at hn
    simp only [setI, List.getElem_cons_succ]
    have := setI_get cs (ids.set x.toNat (idR next)) (next + 1) hn.2 (fun y hy => by rw [List.length_set]; exact hb y (by simp [hy])) k (by simpa using h)
    rw [this, show next + 1 + (k : Int) = next + ((k + 1 : Nat) : Int) by omega]
def bodB (d : Dfn) : Bool := !(decide (d.kind = 0) || decide (d.kind = 1))
structure NSt where
  ds : List Dfn
  ids : List Id
  next : Int
def nStep (s : NSt) (i : Nat) : NSt := match s.ds[i]? with
  | some d => if bodB d then ⟨s.ds.set i (d.wb (renE (idAt (setI s.ids s.next (tmps d.body))) d.body)), setI s.ids s.next (tmps d.body), s.next + (tmps d.body).length⟩ else s
  | none => s
def nAll (s : NSt) : Nat → NSt
  | 0 => s
  | i + 1 => nStep (nAll s i) i
theorem nAll_len (s : NSt) : ∀ i : Nat, (nAll s i).ds.length = s.ds.length ∧ (nAll s i).ids.length = s.ids.length
  | 0 => ⟨rfl, rfl⟩
  | i + 1 => by
    have ih := nAll_len s i
    simp only [nAll, nStep]
    split
    · split
      · simp [ih]
      · exact ih
    · exact ih
theorem nAll_later (s : NSt) : ∀ (i j : Nat), i ≤ j → (nAll s i).ds[j]? = s.ds[j]?
  | 0, j, _ => rfl
  | i + 1, j, h => by
    have ih := nAll_later s i j (by omega)
    simp only [nAll, nStep]
    split
    · split
      · simp only
        rw [List.getElem?_set_ne (by omega), ih]
      · exact ih
    · exact ih
theorem nAll_step (s : NSt) {i : Nat} {d : Dfn} (hd : s.ds[i]? = some d) : nAll s (i + 1) = if bodB d then ⟨(nAll s i).ds.set i (d.wb (renE (idAt (setI (nAll s i).ids (nAll s i).next (tmps d.body))) d.body)), setI (nAll s i).ids (nAll s i).next (tmps d.body), (nAll s i).next + (tmps d.body).length⟩ else nAll s i := by
  simp only [nAll, nStep]
  rw [nAll_later s i i (Nat.le_refl _), hd]
theorem nAll_heads (s : NSt) : ∀ i : Nat, (nAll s i).ds.map Dfn.hd = s.ds.map Dfn.hd
  | 0 => rfl
  | i + 1 => by
    have ih := nAll_heads s i
    simp only [nAll, nStep]
    split
    · rename_i d hd
      split
      · simp only; rw [heads_set hd, ih]
      · exact ih
    · exact ih
theorem nAll_done (s : NSt) {i : Nat} : ∀ (j : Nat), i < j → (nAll s j).ds[i]? = (nAll s (i + 1)).ds[i]?
  | 0, h => by omega
  | j + 1, h => by
    by_cases e : i = j
    · rw [e]
    · have ih := nAll_done s (i := i) j (by omega)
      rw [← ih]
      simp only [nAll, nStep]
      split
      · split
        · simp only
          rw [List.getElem?_set_ne (by omega)]
        · rfl
      · rfl
theorem cellsD_wb {ds : List Dfn} {i : Nat} (h : i < ds.length) (e : Exp) : (cellsD ds).take (i * 31 + 14) ++ (encE e ++ (cellsD ds).drop (i * 31 + 14 + 15)) = cellsD (ds.set i (ds[i].wb e)) := by
  have hs := cellsD_set (ds[i].wb e) h
  rw [← hs]
  have hd := cellsD_drop h
  have h1 : (cellsD ds).take (i * 31 + 14) = (cellsD ds).take (i * 31) ++ (encD ds[i]).take 14 := by
    rw [List.take_add, hd, List.take_append_of_le_length (by simp)]
  have h2 : (cellsD ds).drop (i * 31 + 14 + 15) = (encD ds[i]).drop 29 ++ (cellsD ds).drop (i * 31 + 31) := by
    have h3 : (cellsD ds).drop (i * 31 + 31) = cellsD (ds.drop (i + 1)) := by rw [← List.drop_drop, hd, List.drop_left' (encD_len _)]
    rw [h3, Nat.add_assoc, ← List.drop_drop, hd, List.drop_append_of_le_length (by simp)]
  rw [h1, h2, List.append_assoc]
  congr 1
end Go.Proofs.YthglhccibdlccaaGreatDoor
