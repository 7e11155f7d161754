/-
  A domain, in plain Lean: its values have the shape of their type, are within the bound, and few nodes; the clipped values of a shape are there; the values are in strict order.
-/
import Derived.Test.YtbkiphnlbadhcaaP7
import Derived.Test.YtbkiphnlbadhcaaP4
import Derived.Test.YtbkiphnlbadhcaaC23
namespace Go.Proofs.Ytbkiphnlbadhcaa
open Go.Abs

theorem mem_fold : ∀ (L : List (List Val)) (acc : List (List Val)) (t : List Val), t ∈ L.foldl stepT acc ↔ ∃ s ∈ acc, ∃ u, t = s ++ u ∧ u.length = L.length ∧ ∀ (i : Nat) (l : List Val) (x : Val), L[i]? = some l → u[i]? = some x → x ∈ l
  | [], acc, t => by
    simp only [List.foldl_nil]
    constructor
    · intro h; exact ⟨t, h, [], by simp, rfl, fun i l x h => by simp at h⟩
    · rintro ⟨s, hs, u, rfl, hu, _⟩
      have : u = [] := List.length_eq_zero_iff.1 hu
      subst this; simpa using hs
  | a :: L, acc, t => by
    simp only [List.foldl_cons]
    rw [mem_fold L (stepT acc a) t]
    constructor
    · rintro ⟨s, hs, u, rfl, hu, hx⟩
      simp only [stepT, List.mem_flatMap, List.mem_map] at hs
      obtain ⟨s0, hs0, y, hy, rfl⟩ := hs
      refine ⟨s0, hs0, y :: u, by simp, by simp [hu], fun i l x h1 h2 => ?_⟩
      cases i with
      | zero => simp at h1 h2; subst h1 h2; exact hy
      | succ i => exact hx i l x (by simpa using h1) (by simpa using h2)
    · rintro ⟨s, hs, u, rfl, hu, hx⟩
      cases u with
      | nil => simp at hu
      | cons y u =>
        refine ⟨s ++ [y], ?_, u, by simp, by simpa using hu, fun i l x h1 h2 => hx (i + 1) l x (by simpa using h1) (by simpa using h2)⟩
        simp only [stepT, List.mem_flatMap, List.mem_map]
        exact ⟨s, hs, y, hx 0 a y (by simp) (by simp), rfl⟩
theorem mem_prodT {L : List (List Val)} {t : List Val} : t ∈ prodT L ↔ t.length = L.length ∧ ∀ (i : Nat) (l : List Val) (x : Val), L[i]? = some l → t[i]? = some x → x ∈ l := by
  rw [prodT, mem_fold]
  constructor
  · rintro ⟨s, hs, u, rfl, h1, h2⟩
    simp only [List.mem_singleton] at hs
    subst hs
    exact ⟨by simpa using h1, by simpa using h2⟩
  · rintro ⟨h1, h2⟩
    exact ⟨[], by simp, t, by simp, h1, h2⟩
theorem mem_casesV : ∀ (L : List (List Val)) (i : Int) (v : Val), v ∈ casesV i L ↔ ∃ (j : Nat) (l : List Val) (x : Val), L[j]? = some l ∧ x ∈ l ∧ v = .mk 3 (i + j) [x]
  | [], i, v => by simp [casesV]
  | a :: L, i, v => by
    simp only [casesV, List.mem_append, List.mem_map, mem_casesV L]
    constructor
    · rintro (⟨x, hx, rfl⟩ | ⟨j, l, x, h1, h2, rfl⟩)
      · exact ⟨0, a, x, by simp, hx, by simp⟩
      · exact ⟨j + 1, l, x, by simpa using h1, h2, by congr 1; omega⟩
    · rintro ⟨j, l, x, h1, h2, rfl⟩
      cases j with
      | zero => simp at h1; subst h1; exact .inl ⟨x, h2, by simp⟩
      | succ j => exact .inr ⟨j, l, x, by simpa using h1, h2, by congr 1; omega⟩

theorem recF_b : ∀ (z : List Sz) (u : List Val) (a b : Int), (recF a b z).e = 0 → u.length = z.length → (∀ (i : Nat) (k : Sz) (x : Val), z[i]? = some k → u[i]? = some x → (sizeV x : Int) ≤ k.b) → b + sizesV u ≤ (recF a b z).b
  | [], [], a, b, _, _, _ => by simp [recF, sizesV]
  | k :: z, x :: u, a, b, he, hl, h => by
    unfold recF at he ⊢
    split at he
    · simp at he
    · rename_i hn
      rw [if_neg hn]
      have h1 := recF_b z u _ _ he (by simpa using hl) fun i k x e1 e2 => h (i + 1) k x (by simpa using e1) (by simpa using e2)
      have h2 := h 0 k x (by simp) (by simp)
      simp only [sizesV]
      omega
  | [], _ :: _, _, _, _, hl, _ => by simp at hl
  | _ :: _, [], _, _, _, hl, _ => by simp at hl
theorem caseF_b : ∀ (z : List Sz) (a b : Int), b ≤ (caseF a b z).b ∧ ∀ k ∈ z, 1 + k.b ≤ (caseF a b z).b
  | [], a, b => by simp [caseF]
  | k :: z, a, b => by
    simp only [caseF]
    obtain ⟨h1, h2⟩ := caseF_b z (a + k.a) (max b (1 + k.b))
    refine ⟨by omega, fun k' hk => ?_⟩
    rcases List.mem_cons.1 hk with rfl | hk
    · omega
    · exact h2 k' hk
theorem finSz_b {k : Sz} (h : (finSz k).e = 0) (ha : (finSz k).a ≠ 0) : (finSz k).b = k.b := by
  unfold finSz at *
  split at h
  · simp at h; contradiction
  · rename_i h1
    split at h
    · simp at h
    · rename_i h2
      rw [if_neg h1, if_neg h2] at ha ⊢
      simp only at ha ⊢
      rw [if_neg ha]
theorem listSz_b {m : Int} {k : Sz} (hk : k.e = 0) (hb : 0 ≤ k.b) {n : Nat} (hn : (n : Int) ≤ min2 m) : 1 + (n : Int) * k.b ≤ (listSz m k).b := by
  unfold listSz
  rw [if_neg (by simp [hk])]
  have hc : n = 0 ∨ n = 1 ∨ n = 2 := by unfold min2 at hn; split at hn <;> omega
  unfold min2 at hn
  rcases hc with rfl | rfl | rfl
  · split
    · simp
    · split <;> simp <;> omega
  · split
    · split at hn <;> omega
    · split <;> simp <;> omega
  · split
    · split at hn <;> omega
    · split
      · split at hn <;> omega
      · show 1 + (2 : Int) * k.b ≤ 1 + k.b + k.b
        omega
theorem sizesV_lei {l : List Val} {c : Int} (h : ∀ v ∈ l, (sizeV v : Int) ≤ c) : (sizesV l : Int) ≤ l.length * c := by
  induction l with
  | nil => simp [sizesV]
  | cons v l ih =>
    have h1 := h v (List.mem_cons_self ..)
    have h2 := ih fun x hx => h x (List.mem_cons_of_mem _ hx)
    simp only [sizesV, List.length_cons, Int.natCast_add, Int.natCast_one, Int.add_mul, Int.one_mul]
    omega
theorem depthsV_le {l : List Val} {c : Nat} (h : ∀ v ∈ l, depthV v ≤ c) : depthsV l ≤ c := by
  induction l with
  | nil => simp [depthsV]
  | cons v l ih =>
    have h1 := h v (List.mem_cons_self ..)
    have h2 := ih fun x hx => h x (List.mem_cons_of_mem _ hx)
    simp only [depthsV]
    omega
theorem listSz_e {m : Int} {k : Sz} (h : (listSz m k).e = 0) : k.e = 0 := by
  by_cases hz : k.e = 0
  · exact hz
  · exact absurd h (by rw [listSz, if_pos hz]; exact hz)

theorem allV_shp (p : Prg) (m : Int) (hm : 0 ≤ m ∧ m ≤ 64) : ∀ (n : Nat) (t : Typ) (v : Val), (sizeN p m n t).e = 0 → v ∈ allV p m n t →
    Shp p n t v ∧ withinV m v = true ∧ (sizeV v : Int) ≤ (sizeN p m n t).b ∧ depthV v ≤ n
  | 0, t, v, _, hv => by simp [allV] at hv
  | n + 1, t, v, he, hv => by
    have hlen := size_len p m hm.1 (n + 1) t he
    have hne : (sizeN p m (n + 1) t).a ≠ 0 := by
      have := List.length_pos_of_mem hv
      omega
    unfold sizeN at he hne ⊢
    split at he
    · simp at he
    rename_i hvt
    have hvt' : validT p t = true := by simpa using hvt
    rw [if_neg hvt] at hne ⊢
    unfold allV at hv
    unfold Shp
    by_cases h0 : t.k = 0
    · rw [if_pos h0] at hv ⊢
      simp only [intsV, List.mem_map, List.mem_range] at hv
      obtain ⟨i, hi, rfl⟩ := hv
      rw [if_pos h0]
      refine ⟨⟨hvt', rfl, rfl⟩, (withinV_iff m _).2 ⟨fun _ => ?_, fun h => ?_, fun x hx => ?_⟩, by simp [sizeV, sizesV], by simp [depthV, depthsV]⟩
      · simp only [valn_mk]; omega
      · simp [valk_mk] at h
      · simp [valkids_mk] at hx
    rw [if_neg h0] at hv ⊢ he hne
    rw [if_neg h0]
    by_cases h1 : t.k = 1
    · rw [if_pos h1] at hv ⊢
      rw [if_pos h1]
      simp only [List.mem_cons, List.not_mem_nil, or_false] at hv
      rcases hv with rfl | rfl
      · exact ⟨⟨hvt', rfl, .inl rfl, rfl⟩, (withinV_iff m _).2 ⟨fun h => by simp [valk_mk] at h, fun h => by simp [valk_mk] at h, fun x hx => by simp [valkids_mk] at hx⟩, by simp [sizeV, sizesV], by simp [depthV, depthsV]⟩
      · exact ⟨⟨hvt', rfl, .inr rfl, rfl⟩, (withinV_iff m _).2 ⟨fun h => by simp [valk_mk] at h, fun h => by simp [valk_mk] at h, fun x hx => by simp [valkids_mk] at hx⟩, by simp [sizeV, sizesV], by simp [depthV, depthsV]⟩
    rw [if_neg h1] at hv ⊢ he hne
    rw [if_neg h1]
    by_cases h2 : t.k = 2
    · rw [if_pos h2] at hv ⊢ he hne
      rw [if_pos h2]
      obtain ⟨e1, _, _⟩ := finSz_e he
      have e3 := listSz_e e1
      have hb := (sizeN_ok p m hm n (t.kids.headD Typ0) e3).2.2.1
      have ih := fun x hx => allV_shp p m hm n (t.kids.headD Typ0) x e3 hx
      rw [finSz_b he hne]
      simp only [listsV, List.mem_flatMap, List.mem_map, List.mem_range] at hv
      obtain ⟨k, hk, u, hu, rfl⟩ := hv
      obtain ⟨u1, u2⟩ := mem_prodT.1 hu
      rw [List.length_replicate] at u1
      have hmem : ∀ x ∈ u, x ∈ allV p m n (t.kids.headD Typ0) := fun x hx => by
        obtain ⟨i, hi, rfl⟩ := List.mem_iff_getElem.1 hx
        exact u2 i _ _ (by rw [List.getElem?_replicate, if_pos (by omega)]) (List.getElem?_eq_getElem hi)
      have hk2 : (k : Int) ≤ min2 m := by unfold min2; split at hk <;> split <;> omega
      have hsz := sizesV_lei fun x hx => (ih x (hmem x hx)).2.2.1
      have hlb := listSz_b (m := m) e3 hb hk2
      rw [u1] at hsz
      refine ⟨⟨hvt', rfl, rfl, fun x hx => (ih x (hmem x hx)).1⟩, (withinV_iff m _).2 ⟨fun h => by simp [valk_mk] at h, fun _ => ?_, fun x hx => (ih x (hmem x hx)).2.1⟩, ?_, ?_⟩
      · rw [valkids_mk, u1]; exact hk2
      · simp only [sizeV]; omega
      · have := depthsV_le fun x hx => (ih x (hmem x hx)).2.2.2
        simp only [depthV]; omega
    rw [if_neg h2] at hv ⊢ he hne
    rw [if_neg h2]
    obtain ⟨e1, _, _⟩ := finSz_e he
    rw [finSz_b he hne]
    have e3 : errF ((dfn p t.id).slots.map fun s => sizeN p m n s.typ) = 0 := by
      by_cases hz : errF ((dfn p t.id).slots.map fun s => sizeN p m n s.typ) = 0
      · exact hz
      · exact absurd e1 (by simp [slotsSz, hz])
    have e4 : ∀ s ∈ (dfn p t.id).slots, (sizeN p m n s.typ).e = 0 := fun s hs => errF_zero e3 _ (List.mem_map_of_mem hs)
    have ih : ∀ s ∈ (dfn p t.id).slots, ∀ x ∈ allV p m n s.typ, Shp p n s.typ x ∧ withinV m x = true ∧ (sizeV x : Int) ≤ (sizeN p m n s.typ).b ∧ depthV x ≤ n := fun s hs x hx => allV_shp p m hm n s.typ x (e4 s hs) hx
    unfold slotsV at hv
    rcases valid_kind hvt' h0 h1 h2 with e5 | e5
    · rw [if_pos e5] at hv ⊢
      simp only [recsV, List.mem_map] at hv
      obtain ⟨u, hu, rfl⟩ := hv
      obtain ⟨u1, u2⟩ := mem_prodT.1 hu
      rw [List.length_map] at u1
      have hmem : ∀ (i : Nat) (s : Slt) (x : Val), (dfn p t.id).slots[i]? = some s → u[i]? = some x → s ∈ (dfn p t.id).slots ∧ x ∈ allV p m n s.typ := fun i s x e1 e2 =>
        ⟨List.mem_of_getElem? e1, u2 i _ x (by rw [List.getElem?_map, e1]; rfl) e2⟩
      have hall : ∀ x ∈ u, withinV m x = true ∧ depthV x ≤ n := fun x hx => by
        obtain ⟨i, hi, rfl⟩ := List.mem_iff_getElem.1 hx
        obtain ⟨g1, g2⟩ := hmem i _ _ (List.getElem?_eq_getElem (by omega)) (List.getElem?_eq_getElem hi)
        have := ih _ g1 _ g2
        exact ⟨this.2.1, this.2.2.2⟩
      refine ⟨⟨hvt', rfl, rfl, u1, fun i s x e1 e2 => ?_⟩, (withinV_iff m _).2 ⟨fun h => by simp [valk_mk] at h, fun h => by simp [valk_mk] at h, fun x hx => (hall x hx).1⟩, ?_, ?_⟩
      · obtain ⟨g1, g2⟩ := hmem i s x e1 e2
        exact (ih s g1 x g2).1
      · have ee : slotsSz (decide ((dfn p t.id).kind = 0)) ((dfn p t.id).slots.map fun s => sizeN p m n s.typ) = recF 1 1 ((dfn p t.id).slots.map fun s => sizeN p m n s.typ) := by simp [slotsSz, e3, e5]
        rw [ee] at e1 ⊢
        have := recF_b _ u 1 1 e1 (by simpa using u1) fun i k x g1 g2 => by
          rw [List.getElem?_map] at g1
          cases hs : (dfn p t.id).slots[i]? with
          | none => rw [hs] at g1; simp at g1
          | some s =>
            rw [hs] at g1
            simp at g1
            subst g1
            obtain ⟨k1, k2⟩ := hmem i s x hs g2
            exact (ih s k1 x k2).2.2.1
        simp only [sizeV]; omega
      · have := depthsV_le fun x hx => (hall x hx).2
        simp only [depthV]; omega
    · rw [if_neg (by omega), if_pos e5] at hv
      rw [if_neg (by omega)]
      obtain ⟨j, l, x, g1, g2, rfl⟩ := (mem_casesV _ 0 v).1 hv
      rw [List.getElem?_map] at g1
      cases hs : (dfn p t.id).slots[j]? with
      | none => rw [hs] at g1; simp at g1
      | some s =>
        rw [hs] at g1
        simp at g1
        subst g1
        have hsm := List.mem_of_getElem? hs
        obtain ⟨k1, k2, k3, k4⟩ := ih s hsm x g2
        refine ⟨⟨hvt', e5, rfl, j, s, x, hs, by simp [valn_mk], rfl, k1⟩, (withinV_iff m _).2 ⟨fun h => by simp [valk_mk] at h, fun h => by simp [valk_mk] at h, fun y hy => ?_⟩, ?_, ?_⟩
        · simp [valkids_mk] at hy; subst hy; exact k2
        · have ee : slotsSz (decide ((dfn p t.id).kind = 0)) ((dfn p t.id).slots.map fun s => sizeN p m n s.typ) = caseF 0 1 ((dfn p t.id).slots.map fun s => sizeN p m n s.typ) := by simp [slotsSz, e3, e5]
          rw [ee]
          have := (caseF_b ((dfn p t.id).slots.map fun s => sizeN p m n s.typ) 0 1).2 _ (List.mem_map_of_mem hsm)
          simp only [sizeV, sizesV]; omega
        · simp only [depthV, depthsV]; omega

/-! Clipped values are there. -/
theorem tmod_bound (x m : Int) (hm : 0 ≤ m) : -m ≤ x.tmod (m + 1) ∧ x.tmod (m + 1) ≤ m := by
  rcases Int.le_total 0 x with h | h
  · rw [Int.tmod_eq_emod_of_nonneg h]
    have := Int.emod_nonneg x (show m + 1 ≠ 0 by omega)
    have := Int.emod_lt_of_pos x (show 0 < m + 1 by omega)
    omega
  · obtain ⟨y, rfl⟩ : ∃ y, x = -y := ⟨-x, by omega⟩
    rw [Int.neg_tmod, Int.tmod_eq_emod_of_nonneg (by omega)]
    have := Int.emod_nonneg y (show m + 1 ≠ 0 by omega)
    have := Int.emod_lt_of_pos y (show 0 < m + 1 by omega)
    omega
theorem clip_mem (p : Prg) (m : Int) (hm : 0 ≤ m) : ∀ (f n : Nat) (t : Typ) (v : Val), f ≤ n → Shp p f t v → clipV m v ∈ allV p m n t
  | 0, n, t, v, _, h => h.elim
  | f + 1, 0, t, v, hf, _ => by omega
  | f + 1, n + 1, t, v, hf, h => by
    unfold Shp at h
    obtain ⟨hv, h⟩ := h
    rw [clipV_eq]
    unfold allV
    by_cases h0 : t.k = 0
    · rw [if_pos h0] at h ⊢
      obtain ⟨g1, g2⟩ := h
      have := tmod_bound v.n m hm
      simp only [intsV, List.mem_map, List.mem_range]
      refine ⟨(v.n.tmod (m + 1) + m).toNat, by omega, ?_⟩
      rw [if_pos g1, g1, g2]
      simp only [List.map_nil, List.take_nil]
      congr 1
      omega
    rw [if_neg h0] at h ⊢
    by_cases h1 : t.k = 1
    · rw [if_pos h1] at h ⊢
      obtain ⟨g1, g2, g3⟩ := h
      rw [if_neg (by omega), g1, g3]
      rcases g2 with g2 | g2 <;> simp [g2]
    rw [if_neg h1] at h ⊢
    by_cases h2 : t.k = 2
    · rw [if_pos h2] at h ⊢
      obtain ⟨g1, g2, g3⟩ := h
      rw [if_neg (by omega), g1, g2]
      simp only [listsV, List.mem_flatMap, List.mem_map, List.mem_range]
      have hkn : keepN m v = min (min2 m).toNat v.kids.length := by unfold keepN; rw [if_pos g1]
      refine ⟨keepN m v, ?_, _, mem_prodT.2 ⟨?_, fun i l x e1 e2 => ?_⟩, rfl⟩
      · rw [hkn]; unfold min2; split <;> omega
      · simp only [List.length_take, List.length_map, List.length_replicate]; omega
      · rw [List.getElem?_replicate] at e1
        split at e1
        · cases e1
          have e2' := List.mem_of_mem_take (List.mem_of_getElem? e2)
          obtain ⟨y, hy, rfl⟩ := List.mem_map.1 e2'
          exact clip_mem p m hm f n _ y (by omega) (g3 y hy)
        · cases e1
    rw [if_neg h2] at h ⊢
    unfold slotsV
    by_cases hk : (dfn p t.id).kind = 0
    · rw [if_pos hk] at h ⊢
      obtain ⟨g1, g2, g3, g4⟩ := h
      rw [if_neg (by omega), g1, g2]
      have hkn : keepN m v = v.kids.length := by unfold keepN; rw [if_neg (by omega)]
      rw [hkn, List.take_of_length_le (by simp)]
      simp only [recsV, List.mem_map]
      refine ⟨_, mem_prodT.2 ⟨by simpa using g3, fun i l x e1 e2 => ?_⟩, rfl⟩
      rw [List.getElem?_map] at e1 e2
      cases hs : (dfn p t.id).slots[i]? with
      | none => rw [hs] at e1; simp at e1
      | some s =>
        cases hx : v.kids[i]? with
        | none => rw [hx] at e2; simp at e2
        | some y =>
          rw [hs] at e1
          rw [hx] at e2
          simp at e1 e2
          subst e1 e2
          exact clip_mem p m hm f n s.typ y (by omega) (g4 i s y hs hx)
    · rw [if_neg hk] at h ⊢
      obtain ⟨hk1, g1, i, s, x, g2, g3, g4, g5⟩ := h
      rw [if_pos hk1, if_neg (by omega), g1, g3, g4]
      have hkn : keepN m v = 1 := by unfold keepN; rw [if_neg (by omega), g4]; rfl
      rw [hkn]
      refine (mem_casesV _ 0 _).2 ⟨i, _, clipV m x, by rw [List.getElem?_map, g2]; rfl, clip_mem p m hm f n s.typ x (by omega) g5, ?_⟩
      simp

theorem shp_thin (p : Prg) (hs : Sml p) : ∀ (f : Nat) (t : Typ) (v : Val), Shp p f t v → thinV v = true
  | 0, t, v, h => h.elim
  | f + 1, t, v, h => by
    unfold Shp at h
    obtain ⟨hv, h⟩ := h
    rw [thinV_iff]
    by_cases h0 : t.k = 0
    · rw [if_pos h0] at h; rw [h.2]; simp
    by_cases h1 : t.k = 1
    · rw [if_neg h0, if_pos h1] at h; rw [h.2.2]; simp
    by_cases h2 : t.k = 2
    · rw [if_neg h0, if_neg h1, if_pos h2] at h
      exact ⟨.inl h.1, fun x hx => shp_thin p hs f _ x (h.2.2 x hx)⟩
    rw [if_neg h0, if_neg h1, if_neg h2] at h
    by_cases hk : (dfn p t.id).kind = 0
    · rw [if_pos hk] at h
      obtain ⟨g1, g2, g3, g4⟩ := h
      refine ⟨.inr (by have := hs.dfn t.id; omega), fun x hx => ?_⟩
      obtain ⟨i, hi, rfl⟩ := List.mem_iff_getElem.1 hx
      exact shp_thin p hs f _ _ (g4 i _ _ (List.getElem?_eq_getElem (by omega)) (List.getElem?_eq_getElem hi))
    · rw [if_neg hk] at h
      obtain ⟨hk1, g1, i, s, x, g2, g3, g4, g5⟩ := h
      rw [g4]
      refine ⟨.inr (by simp), fun y hy => ?_⟩
      simp at hy
      subst hy
      exact shp_thin p hs f _ _ g5

/-! The order is strict. -/
theorem cmpW_lt {x y : Val} (h : cmpW x y < 0) : weightV x ≤ weightV y ∧ (weightV x = weightV y → cmpV x y < 0) := by
  unfold cmpW at h
  simp only [orI] at h
  unfold cmpI at h
  by_cases h1 : weightV x < weightV y
  · exact ⟨by omega, fun e => by omega⟩
  · rw [if_neg h1] at h
    by_cases h2 : weightV y < weightV x
    · rw [if_pos h2] at h; simp at h
    · rw [if_neg h2] at h
      have e : weightV x = weightV y := by omega
      refine ⟨by omega, fun _ => ?_⟩
      by_cases h3 : cmpV x y = 0
      · simp [h3] at h
      · simpa [h3] using h
theorem sorted_strict (p : Prg) (m : Int) (n : Nat) (t : Typ) : (sortL cmpW (allV p m n t)).Pairwise fun x y => cmpW x y < 0 := by
  have h1 := sortL_sorted lin_cmpW.ord (allV p m n t)
  have h2 := (sortL_perm cmpW (allV p m n t)).nodup_iff.2 (allV_nodup p m n t)
  rw [List.nodup_iff_pairwise_ne] at h2
  refine (h1.and h2).imp fun {x y} ⟨a, b⟩ => ?_
  by_cases h : cmpW x y < 0
  · exact h
  · exact absurd (lin_cmpW.ord.anti _ _ h a) b

/-! What Types, Pick and Make give. -/
theorem Wf_mono (p : Prg) : ∀ {f f' : Nat} {t : Typ}, f ≤ f' → Wf p f t → Wf p f' t
  | 0, _, _, _, h => h.elim
  | f + 1, 0, _, hf, _ => by omega
  | f + 1, f' + 1, t, hf, h => by
    unfold Wf at h ⊢
    obtain ⟨hv, h⟩ := h
    refine ⟨hv, ?_⟩
    rcases h with h | h | ⟨h, x, hx, hw⟩ | ⟨h, hk, h1, h3, hs⟩
    · exact .inl h
    · exact .inr (.inl h)
    · exact .inr (.inr (.inl ⟨h, x, hx, Wf_mono p (by omega) hw⟩))
    · exact .inr (.inr (.inr ⟨h, hk, h1, h3, fun s hm => Wf_mono p (by omega) (hs s hm)⟩))
theorem Wz_mono (p : Prg) : ∀ {f f' : Nat} {t : Typ}, f ≤ f' → Wz p f t → Wz p f' t
  | 0, _, _, _, h => h.elim
  | f + 1, 0, _, hf, _ => by omega
  | f + 1, f' + 1, t, hf, h => by
    unfold Wz at h ⊢
    obtain ⟨hv, h⟩ := h
    refine ⟨hv, ?_⟩
    rcases h with h | h | h | ⟨h, hk, h1, h3, hs⟩
    · exact .inl h
    · exact .inr (.inl h)
    · exact .inr (.inr (.inl h))
    · exact .inr (.inr (.inr ⟨h, hk, h1, h3, fun s hm => Wz_mono p (by omega) (hs s hm)⟩))
theorem findD_id : ∀ {l : List Dfn} {id : Id} {d : Dfn}, findD l id = some d → d.id = id
  | [], id, d, h => by simp [findD] at h
  | x :: l, id, d, h => by
    simp only [findD] at h
    split at h
    · simp only [Option.some.injEq] at h; subst h; assumption
    · exact findD_id h
/-- A program in which each definition's slots have types made of those before. -/
def GP2 (m : Nat) (p : Prg) : Prop := ∀ j : Nat, j < m → ∃ d, findD p.defs (idR (1 + j)) = some d ∧ (d.kind = 0 ∨ d.kind = 1) ∧ 1 ≤ d.slots.length ∧ d.slots.length ≤ 3 ∧ ∀ s ∈ d.slots, GT j s.typ
theorem types_GP2 {l : List Int} (hl : ∀ x ∈ l, w64 x = x) (hw : ∀ i, w64 (atV l i 65536) = atV l i 65536) : GP2 (manyV l) (typesV l) := by
  intro j hj
  have h4 := (many_range hl).2.1
  obtain ⟨d, hd, hf⟩ := findD_is (l := (typesV l).defs) (id := idR (1 + j)) ⟨dfnV l j, List.mem_map.2 ⟨j, by simp; omega, rfl⟩, by simp only [dfnV]; congr 1⟩
  have hid := findD_id hf
  refine ⟨d, hf, ?_⟩
  obtain ⟨i, hi, rfl⟩ := List.mem_map.1 (show d ∈ (List.range (manyV l)).map (dfnV l) from hd)
  have hi : i < manyV l := by simpa using hi
  have hij : i = j := by
    simp only [dfnV, idR, Id.mk.injEq, true_and] at hid
    have := hid.2
    rw [Int.tmod_eq_emod_of_nonneg (by omega), Int.tmod_eq_emod_of_nonneg (by omega)] at this
    omega
  subst hij
  have hr := at_range (i := (1 + i : Int)) hl (show (0 : Int) < 65536 by omega)
  have hc : (dfnV l i).slots.length = cntV l i := by simp [dfnV]
  rw [hc]
  have hcr : 1 ≤ cntV l i ∧ cntV l i ≤ 3 := ⟨(cnt_range hl i).1, (cnt_range hl i).2.1⟩
  refine ⟨?_, hcr.1, hcr.2, fun s hs => ?_⟩
  · simp only [dfnV]
    rw [Int.tmod_eq_emod_of_nonneg hr.1]
    omega
  · simp only [dfnV, List.mem_map] at hs
    obtain ⟨k, _, rfl⟩ := hs
    exact pick_GT (hw _) (by omega)
theorem GT_wf {m : Nat} {p : Prg} (hp : GP2 m p) : ∀ (n j : Nat), j ≤ n → j ≤ m → ∀ t, GT j t → Wf p (2 * j + 2) t ∧ Wz p (j + 1) t := by
  have hp1 : GP m p := fun j h0 h1 => by
    obtain ⟨d, hd, hk, _, _, hs⟩ := hp j.toNat (by omega)
    rw [Int.toNat_of_nonneg h0] at hd
    exact ⟨d, hd, hk, fun s hm => GT_mono (by omega) (hs s hm)⟩
  intro n
  induction n with
  | zero =>
    intro j hj hm t ht
    have hj0 : j = 0 := by omega
    subst hj0
    have hv := GT_valid hp1 (GT_mono (m' := (m : Int)) (by omega) ht)
    have hv0 := GT_valid hp1 (.inl rfl : GT m Typ0)
    rcases ht with rfl | rfl | rfl | ⟨i, h0, h1, _⟩
    · exact ⟨⟨hv, .inl rfl⟩, ⟨hv, .inl rfl⟩⟩
    · exact ⟨⟨hv, .inr (.inl rfl)⟩, ⟨hv, .inr (.inl rfl)⟩⟩
    · exact ⟨⟨hv, .inr (.inr (.inl ⟨rfl, Typ0, rfl, hv0, .inl rfl⟩))⟩, ⟨hv, .inr (.inr (.inl rfl))⟩⟩
    · omega
  | succ n ih =>
    intro j hj hm t ht
    have hv := GT_valid hp1 (GT_mono (m' := (m : Int)) (by omega) ht)
    have hv0 := GT_valid hp1 (.inl rfl : GT m Typ0)
    rcases ht with rfl | rfl | rfl | ⟨i, h0, h1, ht⟩
    · exact ⟨Wf_mono p (f := 1) (by omega) ⟨hv, .inl rfl⟩, ⟨hv, .inl rfl⟩⟩
    · exact ⟨Wf_mono p (f := 1) (by omega) ⟨hv, .inr (.inl rfl)⟩, ⟨hv, .inr (.inl rfl)⟩⟩
    · exact ⟨Wf_mono p (f := 2) (by omega) ⟨hv, .inr (.inr (.inl ⟨rfl, Typ0, rfl, hv0, .inl rfl⟩))⟩, ⟨hv, .inr (.inr (.inl rfl))⟩⟩
    · obtain ⟨i, rfl⟩ : ∃ k : Nat, i = k := ⟨i.toNat, by omega⟩
      obtain ⟨d, hd, hk, g1, g3, hs⟩ := hp i (by omega)
      have hdf : dfn p (idR (1 + i)) = d := by simp [dfn, hd]
      have hvd : validT p (.mk 3 (idR (1 + i)) []) = true := GT_valid hp1 (.inr (.inr (.inr ⟨i, h0, by omega, .inl rfl⟩)) : GT m _)
      have w1 : Wf p (2 * i + 3) (.mk 3 (idR (1 + i)) []) := ⟨hvd, .inr (.inr (.inr ⟨rfl, by simp only [Typ.id_mk]; rw [hdf]; exact ⟨hk, g1, g3, fun s hm => (ih i (by omega) (by omega) _ (hs s hm)).1⟩⟩))⟩
      have w2 : Wz p (i + 2) (.mk 3 (idR (1 + i)) []) := ⟨hvd, .inr (.inr (.inr ⟨rfl, by simp only [Typ.id_mk]; rw [hdf]; exact ⟨hk, g1, g3, fun s hm => (ih i (by omega) (by omega) _ (hs s hm)).2⟩⟩))⟩
      rcases ht with rfl | rfl
      · exact ⟨Wf_mono p (by omega) w1, Wz_mono p (by omega) w2⟩
      · exact ⟨Wf_mono p (f := 2 * i + 3 + 1) (by omega) ⟨hv, .inr (.inr (.inl ⟨rfl, _, rfl, w1⟩))⟩, Wz_mono p (f := 1) (by omega) ⟨hv, .inr (.inr (.inl rfl))⟩⟩

theorem zeroV_shp (p : Prg) : ∀ (f : Nat) (t : Typ), Wz p f t → Shp p f t (zeroV p f t)
  | 0, t, h => h.elim
  | f + 1, t, h => by
    unfold Wz at h
    unfold Shp zeroV
    obtain ⟨hv, h⟩ := h
    refine ⟨hv, ?_⟩
    by_cases h0 : t.k = 0
    · simp only [h0, if_true]; exact ⟨rfl, rfl⟩
    by_cases h1 : t.k = 1
    · rw [if_neg h0, if_neg h0, if_pos h1, if_pos h1]; exact ⟨rfl, .inl rfl, rfl⟩
    by_cases h2 : t.k = 2
    · rw [if_neg h0, if_neg h0, if_neg h1, if_neg h1, if_pos h2, if_pos h2]; exact ⟨rfl, rfl, fun x hx => by simp [valkids_mk] at hx⟩
    obtain ⟨_, gk, g1, g3, g4⟩ := h.resolve_left h0 |>.resolve_left h1 |>.resolve_left h2
    rw [if_neg h0, if_neg h0, if_neg h1, if_neg h1, if_neg h2, if_neg h2]
    rcases gk with gk | gk
    · rw [if_neg (show ¬ (dfn p t.id).kind = 1 by omega), if_pos gk]
      refine ⟨rfl, rfl, by simp [valkids_mk], fun i s x e1 e2 => ?_⟩
      rw [valkids_mk, List.getElem?_map, e1] at e2
      simp at e2
      subst e2
      exact zeroV_shp p f s.typ (g4 s (List.mem_of_getElem? e1))
    · rw [if_pos gk, if_neg (show ¬ (dfn p t.id).kind = 0 by omega)]
      have hs : (dfn p t.id).slots[0]? = some (dfn p t.id).slots[0] := List.getElem?_eq_getElem (by omega)
      refine ⟨gk, rfl, 0, _, zeroV p f (dfn p t.id).slots[0].typ, hs, rfl, ?_, zeroV_shp p f _ (g4 _ (List.getElem_mem _))⟩
      rw [valkids_mk, ← List.map_take]
      have : (dfn p t.id).slots.take 1 = [(dfn p t.id).slots[0]] := by
        rw [List.take_succ_eq_append_getElem (by omega)]; simp
      rw [this]; rfl

theorem makeV_shp (p : Prg) (l : List Int) (hl : ∀ x ∈ l, w64 x = x) : ∀ (f : Nat) (t : Typ) (a d : Int), Wf p f t → Shp p f t (makeV p l f t a d).1
  | 0, t, a, d, h => h.elim
  | f + 1, t, a, d, h => by
    unfold Wf at h
    unfold Shp makeV
    have hx := at_range (i := a) hl (show (0 : Int) < 1048576 by omega)
    obtain ⟨hv, h⟩ := h
    refine ⟨hv, ?_⟩
    by_cases h0 : t.k = 0
    · rw [if_pos h0, if_pos h0]; exact ⟨rfl, rfl⟩
    by_cases h1 : t.k = 1
    · rw [if_neg h0, if_neg h0, if_pos h1, if_pos h1]
      refine ⟨rfl, ?_, rfl⟩
      simp only [valn_mk]
      rw [Int.tmod_eq_emod_of_nonneg hx.1]
      omega
    by_cases h2 : t.k = 2
    · rw [if_neg h0, if_neg h0, if_neg h1, if_neg h1, if_pos h2, if_pos h2]
      obtain ⟨_, y, hy, hwf⟩ := h.resolve_left h0 |>.resolve_left h1 |>.resolve_right (fun e => by omega)
      refine ⟨rfl, rfl, fun x hx => ?_⟩
      rw [valkids_mk, hy] at hx
      rw [hy]
      obtain ⟨i, hi, hxi⟩ := List.mem_iff_getElem.1 hx
      have hi' := hi
      rw [runT_len, List.length_replicate] at hi'
      obtain ⟨b, hb⟩ := runT_get _ _ _ i y x (by rw [List.getElem?_replicate, if_pos hi']) (by rw [← hxi]; exact List.getElem?_eq_getElem hi)
      rw [hb]
      exact makeV_shp p l hl f y b _ hwf
    obtain ⟨_, gk, g1, g3, g4⟩ := h.resolve_left h0 |>.resolve_left h1 |>.resolve_left (fun e => h2 e.1)
    rw [if_neg h0, if_neg h0, if_neg h1, if_neg h1, if_neg h2, if_neg h2]
    rcases gk with gk | gk
    · rw [if_neg (show ¬ (dfn p t.id).kind = 1 by omega), if_pos gk]
      refine ⟨rfl, rfl, by rw [valkids_mk, runT_len, List.length_map], fun i s x e1 e2 => ?_⟩
      rw [valkids_mk] at e2
      obtain ⟨b, hb⟩ := runT_get _ _ _ i s.typ x (by rw [List.getElem?_map, e1]; rfl) e2
      rw [hb]
      exact makeV_shp p l hl f s.typ b _ (g4 s (List.mem_of_getElem? e1))
    · rw [if_pos gk, if_neg (show ¬ (dfn p t.id).kind = 0 by omega)]
      have hl1 := Int.emod_nonneg (atV l a 1048576) (show ((dfn p t.id).slots.length : Int) ≠ 0 by omega)
      have hl2 := Int.emod_lt_of_pos (atV l a 1048576) (show (0 : Int) < ((dfn p t.id).slots.length : Int) by omega)
      have hlt : (atV l a 1048576).tmod ((dfn p t.id).slots.length : Int) = ((atV l a 1048576) % ((dfn p t.id).slots.length : Int)) := Int.tmod_eq_emod_of_nonneg hx.1
      obtain ⟨Q, hQ⟩ : ∃ Q : Nat, (atV l a 1048576).tmod ((dfn p t.id).slots.length : Int) = (Q : Int) := ⟨((atV l a 1048576).tmod ((dfn p t.id).slots.length : Int)).toNat, by omega⟩
      have hQl : Q < (dfn p t.id).slots.length := by omega
      rw [hQ]
      refine ⟨gk, rfl, Q, _, _, List.getElem?_eq_getElem hQl, rfl, rfl, ?_⟩
      have e : ((dfn p t.id).slots.map Slt.typ).getD (Q : Int).toNat Typ0 = (dfn p t.id).slots[Q].typ := by simp [hQl]
      rw [e]
      exact makeV_shp p l hl f _ _ _ (g4 _ (List.getElem_mem _))
theorem valueV_shp (p : Prg) (l : List Int) (hl : ∀ x ∈ l, w64 x = x) (t : Typ) (hf : Wf p 10 t) (hz : Wz p 5 t) : ∃ f, f ≤ 24 ∧ Shp p f t (valueV p t l) := by
  unfold valueV
  split
  · exact ⟨5, by decide, zeroV_shp p 5 t hz⟩
  · exact ⟨10, by decide, makeV_shp p l hl 10 t 0 1 hf⟩
end Go.Proofs.Ytbkiphnlbadhcaa
