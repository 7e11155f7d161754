/-
  Types of expressions; which definitions the maker may name.
  trace.Changed.
-/
import Derived.Test.YthglhccibdlccaaGreatDoorX29
import Derived.Test.YthglhccibdlccaaGreatDoorX23
import Derived.Test.YthglhccibdlccaaGreatDoorX30
set_option linter.unusedVariables false
set_option linter.unusedSimpArgs false
namespace Go.Proofs.YthglhccibdlccaaGreatDoor
open Go.Abs
structure Hd where
  id : Id
  kind : Int
  slots : List Slt
  res : Typ
def Dfn.hd (d : Dfn) : Hd := ⟨d.id, d.kind, d.slots, d.res⟩
abbrev tInt : Typ := .mk 0 Id.zero []
abbrev tBool : Typ := .mk 1 Id.zero []
abbrev tList (t : Typ) : Typ := .mk 2 Id.zero [t]
abbrev tDef (d : Id) : Typ := .mk 3 d []
inductive TyOk (hs : List Hd) : Nat → Typ → Prop
  | int (r : Nat) : TyOk hs r tInt
  | bool (r : Nat) : TyOk hs r tBool
  | list (r : Nat) (t : Typ) (h : TyOk hs r t) : TyOk hs (r + 1) (tList t)
  | dfn (r k : Nat) (h : k < hs.length) (h1 : ∀ (j : Nat) (hj : j < k), hs[j].id ≠ hs[k].id) (h2 : hs[k].kind = 0 ∨ hs[k].kind = 1 ∧ 0 < hs[k].slots.length) (h3 : hs[k].slots.length ≤ 6)
      (h4 : ∀ s ∈ hs[k].slots, TyOk hs r s.typ) : TyOk hs (r + 1) (tDef hs[k].id)
theorem TyOk.mono {hs : List Hd} {r r' : Nat} {t : Typ} (h : TyOk hs r t) (hr : r ≤ r') : TyOk hs r' t := by
  induction h generalizing r' with
  | int r => exact .int _
  | bool r => exact .bool _
  | list r t h ih =>
    obtain ⟨q, rfl⟩ : ∃ q, r' = q + 1 := ⟨r' - 1, by omega⟩
    exact .list _ _ (ih (by omega))
  | dfn r k h h1 h2 h3 h4 ih =>
    obtain ⟨q, rfl⟩ : ∃ q, r' = q + 1 := ⟨r' - 1, by omega⟩
    exact .dfn _ k h h1 h2 h3 fun s hs' => ih s hs' (by omega)
def lookB (env : List Bnd) (x : Id) (n : Int) : Option Typ := (env.reverse.find? fun b => decide (b.id = x) && decide (b.n = n)).map (·.typ)
inductive WT (hs : List Hd) (own : Int) : List Bnd → Exp → Typ → Prop
  | int (env i n) (h1 : -1099511627776 ≤ n) (h2 : n ≤ 1099511627776) : WT hs own env (.mk i 0 n Id.zero Typ.zero [] []) tInt
  | bool (env i n) (h : n = 0 ∨ n = 1) : WT hs own env (.mk i 1 n Id.zero Typ.zero [] []) tBool
  | var (env i n x t) (h : lookB env x n = some t) : WT hs own env (.mk i 2 n x Typ.zero [] []) t
  | call (env i) (k : Nat) (h : k < hs.length) (ks) (ho : (k : Int) < own) (hk : hs[k].kind = 2) (hl : ks.length = hs[k].slots.length) (hw : ∀ (j : Nat) (hj : j < ks.length), WT hs own env ks[j] (hs[k].slots[j]'(hl ▸ hj)).typ) :
      WT hs own env (.mk i 3 0 hs[k].id Typ.zero ks []) hs[k].res
  | arith (env i n a b) (h1 : 0 ≤ n) (h2 : n ≤ 4) (ha : WT hs own env a tInt) (hb : WT hs own env b tInt) : WT hs own env (.mk i 4 n Id.zero Typ.zero [a, b] []) tInt
  | less (env i a b) (ha : WT hs own env a tInt) (hb : WT hs own env b tInt) : WT hs own env (.mk i 4 5 Id.zero Typ.zero [a, b] []) tBool
  | same (env i a b u) (ha : WT hs own env a u) (hb : WT hs own env b u) : WT hs own env (.mk i 4 6 Id.zero Typ.zero [a, b] []) tBool
  | andor (env i n a b) (h : n = 7 ∨ n = 8) (ha : WT hs own env a tBool) (hb : WT hs own env b tBool) : WT hs own env (.mk i 4 n Id.zero Typ.zero [a, b] []) tBool
  | not (env i a) (ha : WT hs own env a tBool) : WT hs own env (.mk i 4 9 Id.zero Typ.zero [a] []) tBool
  | join (env i a b t) (ha : WT hs own env a (tList t)) (hb : WT hs own env b (tList t)) : WT hs own env (.mk i 4 10 Id.zero Typ.zero [a, b] []) (tList t)
  | len (env i a t) (ha : WT hs own env a (tList t)) : WT hs own env (.mk i 4 11 Id.zero Typ.zero [a] []) tInt
  | ite (env i a b c t) (ha : WT hs own env a tBool) (hb : WT hs own env b t) (hc : WT hs own env c t) : WT hs own env (.mk i 5 0 Id.zero Typ.zero [a, b, c] []) t
  | lets (env i a b u t ns) (hn : ns.length ≤ 10) (ha : WT hs own env a u) (hb : WT hs own (env ++ [⟨i, 0, u⟩]) b t) : WT hs own env (.mk i 6 0 Id.zero Typ.zero [a, b] ns) t
  | record (env i) (k : Nat) (h : k < hs.length) (ks) (hk : hs[k].kind = 0) (hl : ks.length = hs[k].slots.length) (hw : ∀ (j : Nat) (hj : j < ks.length), WT hs own env ks[j] (hs[k].slots[j]'(hl ▸ hj)).typ) :
      WT hs own env (.mk i 7 0 hs[k].id Typ.zero ks []) (tDef hs[k].id)
  | field (env i) (k : Nat) (h : k < hs.length) (j : Nat) (hj : j < hs[k].slots.length) (a) (hk : hs[k].kind = 0) (ha : WT hs own env a (tDef hs[k].id)) : WT hs own env (.mk i 8 j hs[k].id Typ.zero [a] []) hs[k].slots[j].typ
  | case (env i) (k : Nat) (h : k < hs.length) (j : Nat) (hj : j < hs[k].slots.length) (a) (hk : hs[k].kind = 1) (ha : WT hs own env a hs[k].slots[j].typ) : WT hs own env (.mk i 9 j hs[k].id Typ.zero [a] []) (tDef hs[k].id)
  | mtch (env i) (k : Nat) (h : k < hs.length) (a ks t ns) (hn : ns.length ≤ 10) (hk : hs[k].kind = 1) (hl : ks.length = hs[k].slots.length) (ha : WT hs own env a (tDef hs[k].id))
      (hw : ∀ (j : Nat) (hj : j < ks.length), WT hs own (env ++ [⟨i, j, (hs[k].slots[j]'(hl ▸ hj)).typ⟩]) ks[j] t) : WT hs own env (.mk i 10 0 hs[k].id Typ.zero (a :: ks) ns) t
  | list (env i t ks) (hw : ∀ (j : Nat) (hj : j < ks.length), WT hs own env ks[j] t) : WT hs own env (.mk i 11 0 Id.zero t ks []) (tList t)
  | fold (env i l s b u t ns) (hn : ns.length ≤ 10) (hl : WT hs own env l (tList u)) (hs' : WT hs own env s t) (hb : WT hs own (env ++ [⟨i, 0, u⟩] ++ [⟨i, 1, t⟩]) b t) : WT hs own env (.mk i 12 0 Id.zero Typ.zero [l, s, b] ns) t
mutual
def tmps : Exp → List Int
  | .mk i _ _ _ _ ks _ => tmpsL ks ++ [i.c]
def tmpsL : List Exp → List Int
  | [] => []
  | e :: l => tmps e ++ tmpsL l
end
mutual
def Exp.num0 : Exp → Prop
  | .mk i _ _ _ _ ks _ => (i.a = 0 ∧ i.b = 0) ∧ num0L ks
def num0L : List Exp → Prop
  | [] => True
  | e :: l => e.num0 ∧ num0L l
end
theorem num0L_iff : ∀ l : List Exp, num0L l ↔ ∀ e ∈ l, e.num0
  | [] => by simp [num0L]
  | e :: l => by simp [num0L, num0L_iff l]
theorem num0_mk {c k n : Int} {r : Id} {t : Typ} {ks : List Exp} {ns : List ByteArray} (h : ∀ e ∈ ks, e.num0) : (Exp.mk ⟨0, 0, c⟩ k n r t ks ns).num0 := by
  simp only [Exp.num0, num0L_iff, true_and]; exact h
theorem num0_leaf {c k n : Int} {r : Id} {t : Typ} {ns : List ByteArray} : (Exp.mk ⟨0, 0, c⟩ k n r t [] ns).num0 := num0_mk (by simp)
theorem num0_all {es : List Exp} {n : Nat} (hn : es.length = n) (h : ∀ (j : Nat) (_ : j < es.length), es[j].num0) : ∀ e ∈ es, e.num0 := fun e he => by
  obtain ⟨j, hj, rfl⟩ := List.getElem_of_mem he
  exact h j hj
structure Seg (lo hi : Int) (l : List Int) : Prop where
  nd : l.Nodup
  rng : ∀ x ∈ l, lo ≤ x ∧ x < hi
theorem Seg.append {a b c : Int} {l l' : List Int} (h : Seg a b l) (h' : Seg b c l') (hab : a ≤ b) (hbc : b ≤ c) : Seg a c (l ++ l') := by
  refine ⟨List.nodup_append.2 ⟨h.nd, h'.nd, fun x hx y hy e => ?_⟩, fun x hx => ?_⟩
  · have h1 := h.rng x hx
    have h2 := h'.rng y hy
    omega
  · rcases List.mem_append.1 hx with hx | hx
    · have := h.rng x hx; omega
    · have := h'.rng x hx; omega
theorem Seg.perm {a b : Int} {l l' : List Int} (h : Seg a b l) (hp : l.Perm l') : Seg a b l' := ⟨hp.nodup_iff.1 h.nd, fun x hx => h.rng x (hp.mem_iff.2 hx)⟩
theorem Seg.one (a : Int) : Seg a (a + 1) [a] := ⟨by simp, fun x hx => by simp at hx; omega⟩
theorem Seg.nil {a b : Int} : Seg a b [] := ⟨by simp, fun x hx => by simp at hx⟩
theorem Seg.mono {a b a' b' : Int} {l : List Int} (h : Seg a b l) (h1 : a' ≤ a) (h2 : b ≤ b') : Seg a' b' l := ⟨h.nd, fun x hx => by have := h.rng x hx; omega⟩
structure Adv (m m' : Mk) (c : Int) : Prop where
  mods : m'.mods = m.mods
  defs : m'.defs = m.defs
  l : m'.l = m.l
  own : m'.own = m.own
  home : m'.home = m.home
  at1 : m.at_ ≤ m'.at_
  at2 : m'.at_ ≤ m.at_ + c
  temp1 : m.temp ≤ m'.temp
  temp2 : m'.temp ≤ m.temp + c
  left1 : m.left - c ≤ m'.left
  left2 : m'.left ≤ m.left
  name1 : m.name ≤ m'.name
  name2 : m'.name ≤ m.name + c
theorem Adv.trans {m m1 m2 : Mk} {c c' : Int} (h : Adv m m1 c) (k : Adv m1 m2 c') : Adv m m2 (c + c') := by
  obtain ⟨h1, h2, h3, h4, h5, h6, h7, h8, h9, h10, h11, h12, h13⟩ := h
  obtain ⟨k1, k2, k3, k4, k5, k6, k7, k8, k9, k10, k11, k12, k13⟩ := k
  exact ⟨k1.trans h1, k2.trans h2, k3.trans h3, k4.trans h4, k5.trans h5, by omega, by omega, by omega, by omega, by omega, by omega, by omega, by omega⟩
theorem Adv.mono {m m1 : Mk} {c c' : Int} (h : Adv m m1 c) (hc : c ≤ c') : Adv m m1 c' := by
  obtain ⟨h1, h2, h3, h4, h5, h6, h7, h8, h9, h10, h11, h12, h13⟩ := h
  exact ⟨h1, h2, h3, h4, h5, by omega, by omega, by omega, by omega, by omega, by omega, by omega, by omega⟩
structure Lim (m : Mk) (c : Int) : Prop where
  at1 : 0 ≤ m.at_
  at2 : m.at_ + c ≤ 1000000000000000
  temp1 : 0 ≤ m.temp
  temp2 : m.temp + c ≤ 1000000000000000
  left1 : -1000000000000000 ≤ m.left - c
  left2 : m.left ≤ 1000000000000000
  name1 : 0 ≤ m.name
  name2 : m.name + c ≤ 1000000000000000
theorem Lim.adv {m m1 : Mk} {c c' : Int} (h : Lim m (c + c')) (k : Adv m m1 c) : Lim m1 c' := by
  obtain ⟨h1, h2, h3, h4, h5, h6, h7, h8⟩ := h
  obtain ⟨k1, k2, k3, k4, k5, k6, k7, k8, k9, k10, k11, k12, k13⟩ := k
  exact ⟨by omega, by omega, by omega, by omega, by omega, by omega, by omega, by omega⟩
theorem Lim.mono {m : Mk} {c c' : Int} (h : Lim m c) (hc : c' ≤ c) : Lim m c' := by
  obtain ⟨h1, h2, h3, h4, h5, h6, h7, h8⟩ := h
  exact ⟨by omega, by omega, by omega, by omega, by omega, by omega, by omega, by omega⟩
theorem adv_node (m : Mk) : Adv m { m with temp := m.temp + 1, left := m.left - 1 } 1 := ⟨rfl, rfl, rfl, rfl, rfl, by simp, by simp; omega, by simp; omega, by simp, by simp, by simp; omega, by simp, by simp; omega⟩
theorem adv_num (m : Mk) : Adv m { m with at_ := m.at_ + 1 } 1 := ⟨rfl, rfl, rfl, rfl, rfl, by simp; omega, by simp, by simp, by simp; omega, by simp; omega, by simp, by simp, by simp; omega⟩
theorem adv_name (m : Mk) : Adv m { m with name := m.name + 1 } 1 := ⟨rfl, rfl, rfl, rfl, rfl, by simp, by simp; omega, by simp, by simp; omega, by simp; omega, by simp, by simp; omega, by simp⟩
structure Cx (hs : List Hd) (R : Nat) (m : Mk) : Prop where
  heads : m.defs.map Dfn.hd = hs
  len : hs.length ≤ 100
  len0 : 0 < hs.length
  mods : 0 < m.mods.length
  nums : ∀ x ∈ m.l, w64 x = x
  own : m.own ≤ 1000
  typs : ∀ (k : Nat) (h : k < hs.length), hs[k].kind = 0 ∨ hs[k].kind = 1 → TyOk hs R (tDef hs[k].id)
  slots : ∀ (k : Nat) (h : k < hs.length), hs[k].slots.length ≤ 6 ∧ ∀ s ∈ hs[k].slots, TyOk hs R s.typ
theorem Cx.adv {hs : List Hd} {R : Nat} {m m' : Mk} {c : Int} (h : Cx hs R m) (k : Adv m m' c) : Cx hs R m' := by
  obtain ⟨h1, h2, h3, h4, h5, h6, h7, h8⟩ := h
  exact ⟨by rw [k.defs]; exact h1, h2, h3, by rw [k.mods]; exact h4, by rw [k.l]; exact h5, by rw [k.own]; exact h6, h7, h8⟩
theorem Cx.dlen {hs : List Hd} {R : Nat} {m : Mk} (h : Cx hs R m) : m.defs.length = hs.length := by rw [← h.heads, List.length_map]
theorem Cx.get {hs : List Hd} {R : Nat} {m : Mk} (h : Cx hs R m) {k : Nat} (hk : k < m.defs.length) : hs[k]'(h.dlen ▸ hk) = m.defs[k].hd := by
  obtain ⟨rfl, _⟩ := h
  simp
structure EnvOk (hs : List Hd) (R : Nat) (temp : Int) (env : List Bnd) : Prop where
  typs : ∀ b ∈ env, TyOk hs R b.typ
  nd : env.Pairwise fun b c => ¬ (b.id = c.id ∧ b.n = c.n)
  new : ∀ b ∈ env, b.id.b = 0 → b.id.c < temp
theorem EnvOk.mono {hs : List Hd} {R : Nat} {temp temp' : Int} {env : List Bnd} (h : EnvOk hs R temp env) (ht : temp ≤ temp') : EnvOk hs R temp' env := ⟨h.typs, h.nd, fun b hb h0 => by have := h.new b hb h0; omega⟩
theorem EnvOk.snoc {hs : List Hd} {R : Nat} {temp : Int} {env : List Bnd} (h : EnvOk hs R temp env) (c n : Int) (t : Typ) (ht : TyOk hs R t) (hc : ∀ b ∈ env, b.id = ⟨0, 0, c⟩ → b.n ≠ n) (hct : c < temp) : EnvOk hs R temp (env ++ [⟨⟨0, 0, c⟩, n, t⟩]) := by
  refine ⟨fun b hb => ?_, ?_, fun b hb h0 => ?_⟩
  · rcases List.mem_append.1 hb with hb | hb
    · exact h.typs b hb
    · rw [List.mem_singleton.1 hb]; exact ht
  · rw [List.pairwise_append]
    refine ⟨h.nd, by simp, fun b hb c' hc' => ?_⟩
    rw [List.mem_singleton.1 hc']
    exact fun e => hc b hb e.1 e.2
  · rcases List.mem_append.1 hb with hb | hb
    · exact h.new b hb h0
    · rw [List.mem_singleton.1 hb]; exact hct
theorem lookB_mem {env : List Bnd} (h : env.Pairwise fun b c => ¬ (b.id = c.id ∧ b.n = c.n)) {b : Bnd} (hb : b ∈ env) : lookB env b.id b.n = some b.typ := by
  induction env using snocRec with
  | nil => simp at hb
  | snoc l y ih =>
    rw [List.pairwise_append] at h
    unfold lookB
    rw [List.reverse_append]
    simp only [List.reverse_cons, List.reverse_nil, List.nil_append, List.singleton_append, List.find?_cons]
    rcases List.mem_append.1 hb with hb' | hb'
    · have hne := h.2.2 b hb' y (by simp)
      have : (decide (y.id = b.id) && decide (y.n = b.n)) = false := by
        rw [Bool.and_eq_false_iff]
        by_cases e : y.id = b.id
        · right
          rw [decide_eq_false_iff_not]
          exact fun e' => hne ⟨e.symm, e'.symm⟩
        · left; simpa using e
      rw [this]
      exact ih h.1 hb'
    · rw [List.mem_singleton.1 hb']
      simp
def visV (m : Mk) (k : Nat) : Bool := match m.defs[k]? with
  | some d => decide ((k : Int) < m.own) && (decide (d.mod = m.home) || decide (d.mod = (m.mods.headD ⟨Id.zero, ⟨#[]⟩, [], []⟩).id))
  | none => false
theorem vis_own {m : Mk} {k : Nat} (h : visV m k = true) : (k : Int) < m.own := by
  unfold visV at h
  split at h
  · rw [Bool.and_eq_true] at h; exact of_decide_eq_true h.1
  · cases h
theorem vis_ok (m : Mk) (k : Nat) (hk : k < m.defs.length) (hm : 0 < m.mods.length) : Ret Tryz.prog 119 [.ptr 0 0, int k] (mkS m) (bl (visV m k)) (mkS m) := by
  refine ret_of_wp Tryz.func119 rfl cVis (rs := [.slot 4]) (by kernel_rfl) ?_
  unfold KVis
  have hd := cellsD_drop hk
  have hb31 : k * 31 + 31 ≤ m.defs.length * 31 := by omega
  have hv : visV m k = (decide ((k : Int) < m.own) && (decide (m.defs[k].mod = m.home) || decide (m.defs[k].mod = (m.mods.headD ⟨Id.zero, ⟨#[]⟩, [], []⟩).id))) := by
    unfold visV; rw [List.getElem?_eq_getElem hk]
  cases hmm : m.mods with
  | nil => rw [hmm] at hm; simp at hm
  | cons m0 M =>
    rw [hmm] at hv
    simp only [List.headD_cons] at hv
    simp -implicitDefEqProofs [mkS, mkB, hk, hd, hb31, encD, hmm, cellsM_cons, encM]
    by_cases h1 : (k : Int) < m.own
    · by_cases h2 : m.defs[k].mod = m.home
      · simp -implicitDefEqProofs [h1, h2]
        exact ret_keep [0, 1] 0 (by decide) (by simp) (by simp [hmm, cellsM_cons, encM]) (by simp [hv, h1, h2])
      · have e2 : same3 m.defs[k].mod.a m.defs[k].mod.b m.defs[k].mod.c m.home.a m.home.b m.home.c = false := by rw [same3_id]; exact decide_eq_false h2
        simp -implicitDefEqProofs [h1, e2]
        exact ret_keep [0, 1] 0 (by decide) (by simp) (by simp [hmm, cellsM_cons, encM]) (by simp [hv, h1, h2] <;> congr)
    · simp -implicitDefEqProofs [h1]
      exact ret_keep [0, 1] 0 (by decide) (by simp) (by simp [hmm, cellsM_cons, encM]) (by simp [hv, h1])
def goodM (m : Mk) (kind : Int) (k : Nat) : Bool := (match m.defs[k]? with
  | some d => decide (d.kind = kind)
  | none => false) && visV m k
def ofV (m : Mk) (kind : Int) (x : Nat) : Int := match (List.range m.defs.length).find? fun i => goodM m kind ((x + i) % m.defs.length) with
  | some i => (((x + i) % m.defs.length : Nat) : Int)
  | none => -1
theorem range_hit {n i : Nat} {p : Nat → Bool} (h : i < n) (hp : p i = true) (hn : ∀ j < i, p j = false) : (List.range n).find? p = some i := by
  rw [List.find?_range_eq_some]
  exact ⟨hp, by simpa using h, fun j hj => by simpa using hn j hj⟩
theorem range_miss {n : Nat} {p : Nat → Bool} (hn : ∀ j < n, p j = false) : (List.range n).find? p = none := by
  rw [List.find?_eq_none]
  intro x hx
  simpa using hn x (by simpa using hx)
theorem of_spec (m : Mk) (kind : Int) (x : Nat) : ofV m kind x = -1 ∨ ∃ k : Nat, ∃ h : k < m.defs.length, ofV m kind x = k ∧ m.defs[k].kind = kind ∧ visV m k = true := by
  unfold ofV
  split
  · rename_i i hi
    right
    have hp := List.find?_some hi
    have hlt : 0 < m.defs.length := by
      have := List.mem_range.1 (List.mem_of_find?_eq_some hi)
      omega
    have hk := Nat.mod_lt (x + i) hlt
    refine ⟨_, hk, rfl, ?_⟩
    unfold goodM at hp
    rw [List.getElem?_eq_getElem hk] at hp
    simpa using hp
  · left; rfl
theorem ofM_ok (m : Mk) (kind : Int) (x : Nat) (hx : x ≤ 1000000) (hd : 0 < m.defs.length) (hd' : m.defs.length ≤ 100) (hm : 0 < m.mods.length) : Ret Tryz.prog 118 [.ptr 0 0, int kind, int x] (mkS m) (int (ofV m kind x)) (mkS m) := by
  refine ret_of_wp Tryz.func118 rfl cOfM (rs := [.slot 6]) (by kernel_rfl) ?_
  unfold KOfM
  simp -implicitDefEqProofs [mkS, mkB]
  refine loopS (S := Nat) (fun i => [(0, .ptr 0 0), (1, int kind), (2, int x), (7, int m.defs.length), (8, int i)]) (fun _ => mkS m) (fun i => i ≤ m.defs.length ∧ ∀ j < i, goodM m kind ((x + j) % m.defs.length) = false) (fun i => m.defs.length - i) 0 (by simp)
    (selW [0, 1] 0 (by decide) (by simp) (by simp [mkS, mkB]) (by simp)) ?_
  rintro i ⟨hi, hn⟩
  by_cases h : i < m.defs.length
  · have hk := Nat.mod_lt (x + i) hd
    have w1 : IntKind.i64.wrap ((x : Int) + i) = (x : Int) + i := IntWalk.i64_in _ (by omega)
    have w2 : IntKind.i64.wrap ((i : Int) + 1) = (i : Int) + 1 := IntWalk.i64_in _ (by omega)
    have e1 : Int.tmod ((x : Int) + i) (m.defs.length : Int) = (((x + i) % m.defs.length : Nat) : Int) := by rw [tmN (by omega)]; simp
    have hnil : m.defs ≠ [] := fun e => by rw [e] at hd; simp at hd
    have hne : ¬ ((m.defs.length : Int) = 0) := by omega
    generalize hkk : (x + i) % m.defs.length = k at hk e1
    have hdr := cellsD_drop hk
    have hdr3 : List.drop (k * 31 + 3) (cellsD m.defs) = (encD m.defs[k] ++ cellsD (m.defs.drop (k + 1))).drop 3 := by rw [← List.drop_drop, hdr]
    have hb4 : k * 31 + 3 + 1 ≤ m.defs.length * 31 := by omega
    have hg : goodM m kind k = (decide (m.defs[k].kind = kind) && visV m k) := by unfold goodM; rw [List.getElem?_eq_getElem hk]
    simp -implicitDefEqProofs [mkS, mkB, h, w1, e1, hne, hk, hdr3, hb4, encD, hnil]
    have hround : goodM m kind k = false → ∀ j < i + 1, goodM m kind ((x + j) % m.defs.length) = false := fun hg' j hj => by
      by_cases e : j = i
      · subst e; rw [hkk]; exact hg'
      · exact hn j (by omega)
    have hhit : goodM m kind k = true → ofV m kind x = k := fun hg' => by
      unfold ofV
      rw [range_hit h (by rw [hkk]; exact hg') hn]
      simp only [hkk]
    by_cases h1 : m.defs[k].kind = kind
    · simp -implicitDefEqProofs [h1]
      refine callJ (vis_ok m k hk hm) [0, 1] (by decide) (by simp [mkS, mkB]) (by simp) ?_
      cases h2 : visV m k
      · simp -implicitDefEqProofs [mkS, mkB]
        exact roundS (i + 1) ⟨h, hround (by rw [hg, h2]; simp)⟩ (by omega) (selW [0, 1] 0 (by decide) (by simp) (by simp [mkS, mkB]) (by simp [w2]))
      · simp -implicitDefEqProofs [mkS, mkB]
        exact ret_keep [0, 1] 0 (by decide) (by simp) (by simp) (by simp [hhit (by rw [hg, h1, h2]; simp)])
    · simp -implicitDefEqProofs [h1]
      exact roundS (i + 1) ⟨h, hround (by rw [hg]; simp [h1])⟩ (by omega) (selW [0, 1] 0 (by decide) (by simp) (by simp [mkS, mkB]) (by simp [w2]))
  · have : i = m.defs.length := by omega
    subst this
    have hr : ofV m kind x = -1 := by unfold ofV; rw [range_miss hn]
    simp -implicitDefEqProofs [mkS, mkB]
    exact ret_keep [0, 1] 0 (by decide) (by simp) (by simp) (by simp [hr])
end Go.Proofs.YthglhccibdlccaaGreatDoor
namespace Go.Proofs.YthglhccibdlccaaGreatDoor
open Go.Abs
def KChg : K :=
 K.seq (K.ops [kO 2 0,
 kO 3 1,
 kMn 4])
 (K.seq (K.wk (K.dops [(0, 1, kG 7 2 2),
 (2, 1, kG 9 3 2),
 (1, 7, kC 8 55 [(.tmp 7)]),
 (3, 7, kC 10 55 [(.tmp 9)]),
 (4, 302, ⟨none, .alr (some 5) 2 [(.map none), (.map none)]⟩),
 (5, 303, ⟨none, .alr (some 6) 3 [(.map none), (.map none)]⟩),
 (6, 0, kS 5 8 2),
 (7, 0, kS 6 10 2)]))
 (K.seq (K.dops [(0, 1, kA 11 5 0),
 (1, 1, kL 12 11 1),
 (2, 1, kA 13 6 0),
 (3, 1, kL 14 13 1),
 (5, 1, kA 16 5 1),
 (6, 1, kL 17 16 1),
 (7, 1, kA 18 6 1),
 (8, 1, kL 19 18 1),
 (4, 8, kC 15 56 [(.tmp 12), (.tmp 14), (.func 57)]),
 (9, 8, kC 20 58 [(.tmp 17), (.tmp 19), (.func 59)]),
 (10, 0, kP 21 29 3 24 15 20),
 (11, 4, kC 22 48 [(.tmp 21)]),
 (12, 0, kM 4 22)])
 (K.ret)))
def hChg : Nat → Option (List (Nat × Nat)) := fun r => match r with | 1 => some [(0,1),(2,1),(1,7),(3,7),(4,302),(5,303),(6,0),(7,0)] | 2 => some [(0,1),(1,1),(2,1),(3,1),(5,1),(6,1),(7,1),(8,1),(4,8),(9,8),(10,0),(11,4),(12,0)] | _ => none
theorem cChg : compileH Tryz.prog Tryz.f21.ntmps hChg (Tryz.f21.body.getD .skip) = some KChg.erase := by kernel_rfl
@[simp] theorem calChg : callable Tryz.prog 21 = true := by kernel_rfl
@[simp] theorem tgtC_mid {f : Nat} {o : KOp} {env : Env} (h1 : 6 < f) (h2 : f < 1000) : tgtC f o env = True := by
  unfold tgtC
  split
  · omega
  · omega
  · rw [if_neg (by omega), if_neg (by omega), if_neg (by omega)]
@[simp] theorem wpDop_alr {P : Program} {f d l : Nat} {zs : List Value} {K' : Env → St → Prop} {env : Env} {σ : St} : wpDop P f K' (.alr (some d) l zs) env σ = wpO P noPan K' (.alr (some d) l zs) env σ := by simp [wpDop, KOp.lite, KOp.keeps]
@[simp] theorem wpO_alr {P : Program} {d l : Nat} {zs : List Value} {Qp : Value → Env → St → Prop} {K' : Env → St → Prop} {env : Env} {σ : St} : wpO P Qp K' (.alr (some d) l zs) env σ = (match σ[l]? with
    | some .rsv => K' (env.put (some d) (.ptr l 0)) (σ.set l (.box (zs.map ofCell)))
    | _ => False) := rfl
theorem dcallX_frz {P : Program} {σ : St} {d : Option Nat} {env : Env} {K : Env → St → Prop} {f : FuncId} {l n : Nat} {e : TypeId} {sz : Nat} {cs : List A} {r : A} (hσ : σ[l]? = some (.row false e sz n cs)) (h : Ret P f [.sl n cs] [] r []) (ha : argOk [] [.sl n cs] [.sl n cs])
    (hq : K (env.put d (ren [] σ.length r)) (σ.set l (.row true e sz n cs))) : wpDcallX P σ d K f [.row l n] env := by
  refine ⟨_, _, callA_frz hσ (call_emb h [] (by simp) trivial ha ⟨rfl, rfl⟩), ?_⟩
  simpa using hq
def chgD (p q : List Dfn) : List Id := setD (difL Dfn.id sameDf (fstD p) (fstD q) ++ difL Exp.id sameNd (nodD p) (nodD q))
theorem setD_perm {l l' : List Id} (h : l.Perm l') : setD l = setD l' := (setD_ss l).unique (setD_ss l') fun x => by rw [setD_mem, setD_mem, h.mem_iff]
set_option maxRecDepth 100000 in
theorem changed_ok (p q : Prg) (h1 : (fstD p.defs).length ≤ 100000) (h2 : (fstD q.defs).length ≤ 100000) (h3 : (nodD p.defs).length ≤ 300000) (h4 : (nodD q.defs).length ≤ 300000) :
    Ret Tryz.prog 21 [.agg (encP p), .agg (encP q)] [] (.sl (chgD p.defs q.defs).length (cellsI (chgD p.defs q.defs))) [] := by
  refine ret_of_wpH Tryz.func21 rfl cChg (rs := [.slot 4]) (by kernel_rfl) ?_
  unfold KChg
  simp -implicitDefEqProofs
  refine ⟨_, _, weak_rsvs 2, ?_⟩
  simp -implicitDefEqProofs [encP]
  refine dcallH0 (read_ok p) (by simp) (by simp [encP]) ?_
  simp -implicitDefEqProofs
  refine dcallH0 (read_ok q) (by simp) (by simp [encP]) ?_
  simp -implicitDefEqProofs
  refine dcallN (differD_ok 57 (by kernel_rfl) sameDf sameDef_ok (fstD p.defs) (fstD q.defs) (by omega) (by omega)) [4, 6] (by simp) (by simp) (by simp) (fun v τ h => by obtain ⟨l, _, h, _⟩ := h; cases h) fun r τ h => ?_
  obtain ⟨l1, hl1, hr, rfl⟩ := h
  cases hr
  refine ⟨by simp -implicitDefEqProofs; exact Keeps.append _ [_], ?_⟩
  simp -implicitDefEqProofs
  refine dcallN (differE_ok 59 (by kernel_rfl) sameNd sameNode_ok (nodD p.defs) (nodD q.defs) (by omega) (by omega)) [5, 7] (by simp) (by simp) (by simp) (fun v τ h => by obtain ⟨l, _, h, _⟩ := h; cases h) fun r τ h => ?_
  obtain ⟨l2, hl2, hr, rfl⟩ := h
  cases hr
  refine ⟨by simp -implicitDefEqProofs; exact Keeps.append _ [_], ?_⟩
  simp -implicitDefEqProofs
  have e1 := hl1.length_eq
  have e2 := hl2.length_eq
  have k1 : (difL Dfn.id sameDf (fstD p.defs) (fstD q.defs)).length ≤ 200000 := by
    have := List.length_filter_le (cD1 Dfn.id (fstD q.defs) sameDf) (fstD p.defs)
    have := List.length_filter_le (cD2 Dfn.id (fstD p.defs)) (fstD q.defs)
    simp only [difL, List.length_append, List.length_map]; omega
  have k2 : (difL Exp.id sameNd (nodD p.defs) (nodD q.defs)).length ≤ 600000 := by
    have := List.length_filter_le (cD1 Exp.id (nodD q.defs) sameNd) (nodD p.defs)
    have := List.length_filter_le (cD2 Exp.id (nodD p.defs)) (nodD q.defs)
    simp only [difL, List.length_append, List.length_map]; omega
  refine ⟨⟨by simp [maxLen]; omega, by omega⟩, ?_⟩
  have hs := set_ok (l1 ++ l2) (by rw [List.length_append]; omega)
  rw [setD_perm (hl1.append hl2), List.length_append, cellsI_append] at hs
  refine dcallX_frz rfl hs (by simp) ?_
  simp -implicitDefEqProofs
  exact ret_end 0 (by simp [chgD])
end Go.Proofs.YthglhccibdlccaaGreatDoor
