/-
  slices.Grow of a nil slice, as a contract over abstract states.
-/
import Derived.Test.YthglhccibdlccaaDoorE22
import Derived.Test.YthglhccibdlccaaDoorM2
import Derived.Shelf.Spec.SlicesGrow
namespace Go.Abs
open Go.Proofs

section
variable {P : Program} {H : Mem} {L : List LI} {σ : St} {w : World}

theorem nxt_newli (hs : RelSt H L σ w) (ob : AObj) (o : Obj) (li : LI) (hli : li.block = some w.heap.size) (ho : RelObj H (L ++ [li]) (w.alloc o) li ob) : Nxt H L w H (L ++ [li]) (σ ++ [ob]) (w.alloc o) := by
  have hll := LLe.append L [li]
  refine ⟨⟨fun b o v hv => ?_, by simp [hs.len], fun i l o hL hσ => ?_, fun i j l l' b hi hj hb hb' => ?_, fun i l b hL hb => ?_⟩,
    ⟨rfl, rfl, rfl, by simp, fun k hk _ => heap_alloc_old w _ hk, HLe.refl _, fun b o v hv => .inl hv, Nat.le_refl _, dfr_old (fun k hk => heap_alloc_old w _ hk)⟩, hll, fun b ⟨i, l, hL, hb⟩ => ?_⟩
  · rw [World.cell?_alloc_lt _ _ _ (hs.h_lt hv)]
    exact hs.pers b o v hv
  · rcases get_snoc hL with hL' | ⟨rfl, rfl⟩
    · have hi : i < L.length := (List.getElem?_eq_some_iff.1 hL').1
      rw [List.getElem?_append_left (by rw [← hs.len]; exact hi)] at hσ
      exact (hs.obj i l o hL' hσ).carry (fun b hb => heap_alloc_old w _ (hs.lt i l b hL' hb)) (HLe.refl _) hll (fun _ _ _ => rfl)
    · rw [hs.len] at hσ
      rw [List.getElem?_append_right (Nat.le_refl _)] at hσ
      simp only [Nat.sub_self, List.getElem?_cons_zero, Option.some.injEq] at hσ
      subst hσ
      exact ho
  · rcases get_snoc hi with hi' | ⟨rfl, rfl⟩
    · rcases get_snoc hj with hj' | ⟨rfl, rfl⟩
      · exact hs.inj i j l l' b hi' hj' hb hb'
      · rw [hli] at hb'; cases hb'; have := hs.lt i l _ hi' hb; omega
    · rw [hli] at hb
      cases hb
      rcases get_snoc hj with hj' | ⟨rfl, rfl⟩
      · have := hs.lt j l' _ hj' hb'; omega
      · rfl
  · rcases get_snoc hL with hL' | ⟨rfl, rfl⟩
    · have := hs.lt i l b hL' hb; simp; omega
    · rw [hli] at hb; cases hb; simp
  · rcases get_snoc hL with hL' | ⟨rfl, rfl⟩
    · exact .inl ⟨i, l, hL', hb⟩
    · rw [hli] at hb; cases hb; exact .inr (Nat.le_refl _)

theorem grow_ret {ρ : Go.Shelf.Ren} (LL : Lays8.n4 P ρ) {i : TypeInfo} {z : Value} (hi : P.info? (ρ.t 25) = some i) (hz : i.zero = some z) (hzs : z.cells.size = i.size) (h0 : 0 < i.size) {n : Nat} (hb : n * i.bytes ≤ 140737488355328) (hn63 : n ≤ 4611686018427387904) :
    Ret P (ρ.f 4) [.nil, .lit (.int .i64 n)] [] (.row 0 0) [.row false (ρ.t 25) i.size 0 []] := by
  intro H L w vs hs hvs
  obtain ⟨v, vs', rfl, h1, h2⟩ := relL_cons_inv hvs
  obtain ⟨u, vs'', rfl, h3, h4⟩ := relL_cons_inv h2
  have := relL_nil_inv h4
  subst this
  simp only [Rel] at h1 h3
  subst h1 h3
  have hL : L = [] := List.eq_nil_of_length_eq_zero (by rw [hs.len]; rfl)
  subst hL
  have hn : n ≤ maxLen := by simp only [maxLen]; omega
  by_cases hz0 : n = 0
  · subst hz0
    refine (Any8.slices_Grow_room LL none 0 0 0 w (Nat.le_refl _) (by omega) (by omega) (by omega)).mono fun e w' hh => ?_
    obtain ⟨rfl, rfl⟩ := hh
    have hnx := nxt_nilrow hs (ρ.t 25) i.size
    refine ⟨.ret (.row 0 0), _, H, _, ⟨_, rfl, ?_⟩, hnx, rfl, rfl⟩
    simp only [Rel]
    exact ⟨rfl, ⟨none, 0, 0, true⟩, by simp, rfl, Nat.le_refl _, fun _ => rfl⟩
  · refine (Any8.slices_Grow_grow LL i z hi hz h0 none 0 0 n [] w (Nat.le_refl _) (by omega) (by rw [Nat.zero_add]; exact hb) (by omega) (by simp) (fun _ => rfl) (fun a ha => by cases ha)).mono fun e w' hh => ?_
    obtain ⟨rfl, rfl⟩ := hh
    have hge := grownCap_ge w (0 + n) 0 (ρ.t 25)
    have hcm : grownCap w (0 + n) 0 (ρ.t 25) ≤ maxLen := grownCap_le_maxLen w (0 + n) 0 (ρ.t 25) (by omega)
    generalize grownCap w (0 + n) 0 (ρ.t 25) = cap at hge hcm ⊢
    have hd := nxt_drew hs
    have hnx := nxt_newli hd.st (.row false (ρ.t 25) i.size 0 []) (.cells ((([] : List Value).toArray ++ Builtin.zeroCells z.cells (0 + n - 0) ++ Builtin.zeroCells z.cells (cap - (0 + n)))) (ρ.t 25)) ⟨some w.heap.size, cap, 0, true⟩ rfl (by
      simp only [RelObj]
      refine ⟨trivial, trivial, by simp, .inr ⟨w.heap.size, _, rfl, heap_alloc_new w.drew _, Nat.zero_le _, hcm, ?_, ?_, ?_, fun o => ?_⟩⟩
      · simp only [Array.size_append, size_zeroCells, hzs]
        simp only [List.size_toArray, List.length_nil, Nat.zero_add, Nat.sub_zero, ← Nat.add_mul]
        congr 1
        omega
      · simp [RelL]
      · simp
      · cases hH : H w.heap.size o with
        | none => rfl
        | some v => have := hs.h_lt hH; omega)
    have hnx := hd.trans hnx
    refine ⟨.ret (.row 0 0), _, H, _, ⟨_, rfl, ?_⟩, hnx, rfl, rfl⟩
    simp only [Rel]
    exact ⟨rfl, ⟨some w.heap.size, cap, 0, true⟩, by simp, rfl, Nat.le_refl _, fun _ => rfl⟩
theorem grow_ret' {ρ : Go.Shelf.Ren} (LL : Lays8.n4 P ρ) {sz bs : Nat} {z : Value} (hi : (P.info? (ρ.t 25)).map (fun i => (i.size, i.bytes, i.zero)) = some (sz, bs, some z)) (hzs : z.cells.size = sz) (h0 : 0 < sz) {n : Nat} (hb : n * bs ≤ 140737488355328) (hn63 : n ≤ 4611686018427387904) :
    Ret P (ρ.f 4) [.nil, .lit (.int .i64 n)] [] (.row 0 0) [.row false (ρ.t 25) sz 0 []] := by
  rw [Option.map_eq_some_iff] at hi
  obtain ⟨i, h1, h2⟩ := hi
  simp only [Prod.mk.injEq] at h2
  obtain ⟨rfl, rfl, h3⟩ := h2
  exact grow_ret LL h1 h3 hzs h0 hb hn63
end
end Go.Abs
