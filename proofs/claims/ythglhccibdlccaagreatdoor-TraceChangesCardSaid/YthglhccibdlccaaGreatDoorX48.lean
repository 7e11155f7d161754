/-
  The maker's programs, walked: modules, definitions, slots.
  The maker's programs: what they are.
  What is proved: the maker of programs returns a typed program, whose nodes have IDs of their own.
-/
import Derived.Test.YthglhccibdlccaaGreatDoorX47
set_option linter.unusedVariables false
set_option linter.unusedSimpArgs false
namespace Go.Proofs.YthglhccibdlccaaGreatDoor
open Go.Abs
theorem cellsN_drop {l : List ByteArray} {i : Nat} (h : i < l.length) : (cellsN l).drop i = .lit (.string l[i]) :: cellsN (l.drop (i + 1)) := by
  have := flat_drop (enc := encN) (k := 1) (fun _ => rfl) h
  rw [Nat.mul_one] at this
  exact this
theorem idsM_succ (mods : Int) (ps : List Pln) (c : Int) {i : Nat} (h : i < ps.length) : idsM mods ps c (i + 1) = idsM mods ps c i ++ (if ps[i].mod = c then [idR (mods + i)] else []) := by
  simp only [idsM, List.range_succ, List.filter_append, List.map_append]
  congr 1
  simp only [List.filter_cons, List.getElem?_eq_getElem h, List.filter_nil, decide_eq_true_eq]
  split <;> simp
theorem idsM_none {mods : Int} {ps : List Pln} {c : Int} (h : ∀ p ∈ ps, p.mod ≠ c) (i : Nat) : idsM mods ps c i = [] := by
  simp only [idsM, List.map_eq_nil_iff, List.filter_eq_nil_iff]
  intro j _
  split
  · rename_i p hp
    have := h p (List.mem_of_getElem? hp)
    simpa using this
  · simp
theorem idsM_len (mods : Int) (ps : List Pln) (c : Int) (i : Nat) : (idsM mods ps c i).length ≤ i := by
  simp only [idsM, List.length_map]
  exact Nat.le_trans (List.length_filter_le _ _) (by simp)
def m0C : List A := [int (idR 0).a, int (idR 0).b, int (idR 0).c, .lit (.string ⟨#[99, 111, 114, 101]⟩)]
def m1C : List A := [int (idR 1).a, int (idR 1).b, int (idR 1).c, .lit (.string ⟨#[109, 105, 108, 108]⟩), .fsl 1 (encI (idR 0))]
def MC : Nat → List A
  | 0 => []
  | 1 => m0C ++ [.nil, .nil]
  | _ => m0C ++ [.nil, .nil] ++ m1C ++ [.nil]
def MR (nm k0 k1 : Nat) : List A := if nm = 1 then m0C ++ [.row 5 k1, .row 4 k0] else m0C ++ [.nil, .row 4 k0] ++ m1C ++ [.row 5 k1]
theorem vw_MR {rf : Bool → Nat → Nat → A} {g : Nat → Option Nat} {nm k0 k1 : Nat} (h4 : g 4 = some 4) (h5 : g 5 = some 5) : vwL rf g (MR nm k0 k1) = MR nm k0 k1 := by
  unfold MR
  split <;> simp [m0C, m1C, h4, h5, encI]
def stB (nm : Nat) (ps : List Pln) (i : Nat) : St :=
  [.box [.nil, .nil], .box [.row 2 nm, .row 3 i], .row false 84 6 nm (MR nm (idsM nm ps 0 i).length (idsM nm ps 1 i).length), .row false 39 31 i (cellsD ((dfns0 nm ps).take i)),
    .row false 29 3 (idsM nm ps 0 i).length (cellsI (idsM nm ps 0 i)), .row false 29 3 (idsM nm ps 1 i).length (cellsI (idsM nm ps 1 i))]
theorem cellsS_slotsV (next : Int) (p : Pln) {k : Nat} (h : k < p.types.length) : cellsS ((slotsV next p).take (k + 1)) = cellsS ((slotsV next p).take k) ++ encS (slotV next p k) := by
  have := cellsS_take_succ (l := slotsV next p) (i := k) (by simpa using h)
  rw [this]
  congr 2
  simp [slotsV]
set_option maxHeartbeats 4000000 in
set_option maxRecDepth 100000 in
theorem prg_B (l : List Int) (hl : ∀ x ∈ l, w64 x = x) (nm : Nat) (hnm : nm = 1 ∨ nm = 2) (ps : List Pln) (hps : ps = plansV l nm) (p : Prg)
    (hC : wpK Tryz.prog 0 KPrgC (finP p) (mkEnv [(0, .sl l.length (ints l)), (2, .ptr 0 0), (4, .ptr 1 0), (8, int (nextV nm ps ps.length))])
      [.box [.nil, .nil], .box [.sl (modsV nm ps).length (cellsM (modsV nm ps)), .row 2 ps.length], .row false 39 31 ps.length (cellsD (dfns0 nm ps))]) :
    wpK Tryz.prog 0 KPrgB (finP p) (mkEnv [(0, .sl l.length (ints l)), (2, .ptr 0 0), (3, int nm), (4, .ptr 1 0)])
      [.box [.nil, .nil], .box [.row 2 nm, .row 3 0], .row false 84 6 nm (MC nm), .row false 39 31 0 []] := by
  have hpl := plans_ok l nm (by omega) (by omega) hl
  have hok := plansV_ok l nm (by omega) (by omega) hl
  have hlen := (plansV_len l nm).2
  rw [← hps] at hpl hok hlen
  have hnr := nextV_range (mods := nm) (ps := ps) (by omega) (fun p hp => (hok p hp).t6)
  have w0 : IntKind.i64.wrap ((nm : Int) + ps.length) = nm + ps.length := IntWalk.i64_in _ (by omega)
  have start : Weak 0 (mkEnv [(0, .sl l.length (ints l)), (2, .ptr 0 0), (3, int nm), (4, .ptr 1 0), (7, .sl ps.length (cellsG ps)), (8, int (nm + ps.length)), (9, int 0)]) (stB nm ps 0)
      (mkEnv [(0, .sl l.length (ints l)), (2, .ptr 0 0), (3, int nm), (4, .ptr 1 0), (7, .sl ps.length (cellsG ps)), (8, int (nm + ps.length)), (9, int 0)])
      [.box [.nil, .nil], .box [.row 2 nm, .row 3 0], .row false 84 6 nm (MC nm), .row false 39 31 0 []] := by
    rcases hnm with rfl | rfl
    · exact ((weak_nilrow (l := 2) (o := 5) rfl rfl 29 3).trans (weak_nilrow (l := 2) (o := 4) rfl rfl 29 3)).trans (selW [0, 1, 2, 3, 4, 5] 0 (by decide) (by simp) (by simp [stB, MC, MR, m0C, m1C, idsM]) (by simp))
    · exact ((weak_nilrow (l := 2) (o := 5) rfl rfl 29 3).trans (weak_nilrow (l := 2) (o := 11) rfl rfl 29 3)).trans (selW [0, 1, 2, 3, 4, 5] 0 (by decide) (by simp) (by simp [stB, MC, MR, m0C, m1C, idsM, encI]) (by simp))
  have hl1 : (dfns0 nm ps).length = ps.length := dfns0_len _ _
  unfold KPrgB
  simp -implicitDefEqProofs
  refine call0 hpl (by simp) (by simp) ?_
  simp -implicitDefEqProofs [w0]
  intro _
  refine loopS (S := Nat) (fun i => [(0, .sl l.length (ints l)), (2, .ptr 0 0), (3, int nm), (4, .ptr 1 0), (7, .sl ps.length (cellsG ps)), (8, int (nextV nm ps i)), (9, int i)]) (fun i => stB nm ps i) (fun i => i ≤ ps.length) (fun i => ps.length - i) 0 (by simp)
    (Weak.trans (selW [0, 1, 2, 3] 0 (by decide) (by simp) (by rcases hnm with rfl | rfl <;> simp [MC, m0C, m1C]) (by simp)) start) ?_
  intro i hi
  by_cases h : i < ps.length
  · have hpk := hok _ (List.getElem_mem h)
    obtain ⟨n0, n1⟩ := hnr i
    have hns := nextV_succ nm ps h
    have hdg := dfns0_get nm ps h
    have hst := cellsD_take_succ (l := dfns0 nm ps) (i := i) (by omega)
    rw [hdg] at hst
    clear hdg
    have hcg := cellsG_drop h
    have i0 := idsM_succ nm ps 0 h
    have i1 := idsM_succ nm ps 1 h
    have l0 := idsM_len nm ps 0 i
    have l1 := idsM_len nm ps 1 i
    have hi8 : (i : Int) ≤ 8 := by omega
    have wi : IntKind.i64.wrap ((i : Int) + 1) = i + 1 := IntWalk.i64_in _ (by omega)
    have wmi : IntKind.i64.wrap ((nm : Int) + i) = nm + i := IntWalk.i64_in _ (by omega)
    have hcg5 : List.drop (i * 11 + 5) (cellsG ps) = (encG ps[i] ++ cellsG (ps.drop (i + 1))).drop 5 := by rw [← List.drop_drop, hcg]
    have hb5 : i * 11 + 5 + 5 ≤ ps.length * 11 := by omega
    generalize ps[i] = q at *
    generalize nextV nm ps i = nx at *
    simp -implicitDefEqProofs [stB, h, hcg, hcg5, hb5, encG, wmi]
    intro _
    refine dcallF0 (id_ok (nm + i)) (by simp) (by simp) ?_
    simp -implicitDefEqProofs [h, hcg, hcg5, hb5, encG]
    refine dcallF0 (id_ok q.mod) (by simp) (by simp) ?_
    simp -implicitDefEqProofs [h, hcg, hcg5, hb5, encG, encI]
    refine loopS (S := Nat) (fun k => [(0, .sl l.length (ints l)), (2, .ptr 0 0), (3, int nm), (4, .ptr 1 0), (7, .sl ps.length (cellsG ps)), (8, int (nx + k)), (9, int i), (10, .ptr 6 0), (11, int k)])
      (fun k => stB nm ps i ++ [.box [int (idR (nm + i)).a, int (idR (nm + i)).b, int (idR (nm + i)).c, int q.kind, int (idR q.mod).a, int (idR q.mod).b, int (idR q.mod).c, .lit (.string q.name), .row 7 k, int q.out.k, int q.out.id.a, int q.out.id.b, int q.out.id.c, .sl q.out.kids.length (cellsT q.out.kids), int 0, int 0, int 0, int 0, int 0, int 0, int 0, int 0, int 0, int 0, int 0, int 0, .nil, .nil, .nil, int 0, .nil],
        .row false 90 11 k (cellsS ((slotsV nx q).take k))]) (fun k => k ≤ q.types.length) (fun k => q.types.length - k) 0 (by simp)
      ((weak_nilbox (l := 6) (o := 8) rfl rfl 90 11).trans (selW [0, 1, 2, 3, 4, 5, 6, 7] 0 (by decide) (by simp) (by simp [stB, vw_MR]) (by simp))) ?_
    intro k hk
    by_cases hkl : k < q.types.length
    · have hnl := hpk.names
      have hkn : k < q.names.length := by omega
      have hN := cellsN_drop hkn
      have hT := cellsT_drop hkl
      have hT5 : k * 5 + 5 ≤ q.types.length * 5 := by omega
      have hS := cellsS_slotsV nx q hkl
      have t6 := hpk.t6
      have wnk : IntKind.i64.wrap (nx + (k : Int) + 1) = nx + k + 1 := IntWalk.i64_in _ (by omega)
      have wk : IntKind.i64.wrap ((k : Int) + 1) = k + 1 := IntWalk.i64_in _ (by omega)
      have hcg2 : List.drop (i * 11 + 2) (cellsG ps) = (encG q ++ cellsG (ps.drop (i + 1))).drop 2 := by rw [← List.drop_drop, hcg]
      have hsv : slotV nx q k = ⟨idR (nx + k), q.names[k], q.types[k], if q.kind = 4 then q.most.getD k 0 else 0, k⟩ := by
        simp [slotV, List.getD_eq_getElem?_getD, hkn, hkl]
      rw [hsv] at hS
      by_cases hk4 : q.kind = 4
      · have hkm : k < q.most.length := by have := hpk.most hk4; omega
        have hM := ints_drop hkm
        have hmg : q.most[k]?.getD 0 = q.most[k] := by simp [hkm]
        have hkm' : k + 1 ≤ q.most.length := hkm
        simp -implicitDefEqProofs [stB, h, hcg, encG, hkl]
        intros
        refine dcallF0 (id_ok (nx + k)) (by simp) (by simp) ?_
        simp -implicitDefEqProofs [h, hcg, encG, hkn, hkl, hN, hT, hT5, encT, hk4, encI, hM, hkm, hkm']
        intros
        refine ⟨⟨by simp [maxLen]; omega, by omega⟩, ?_⟩
        exact roundS (k + 1) hkl (by omega) (selW [0, 1, 2, 3, 4, 5, 6, 7] 0 (by decide) (by simp) (by rw [hS]; simp [stB, vw_MR, encS, hk4, hmg]) (by simp [wk, wnk]; omega))
      · simp -implicitDefEqProofs [stB, h, hcg, encG, hkl]
        intros
        refine dcallF0 (id_ok (nx + k)) (by simp) (by simp) ?_
        simp -implicitDefEqProofs [h, hcg, encG, hkn, hkl, hN, hT, hT5, encT, hk4, encI]
        intros
        refine ⟨⟨by simp [maxLen]; omega, by omega⟩, ?_⟩
        exact roundS (k + 1) hkl (by omega) (selW [0, 1, 2, 3, 4, 5, 6, 7] 0 (by decide) (by simp) (by rw [hS]; simp [stB, vw_MR, encS, hk4]) (by simp [wk, wnk]; omega))
    · have hke : k = q.types.length := by omega
      subst hke
      have hall : (slotsV nx q).take q.types.length = slotsV nx q := List.take_of_length_le (by simp)
      have t6 := hpk.t6
      simp -implicitDefEqProofs [stB, h, hcg, encG]
      intros
      refine ⟨mkEnv [(0, .sl l.length (ints l)), (2, .ptr 0 0), (3, int nm), (4, .ptr 1 0), (7, .sl ps.length (cellsG ps)), (8, int (nx + q.types.length)), (9, int i), (10, .ptr 6 0)], stB nm ps i ++ [.box (encD (dfn0 nm nx i q))],
        selW [0, 1, 2, 3, 4, 5, 6] 1 (by decide) (by simp) (by simp [stB, vw_MR, encD, dfn0, hall, Exp.zero, Id.zero, Typ.zero]) (by simp), ?_⟩
      unfold KPrgS
      have m0 := hpk.mod0
      have m1 := hpk.mod1
      have hen : encD (dfn0 nm nx i q) = encI (idR (nm + i)) ++ (encD (dfn0 nm nx i q)).drop 3 := rfl
      have hcase : nm = 1 ∧ q.mod = 0 ∨ nm = 2 ∧ q.mod = 0 ∨ nm = 2 ∧ q.mod = 1 := by omega
      have hd3 : List.take 3 (encD (dfn0 nm nx i q)) = [int (idR (nm + i)).a, int (idR (nm + i)).b, int (idR (nm + i)).c] := rfl
      rcases hcase with ⟨rfl, hq⟩ | ⟨rfl, hq⟩ | ⟨rfl, hq⟩
      · have en : ((1 : Nat) : Int) = 1 := rfl
        simp only [hq, en, if_true, if_false, show ((0 : Int) = 1) = False from by simp, show ((1 : Int) = 0) = False from by simp, List.append_nil] at i0 i1 hst hns l0 l1 hd3
        simp -implicitDefEqProofs [stB, h, hcg, encG, hq, MR, m0C, m1C, encI]
        refine ⟨by simp [maxLen]; omega, ⟨by simp [maxLen]; omega, by omega⟩, ?_⟩
        exact roundS (i + 1) h (by omega) (selW [0, 1, 2, 3, 4, 5] 0 (by decide) (by simp) (by simp [stB, MR, m0C, m1C, encI, i0, i1, hst, hd3, cellsI_append]) (by simp [wi, hns]))
      · have en : ((2 : Nat) : Int) = 2 := rfl
        simp only [hq, en, if_true, if_false, show ((0 : Int) = 1) = False from by simp, show ((1 : Int) = 0) = False from by simp, List.append_nil] at i0 i1 hst hns l0 l1 hd3
        simp -implicitDefEqProofs [stB, h, hcg, encG, hq, MR, m0C, m1C, encI]
        refine ⟨by simp [maxLen]; omega, ⟨by simp [maxLen]; omega, by omega⟩, ?_⟩
        exact roundS (i + 1) h (by omega) (selW [0, 1, 2, 3, 4, 5] 0 (by decide) (by simp) (by simp [stB, MR, m0C, m1C, encI, i0, i1, hst, hd3, cellsI_append]) (by simp [wi, hns]))
      · have en : ((2 : Nat) : Int) = 2 := rfl
        simp only [hq, en, if_true, if_false, show ((0 : Int) = 1) = False from by simp, show ((1 : Int) = 0) = False from by simp, List.append_nil] at i0 i1 hst hns l0 l1 hd3
        simp -implicitDefEqProofs [stB, h, hcg, encG, hq, MR, m0C, m1C, encI]
        refine ⟨by simp [maxLen]; omega, ⟨by simp [maxLen]; omega, by omega⟩, ?_⟩
        exact roundS (i + 1) h (by omega) (selW [0, 1, 2, 3, 4, 5] 0 (by decide) (by simp) (by simp [stB, MR, m0C, m1C, encI, i0, i1, hst, hd3, cellsI_append]) (by simp [wi, hns]))
  · have hie : i = ps.length := by omega
    subst hie
    have hall : (dfns0 nm ps).take ps.length = dfns0 nm ps := List.take_of_length_le (by simp)
    simp -implicitDefEqProofs [stB]
    intros
    rcases hnm with rfl | rfl
    · have hn1 : idsM ((1 : Nat) : Int) ps 1 ps.length = [] := idsM_none (fun p hp => by have := (hok p hp).mod1; omega) _
      have en : ((1 : Nat) : Int) = 1 := rfl
      simp only [en] at hn1 hall
      exact ⟨_, _, selW [0, 1, 3] 2 (by decide) (by simp) (by simp [modsV, MR, m0C, m1C, cellsM_cons, encM, hall, hn1]) (by simp), hC⟩
    · have en : ((2 : Nat) : Int) = 2 := rfl
      simp only [en] at hall
      exact ⟨_, _, selW [0, 1, 3] 2 (by decide) (by simp) (by simp [modsV, MR, m0C, m1C, cellsM_cons, encM, hall, encI]) (by simp), hC⟩
end Go.Proofs.YthglhccibdlccaaGreatDoor
namespace Go.Proofs.YthglhccibdlccaaGreatDoor
open Go.Abs
theorem tmps_kid {e : Exp} {c : Int} (hc : c ∈ tmps e) : ∀ {ks : List Exp}, e ∈ ks → c ∈ tmpsL ks
  | x :: ks, h => by
    simp only [tmpsL, List.mem_append]
    rcases List.mem_cons.1 h with rfl | h
    · exact .inl hc
    · exact .inr (tmps_kid hc h)
theorem kids_le : ∀ (ks : List Exp), ks.length ≤ (tmpsL ks).length
  | [] => Nat.le_refl _
  | e :: ks => by
    have := kids_le ks
    have h1 : 1 ≤ (tmps e).length := by rw [tmps_def, List.length_append, List.length_singleton]; omega
    simp only [tmpsL, List.length_append, List.length_cons]
    omega
section
variable {N : Nat} {i : Id} {k n : Int} {r : Id} {t : Typ} {ks : List Exp} {ns : List ByteArray}
theorem under_node (hb : ∀ c ∈ tmps (.mk i k n r t ks ns), 0 ≤ c ∧ c < N) (hl : (tmps (.mk i k n r t ks ns)).length ≤ 1000000000) (hk : k ≠ 2) (hs : ∀ e ∈ ks, e.under N) : (Exp.mk i k n r t ks ns).under N := by
  simp only [Exp.under, underL_iff]
  have := kids_le ks
  simp only [tmps, List.length_append, List.length_singleton] at hl
  exact ⟨hb i.c (by simp [tmps]), fun h => (hk h).elim, by omega, hs⟩
theorem kid_bnd (hb : ∀ c ∈ tmps (.mk i k n r t ks ns), 0 ≤ c ∧ c < N) {e : Exp} (he : e ∈ ks) : ∀ c ∈ tmps e, 0 ≤ c ∧ c < N := fun c hc => hb c (by simp only [tmps, List.mem_append]; exact .inl (tmps_kid hc he))
theorem kid_len (hl : (tmps (.mk i k n r t ks ns)).length ≤ 1000000000) {e : Exp} (he : e ∈ ks) : (tmps e).length ≤ 1000000000 := by
  have := tmpsL_le he
  simp only [tmps, List.length_append, List.length_singleton] at hl
  omega
end
theorem look_mem {env : List Bnd} {x : Id} {n : Int} {t : Typ} (h : lookB env x n = some t) : ∃ b ∈ env, b.id = x ∧ b.n = n ∧ b.typ = t := by
  simp only [lookB, Option.map_eq_some_iff] at h
  obtain ⟨b, hb, rfl⟩ := h
  have h1 := List.mem_of_find?_eq_some hb
  have h2 := List.find?_some hb
  simp only [Bool.and_eq_true, decide_eq_true_eq] at h2
  exact ⟨b, by simpa using h1, h2.1, h2.2, rfl⟩
theorem under_of {hs : List Hd} {own : Int} {N : Nat} {env : List Bnd} {e : Exp} {t : Typ} (h : WT hs own env e t) : (∀ b ∈ env, b.id.b = 0 → 0 ≤ b.id.c ∧ b.id.c < N) → (∀ c ∈ tmps e, 0 ≤ c ∧ c < N) → (tmps e).length ≤ 1000000000 → e.under N := by
  induction h with
  | int env i n h1 h2 => exact fun _ hb hl => under_node hb hl (by omega) (by simp)
  | bool env i n h => exact fun _ hb hl => under_node hb hl (by omega) (by simp)
  | var env i n x t h =>
    intro he hb hl
    simp only [Exp.under, underL, and_true]
    obtain ⟨b, h1, h2, _, _⟩ := look_mem h
    exact ⟨hb i.c (by simp [tmps]), fun _ h0 => by rw [← h2] at h0 ⊢; exact he b h1 h0, by simp⟩
  | call env i k h ks ho hk hlen hw ih =>
    refine fun he hb hl => under_node hb hl (by omega) fun e hm => ?_
    obtain ⟨j, hj, rfl⟩ := List.getElem_of_mem hm
    exact ih j hj he (kid_bnd hb hm) (kid_len hl hm)
  | arith env i n a b h1 h2 ha hb' iha ihb =>
    refine fun he hb hl => under_node hb hl (by omega) fun e hm => ?_
    have k1 := kid_bnd hb hm
    have k2 := kid_len hl hm
    simp only [List.mem_cons, List.not_mem_nil, or_false] at hm
    rcases hm with rfl | rfl
    · exact iha he k1 k2
    · exact ihb he k1 k2
  | less env i a b ha hb' iha ihb =>
    refine fun he hb hl => under_node hb hl (by omega) fun e hm => ?_
    have k1 := kid_bnd hb hm
    have k2 := kid_len hl hm
    simp only [List.mem_cons, List.not_mem_nil, or_false] at hm
    rcases hm with rfl | rfl
    · exact iha he k1 k2
    · exact ihb he k1 k2
  | same env i a b u ha hb' iha ihb =>
    refine fun he hb hl => under_node hb hl (by omega) fun e hm => ?_
    have k1 := kid_bnd hb hm
    have k2 := kid_len hl hm
    simp only [List.mem_cons, List.not_mem_nil, or_false] at hm
    rcases hm with rfl | rfl
    · exact iha he k1 k2
    · exact ihb he k1 k2
  | andor env i n a b h ha hb' iha ihb =>
    refine fun he hb hl => under_node hb hl (by omega) fun e hm => ?_
    have k1 := kid_bnd hb hm
    have k2 := kid_len hl hm
    simp only [List.mem_cons, List.not_mem_nil, or_false] at hm
    rcases hm with rfl | rfl
    · exact iha he k1 k2
    · exact ihb he k1 k2
  | not env i a ha iha =>
    refine fun he hb hl => under_node hb hl (by omega) fun e hm => ?_
    have k1 := kid_bnd hb hm
    have k2 := kid_len hl hm
    simp only [List.mem_cons, List.not_mem_nil, or_false] at hm
    subst hm
    exact iha he k1 k2
  | join env i a b t ha hb' iha ihb =>
    refine fun he hb hl => under_node hb hl (by omega) fun e hm => ?_
    have k1 := kid_bnd hb hm
    have k2 := kid_len hl hm
    simp only [List.mem_cons, List.not_mem_nil, or_false] at hm
    rcases hm with rfl | rfl
    · exact iha he k1 k2
    · exact ihb he k1 k2
  | len env i a t ha iha =>
    refine fun he hb hl => under_node hb hl (by omega) fun e hm => ?_
    have k1 := kid_bnd hb hm
    have k2 := kid_len hl hm
    simp only [List.mem_cons, List.not_mem_nil, or_false] at hm
    subst hm
    exact iha he k1 k2
  | ite env i a b c t ha hb' hc iha ihb ihc =>
    refine fun he hb hl => under_node hb hl (by omega) fun e hm => ?_
    have k1 := kid_bnd hb hm
    have k2 := kid_len hl hm
    simp only [List.mem_cons, List.not_mem_nil, or_false] at hm
    rcases hm with rfl | rfl | rfl
    · exact iha he k1 k2
    · exact ihb he k1 k2
    · exact ihc he k1 k2
  | lets env i a b u t ns hn ha hb' iha ihb =>
    refine fun he hb hl => under_node hb hl (by omega) fun e hm => ?_
    have k1 := kid_bnd hb hm
    have k2 := kid_len hl hm
    have ki := hb i.c (by simp [tmps])
    simp only [List.mem_cons, List.not_mem_nil, or_false] at hm
    rcases hm with rfl | rfl
    · exact iha he k1 k2
    · refine ihb (fun b hb0 h0 => ?_) k1 k2
      rcases List.mem_append.1 hb0 with hb0 | hb0
      · exact he b hb0 h0
      · rw [List.mem_singleton.1 hb0]; exact ki
  | record env i k h ks hk hlen hw ih =>
    refine fun he hb hl => under_node hb hl (by omega) fun e hm => ?_
    obtain ⟨j, hj, rfl⟩ := List.getElem_of_mem hm
    exact ih j hj he (kid_bnd hb hm) (kid_len hl hm)
  | field env i k h j hj a hk ha iha =>
    refine fun he hb hl => under_node hb hl (by omega) fun e hm => ?_
    have k1 := kid_bnd hb hm
    have k2 := kid_len hl hm
    simp only [List.mem_cons, List.not_mem_nil, or_false] at hm
    subst hm
    exact iha he k1 k2
  | case env i k h j hj a hk ha iha =>
    refine fun he hb hl => under_node hb hl (by omega) fun e hm => ?_
    have k1 := kid_bnd hb hm
    have k2 := kid_len hl hm
    simp only [List.mem_cons, List.not_mem_nil, or_false] at hm
    subst hm
    exact iha he k1 k2
  | mtch env i k h a ks t ns hn hk hlen ha hw iha ih =>
    refine fun he hb hl => under_node hb hl (by omega) fun e hm => ?_
    have k1 := kid_bnd hb hm
    have k2 := kid_len hl hm
    have ki := hb i.c (by simp [tmps])
    rcases List.mem_cons.1 hm with rfl | hm
    · exact iha he k1 k2
    · obtain ⟨j, hj, rfl⟩ := List.getElem_of_mem hm
      refine ih j hj (fun b hb0 h0 => ?_) k1 k2
      rcases List.mem_append.1 hb0 with hb0 | hb0
      · exact he b hb0 h0
      · rw [List.mem_singleton.1 hb0]; exact ki
  | list env i t ks hw ih =>
    refine fun he hb hl => under_node hb hl (by omega) fun e hm => ?_
    obtain ⟨j, hj, rfl⟩ := List.getElem_of_mem hm
    exact ih j hj he (kid_bnd hb hm) (kid_len hl hm)
  | fold env i l s b u t ns hn hl' hs' hb' ihl ihs ihb =>
    refine fun he hb hl => under_node hb hl (by omega) fun e hm => ?_
    have k1 := kid_bnd hb hm
    have k2 := kid_len hl hm
    have ki := hb i.c (by simp [tmps])
    simp only [List.mem_cons, List.not_mem_nil, or_false] at hm
    rcases hm with rfl | rfl | rfl
    · exact ihl he k1 k2
    · exact ihs he k1 k2
    · refine ihb (fun b hb0 h0 => ?_) k1 k2
      rcases List.mem_append.1 hb0 with hb0 | hb0
      · rcases List.mem_append.1 hb0 with hb0 | hb0
        · exact he b hb0 h0
        · rw [List.mem_singleton.1 hb0]; exact ki
      · rw [List.mem_singleton.1 hb0]; exact ki
structure Renamed (hs : List Hd) (k : Nat) (d : Dfn) (base : Int) (e : Exp) (f : Int → Id) : Prop where
  body : d.body = renE f e
  wt : WT hs k (envV d) e d.res
  nd : (tmps e).Nodup
  num : e.num0
  len : (tmps e).length ≤ 32768
  ids : ∀ (j : Nat) (h : j < (tmps e).length), f (tmps e)[j] = idR (base + j)
def nmV (l : List Int) : Nat := (1 + atV l 0 2).toNat
theorem nmV_eq (l : List Int) (hl : ∀ x ∈ l, w64 x = x) : (nmV l : Int) = 1 + atV l 0 2 ∧ (nmV l = 1 ∨ nmV l = 2) := by
  obtain ⟨a, b⟩ := at_range (i := 0) hl (most := 2) (by omega)
  unfold nmV
  omega
structure PrgOk (l : List Int) (P : Prg) : Prop where
  mods : P.mods = modsV (nmV l) (plansV l (nmV l))
  heads : P.defs.map Dfn.hd = hsV l (nmV l)
  bodies : ∃ base : Nat → Int, base 0 = nextV (nmV l) (plansV l (nmV l)) (plansV l (nmV l)).length ∧ ∀ (k : Nat) (d : Dfn), P.defs[k]? = some d →
    (bodB d = false ∧ d.body = Exp.zero ∧ base (k + 1) = base k) ∨ (bodB d = true ∧ ∃ e f, Renamed (hsV l (nmV l)) k d (base k) e f ∧ base (k + 1) = base k + (tmps e).length)
end Go.Proofs.YthglhccibdlccaaGreatDoor
namespace Go.Proofs.YthglhccibdlccaaGreatDoor
open Go.Abs
theorem chain {hs : List Hd} {n : Nat} {ms : Nat → Mk} (hf : ∀ i < n, BFact hs i (ms i) (ms (i + 1))) : ∀ i ≤ n, (ms 0).temp ≤ (ms i).temp ∧ (∀ j, i ≤ j → (ms i).defs[j]? = (ms 0).defs[j]?) ∧
    ∀ j < i, ∀ d, (ms 0).defs[j]? = some d → (bodB d = false ∧ (ms i).defs[j]? = some d) ∨ (bodB d = true ∧ ∃ e lo, (ms i).defs[j]? = some (d.wb e) ∧ BGood hs j d lo (ms i).temp e ∧ (ms 0).temp ≤ lo)
  | 0, _ => ⟨Int.le_refl _, fun _ _ => rfl, fun j hj => by omega⟩
  | i + 1, hi => by
    obtain ⟨t, c1, c2⟩ := chain hf i (by omega)
    obtain ⟨d, hd, ht, hc⟩ := hf i (by omega)
    have hlt := (List.getElem?_eq_some_iff.1 hd).1
    have hd0 := c1 i (Nat.le_refl _)
    rw [hd] at hd0
    rcases hc with ⟨hk, he⟩ | ⟨⟨hk0, hk1⟩, e, he, hg⟩
    · have hbd : bodB d = false := by rcases hk with h | h <;> simp [bodB, h]
      refine ⟨by omega, fun j hj => by rw [he]; exact c1 j (by omega), fun j hj d' hd' => ?_⟩
      rw [he]
      by_cases e : j = i
      · subst e
        rw [← hd0] at hd'
        cases hd'
        exact .inl ⟨hbd, hd⟩
      · rcases c2 j (by omega) d' hd' with h | ⟨h, e, lo, h1, h2, h3⟩
        · exact .inl h
        · exact .inr ⟨h, e, lo, h1, ⟨h2.wt, h2.seg.mono (Int.le_refl _) ht, h2.num, h2.len⟩, h3⟩
    · have hbd : bodB d = true := by simp [bodB, hk0, hk1]
      refine ⟨by omega, fun j hj => by rw [he, List.getElem?_set_ne (by omega)]; exact c1 j (by omega), fun j hj d' hd' => ?_⟩
      rw [he]
      by_cases e : j = i
      · subst e
        rw [← hd0] at hd'
        cases hd'
        exact .inr ⟨hbd, _, _, List.getElem?_set_self hlt, hg, t⟩
      · rw [List.getElem?_set_ne (Ne.symm e)]
        rcases c2 j (by omega) d' hd' with h | ⟨h, e, lo, h1, h2, h3⟩
        · exact .inl h
        · exact .inr ⟨h, e, lo, h1, ⟨h2.wt, h2.seg.mono (Int.le_refl _) ht, h2.num, h2.len⟩, h3⟩
set_option maxHeartbeats 2000000 in
theorem prog_ok (l : List Int) (hl : ∀ x ∈ l, w64 x = x) : ∃ P : Prg, PrgOk l P ∧ Ret Tryz.prog 9 [.sl l.length (ints l)] [] (.agg (encP P)) [] := by
  obtain ⟨hnm, hnm2⟩ := nmV_eq l hl
  generalize hN : nmV l = nm at *
  have m1 : 1 ≤ (nm : Int) := by omega
  have m2 : (nm : Int) ≤ 2 := by omega
  generalize hps : plansV l nm = ps
  have h8 := (plansV_len l nm).2
  have h6 := plansV_ok l nm m1 m2 hl
  rw [hps] at h8 h6
  have hnr := nextV_range (mods := nm) (ps := ps) (by omega) (fun p hp => (h6 p hp).t6) ps.length
  generalize hM : modsV nm ps = M
  -- the bodies
  obtain ⟨m0, hm0⟩ : ∃ m0 : Mk, m0 = { mods := M, defs := dfns0 nm ps, l := l, at_ := 24, temp := 0, left := 0, own := 0, home := Id.zero, name := 0 } := ⟨_, rfl⟩
  have hi0 : BInv l nm 0 m0 := by
    rw [hm0]
    exact ⟨by rw [hsV, hps]; rfl, by rw [hps, hM], rfl, by simp, by simp, by simp, by simp⟩
  obtain ⟨ms, b0, b1, b2⟩ := bodies_ex m1 m2 hl m0 hi0
  rw [hps] at b1 b2
  have hds0 : (ms 0).defs = dfns0 nm ps := by rw [b0, hm0]
  have ht0 : (ms 0).temp = 0 := by rw [b0, hm0]
  have hlen : ∀ i ≤ ps.length, (ms i).defs.length = ps.length := fun i hi => by
    have := congrArg List.length (b1 i hi).heads
    simpa [hps] using this
  have hslots : ∀ i ≤ ps.length, ∀ d ∈ (ms i).defs, d.slots.length ≤ 6 := fun i hi d hd => by
    obtain ⟨j, hj, rfl⟩ := List.getElem_of_mem hd
    have := env_ok m1 m2 hl (i := j) (d := (ms i).defs[j]) (by rw [← (b1 i hi).heads, List.getElem?_map, List.getElem?_eq_getElem hj]; rfl) 0
    have h6 := this.2.2.1
    rw [envV_len] at h6
    exact h6
  obtain ⟨c0, _, c2⟩ := chain (fun i hi => (b2 i hi).2) ps.length (Nat.le_refl _)
  rw [ht0] at c0 c2
  have htn := (b1 ps.length (Nat.le_refl _)).temp1
  obtain ⟨N, hNn⟩ : ∃ N : Nat, (ms ps.length).temp = N := ⟨(ms ps.length).temp.toNat, by omega⟩
  have hhd := (b1 ps.length (Nat.le_refl _)).heads
  -- what is known of a body
  have hbody : ∀ (k : Nat) (d : Dfn), (ms ps.length).defs[k]? = some d → (bodB d = false ∧ d.body = Exp.zero) ∨ (bodB d = true ∧ WT (hsV l nm) k (envV d) d.body d.res ∧ (tmps d.body).Nodup ∧ d.body.num0 ∧ (tmps d.body).length ≤ 32768 ∧ ∀ c ∈ tmps d.body, 0 ≤ c ∧ c < N) := fun k d hd => by
    have hk := (List.getElem?_eq_some_iff.1 hd).1
    rw [hlen _ (Nat.le_refl _)] at hk
    have hd0 : (ms 0).defs[k]? = some (dfn0 nm (nextV nm ps k) k ps[k]) := by rw [hds0, List.getElem?_eq_getElem (by simpa using hk), dfns0_get nm ps hk]
    rcases c2 k hk _ hd0 with ⟨h1, h2⟩ | ⟨h1, e, lo, h2, h3, h4⟩
    · rw [h2] at hd
      cases hd
      exact .inl ⟨h1, rfl⟩
    · rw [h2] at hd
      cases hd
      refine .inr ⟨h1, h3.wt, h3.seg.nd, h3.num, h3.len, fun c hc => ?_⟩
      have := h3.seg.rng c hc
      omega
  have hunder : ∀ d ∈ (ms ps.length).defs, bodB d = true → d.body.under N ∧ (∀ c ∈ tmps d.body, 0 ≤ c ∧ c < N) ∧ (tmps d.body).length ≤ 1000000 := fun d hd hbd => by
    obtain ⟨k, hk, rfl⟩ := List.getElem_of_mem hd
    have hg : (ms ps.length).defs[k]? = some (ms ps.length).defs[k] := List.getElem?_eq_getElem hk
    rcases hbody k _ hg with ⟨h, _⟩ | ⟨_, h1, h2, h3, h4, h5⟩
    · rw [hbd] at h; cases h
    · refine ⟨under_of h1 (fun b hb h0 => ?_) h5 (by omega), h5, by omega⟩
      have := (env_ok m1 m2 hl (i := k) (d := (ms ps.length).defs[k]) (by rw [← hhd, List.getElem?_map, hg]; rfl) 0).1.new b hb h0
      -- no slot has a number
      exfalso
      have hn := (env_ok m1 m2 hl (i := k) (d := (ms ps.length).defs[k]) (by rw [← hhd, List.getElem?_map, hg]; rfl) (b.id.c - 0)).1.new b hb h0
      omega
  -- the program
  obtain ⟨s, hs⟩ : ∃ s : NSt, s = ⟨(ms ps.length).defs, zerosI N, nextV nm ps ps.length⟩ := ⟨_, rfl⟩
  have hsd : s.ds = (ms ps.length).defs := by rw [hs]
  have hsi : s.ids.length = N := by rw [hs]; simp [zerosI]
  have hsn : s.next = nextV nm ps ps.length := by rw [hs]
  refine ⟨⟨M, (nAll s ps.length).ds⟩, ⟨by rw [hN, hps, hM], ?_, fun k => (nAll s k).next, ?_, fun k d hd => ?_⟩, ?_⟩
  · rw [hN, nAll_heads, hsd, hhd]
  · rw [hN, hps]; exact hsn
  · rw [hN]
    have hk := (List.getElem?_eq_some_iff.1 hd).1
    have hl1 := (nAll_len s ps.length).1
    rw [hsd, hlen _ (Nat.le_refl _)] at hl1
    simp only at hk hd
    rw [hl1] at hk
    rw [nAll_done s ps.length hk] at hd
    have hg : s.ds[k]? = some ((ms ps.length).defs[k]'(by rw [hlen _ (Nat.le_refl _)]; exact hk)) := by rw [hsd]; exact List.getElem?_eq_getElem _
    have hst := nAll_step s hg
    have hcur : (nAll s k).ds[k]? = s.ds[k]? := nAll_later s k k (Nat.le_refl _)
    rw [hg] at hcur
    have hil := (nAll_len s k).2
    rw [hsi] at hil
    have hb := hbody k _ (List.getElem?_eq_getElem (by rw [hlen _ (Nat.le_refl _)]; exact hk))
    generalize (ms ps.length).defs[k]'(by rw [hlen _ (Nat.le_refl _)]; exact hk) = d' at *
    dsimp only
    rw [hst] at hd ⊢
    rcases hb with ⟨h1, h2⟩ | ⟨h1, h2, h3, h4, h5, h6⟩
    · rw [if_neg (by simp [h1])] at hd ⊢
      rw [hcur] at hd
      cases hd
      exact .inl ⟨h1, h2, rfl⟩
    · rw [if_pos h1] at hd ⊢
      simp only at hd ⊢
      rw [List.getElem?_set_self (List.getElem?_eq_some_iff.1 hcur).1] at hd
      cases hd
      refine .inr ⟨h1, d'.body, _, ⟨rfl, h2, h3, h4, h5, fun j hj => ?_⟩, rfl⟩
      exact setI_get _ _ _ h3 (fun x hx => by rw [hil]; exact h6 x hx) j hj
  · have hp6 : ∀ p ∈ ps, p.types.length ≤ 6 := fun p hp => (h6 p hp).t6
    have hD := prg_D (ms ps.length) M (nextV nm ps ps.length) N hNn (by omega) (by omega) (by omega) (by rw [hlen _ (Nat.le_refl _)]; omega) hunder
    rw [← hs, hlen _ (Nat.le_refl _)] at hD
    have hC := prg_C l M ps.length (by omega) (nextV nm ps ps.length) m0 (by rw [hm0]) ms b0 hlen hslots (fun i hi => (b2 i hi).1) ⟨M, (nAll s ps.length).ds⟩ (by rw [hlen _ (Nat.le_refl _)]; exact hD)
    have hm0d : m0.defs = dfns0 nm ps := by rw [hm0]
    rw [hm0d] at hC
    have hB := prg_B l hl nm hnm2 ps hps.symm ⟨M, (nAll s ps.length).ds⟩ (by rw [hM]; exact hC)
    have ha := at_ok l 0 2 (by omega)
    have wn : IntKind.i64.wrap (1 + atV l 0 2) = nm := by rw [← hnm]; exact IntWalk.i64_in _ (by omega)
    refine ret_of_wpH Tryz.func9 rfl cPrg (rs := [.cell 2 2 true]) (by kernel_rfl) ?_
    unfold KPrg
    simp -implicitDefEqProofs
    refine call0 ha (by simp) (by simp) ?_
    simp -implicitDefEqProofs [wn]
    refine loopS (S := Nat) (fun i => [(0, .sl l.length (ints l)), (2, .ptr 0 0), (3, int nm), (4, .ptr 1 0), (5, int i)])
      (fun i => [.box [.nil, .nil], .box [.row 2 i, .row 3 0], .row false 84 6 i (MC i), .row false 39 31 0 []]) (fun i => i ≤ nm) (fun i => nm - i) 0 (by simp)
      (((weak_nilbox (l := 1) (o := 0) rfl rfl 84 6).trans (weak_nilbox (l := 1) (o := 1) rfl rfl 39 31)).trans (selW [0, 1, 2, 3] 0 (by decide) (by simp) (by simp [MC]) (by simp))) ?_
    intro i hi
    by_cases h : i < nm
    · have hi2 : i = 0 ∨ i = 1 := by omega
      have k0 := id_ok 0
      have k1 := id_ok i
      rcases hi2 with rfl | rfl
      · have k1' : Ret Tryz.prog 32 [int 0] [] (.agg (encI (idR 0))) [] := k0
        simp -implicitDefEqProofs [h, MC]
        refine dcallF0 k1' (by simp) (by simp) ?_
        simp -implicitDefEqProofs [h, encI]
        refine ⟨by simp [maxLen], ?_⟩
        exact roundS 1 h (by omega) (selW [0, 1, 2, 3] 0 (by decide) (by simp) (by simp [MC, m0C]) (by simp [show IntKind.i64.wrap 1 = 1 by decide]))
      · have hn2 : nm = 2 := by omega
        subst hn2
        have k1' : Ret Tryz.prog 32 [int 1] [] (.agg (encI (idR 1))) [] := id_ok 1
        simp -implicitDefEqProofs [MC]
        refine dcallF0 k1' (by simp) (by simp) ?_
        simp -implicitDefEqProofs [encI]
        refine call0 k0 (by simp) (by simp) ?_
        simp -implicitDefEqProofs [encI]
        refine ⟨by simp [maxLen], ?_⟩
        exact roundS 2 (by omega) (by omega) (selW [0, 1, 2, 3] 0 (by decide) (by simp) (by simp [MC, m0C, m1C, encI]) (by simp [show IntKind.i64.wrap 2 = 2 by decide]))
    · have hie : i = nm := by omega
      subst hie
      simp -implicitDefEqProofs
      exact ⟨_, _, selW [0, 1, 2, 3] 0 (by decide) (by simp) (by rcases hnm2 with rfl | rfl <;> simp [MC, m0C, m1C, encI]) (by simp), hB⟩
end Go.Proofs.YthglhccibdlccaaGreatDoor
