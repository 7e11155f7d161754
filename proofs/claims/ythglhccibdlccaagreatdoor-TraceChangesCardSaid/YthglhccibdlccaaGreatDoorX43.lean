/-
  Tweaked nodes, other names.
-/
import Derived.Test.YthglhccibdlccaaGreatDoorX40
import Derived.Test.YthglhccibdlccaaGreatDoorX38
set_option linter.unusedVariables false
set_option linter.unusedSimpArgs false
namespace Go.Proofs.YthglhccibdlccaaGreatDoor
open Go.Abs
def KTwT : K :=
  (K.seq (K.ops [kM 63 1,
 kBi 64 63 1 .sub,
 kM 1 64])
 (K.seq (K.ops [kMn 8])
 (K.seq (K.seq (K.ops [kMi 9 0])
 (K.block 1 (K.loop (K.seq (K.seq (K.ops [kM 65 9,
 kA 66 3 13,
 kL 67 66 1,
 kN 68 67,
 kB 69 65 68 .lss])
 (K.cond (.tmp 69)
 (K.skip)
 (K.exit 1)))
 (K.seq (K.block 2 (K.seq (K.ops [kA 72 3 13,
 kL 73 72 1,
 kM 74 9,
 kX 75 73 74 15,
 kG 76 75 15,
 kZ 10 kz1,
 kS 10 76 15])
 (K.seq (K.seq (K.ops [kM 77 1,
 kBi 78 77 0 .geq])
 (K.cond (.tmp 78)
 (K.ops [kG 80 10 15,
 kM 81 1,
 kM 82 2,
 kC 83 53 [(.tmp 80), (.tmp 81), (.tmp 82)],
 kM 79 83,
 kE 84 79 0,
 kE 85 79 1,
 kS 10 84 15,
 kM 1 85])
 (K.skip)))
 (K.ops [kM 86 8,
 kG 87 10 15,
 ⟨none, .bslice (some 88) 37 15 1 kz1 [(0, 15, (.tmp 87))]⟩,
 kP 89 37 15 168 86 88,
 kM 8 89]))))
 (K.ops [kM 70 9,
 kBi 71 70 1 .add,
 kM 9 71]))))))
 (K.seq (K.ops [kM 90 8,
 kA 91 3 13,
 kS 91 90 1])
 (K.seq (K.ops [kG 92 3 15,
 kM 93 1,
 kS 6 92 15,
 kM 7 93])
 (K.ret))))))
def KTw : K :=
 K.seq (K.ops [kO 3 0,
 kZ 6 kz1,
 kMi 7 0])
 (K.seq (K.seq (K.ops [kM 11 1,
 kQi 12 11 0 false])
 (K.cond (.tmp 12)
 (K.seq (K.ops [kA 13 3 3,
 kL 14 13 1])
 (K.block 0 (K.seq (K.ops [kQi 16 14 0 false,
 kM 15 16])
 (K.cond (.tmp 15)
 (K.ops [kM 17 2,
 kBi 18 17 9 .rem,
 kBi 19 18 4 .sub,
 kA 20 3 4,
 kS 20 19 1])
 (K.seq (K.ops [kQi 22 14 1 false,
 kM 21 22])
 (K.cond (.tmp 21)
 (K.ops [kA 23 3 4,
 kL 24 23 1,
 ⟨none, .bin (some 25) .sub (.const (.int .i64 1)) (.tmp 24)⟩,
 kA 26 3 4,
 kS 26 25 1])
 (K.seq (K.ops [kQi 28 14 4 false,
 kM 27 28])
 (K.cond (.tmp 27)
 (K.seq (K.ops [kA 29 3 4,
 kL 30 29 1,
 kBi 31 30 4 .leq])
 (K.cond (.tmp 31)
 (K.ops [kM 32 2,
 kBi 33 32 5 .rem,
 kA 34 3 4,
 kS 34 33 1])
 (K.seq (K.ops [kA 35 3 4,
 kL 36 35 1,
 kQi 37 36 7 false,
 kM 38 37,
 kT 38 false (kA 39 3 4),
 kT 38 false (kL 40 39 1),
 kT 38 false (kQi 41 40 8 false),
 kPt 42 38 41])
 (K.cond (.tmp 42)
 (K.ops [kA 43 3 4,
 kL 44 43 1,
 ⟨none, .bin (some 45) .sub (.const (.int .i64 15)) (.tmp 44)⟩,
 kA 46 3 4,
 kS 46 45 1])
 (K.skip)))))
 (K.seq (K.ops [kQi 48 14 5 false,
 kM 47 48])
 (K.cond (.tmp 47)
 (K.dops [(0, 0, kA 49 3 13),
 (1, 0, kL 50 49 1),
 (2, 0, kXi 51 50 15 0),
 (3, 0, kG 52 51 15),
 (4, 0, kA 53 3 13),
 (5, 0, kL 54 53 1),
 (6, 0, kXi 55 54 15 2),
 (7, 0, kG 56 55 15),
 (8, 0, kA 57 3 13),
 (9, 0, kL 58 57 1),
 (10, 0, kXi 59 58 15 1),
 (11, 0, kG 60 59 15),
 (12, 0, ⟨none, .bslice (some 61) 37 15 3 kz4 [(0, 15, (.tmp 52)), (15, 15, (.tmp 56)), (30, 15, (.tmp 60))]⟩),
 (13, 0, kA 62 3 13),
 (14, 0, kS 62 61 1)])
 (K.skip)))))))))))
 (K.skip)))
 (K.wk KTwT))
theorem cTw : compile Tryz.prog Tryz.f53.ntmps (Tryz.f53.body.getD .skip) = some KTw.erase := by kernel_rfl
@[simp] theorem calTw : callable Tryz.prog 53 = true := by kernel_rfl
def KNmd : K :=
 K.seq (K.ops [kO 2 0,
 kZ 4 kz1])
 (K.seq (K.ops [kMn 5])
 (K.seq (K.seq (K.ops [kMi 6 0])
 (K.block 0 (K.loop (K.seq (K.seq (K.ops [kM 9 6,
 kA 10 2 14,
 kL 11 10 1,
 kN 12 11,
 kB 13 9 12 .lss])
 (K.cond (.tmp 13)
 (K.skip)
 (K.exit 0)))
 (K.seq (K.block 1 (K.ops [kM 16 5,
 kM 17 1,
 ⟨none, .bslice (some 18) 9 1 1 [(.string ⟨#[]⟩)] [(0, 1, (.tmp 17))]⟩,
 kP 19 9 1 16 16 18,
 kM 5 19]))
 (K.ops [kM 14 6,
 kBi 15 14 1 .add,
 kM 6 15]))))))
 (K.seq (K.wk (K.ops [kM 20 5,
 kA 21 2 14,
 kS 21 20 1]))
 (K.seq (K.ops [kMn 7])
 (K.seq (K.seq (K.ops [kMi 8 0])
 (K.block 2 (K.loop (K.seq (K.seq (K.ops [kM 22 8,
 kA 23 2 13,
 kL 24 23 1,
 kN 25 24,
 kB 26 22 25 .lss])
 (K.cond (.tmp 26)
 (K.skip)
 (K.exit 2)))
 (K.seq (K.block 3 (K.ops [kM 29 7,
 kA 30 2 13,
 kL 31 30 1,
 kM 32 8,
 kX 33 31 32 15,
 kG 34 33 15,
 kM 35 1,
 kC 36 54 [(.tmp 34), (.tmp 35)],
 ⟨none, .bslice (some 37) 37 15 1 kz1 [(0, 15, (.tmp 36))]⟩,
 kP 38 37 15 168 29 37,
 kM 7 38]))
 (K.ops [kM 27 8,
 kBi 28 27 1 .add,
 kM 8 28]))))))
 (K.seq (K.wk (K.ops [kM 39 7,
 kA 40 2 13,
 kS 40 39 1]))
 (K.seq (K.ops [kG 41 2 15,
 kS 4 41 15])
 (K.ret))))))))
theorem cNmd : compile Tryz.prog Tryz.f54.ntmps (Tryz.f54.body.getD .skip) = some KNmd.erase := by kernel_rfl
@[simp] theorem calNmd : callable Tryz.prog 54 = true := by kernel_rfl
def KNod11 : K :=
 K.seq (K.ops [kO 1 0,
 kMi 2 0])
 (K.seq (K.ops [kMi 3 1])
 (K.seq (K.seq (K.ops [kMi 4 0])
 (K.block 0 (K.loop (K.seq (K.seq (K.ops [kM 5 4,
 kA 6 1 13,
 kL 7 6 1,
 kN 8 7,
 kB 9 5 8 .lss])
 (K.cond (.tmp 9)
 (K.skip)
 (K.exit 0)))
 (K.seq (K.block 1 (K.ops [kM 12 3,
 kA 13 1 13,
 kL 14 13 1,
 kM 15 4,
 kX 16 14 15 15,
 kG 17 16 15,
 kC 18 52 [(.tmp 17)],
 kB 19 12 18 .add,
 kM 3 19]))
 (K.ops [kM 10 4,
 kBi 11 10 1 .add,
 kM 4 11]))))))
 (K.seq (K.ops [kM 20 3,
 kM 2 20])
 (K.ret))))
theorem cNod11 : compile Tryz.prog Tryz.f52.ntmps (Tryz.f52.body.getD .skip) = some KNod11.erase := by kernel_rfl
@[simp] theorem calNod11 : callable Tryz.prog 52 = true := by kernel_rfl
def twN (e : Exp) (n : Int) : Exp := .mk e.id e.k n e.ref e.typ e.kids e.names
def twK (e : Exp) (ks : List Exp) : Exp := .mk e.id e.k e.n e.ref e.typ ks e.names
def twHead (e : Exp) (x : Int) : Exp :=
  if e.k = 0 then twN e (IntKind.i64.wrap (x.tmod 9 - 4))
  else if e.k = 1 then twN e (IntKind.i64.wrap (1 - e.n))
  else if e.k = 4 then (if e.n ≤ 4 then twN e (x.tmod 5) else if e.n = 7 ∨ e.n = 8 then twN e (IntKind.i64.wrap (15 - e.n)) else e)
  else if e.k = 5 then (match e.kids with
    | [a, b, c] => twK e [a, c, b]
    | _ => e)
  else e
mutual
def tweakE : Exp → Int → Int → Exp × Int
  | .mk i k n r t ks ns, a, x => if a = 0 then (twHead (.mk i k n r t ks ns) x, -1) else (.mk i k n r t (tweakL ks (a - 1) x).1 ns, (tweakL ks (a - 1) x).2)
def tweakL : List Exp → Int → Int → List Exp × Int
  | [], a, _ => ([], a)
  | e :: l, a, x => if 0 ≤ a then ((tweakE e a x).1 :: (tweakL l (tweakE e a x).2 x).1, (tweakL l (tweakE e a x).2 x).2) else (e :: (tweakL l a x).1, (tweakL l a x).2)
end
theorem tweakE_def (e : Exp) (a x : Int) : tweakE e a x = if a = 0 then (twHead e x, -1) else (twK e (tweakL e.kids (a - 1) x).1, (tweakL e.kids (a - 1) x).2) := by
  cases e; simp only [tweakE, twK, Exp.kids_mk, Exp.id_mk, Exp.k_mk, Exp.n_mk, Exp.ref_mk, Exp.typ_mk, Exp.names_mk]
theorem tweakL_neg {a x : Int} (h : a < 0) : ∀ l : List Exp, tweakL l a x = (l, a)
  | [] => rfl
  | e :: l => by simp only [tweakL, if_neg (show ¬ 0 ≤ a by omega), tweakL_neg h l]
theorem tweakL_snoc (e : Exp) (x : Int) : ∀ (l : List Exp) (a : Int), tweakL (l ++ [e]) a x = if 0 ≤ (tweakL l a x).2 then ((tweakL l a x).1 ++ [(tweakE e (tweakL l a x).2 x).1], (tweakE e (tweakL l a x).2 x).2) else ((tweakL l a x).1 ++ [e], (tweakL l a x).2)
  | [], a => by
    by_cases h : 0 ≤ a <;> simp [tweakL, h]
  | y :: l, a => by
    simp only [List.cons_append, tweakL]
    by_cases h : 0 ≤ a
    · simp only [if_pos h]
      rw [tweakL_snoc e x l]
      split <;> simp
    · simp only [if_neg h]
      rw [tweakL_snoc e x l]
      split <;> simp
mutual
theorem tweakE_at : ∀ (e : Exp) (a x : Int), 0 ≤ a → -1 ≤ (tweakE e a x).2 ∧ (tweakE e a x).2 ≤ a
  | .mk i k n r t ks ns, a, x, h => by
    simp only [tweakE]
    split
    · simp only; omega
    · have := tweakL_at ks (a - 1) x (by omega)
      simp only
      omega
theorem tweakL_at : ∀ (l : List Exp) (a x : Int), -1 ≤ a → -1 ≤ (tweakL l a x).2 ∧ (tweakL l a x).2 ≤ a
  | [], a, x, h => by simp only [tweakL]; omega
  | e :: l, a, x, h => by
    simp only [tweakL]
    split
    · have h1 := tweakE_at e a x (by omega)
      have := tweakL_at l (tweakE e a x).2 x h1.1
      simp only
      omega
    · have := tweakL_at l a x h
      simp only
      omega
end
theorem tweakL_len (x : Int) : ∀ (l : List Exp) (a : Int), (tweakL l a x).1.length = l.length
  | [], _ => rfl
  | e :: l, a => by
    simp only [tweakL]
    split <;> simp [tweakL_len x l]
theorem tweakL_take_succ {l : List Exp} {i : Nat} (h : i < l.length) (a x : Int) : tweakL (l.take (i + 1)) a x = if 0 ≤ (tweakL (l.take i) a x).2 then ((tweakL (l.take i) a x).1 ++ [(tweakE l[i] (tweakL (l.take i) a x).2 x).1], (tweakE l[i] (tweakL (l.take i) a x).2 x).2) else ((tweakL (l.take i) a x).1 ++ [l[i]], (tweakL (l.take i) a x).2) := by
  rw [List.take_succ_eq_append_getElem h, tweakL_snoc]
def IfOk (e : Exp) : Prop := ∀ z ∈ belowE e, z.k = 5 → z.kids.length = 3
theorem below_kid {z k : Exp} (hz : z ∈ belowE k) : ∀ {l : List Exp}, k ∈ l → z ∈ belowL l
  | y :: l, h => by
    simp only [belowL, List.mem_append]
    rcases List.mem_cons.1 h with rfl | h
    · exact .inl hz
    · exact .inr (below_kid hz h)
theorem IfOk.kid {e k : Exp} (h : IfOk e) (hk : k ∈ e.kids) : IfOk k := fun z hz => h z (by rw [belowE_def]; exact List.mem_cons_of_mem _ (below_kid hz hk))
theorem IfOk.here {e : Exp} (h : IfOk e) (hk : e.k = 5) : ∃ a b c, e.kids = [a, b, c] := by
  have := h e (by rw [belowE_def]; exact List.mem_cons_self ..) hk
  match hh : e.kids, this with
  | [a, b, c], _ => exact ⟨a, b, c, rfl⟩
abbrev twF : FuncId := 53
def twR (q : Exp × Int) : A := .tup [.agg (encE q.1), int q.2]
set_option maxHeartbeats 1000000 in
theorem tw_tail (e1 : Exp) (a x : Int) (hkl : e1.kids.length ≤ 1000000) (ha : 0 ≤ a) (ha2 : a ≤ 1000000000) (ih : 0 ≤ a - 1 → ∀ k ∈ e1.kids, ∀ b, 0 ≤ b → b ≤ 1000000000 → Ret Tryz.prog twF [.agg (encE k), int b, int x] [] (twR (tweakE k b x)) []) :
    wpK Tryz.prog 0 KTwT (fin [RS.cell 6 15 true, RS.slot 7] (RetQ 0 (twR (twK e1 (tweakL e1.kids (a - 1) x).1, (tweakL e1.kids (a - 1) x).2)) [])) (mkEnv [(1, int a), (2, int x), (3, .ptr 0 0), (6, .ptr 1 0)]) [.box (encE e1), .box (encE Exp.zero)] := by
  have wa : IntKind.i64.wrap (a - 1) = a - 1 := IntWalk.i64_in _ (by omega)
  unfold KTwT
  simp -implicitDefEqProofs [wa]
  refine loopS (S := Nat) (fun i => [(1, int (tweakL (e1.kids.take i) (a - 1) x).2), (2, int x), (3, .ptr 0 0), (6, .ptr 1 0), (8, .row 2 i), (9, int i)])
    (fun i => [.box (encE e1), .box (encE Exp.zero), .row false 37 15 i (cellsE (tweakL (e1.kids.take i) (a - 1) x).1)]) (fun i => i ≤ e1.kids.length) (fun i => e1.kids.length - i) 0 (by simp)
    ((weak_nilslot (t := 8) (by simp) 37 15).trans (selW [0, 1, 2] 0 (by decide) (by simp) (by simp [encE, tweakL]) (by simp [tweakL]))) ?_
  intro i hi
  have hat := tweakL_at (e1.kids.take i) (a - 1) x (by omega)
  by_cases h : i < e1.kids.length
  · have hst := tweakL_take_succ h (a - 1) x
    have hlen := tweakL_len x (e1.kids.take i) (a - 1)
    rw [List.length_take, Nat.min_eq_left hi] at hlen
    have hdr := cellsE_drop h
    have hb15 : i * 15 + 15 ≤ e1.kids.length * 15 := by omega
    have ihk := fun h0 => ih h0 e1.kids[i] (List.getElem_mem h)
    generalize e1.kids[i] = k at *
    by_cases h0 : 0 ≤ (tweakL (e1.kids.take i) (a - 1) x).2
    · have hc := ihk (by omega) _ h0 (by omega)
      rw [if_pos h0] at hst
      generalize tweakL (e1.kids.take i) (a - 1) x = q at *
      simp -implicitDefEqProofs [encE, h, hdr, hb15, h0]
      intro hl
      refine call0 hc (by simp [encE]) (by simp [twR]) ?_
      simp -implicitDefEqProofs [twR]
      refine ⟨⟨by simp [maxLen]; omega, by omega⟩, ?_⟩
      exact roundS (i + 1) h (by omega) (selW [0, 1, 2] 0 (by decide) (by simp) (by simp [encE, hst, cellsE_append, cellsE_cons]) (by simp [wrap_succ h hl, hst]))
    · rw [if_neg h0] at hst
      generalize tweakL (e1.kids.take i) (a - 1) x = q at *
      simp -implicitDefEqProofs [encE, h, hdr, hb15, h0]
      intro hl
      refine ⟨⟨by simp [maxLen]; omega, by omega⟩, ?_⟩
      exact roundS (i + 1) h (by omega) (selW [0, 1, 2] 0 (by decide) (by simp) (by simp [encE, hst, cellsE_append, cellsE_cons]) (by simp [wrap_succ h hl, hst]))
  · have hie : i = e1.kids.length := by omega
    subst hie
    rw [List.take_length]
    have hlen := tweakL_len x e1.kids (a - 1)
    simp -implicitDefEqProofs [encE]
    intros
    exact ret_end 1 (by simp [twR, twK, encE, hlen])
theorem twK_self (e : Exp) : twK e e.kids = e := by cases e; rfl
theorem twHead_kids (e : Exp) (x : Int) : (twHead e x).kids.length = e.kids.length := by
  unfold twHead
  split
  · rfl
  · split
    · rfl
    · split
      · split
        · rfl
        · split <;> rfl
      · split
        · split
          · rename_i h; rw [h]; rfl
          · rfl
        · rfl
theorem kids_le5 : ∀ (ks : List Exp), ks.length ≤ (tmpsL ks).length
  | [] => Nat.le_refl _
  | e :: ks => by
    have := kids_le5 ks
    have h1 : 1 ≤ (tmps e).length := by rw [tmps_def, List.length_append, List.length_singleton]; omega
    simp only [tmpsL, List.length_append, List.length_cons]
    omega
theorem small_kids {e : Exp} (h : (tmps e).length ≤ 1000000) : e.kids.length ≤ 1000000 ∧ ∀ k ∈ e.kids, (tmps k).length ≤ 1000000 := by
  rw [tmps_def, List.length_append, List.length_singleton] at h
  have := kids_le5 e.kids
  exact ⟨by omega, fun k hk => by have := tmpsL_le hk; omega⟩
set_option maxHeartbeats 2000000 in
theorem tweak_step (e : Exp) (hif : IfOk e) (hle : (tmps e).length ≤ 1000000) (ih : ∀ k ∈ e.kids, ∀ a x, 0 ≤ a → a ≤ 1000000000 → Ret Tryz.prog twF [.agg (encE k), int a, int x] [] (twR (tweakE k a x)) []) (a x : Int) (ha : 0 ≤ a) (ha2 : a ≤ 1000000000) :
    Ret Tryz.prog twF [.agg (encE e), int a, int x] [] (twR (tweakE e a x)) [] := by
  obtain ⟨hk, _⟩ := small_kids hle
  rw [tweakE_def]
  refine ret_of_wp Tryz.func53 rfl cTw (rs := [.cell 6 15 true, .slot 7]) (by kernel_rfl) ?_
  unfold KTw
  have zero : a = 0 → ∀ e1 : Exp, e1 = twHead e x → wpK Tryz.prog 0 KTwT (fin [RS.cell 6 15 true, RS.slot 7] (RetQ 0 (twR (twHead e x, -1)) [])) (mkEnv [(1, int a), (2, int x), (3, .ptr 0 0), (6, .ptr 1 0)]) [.box (encE e1), .box (encE Exp.zero)] := fun h0 e1 he => by
    have ht := tw_tail e1 a x (by rw [he, twHead_kids]; exact hk) ha ha2 (fun h => by omega)
    rw [tweakL_neg (show a - 1 < 0 by omega), twK_self, he, h0] at ht
    rw [he, h0]
    exact ht
  by_cases h0 : a = 0
  · rw [if_pos h0]
    have zero := zero h0
    subst h0
    by_cases k0 : e.k = 0
    · have hh : twN e (IntKind.i64.wrap (x.tmod 9 - 4)) = twHead e x := by simp only [twHead, if_pos k0]
      have ht := zero _ hh
      simp -implicitDefEqProofs [encE, k0]
      exact ⟨_, _, selW [0, 1] 0 (by decide) (by simp) (by simp [encE, twN, Exp.zero, Id.zero, Typ.zero, k0]) (by simp), ht⟩
    by_cases k1 : e.k = 1
    · have hh : twN e (IntKind.i64.wrap (1 - e.n)) = twHead e x := by simp only [twHead, if_neg k0, if_pos k1]
      have ht := zero _ hh
      simp -implicitDefEqProofs [encE, k1]
      exact ⟨_, _, selW [0, 1] 0 (by decide) (by simp) (by simp [encE, twN, Exp.zero, Id.zero, Typ.zero, k1]) (by simp), ht⟩
    by_cases k4 : e.k = 4
    · by_cases n4 : e.n ≤ 4
      · have hh : twN e (x.tmod 5) = twHead e x := by simp only [twHead, if_neg k0, if_neg k1, if_pos k4, if_pos n4]
        have ht := zero _ hh
        simp -implicitDefEqProofs [encE, k4, n4]
        exact ⟨_, _, selW [0, 1] 0 (by decide) (by simp) (by simp [encE, twN, Exp.zero, Id.zero, Typ.zero, k4, n4]) (by simp), ht⟩
      by_cases n7 : e.n = 7
      · have hh : twN e (IntKind.i64.wrap (15 - e.n)) = twHead e x := by simp only [twHead, if_neg k0, if_neg k1, if_pos k4, if_neg n4, if_pos (show e.n = 7 ∨ e.n = 8 from .inl n7)]
        have ht := zero _ hh
        simp -implicitDefEqProofs [encE, k4, n7]
        exact ⟨_, _, selW [0, 1] 0 (by decide) (by simp) (by simp [encE, twN, Exp.zero, Id.zero, Typ.zero, k4, n7]) (by simp), ht⟩
      by_cases n8 : e.n = 8
      · have hh : twN e (IntKind.i64.wrap (15 - e.n)) = twHead e x := by simp only [twHead, if_neg k0, if_neg k1, if_pos k4, if_neg n4, if_pos (show e.n = 7 ∨ e.n = 8 from .inr n8)]
        have ht := zero _ hh
        simp -implicitDefEqProofs [encE, k4, n8]
        exact ⟨_, _, selW [0, 1] 0 (by decide) (by simp) (by simp [encE, twN, Exp.zero, Id.zero, Typ.zero, k4, n8]) (by simp), ht⟩
      · have hh : e = twHead e x := by simp only [twHead, if_neg k0, if_neg k1, if_pos k4, if_neg n4, if_neg (show ¬ (e.n = 7 ∨ e.n = 8) from fun h => h.elim n7 n8)]
        have ht := zero _ hh
        simp -implicitDefEqProofs [encE, k4, n4, n7, n8]
        exact ⟨_, _, selW [0, 1] 0 (by decide) (by simp) (by simp [encE, twN, Exp.zero, Id.zero, Typ.zero, k4, n4, n7, n8]) (by simp), ht⟩
    by_cases k5 : e.k = 5
    · obtain ⟨y0, y1, y2, hy⟩ := hif.here k5
      have hh : twK e [y0, y2, y1] = twHead e x := by simp only [twHead, if_neg k0, if_neg k1, if_neg k4, if_pos k5, hy]
      have ht := zero _ hh
      simp -implicitDefEqProofs [encE, k5, hy, cellsE_cons]
      exact ⟨_, _, selW [0, 1] 0 (by decide) (by simp) (by simp [encE, twK, Exp.zero, Id.zero, Typ.zero, k5, hy, cellsE_cons]) (by simp), ht⟩
    · have hh : e = twHead e x := by simp only [twHead, if_neg k0, if_neg k1, if_neg k4, if_neg k5]
      have ht := zero _ hh
      simp -implicitDefEqProofs [encE, k0, k1, k4, k5]
      exact ⟨_, _, selW [0, 1] 0 (by decide) (by simp) (by simp [encE, twN, Exp.zero, Id.zero, Typ.zero, k0, k1, k4, k5]) (by simp), ht⟩
  · rw [if_neg h0]
    have ht := tw_tail e a x hk ha ha2 (fun _ k hk' b hb hb2 => ih k hk' b x hb hb2)
    simp -implicitDefEqProofs [encE, h0]
    exact ⟨_, _, selW [0, 1] 0 (by decide) (by simp) (by simp [encE, Exp.zero, Id.zero, Typ.zero]) (by simp), ht⟩
mutual
theorem tweak_ok : ∀ (e : Exp), IfOk e → (tmps e).length ≤ 1000000 → ∀ a x, 0 ≤ a → a ≤ 1000000000 → Ret Tryz.prog twF [.agg (encE e), int a, int x] [] (twR (tweakE e a x)) []
  | .mk i k n r t ks ns, hif, hle => tweak_step _ hif hle fun y hy => tweaks_ok ks y hy (hif.kid hy) ((small_kids hle).2 y hy)
theorem tweaks_ok : ∀ (l : List Exp), ∀ e ∈ l, IfOk e → (tmps e).length ≤ 1000000 → ∀ a x, 0 ≤ a → a ≤ 1000000000 → Ret Tryz.prog twF [.agg (encE e), int a, int x] [] (twR (tweakE e a x)) []
  | [], e, he => by simp at he
  | y :: l, e, he => by
    rcases List.mem_cons.1 he with h | h
    · rw [h]; exact tweak_ok y
    · exact tweaks_ok l e h
end
mutual
theorem nodes11_ok : ∀ (e : Exp), (tmps e).length ≤ 1000000000 → Ret Tryz.prog 52 [.agg (encE e)] [] (int (tmps e).length) []
  | .mk a b c d t l ns, hle => by
    have ih := nodes11L_ok l
    generalize ha : Exp.mk a b c d t l ns = e at hle
    have hal : e.kids = l := by rw [← ha]; rfl
    rw [← hal] at ih
    rw [tmps_def, List.length_append, List.length_singleton] at hle
    refine ret_of_wp Tryz.func52 rfl cNod11 (rs := [.slot 2]) (by kernel_rfl) ?_
    unfold KNod11
    simp -implicitDefEqProofs [encE]
    refine loopS (S := Nat) (fun i => [(1, .ptr 0 0), (3, int ((tmpsL (e.kids.take i)).length + 1 : Nat)), (4, int i)]) (fun _ => [.box (encE e)]) (fun i => i ≤ e.kids.length) (fun i => e.kids.length - i) 0 (by simp)
      (selW [0] 0 (by decide) (by simp) (by simp [encE]) (by simp [tmpsL])) ?_
    intro i hi
    by_cases h : i < e.kids.length
    · have hle2 : (tmps e.kids[i]).length ≤ 1000000000 := by have := tmpsL_le (List.getElem_mem h); omega
      have h3 := tmpsL_take_le (l := e.kids) (i + 1)
      rw [tmpsL_take_succ h, List.length_append] at h3
      simp -implicitDefEqProofs [encE, h, cellsE_drop h]
      intro hl
      refine call0 (ih e.kids[i] (List.getElem_mem h) hle2) (by simp [encE]) (by simp) ?_
      have hw : IntKind.i64.wrap ((((tmpsL (e.kids.take i)).length : Int) + 1) + ((tmps e.kids[i]).length : Int)) = ((tmpsL (e.kids.take i)).length : Int) + 1 + (tmps e.kids[i]).length := IntWalk.i64_in _ (by omega)
      simp -implicitDefEqProofs [hw]
      exact roundS (i + 1) h (by omega) (selW [0] 0 (by decide) (by simp) (by simp [encE]) (by simp [wrap_succ h hl, tmpsL_take_succ h]; omega))
    · have hie : i = e.kids.length := by omega
      subst hie
      simp -implicitDefEqProofs [encE]
      first | exact fun _ => ret_end 0 (by simp [tmps_def]) | exact ret_end 0 (by simp [tmps_def])
theorem nodes11L_ok : ∀ (l : List Exp), ∀ x ∈ l, (tmps x).length ≤ 1000000000 → Ret Tryz.prog 52 [.agg (encE x)] [] (int (tmps x).length) []
  | [], x, hx => by simp at hx
  | z :: l, x, hx => by
    rcases List.mem_cons.1 hx with e | hx
    · rw [e]; exact nodes11_ok z
    · exact nodes11L_ok l x hx
end
mutual
def namE (s : ByteArray) : Exp → Exp
  | .mk i k n r t ks ns => .mk i k n r t (namL s ks) (ns.map fun _ => s)
def namL (s : ByteArray) : List Exp → List Exp
  | [] => []
  | e :: l => namE s e :: namL s l
end
theorem namL_map (s : ByteArray) : ∀ l : List Exp, namL s l = l.map (namE s)
  | [] => rfl
  | e :: l => by simp only [namL, List.map_cons, namL_map s l]
mutual
def Exp.few : Exp → Prop
  | .mk _ _ _ _ _ ks ns => ns.length ≤ 1000000 ∧ ks.length ≤ 1000000 ∧ fewL ks
def fewL : List Exp → Prop
  | [] => True
  | e :: l => e.few ∧ fewL l
end
theorem fewL_iff : ∀ l : List Exp, fewL l ↔ ∀ e ∈ l, e.few
  | [] => by simp [fewL]
  | e :: l => by simp [fewL, fewL_iff l]
theorem cellsN_append (a b : List ByteArray) : cellsN (a ++ b) = cellsN a ++ cellsN b := by simp only [cellsN, List.flatMap_append]
abbrev nmF : FuncId := 54
set_option maxHeartbeats 1000000 in
theorem named_step (s : ByteArray) (e : Exp) (hns : e.names.length ≤ 1000000) (hks : e.kids.length ≤ 1000000) (ih : ∀ k ∈ e.kids, Ret Tryz.prog nmF [.agg (encE k), .lit (.string s)] [] (.agg (encE (namE s k))) []) :
    Ret Tryz.prog nmF [.agg (encE e), .lit (.string s)] [] (.agg (encE (namE s e))) [] := by
  have hdef : namE s e = .mk e.id e.k e.n e.ref e.typ (e.kids.map (namE s)) (e.names.map fun _ => s) := by cases e; simp only [namE, namL_map, Exp.id_mk, Exp.k_mk, Exp.n_mk, Exp.ref_mk, Exp.typ_mk, Exp.kids_mk, Exp.names_mk]
  rw [hdef]
  refine ret_of_wp Tryz.func54 rfl cNmd (rs := [.cell 4 15 true]) (by kernel_rfl) ?_
  unfold KNmd
  simp -implicitDefEqProofs [encE]
  refine loopS (S := Nat) (fun i => [(1, .lit (.string s)), (2, .ptr 0 0), (4, .ptr 1 0), (5, .row 2 i), (6, int i)])
    (fun i => [.box (encE e), .box (encE Exp.zero), .row false 9 1 i (cellsN ((e.names.map fun _ => s).take i))]) (fun i => i ≤ e.names.length) (fun i => e.names.length - i) 0 (by simp)
    ((weak_nilslot (t := 5) (by simp) 9 1).trans (selW [0, 1, 2] 0 (by decide) (by simp) (by simp [encE, Exp.zero, Id.zero, Typ.zero]) (by simp))) ?_
  intro i hi
  by_cases h : i < e.names.length
  · have hst : cellsN ((e.names.map fun _ => s).take (i + 1)) = cellsN ((e.names.map fun _ => s).take i) ++ [.lit (.string s)] := by
      rw [List.take_succ_eq_append_getElem (by rw [List.length_map]; exact h), cellsN_append, List.getElem_map]; rfl
    simp -implicitDefEqProofs [encE, h]
    intro hl
    refine ⟨⟨by simp [maxLen]; omega, by omega⟩, ?_⟩
    exact roundS (i + 1) h (by omega) (selW [0, 1, 2] 0 (by decide) (by simp) (by rw [hst]; simp [encE]) (by simp [wrap_succ h hl]))
  · have hie : i = e.names.length := by omega
    subst hie
    have halln : List.take e.names.length (e.names.map fun _ => s) = e.names.map fun _ => s := List.take_of_length_le (by simp)
    simp -implicitDefEqProofs [encE]
    intros
    refine ⟨mkEnv [(1, .lit (.string s)), (2, .ptr 0 0), (4, .ptr 1 0), (5, .sl (e.names.map fun _ => s).length (cellsN (e.names.map fun _ => s)))], [.box (encE e), .box (encE Exp.zero)],
      selW [0, 1] 1 (by decide) (by simp) (by simp [encE, Exp.zero, Id.zero, Typ.zero]) (by simp [halln]), ?_⟩
    simp -implicitDefEqProofs [encE]
    refine loopS (S := Nat) (fun i => [(1, .lit (.string s)), (2, .ptr 0 0), (4, .ptr 1 0), (7, .row 2 i), (8, int i)])
      (fun i => [.box (encE (.mk e.id e.k e.n e.ref e.typ e.kids (e.names.map fun _ => s))), .box (encE Exp.zero), .row false 37 15 i (cellsE ((e.kids.map (namE s)).take i))]) (fun i => i ≤ e.kids.length) (fun i => e.kids.length - i) 0 (by simp)
      ((weak_nilslot (t := 7) (by simp) 37 15).trans (selW [0, 1, 2] 0 (by decide) (by simp) (by simp [encE, Exp.zero, Id.zero, Typ.zero]) (by simp))) ?_
    intro i hi
    by_cases h : i < e.kids.length
    · have hst := cellsE_take_succ (l := e.kids.map (namE s)) (i := i) (by rw [List.length_map]; exact h)
      rw [List.getElem_map] at hst
      simp -implicitDefEqProofs [encE, h, cellsE_drop h]
      intro hl
      refine call0 (ih e.kids[i] (List.getElem_mem h)) (by simp [encE]) (by simp) ?_
      simp -implicitDefEqProofs
      refine ⟨⟨by simp [maxLen]; omega, by omega⟩, ?_⟩
      exact roundS (i + 1) h (by omega) (selW [0, 1, 2] 0 (by decide) (by simp) (by rw [hst]; simp [encE]) (by simp [wrap_succ h hl]))
    · have hie : i = e.kids.length := by omega
      subst hie
      have hall : List.take e.kids.length (e.kids.map (namE s)) = e.kids.map (namE s) := List.take_of_length_le (by simp)
      simp -implicitDefEqProofs [encE]
      intros
      refine ⟨mkEnv [(2, .ptr 0 0), (4, .ptr 1 0), (7, .sl (e.kids.map (namE s)).length (cellsE (e.kids.map (namE s))))], [.box (encE (.mk e.id e.k e.n e.ref e.typ e.kids (e.names.map fun _ => s))), .box (encE Exp.zero)],
        selW [0, 1] 1 (by decide) (by simp) (by simp [encE, Exp.zero, Id.zero, Typ.zero]) (by simp [hall]), ?_⟩
      simp -implicitDefEqProofs [encE]
      exact ret_end 0 (by simp [encE])
mutual
theorem named_ok (s : ByteArray) : ∀ (e : Exp), e.few → Ret Tryz.prog nmF [.agg (encE e), .lit (.string s)] [] (.agg (encE (namE s e))) []
  | .mk i k n r t ks ns, h => by
    simp only [Exp.few, fewL_iff] at h
    exact named_step s _ h.1 h.2.1 fun y hy => nameds_ok s ks y hy (h.2.2 y hy)
theorem nameds_ok (s : ByteArray) : ∀ (l : List Exp), ∀ e ∈ l, e.few → Ret Tryz.prog nmF [.agg (encE e), .lit (.string s)] [] (.agg (encE (namE s e))) []
  | [], e, he => by simp at he
  | y :: l, e, he => by
    rcases List.mem_cons.1 he with h | h
    · rw [h]; exact named_ok s y
    · exact nameds_ok s l e h
end
end Go.Proofs.YthglhccibdlccaaGreatDoor
