/-
  Contracts of functions whose result may be any of several.
  slices.Grow of a nil slice, as a contract over abstract states.
  The reference's sets of IDs, and the law's lists of IDs.
-/
import Derived.Test.YthglhccibdlccaaGreatDoorX18
import Derived.Test.YthglhccibdlccaaGreatDoorX8
import Derived.Shelf.Spec.SlicesGrow
set_option linter.unusedVariables false
set_option linter.unusedSimpArgs false
namespace Go.Abs
section
variable {P : Program}
theorem callQ_of_wpH {I : Type} {C : I → Prop} {rr : I → A} {ss : I → St} {hint : Nat → Option (List (Nat × Nat))} {f : FuncId} {fn : Func} {c : Code} {k : K} {rs : List RS} (hf : P.funcs[f]? = some fn) (hb : fn.body = some c) (hc : compileH P fn.ntmps hint c = some k.erase) (hr : slotsOf P fn.results.toList = some rs)
    {args : List A} {σ0 : St} (h : wpF P k rs args σ0 fun o τ => ∃ i, C i ∧ RetQ σ0.length (rr i) (ss i) o τ) : CallA P f args σ0 fun o τ => ∃ i, C i ∧ o = .ret (rr i) ∧ τ = ss i := by
  intro H L w vs hs ha
  refine (callA_of_wpH hf hb hc hr h H L w vs hs ha).mono fun e w' hh => ?_
  obtain ⟨o, σ', H', L', g1, g2, i, hi, r', ks, fuel, rfl, hk, hd, ho, hr⟩ := hh
  obtain ⟨v, rfl, hv⟩ := g1
  obtain ⟨H2, L2, k1, _, k3⟩ := nxt_sel ks fuel (by rw [hs.len]; exact hk) hd ho g2
  refine ⟨.ret (rr i), ss i, H2, L2, ⟨v, rfl, ?_⟩, k1, i, hi, rfl, rfl⟩
  rcases hr with e | e
  · rw [e]; exact k3 _ _ hv
  · rw [e]; exact Rel.nrm0 _ (k3 _ _ hv)
theorem callQ_of_wp {I : Type} {C : I → Prop} {rr : I → A} {ss : I → St} {f : FuncId} {fn : Func} {c : Code} {k : K} {rs : List RS} (hf : P.funcs[f]? = some fn) (hb : fn.body = some c) (hc : compile P fn.ntmps c = some k.erase) (hr : slotsOf P fn.results.toList = some rs)
    {args : List A} {σ0 : St} (h : wpF P k rs args σ0 fun o τ => ∃ i, C i ∧ RetQ σ0.length (rr i) (ss i) o τ) : CallA P f args σ0 fun o τ => ∃ i, C i ∧ o = .ret (rr i) ∧ τ = ss i := callQ_of_wpH (hint := noHint) hf hb hc hr h
end
end Go.Abs
namespace Go.Abs
open Go.Proofs
section
variable {P : Program} {H : Mem} {L : List LI} {σ : St} {w : World}
theorem nxt_newli (hs : RelSt H L σ w) (ob : AObj) (o : Obj) (li : LI) (hli : li.block = some w.heap.size) (ho : RelObj H (L ++ [li]) (w.alloc o) li ob) : Nxt H L w H (L ++ [li]) (σ ++ [ob]) (w.alloc o) := by
  have hll := LLe.append L [li]
  refine ⟨⟨fun b o v hv => ?_, by simp [hs.len], fun i l o hL hσ => ?_, fun i j l l' b hi hj hb hb' => ?_, fun i l b hL hb => ?_⟩,
    ⟨rfl, rfl, rfl, by simp, fun k hk _ => heap_alloc_old w _ hk, HLe.refl _, fun b o v hv => .inl hv, Nat.le_refl _, dfr_old (fun k hk => heap_alloc_old w _ hk)⟩, hll, fun b ⟨i, l, hL, hb⟩ => ?_⟩
  · rw [World.cell?_alloc_lt _ _ _ (hs.h_lt hv)]
    exact hs.pers b o v hv
  · rcases get_snoc hL with hL' | ⟨rfl, rfl⟩
    · have hi : i < L.length := (List.getElem?_eq_some_iff.1 hL').1
      rw [List.getElem?_append_left (by rw [← hs.len]; exact hi)] at hσ
      exact (hs.obj i l o hL' hσ).carry (fun b hb => heap_alloc_old w _ (hs.lt i l b hL' hb)) (HLe.refl _) hll (fun _ _ _ => rfl)
    · rw [hs.len] at hσ
      rw [List.getElem?_append_right (Nat.le_refl _)] at hσ
      simp only [Nat.sub_self, List.getElem?_cons_zero, Option.some.injEq] at hσ
      subst hσ
      exact ho
  · rcases get_snoc hi with hi' | ⟨rfl, rfl⟩
    · rcases get_snoc hj with hj' | ⟨rfl, rfl⟩
      · exact hs.inj i j l l' b hi' hj' hb hb'
      · rw [hli] at hb'; cases hb'; have := hs.lt i l _ hi' hb; omega
    · rw [hli] at hb
      cases hb
      rcases get_snoc hj with hj' | ⟨rfl, rfl⟩
      · have := hs.lt j l' _ hj' hb'; omega
      · rfl
  · rcases get_snoc hL with hL' | ⟨rfl, rfl⟩
    · have := hs.lt i l b hL' hb; simp; omega
    · rw [hli] at hb; cases hb; simp
  · rcases get_snoc hL with hL' | ⟨rfl, rfl⟩
    · exact .inl ⟨i, l, hL', hb⟩
    · rw [hli] at hb; cases hb; exact .inr (Nat.le_refl _)
theorem grow_ret {ρ : Go.Shelf.Ren} (LL : Lays8.n4 P ρ) {i : TypeInfo} {z : Value} (hi : P.info? (ρ.t 25) = some i) (hz : i.zero = some z) (hzs : z.cells.size = i.size) (h0 : 0 < i.size) {n : Nat} (hb : n * i.bytes ≤ 140737488355328) (hn63 : n ≤ 4611686018427387904) :
    Ret P (ρ.f 4) [.nil, .lit (.int .i64 n)] [] (.row 0 0) [.row false (ρ.t 25) i.size 0 []] := by
  intro H L w vs hs hvs
  obtain ⟨v, vs', rfl, h1, h2⟩ := relL_cons_inv hvs
  obtain ⟨u, vs'', rfl, h3, h4⟩ := relL_cons_inv h2
  have := relL_nil_inv h4
  subst this
  simp only [Rel] at h1 h3
  subst h1 h3
  have hL : L = [] := List.eq_nil_of_length_eq_zero (by rw [hs.len]; rfl)
  subst hL
  have hn : n ≤ maxLen := by simp only [maxLen]; omega
  by_cases hz0 : n = 0
  · subst hz0
    refine (Any8.slices_Grow_room LL none 0 0 0 w (Nat.le_refl _) (by omega) (by omega) (by omega)).mono fun e w' hh => ?_
    obtain ⟨rfl, rfl⟩ := hh
    have hnx := nxt_nilrow hs (ρ.t 25) i.size
    refine ⟨.ret (.row 0 0), _, H, _, ⟨_, rfl, ?_⟩, hnx, rfl, rfl⟩
    simp only [Rel]
    exact ⟨rfl, ⟨none, 0, 0, true⟩, by simp, rfl, Nat.le_refl _, fun _ => rfl⟩
  · refine (Any8.slices_Grow_grow LL i z hi hz h0 none 0 0 n [] w (Nat.le_refl _) (by omega) (by rw [Nat.zero_add]; exact hb) (by omega) (by simp) (fun _ => rfl) (fun a ha => by cases ha)).mono fun e w' hh => ?_
    obtain ⟨rfl, rfl⟩ := hh
    have hge := grownCap_ge w (0 + n) 0 (ρ.t 25)
    have hcm : grownCap w (0 + n) 0 (ρ.t 25) ≤ maxLen := grownCap_le_maxLen w (0 + n) 0 (ρ.t 25) (by omega)
    generalize grownCap w (0 + n) 0 (ρ.t 25) = cap at hge hcm ⊢
    have hd := nxt_drew hs
    have hnx := nxt_newli hd.st (.row false (ρ.t 25) i.size 0 []) (.cells ((([] : List Value).toArray ++ Builtin.zeroCells z.cells (0 + n - 0) ++ Builtin.zeroCells z.cells (cap - (0 + n)))) (ρ.t 25)) ⟨some w.heap.size, cap, 0, true⟩ rfl (by
      simp only [RelObj]
      refine ⟨trivial, trivial, by simp, .inr ⟨w.heap.size, _, rfl, heap_alloc_new w.drew _, Nat.zero_le _, hcm, ?_, ?_, ?_, fun o => ?_⟩⟩
      · simp only [Array.size_append, size_zeroCells, hzs]
        simp only [List.size_toArray, List.length_nil, Nat.zero_add, Nat.sub_zero, ← Nat.add_mul]
        congr 1
        omega
      · simp [RelL]
      · simp
      · cases hH : H w.heap.size o with
        | none => rfl
        | some v => have := hs.h_lt hH; omega)
    have hnx := hd.trans hnx
    refine ⟨.ret (.row 0 0), _, H, _, ⟨_, rfl, ?_⟩, hnx, rfl, rfl⟩
    simp only [Rel]
    exact ⟨rfl, ⟨some w.heap.size, cap, 0, true⟩, by simp, rfl, Nat.le_refl _, fun _ => rfl⟩
theorem grow_ret' {ρ : Go.Shelf.Ren} (LL : Lays8.n4 P ρ) {sz bs : Nat} {z : Value} (hi : (P.info? (ρ.t 25)).map (fun i => (i.size, i.bytes, i.zero)) = some (sz, bs, some z)) (hzs : z.cells.size = sz) (h0 : 0 < sz) {n : Nat} (hb : n * bs ≤ 140737488355328) (hn63 : n ≤ 4611686018427387904) :
    Ret P (ρ.f 4) [.nil, .lit (.int .i64 n)] [] (.row 0 0) [.row false (ρ.t 25) sz 0 []] := by
  rw [Option.map_eq_some_iff] at hi
  obtain ⟨i, h1, h2⟩ := hi
  simp only [Prod.mk.injEq] at h2
  obtain ⟨rfl, rfl, h3⟩ := h2
  exact grow_ret LL h1 h3 hzs h0 hb hn63
end
end Go.Abs
namespace Go.Proofs.YthglhccibdlccaaGreatDoor
open Go.Abs
def w64 (n : Int) : Int := IntKind.i64.wrap n
def same3 (a b c a' b' c' : Int) : Bool := decide (Id.mk a b c = Id.mk a' b' c')
@[simp] theorem same3_id {x y : Id} : same3 x.a x.b x.c y.a y.b y.c = decide (x = y) := rfl
def Id.zero : Id := ⟨0, 0, 0⟩
@[simp] theorem same3_zero {x : Id} : same3 x.a x.b x.c 0 0 0 = decide (x = Id.zero) := rfl
@[simp] theorem Id.zero_a : Id.zero.a = 0 := rfl
@[simp] theorem Id.zero_b : Id.zero.b = 0 := rfl
@[simp] theorem Id.zero_c : Id.zero.c = 0 := rfl
@[simp] theorem same3_00 : same3 0 0 0 0 0 0 = true := rfl
@[simp] theorem eqsA_id {a b c a' b' c' : Int} : eqsA [.i, .i, .i] false (.agg [.lit (.int .i64 a), .lit (.int .i64 b), .lit (.int .i64 c)]) (.agg [.lit (.int .i64 a'), .lit (.int .i64 b'), .lit (.int .i64 c')]) =
    some (.lit (.bool (same3 a b c a' b' c'))) := by simp [eqsA, eqCells, eqCell, truthOf, same3]
@[simp] theorem eqsA_idn {a b c a' b' c' : Int} : eqsA [.i, .i, .i] true (.agg [.lit (.int .i64 a), .lit (.int .i64 b), .lit (.int .i64 c)]) (.agg [.lit (.int .i64 a'), .lit (.int .i64 b'), .lit (.int .i64 c')]) =
    some (.lit (.bool (!same3 a b c a' b' c'))) := by simp [eqsA, eqCells, eqCell, truthOf, same3]
def K12 : K :=
 K.seq (K.ops [kMi 4 0])
 (K.seq (K.seq (K.ops [kM 5 0,
 kBi 6 5 0 .lss])
 (K.cond (.tmp 6)
 (K.ops [kM 7 0,
 kBi 8 7 1 .add,
 ⟨none, .neg (some 9) (.tmp 8)⟩,
 kM 0 9])
 (K.skip)))
 (K.seq (K.ops [kM 10 0,
 kM 11 1,
 kB 12 10 11 .rem,
 kM 4 12])
 (K.ret)))
theorem c12 : compile Tryz.prog Tryz.f12.ntmps (Tryz.f12.body.getD .skip) = some K12.erase := by kernel_rfl
@[simp] theorem cal12 : callable Tryz.prog 12 = true := by kernel_rfl
def K5 : K :=
 K.seq (K.ops [kO 2 0,
 kO 3 1,
 kMb 4 false])
 (K.seq (K.ops [kA 5 2 0,
 kL 6 5 1,
 kA 7 3 0,
 kL 8 7 1,
 kC 9 20 [(.tmp 6), (.tmp 8)],
 kM 10 9,
 kT 10 true (kA 11 2 1),
 kT 10 true (kL 12 11 1),
 kT 10 true (kA 13 3 1),
 kT 10 true (kL 14 13 1),
 kT 10 true (kC 15 20 [(.tmp 12), (.tmp 14)]),
 kPf 16 10 15,
 kM 4 16])
 (K.ret))
theorem c5 : compile Tryz.prog Tryz.f16.ntmps (Tryz.f16.body.getD .skip) = some K5.erase := by kernel_rfl
@[simp] theorem cal5 : callable Tryz.prog 16 = true := by kernel_rfl
@[simp] theorem cal6 : callable Tryz.prog 17 = true := by kernel_rfl
def K30 : K :=
 K.seq (K.ops [kO 3 1,
 kMn 4])
 (K.seq (K.ops [kMi 5 0])
 (K.seq (K.block 0 (K.loop (K.seq (K.seq (K.dops [(0, 0, kM 7 5),
 (1, 0, kM 8 0),
 (2, 0, kN 9 8),
 (3, 0, kB 10 7 9 .lss),
 (4, 0, kM 11 10),
 (5, 0, kT 11 true (kM 12 0)),
 (6, 0, kT 11 true (kM 13 5)),
 (7, 0, kT 11 true (kX 14 12 13 3)),
 (8, 0, kT 11 true (kG 15 14 3)),
 (9, 0, kT 11 true (kG 16 3 3)),
 (10, 0, kT 11 true (kC 17 110 [(.tmp 15), (.tmp 16)])),
 (11, 0, kPf 18 11 17)])
 (K.cond (.tmp 18)
 (K.skip)
 (K.exit 0)))
 (K.block 1 (K.ops [kM 19 5,
 kBi 20 19 1 .add,
 kM 5 20])))))
 (K.seq (K.seq (K.dops [(0, 0, kM 21 5),
 (1, 0, kM 22 0),
 (2, 0, kN 23 22),
 (3, 0, kB 24 21 23 .lss),
 (4, 0, kM 25 24),
 (5, 0, kT 25 true (kM 26 0)),
 (6, 0, kT 25 true (kM 27 5)),
 (7, 0, kT 25 true (kX 28 26 27 3)),
 (8, 0, kT 25 true (kG 29 28 3)),
 (9, 0, kT 25 true (kG 30 3 3)),
 (10, 0, ⟨some (25, true), .eqs (some 31) false [.i, .i, .i] (.tmp 29) (.tmp 30)⟩),
 (11, 0, kPf 32 25 31)])
 (K.cond (.tmp 32)
 (K.seq (K.ops [kM 33 0,
 kM 4 33])
 (K.ret))
 (K.skip)))
 (K.seq (K.ops [⟨none, .bslice (some 34) 29 3 0 [] []⟩,
 kM 35 0,
 kM 36 5,
 ⟨none, .slc (some 37) (.tmp 35) 3 none (some (.tmp 36)) none⟩,
 kP 38 29 3 24 34 37,
 kM 6 38])
 (K.seq (K.ops [kM 39 6,
 kG 40 3 3,
 ⟨none, .bslice (some 41) 29 3 1 [(.int .i64 0), (.int .i64 0), (.int .i64 0)] [(0, 3, (.tmp 40))]⟩,
 kP 42 29 3 24 39 41,
 kM 6 42])
 (K.seq (K.ops [kM 43 6,
 kM 44 0,
 kM 45 5,
 ⟨none, .slc (some 46) (.tmp 44) 3 (some (.tmp 45)) none none⟩,
 kP 47 29 3 24 43 46,
 kM 4 47])
 (K.ret)))))))
theorem c30 : compile Tryz.prog Tryz.f61.ntmps (Tryz.f61.body.getD .skip) = some K30.erase := by kernel_rfl
@[simp] theorem cal30 : callable Tryz.prog 61 = true := by kernel_rfl
def aroundV (n k : Int) : Int := (if n < 0 then w64 (0 - w64 (n + 1)) else n).tmod k
theorem around_ok (n k : Int) (hk : 0 < k) : Ret Tryz.prog 12 [int n, int k] [] (int (aroundV n k)) [] := by
  refine ret_of_wp Tryz.func12 rfl c12 (rs := [.slot 4]) (by kernel_rfl) ?_
  unfold K12
  have h0 : ¬ k = 0 := by omega
  by_cases h : n < 0
  · simp -implicitDefEqProofs [h, h0]
    exact ret_end 0 (by simp [aroundV, h, w64])
  · simp -implicitDefEqProofs [h, h0]
    exact ret_end 0 (by simp [aroundV, h])
theorem around_range {n k : Int} (hn : w64 n = n) (hk : 0 < k) : 0 ≤ aroundV n k ∧ aroundV n k < k := by
  unfold aroundV
  have h : 0 ≤ (if n < 0 then w64 (0 - w64 (n + 1)) else n) := by
    simp only [w64, IntKind.wrap_i64] at hn ⊢
    split <;> omega
  exact ⟨Int.tmod_nonneg _ h, Int.tmod_lt_of_pos _ hk⟩
def insD : List Id → Id → List Id
  | [], x => [x]
  | y :: l, x => if lessD y x = true then y :: insD l x else if y = x then y :: l else x :: y :: l
def posD : List Id → Id → Nat
  | [], _ => 0
  | y :: l, x => if lessD y x = true then posD l x + 1 else 0
theorem posD_le : ∀ (l : List Id) (x : Id), posD l x ≤ l.length
  | [], x => by simp [posD]
  | y :: l, x => by
    have := posD_le l x
    simp only [posD, List.length_cons]
    split <;> omega
theorem insD_pos : ∀ (l : List Id) (x : Id), insD l x = if l[posD l x]? = some x then l else l.take (posD l x) ++ x :: l.drop (posD l x)
  | [], x => by simp [insD, posD]
  | y :: l, x => by
    simp only [insD, posD]
    by_cases h : lessD y x = true
    · simp only [h, if_true, List.getElem?_cons_succ, insD_pos l x, List.take_succ_cons, List.drop_succ_cons]
      split <;> simp
    · simp only [h]
      by_cases hy : y = x <;> simp [hy]
theorem posD_step {l : List Id} {x : Id} {i : Nat} (hi : i ≤ posD l x) : (i < l.length ∧ lessD (l.getD i ⟨0, 0, 0⟩) x = true → i + 1 ≤ posD l x) ∧ (¬ (i < l.length ∧ lessD (l.getD i ⟨0, 0, 0⟩) x = true) → i = posD l x) := by
  induction l generalizing i with
  | nil => simp [posD] at hi ⊢; omega
  | cons y l ih =>
    simp only [posD] at hi ⊢
    cases i with
    | zero =>
      by_cases h : lessD y x = true
      · simp [h]
      · simp [h]
    | succ i =>
      by_cases h : lessD y x = true
      · simp only [h, if_true] at hi ⊢
        obtain ⟨h1, h2⟩ := ih (i := i) (by omega)
        constructor
        · intro hh
          have := h1 (by simpa using hh)
          omega
        · intro hh
          have := h2 (by simpa using hh)
          omega
      · simp only [h] at hi
        simp at hi
theorem insD_len (l : List Id) (x : Id) : (insD l x).length ≤ l.length + 1 := by
  rw [insD_pos]
  have := posD_le l x
  split
  · omega
  · simp; omega
theorem ins_end {l : List Id} {x : Id} {i : Nat} (hl6 : l.length ≤ 1000000) (hi : i ≤ l.length) (hins : insD l x = l.take i ++ x :: l.drop i) :
    i ≤ l.length ∧ min i l.length * 3 = i * 3 ∧
      (i = 0 → 1 ≤ maxLen ∧ i ≤ l.length ∧ min ((l.length - i) * 3) (l.length * 3 - i * 3) = (l.length - i) * 3 ∧ (1 + (l.length - i) ≤ maxLen ∧ (1 + (l.length - i)) * 24 ≤ 140737488355328) ∧
        RetQ 0 (A.sl (insD l x).length (cellsI (insD l x))) [] (Out.ret (A.row 1 (1 + (l.length - i)))) [AObj.box [A.lit (Value.int IntKind.i64 x.a), A.lit (Value.int IntKind.i64 x.b), A.lit (Value.int IntKind.i64 x.c)],
          AObj.row false 29 3 (1 + (l.length - i)) (A.lit (Value.int IntKind.i64 x.a) :: A.lit (Value.int IntKind.i64 x.b) :: A.lit (Value.int IntKind.i64 x.c) :: List.take ((l.length - i) * 3) (List.drop (i * 3) (cellsI l)))]) ∧
      (¬i = 0 → (i ≤ maxLen ∧ i * 24 ≤ 140737488355328) ∧ (i + 1 ≤ maxLen ∧ (i + 1) * 24 ≤ 140737488355328) ∧ i ≤ l.length ∧ min ((l.length - i) * 3) (l.length * 3 - i * 3) = (l.length - i) * 3 ∧ (i + 1 + (l.length - i) ≤ maxLen ∧ (i + 1 + (l.length - i)) * 24 ≤ 140737488355328) ∧
        RetQ 0 (A.sl (insD l x).length (cellsI (insD l x))) [] (Out.ret (A.row 1 (i + 1 + (l.length - i)))) [AObj.box [A.lit (Value.int IntKind.i64 x.a), A.lit (Value.int IntKind.i64 x.b), A.lit (Value.int IntKind.i64 x.c)],
          AObj.row false 29 3 (i + 1 + (l.length - i)) (List.take (i * 3) (cellsI l) ++ A.lit (Value.int IntKind.i64 x.a) :: A.lit (Value.int IntKind.i64 x.b) :: A.lit (Value.int IntKind.i64 x.c) :: List.take ((l.length - i) * 3) (List.drop (i * 3) (cellsI l)))]) := by
  have hcl : (insD l x).length = l.length + 1 := by rw [hins]; simp; omega
  have htd : List.take ((l.length - i) * 3) (List.drop (i * 3) (cellsI l)) = cellsI (l.drop i) := by rw [cellsI_dropW, List.take_of_length_le (by simp)]
  have hcc : cellsI (insD l x) = cellsI (l.take i) ++ (A.lit (Value.int IntKind.i64 x.a) :: A.lit (Value.int IntKind.i64 x.b) :: A.lit (Value.int IntKind.i64 x.c) :: cellsI (l.drop i)) := by rw [hins, cellsI_append]; rfl
  refine ⟨hi, by omega, fun h0 => ⟨by simp [maxLen], hi, by omega, ⟨by simp [maxLen]; omega, by omega⟩, ?_⟩, fun h0 => ⟨⟨by simp [maxLen]; omega, by omega⟩, ⟨by simp [maxLen]; omega, by omega⟩, hi, by omega, ⟨by simp [maxLen]; omega, by omega⟩, ?_⟩⟩
  · have e1 : 1 + (l.length - i) = l.length + 1 := by omega
    rw [htd, e1, hcc, hcl, h0]
    exact ret_end 1 (by simp)
  · have e1 : i + 1 + (l.length - i) = l.length + 1 := by omega
    rw [htd, e1, hcc, hcl, cellsI_take]
    exact ret_end 1 (by simp)
theorem insert_ok (l : List Id) (x : Id) (hl6 : l.length ≤ 1000000) : Ret Tryz.prog 61 [.sl l.length (cellsI l), .agg (encI x)] [] (.sl (insD l x).length (cellsI (insD l x))) [] := by
  refine ret_of_wp Tryz.func61 rfl c30 (rs := [.slot 4]) (by kernel_rfl) ?_
  unfold K30
  simp -implicitDefEqProofs [encI]
  refine loopS (S := Nat) (fun i => [(0, .sl l.length (cellsI l)), (3, .ptr 0 0), (5, int i)]) (fun s => [.box (encI x)]) (fun i => i ≤ posD l x) (fun i => l.length - i) 0 (by simp)
    (selW [0] 0 (by simp) (by simp) (by simp [encI]) (by simp)) ?_
  intro i hi
  obtain ⟨p1, p2⟩ := posD_step hi
  have hple := posD_le l x
  have hl : l.length ≤ maxLen := by simp [maxLen]; omega
  by_cases hgo : i < l.length ∧ lessD (l.getD i ⟨0, 0, 0⟩) x = true
  · obtain ⟨h, hls⟩ := hgo
    have hls' : lessD l[i] x = true := by simpa [List.getD_eq_getElem?_getD, h] using hls
    simp -implicitDefEqProofs [h, cellsI_drop h, encI]
    refine dcall0 (less_ok l[i] x) (by simp [encI]) (by simp) ?_
    simp -implicitDefEqProofs [hls']
    exact roundS (i + 1) (p1 ⟨h, hls⟩) (by omega) (selW [0] 0 (by simp) (by simp) (by simp [encI]) (by simp [wrap_succ h hl]))
  · have hip := p2 hgo
    have hins := insD_pos l x
    rw [← hip] at hins
    by_cases h : i < l.length
    · have hls' : lessD l[i] x = false := by
        have : ¬ lessD (l.getD i ⟨0, 0, 0⟩) x = true := fun e => hgo ⟨h, e⟩
        simpa [List.getD_eq_getElem?_getD, h] using this
      simp -implicitDefEqProofs [h, cellsI_drop h, encI]
      refine dcall0 (less_ok l[i] x) (by simp [encI]) (by simp) ?_
      simp -implicitDefEqProofs [hls', h, cellsI_drop h, encI]
      by_cases hx : l[i] = x
      · have h3 : l[i].a = x.a ∧ l[i].b = x.b ∧ l[i].c = x.c := Id.eq_iff.1 hx
        rw [if_pos (by rw [List.getElem?_eq_getElem h, hx])] at hins
        simp -implicitDefEqProofs [same3_id, hx]
        exact ret_end 0 (by simp [hins])
      · have h3 : ¬ (l[i].a = x.a ∧ l[i].b = x.b ∧ l[i].c = x.c) := fun e => hx (Id.eq_iff.2 e)
        rw [if_neg (by rw [List.getElem?_eq_getElem h]; simpa using hx)] at hins
        simp -implicitDefEqProofs [same3_id, hx]
        exact ins_end hl6 (by omega) hins
    · have hil : i = l.length := by omega
      rw [if_neg (by rw [hil]; simp)] at hins
      have hI : ¬ (i : Int) < l.length := by omega
      simp -implicitDefEqProofs [h, hI, encI]
      exact ins_end hl6 (by omega) hins
theorem all_len : ∀ (l acc : List Id), (l.foldl insD acc).length ≤ acc.length + l.length
  | [], acc => by simp
  | x :: l, acc => by
    have h1 := all_len l (insD acc x)
    have h2 := insD_len acc x
    simp only [List.foldl_cons, List.length_cons]
    omega
structure Trc where
  defs : List Id
  nodes : List Id
  deriving DecidableEq
def encTr (t : Trc) : List A := [.sl t.defs.length (cellsI t.defs), .sl t.nodes.length (cellsI t.nodes)]
end Go.Proofs.YthglhccibdlccaaGreatDoor
