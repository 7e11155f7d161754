/-
  slices.Clone, Grow, Concat, SortFunc, Compact at lists of IDs.
  The law's example.
  Types, definitions and nodes are compared.
-/
import Derived.Test.YthglhccibdlccaaGreatDoorX23
import Derived.Test.YthglhccibdlccaaGreatDoorX21
import Derived.Test.YthglhccibdlccaaGreatDoorX24
set_option linter.unusedVariables false
set_option linter.unusedSimpArgs false
namespace Go.Proofs.YthglhccibdlccaaGreatDoor
open Go.Abs
def renIds : Go.Shelf.Ren := ⟨fun | 6 => 95 | 15 => 133 | 14 => 132 | 28 => 154 | 29 => 155 | 20 => 146 | 21 => 147 | 22 => 148 | 23 => 149 | 24 => 150 | 25 => 151 | 26 => 152 | 27 => 153 | 46 => 169 | 49 => 172 | 50 => 173 | 57 => 182 | 47 => 170 | 48 => 171 | n => n, fun | 22 => 45 | 24 => 29 | 25 => 161 | 3 => 3 | 39 => 197 | 0 => 0 | 53 => 218 | 55 => 220 | 4 => 4 | 46 => 211 | 45 => 210 | 50 => 215 | 5 => 5 | 9 => 9 | 66 => 230 | 70 => 234 | 76 => 240 | 77 => 241 | n => n, fun n => n⟩
theorem layIds : Go.Proofs.SlLaysF0.n6 Tryz.prog renIds := {
  mixed := by kernel_rfl,
  f6 := ⟨Tryz.f95.name, by decide, Tryz.func95.trans (congrArg some (by kernel_rfl))⟩,
  f14 := ⟨Tryz.f132.name, by decide, Tryz.func132.trans (congrArg some (by kernel_rfl))⟩,
  f15 := Tryz.func133.trans (congrArg some (by kernel_rfl)),
  f20 := ⟨Tryz.f146.name, by decide, Tryz.func146.trans (congrArg some (by kernel_rfl))⟩,
  f21 := ⟨Tryz.f147.name, by decide, Tryz.func147.trans (congrArg some (by kernel_rfl))⟩,
  f22 := ⟨Tryz.f148.name, by decide, Tryz.func148.trans (congrArg some (by kernel_rfl))⟩,
  f23 := ⟨Tryz.f149.name, by decide, Tryz.func149.trans (congrArg some (by kernel_rfl))⟩,
  f24 := ⟨Tryz.f150.name, by decide, Tryz.func150.trans (congrArg some (by kernel_rfl))⟩,
  f25 := ⟨Tryz.f151.name, by decide, Tryz.func151.trans (congrArg some (by kernel_rfl))⟩,
  f26 := ⟨Tryz.f152.name, by decide, Tryz.func152.trans (congrArg some (by kernel_rfl))⟩,
  f27 := ⟨Tryz.f153.name, by decide, Tryz.func153.trans (congrArg some (by kernel_rfl))⟩,
  f28 := Tryz.func154.trans (congrArg some (by kernel_rfl)),
  f29 := Tryz.func155.trans (congrArg some (by kernel_rfl)),
  f46 := ⟨Tryz.f169.name, by decide, Tryz.func169.trans (congrArg some (by kernel_rfl))⟩,
  f47 := Tryz.func170.trans (congrArg some (by kernel_rfl)),
  f48 := Tryz.func171.trans (congrArg some (by kernel_rfl)),
  f49 := ⟨Tryz.f172.name, by decide, Tryz.func172.trans (congrArg some (by kernel_rfl))⟩,
  f50 := ⟨Tryz.f173.name, by decide, Tryz.func173.trans (congrArg some (by kernel_rfl))⟩,
  f57 := ⟨Tryz.f182.name, by decide, Tryz.func182.trans (congrArg some (by kernel_rfl))⟩,
  t0 := Tryz.underlying0,
  a0 := Tryz.isAgg0,
  z0 := Tryz.sizeOf0,
  v0 := Tryz.zeroValue0,
  t3 := Tryz.underlying3,
  a3 := Tryz.isAgg3,
  z3 := Tryz.sizeOf3,
  v3 := Tryz.zeroValue3,
  t4 := Tryz.underlying4,
  a4 := Tryz.isAgg4,
  z4 := Tryz.sizeOf4,
  v4 := Tryz.zeroValue4,
  t5 := Tryz.underlying5,
  a5 := Tryz.isAgg5,
  z5 := Tryz.sizeOf5,
  v5 := Tryz.zeroValue5,
  t9 := Tryz.underlying9,
  a9 := Tryz.isAgg9,
  z9 := Tryz.sizeOf9,
  v9 := Tryz.zeroValue9,
  t22 := Tryz.underlying45,
  a22 := Tryz.isAgg45,
  z22 := Tryz.sizeOf45,
  v22 := Tryz.zeroValue45,
  t25 := Tryz.underlying161,
  a25 := Tryz.isAgg161,
  z25 := Tryz.sizeOf161,
  v25 := Tryz.zeroValue161,
  t39 := Tryz.underlying197,
  a39 := Tryz.isAgg197,
  z39 := Tryz.sizeOf197,
  v39 := Tryz.zeroValue197,
  t45 := Tryz.underlying210,
  a45 := Tryz.isAgg210,
  z45 := Tryz.sizeOf210,
  v45 := Tryz.zeroValue210,
  t46 := Tryz.underlying211,
  a46 := Tryz.isAgg211,
  z46 := Tryz.sizeOf211,
  v46 := Tryz.zeroValue211,
  t50 := Tryz.underlying215,
  a50 := Tryz.isAgg215,
  z50 := Tryz.sizeOf215,
  v50 := Tryz.zeroValue215,
  t53 := Tryz.underlying218,
  a53 := Tryz.isAgg218,
  z53 := Tryz.sizeOf218,
  v53 := Tryz.zeroValue218,
  t55 := Tryz.underlying220,
  a55 := Tryz.isAgg220,
  z55 := Tryz.sizeOf220,
  v55 := Tryz.zeroValue220,
  t66 := Tryz.underlying230,
  a66 := Tryz.isAgg230,
  z66 := Tryz.sizeOf230,
  v66 := Tryz.zeroValue230,
  t70 := Tryz.underlying234,
  a70 := Tryz.isAgg234,
  z70 := Tryz.sizeOf234,
  v70 := Tryz.zeroValue234,
  t76 := Tryz.underlying240,
  a76 := Tryz.isAgg240,
  z76 := Tryz.sizeOf240,
  v76 := Tryz.zeroValue240,
  t77 := Tryz.underlying241,
  a77 := Tryz.isAgg241,
  z77 := Tryz.sizeOf241,
  v77 := Tryz.zeroValue241 }
def renGIds : Go.Shelf.Ren := ⟨fun | 4 => 116 | n => n, fun | 0 => 0 | 3 => 3 | 4 => 4 | 9 => 9 | 20 => 20 | 22 => 45 | 25 => 29 | n => n, fun n => n⟩
theorem layGIds : Go.Proofs.Lays8.n4 Tryz.prog renGIds := {
  mixed := by kernel_rfl,
  f4 := ⟨Tryz.f116.name, by decide, Tryz.func116.trans (congrArg some (by kernel_rfl))⟩,
  t0 := Tryz.underlying0,
  a0 := Tryz.isAgg0,
  z0 := Tryz.sizeOf0,
  v0 := Tryz.zeroValue0,
  t3 := Tryz.underlying3,
  a3 := Tryz.isAgg3,
  z3 := Tryz.sizeOf3,
  v3 := Tryz.zeroValue3,
  t4 := Tryz.underlying4,
  a4 := Tryz.isAgg4,
  z4 := Tryz.sizeOf4,
  v4 := Tryz.zeroValue4,
  t9 := Tryz.underlying9,
  a9 := Tryz.isAgg9,
  z9 := Tryz.sizeOf9,
  v9 := Tryz.zeroValue9,
  t20 := Tryz.underlying20,
  a20 := Tryz.isAgg20,
  z20 := Tryz.sizeOf20,
  v20 := Tryz.zeroValue20,
  t22 := Tryz.underlying45,
  a22 := Tryz.isAgg45,
  z22 := Tryz.sizeOf45,
  v22 := Tryz.zeroValue45 }
@[simp] theorem calGrow : callable Tryz.prog 116 = true := by kernel_rfl
@[simp] theorem calSort : callable Tryz.prog 95 = true := by kernel_rfl
theorem entersOrder : ∀ args w, (callFunc 96 args).run Tryz.prog w = .ok (.enter 96 args) w := enters_of Tryz.func96 (by kernel_rfl) rfl
theorem sortsIds : SortsP Tryz.prog 95 96 encI cmpD :=
  sortsK (k := 3) (fun _ => rfl) lin_cmpD order_ok fun α _ enc hk h1 cf hO blk off cap d w hcmp hH hblk hsz =>
    Go.Proofs.AnyQ.slices_SortFunc layIds 3 Tryz.isAgg29 Tryz.sizeOf29 enc hk h1 cf hO 96 #[] blk off cap d w entersOrder hcmp hH hblk hsz
theorem noneIds : ∀ (p : Option Addr) (cap : Nat) (fv : Value) (w : World), Calls Tryz.prog 95 #[.slice p 0 cap, fv] w fun e w' => e = .returned (.tuple #[]) ∧ w' = w :=
  fun p cap fv w => Go.Proofs.AnyF.slices_SortFunc_none layIds p cap fv w
theorem cellsI_flat (l : List Id) : l.flatMap encI = cellsI l := by
  induction l with
  | nil => rfl
  | cons v l ih => rw [List.flatMap_cons, ih]; rfl
theorem sortIds_ok (l : List Id) (hmx : l.length < 4611686018427387904) : Ret Tryz.prog 95 [.row 0 l.length, .clo 96 [] []] [.row false 29 3 l.length (cellsI l)] (.tup []) [.row false 29 3 l.length (cellsI (sortL cmpD l))] := by
  have := sort_ret (sz := 3) (by omega) (fun _ => rfl) (fun b => by simp [encI]) lin_cmpD 29 sortsIds noneIds l hmx
  simpa only [cellsI_flat] using this
theorem sortNil_ok (x : A) : Ret Tryz.prog 95 [.sl 0 [], x] [] (.tup []) [] := by
  intro H L w vs hs hvs
  obtain ⟨v, vs', rfl, h1, h2⟩ := relL_cons_inv hvs
  obtain ⟨fv, vs'', rfl, h3, h4⟩ := relL_cons_inv h2
  have := relL_nil_inv h4
  subst this
  simp only [Rel] at h1
  obtain ⟨p, cap, rfl, _⟩ := h1
  refine (noneIds p cap fv w).mono fun e' w' hh => ?_
  obtain ⟨rfl, rfl⟩ := hh
  exact ⟨.ret (.tup []), _, H, L, ⟨_, rfl, by simp [Rel, RelL]⟩, Nxt.refl hs, rfl, rfl⟩
theorem growIds_ok (n : Nat) (hn : n ≤ 1000000) : Ret Tryz.prog 116 [.nil, int n] [] (.row 0 0) [.row false 29 3 0 []] :=
  grow_ret' (ρ := renGIds) (sz := 3) (bs := 24) (z := .agg #[.int .i64 0, .int .i64 0, .int .i64 0]) layGIds (by kernel_rfl) rfl (by omega) (by omega) (by omega)
def KClone : K :=
 K.seq (K.ops [kMn 2])
 (K.seq (K.seq (K.ops [kM 3 0,
 ⟨none, .isz (some 4) false (.tmp 3)⟩])
 (K.cond (.tmp 4)
 (K.seq (K.ops [kMn 2])
 (K.ret))
 (K.skip)))
 (K.seq (K.ops [⟨none, .bslice (some 5) 29 3 0 [] []⟩,
 kM 6 0,
 kP 7 29 3 24 5 6,
 kM 2 7])
 (K.ret)))
theorem cClone : compile Tryz.prog Tryz.f94.ntmps (Tryz.f94.body.getD .skip) = some KClone.erase := by kernel_rfl
@[simp] theorem calClone : callable Tryz.prog 94 = true := by kernel_rfl
def KConcat : K :=
 K.seq (K.ops [kMn 2])
 (K.seq (K.ops [kMi 3 0])
 (K.seq (K.seq (K.ops [kM 9 0,
 kN 10 9,
 kMi 11 0])
 (K.block 0 (K.loop (K.seq (K.ops [kB 12 11 10 .lss])
 (K.seq (K.cond (.tmp 12)
 (K.skip)
 (K.exit 0))
 (K.seq (K.block 1 (K.seq (K.ops [kX 13 9 11 1,
 kL 14 13 1,
 kM 5 14])
 (K.seq (K.ops [kM 15 3,
 kM 16 5,
 kN 17 16,
 kB 18 15 17 .add,
 kM 3 18])
 (K.seq (K.ops [kM 19 3,
 kBi 20 19 0 .lss])
 (K.cond (.tmp 20)
 (K.ops [⟨none, .mop (some 21) .boom []⟩,
 ⟨none, .mop none .boom []⟩])
 (K.skip))))))
 (K.ops [kBi 22 11 1 .add,
 kM 11 22])))))))
 (K.seq (K.ops [kM 23 3,
 kC 24 116 [(.const (.slice none 0 0)), (.tmp 23)],
 kM 6 24])
 (K.seq (K.seq (K.ops [kM 25 0,
 kN 26 25,
 kMi 27 0])
 (K.block 2 (K.loop (K.seq (K.ops [kB 28 27 26 .lss])
 (K.seq (K.cond (.tmp 28)
 (K.skip)
 (K.exit 2))
 (K.seq (K.block 3 (K.seq (K.ops [kX 29 25 27 1,
 kL 30 29 1,
 kM 8 30])
 (K.ops [kM 31 6,
 kM 32 8,
 kP 33 29 3 24 31 32,
 kM 6 33])))
 (K.ops [kBi 34 27 1 .add,
 kM 27 34])))))))
 (K.seq (K.ops [kM 35 6,
 kM 2 35])
 (K.ret))))))
theorem cConcat : compile Tryz.prog Tryz.f69.ntmps (Tryz.f69.body.getD .skip) = some KConcat.erase := by kernel_rfl
@[simp] theorem calConcat : callable Tryz.prog 69 = true := by kernel_rfl
def KCompact : K :=
 K.seq (K.ops [kMn 2])
 (K.seq (K.seq (K.ops [kM 6 0,
 kN 7 6,
 kBi 8 7 2 .lss])
 (K.cond (.tmp 8)
 (K.seq (K.ops [kM 9 0,
 kM 2 9])
 (K.ret))
 (K.skip)))
 (K.seq (K.seq (K.ops [kMi 3 1])
 (K.block 0 (K.loop (K.seq (K.seq (K.ops [kM 10 3,
 kM 11 0,
 kN 12 11,
 kB 13 10 12 .lss])
 (K.cond (.tmp 13)
 (K.skip)
 (K.exit 0)))
 (K.seq (K.block 1 (K.seq (K.dops [(0, 0, kM 16 0),
 (1, 0, kM 17 3),
 (2, 0, kX 18 16 17 3),
 (3, 0, kG 19 18 3),
 (4, 0, kM 20 0),
 (5, 0, kM 21 3),
 (6, 0, kBi 22 21 1 .sub),
 (7, 0, kX 23 20 22 3),
 (8, 0, kG 24 23 3),
 (9, 0, ⟨none, .eqs (some 25) false [.i, .i, .i] (.tmp 19) (.tmp 24)⟩)])
 (K.cond (.tmp 25)
 (K.seq (K.ops [kM 26 0,
 kM 27 3,
 ⟨none, .rslc (some 28) (.tmp 26) 3 (some (.tmp 27)) none⟩,
 kM 4 28])
 (K.seq (K.seq (K.ops [kMi 5 1])
 (K.block 2 (K.loop (K.seq (K.seq (K.ops [kM 29 5,
 kM 30 4,
 kN 31 30,
 kB 32 29 31 .lss])
 (K.cond (.tmp 32)
 (K.skip)
 (K.exit 2)))
 (K.seq (K.block 3 (K.seq (K.dops [(0, 0, kM 35 4),
 (1, 0, kM 36 5),
 (2, 0, kX 37 35 36 3),
 (3, 0, kG 38 37 3),
 (4, 0, kM 39 4),
 (5, 0, kM 40 5),
 (6, 0, kBi 41 40 1 .sub),
 (7, 0, kX 42 39 41 3),
 (8, 0, kG 43 42 3),
 (9, 0, ⟨none, .eqs (some 44) true [.i, .i, .i] (.tmp 38) (.tmp 43)⟩)])
 (K.cond (.tmp 44)
 (K.seq (K.ops [kM 45 0,
 kM 46 3,
 kM 47 4,
 kM 48 5,
 kX 49 47 48 3,
 kG 50 49 3,
 kX 51 45 46 3,
 kS 51 50 3])
 (K.ops [kM 52 3,
 kBi 53 52 1 .add,
 kM 3 53]))
 (K.skip))))
 (K.ops [kM 33 5,
 kBi 34 33 1 .add,
 kM 5 34]))))))
 (K.seq (K.ops [kM 54 0,
 kM 55 3,
 ⟨none, .rslc (some 56) (.tmp 54) 3 (some (.tmp 55)) none⟩,
 ⟨none, .mop none (.clr 3 [(.int .i64 0), (.int .i64 0), (.int .i64 0)]) [(.tmp 56)]⟩])
 (K.seq (K.ops [kM 57 0,
 kM 58 3,
 ⟨none, .rslc (some 59) (.tmp 57) 3 none (some (.tmp 58))⟩,
 kM 2 59])
 (K.ret)))))
 (K.skip))))
 (K.ops [kM 14 3,
 kBi 15 14 1 .add,
 kM 3 15]))))))
 (K.seq (K.ops [kM 60 0,
 kM 2 60])
 (K.ret))))
theorem cCompact : compile Tryz.prog Tryz.f97.ntmps (Tryz.f97.body.getD .skip) = some KCompact.erase := by kernel_rfl
@[simp] theorem calCompact : callable Tryz.prog 97 = true := by kernel_rfl
theorem cloneIds_ok (l : List Id) (h : l ≠ []) (hb : l.length ≤ 1000000) : Ret Tryz.prog 94 [.sl l.length (cellsI l)] [] (.row 0 l.length) [.row false 29 3 l.length (cellsI l)] := by
  refine ret_of_wp Tryz.func94 rfl cClone (rs := [.slot 2]) (by kernel_rfl) ?_
  unfold KClone
  simp -implicitDefEqProofs [h]
  refine ⟨⟨by simp [maxLen]; omega, by omega⟩, ?_⟩
  exact ret_keep [0] 0 (by simp) (by simp) (by simp) (by simp)
theorem cloneNil_ok : Ret Tryz.prog 94 [.sl 0 []] [] (.sl 0 []) [] := by
  refine ret_of_wp Tryz.func94 rfl cClone (rs := [.slot 2]) (by kernel_rfl) ?_
  unfold KClone
  simp -implicitDefEqProofs
  exact ⟨ret_end 0 (by simp), ret_end 0 (by simp)⟩
def cellsL (Ls : List (List Id)) : List A := Ls.map fun l => A.sl l.length (cellsI l)
theorem cellsL_plain : ∀ (Ls : List (List Id)), Plain (cellsL Ls)
  | [] => Plain.nil
  | l :: Ls => by
    have h1 := cellsL_plain Ls
    have h2 := cellsI_plain l
    refine ⟨?_, fun rf g => ?_⟩
    · show nrm0L (A.sl l.length (cellsI l) :: cellsL Ls) = _
      simp [h1.1]
      rfl
    · show vwL rf g (A.sl l.length (cellsI l) :: cellsL Ls) = _
      simp [h1.2]
      rfl
@[simp] theorem nrm0_cellsL (l : List (List Id)) : nrm0L (cellsL l) = cellsL l := (cellsL_plain l).1
@[simp] theorem vw_cellsL {rf g} (l : List (List Id)) : vwL rf g (cellsL l) = cellsL l := (cellsL_plain l).2 _ _
@[simp] theorem cellsL_len (l : List (List Id)) : (cellsL l).length = l.length := by simp [cellsL]
theorem cellsL_drop {Ls : List (List Id)} {i : Nat} (h : i < Ls.length) : (cellsL Ls).drop i = .sl Ls[i].length (cellsI Ls[i]) :: cellsL (Ls.drop (i + 1)) := by
  rw [cellsL, ← List.map_drop, List.drop_eq_getElem_cons h]; rfl
def totL (Ls : List (List Id)) : Nat := Ls.flatten.length
theorem totL_succ {Ls : List (List Id)} {i : Nat} (h : i < Ls.length) : totL (Ls.take (i + 1)) = totL (Ls.take i) + Ls[i].length := by
  rw [totL, totL, List.take_succ_eq_append_getElem h, List.flatten_append]; simp
theorem totL_le (Ls : List (List Id)) (i : Nat) : totL (Ls.take i) ≤ totL Ls := by
  have : Ls.flatten = (Ls.take i).flatten ++ (Ls.drop i).flatten := by rw [← List.flatten_append, List.take_append_drop]
  rw [totL, totL, this, List.length_append]; omega
theorem concatIds_ok (Ls : List (List Id)) (hb : totL Ls ≤ 1000000) : Ret Tryz.prog 69 [.sl Ls.length (cellsL Ls)] [] (.sl (totL Ls) (cellsI Ls.flatten)) [] := by
  refine ret_of_wp Tryz.func69 rfl cConcat (rs := [.slot 2]) (by kernel_rfl) ?_
  unfold KConcat
  simp -implicitDefEqProofs
  intro hl
  refine loopS (S := Nat) (fun i => [(0, .sl Ls.length (cellsL Ls)), (3, int (totL (Ls.take i))), (9, .sl Ls.length (cellsL Ls)), (10, int Ls.length), (11, int i)]) (fun s => []) (fun i => i ≤ Ls.length) (fun i => Ls.length - i) 0 (by simp)
    (selW [] 0 (by simp) (by simp) (by simp) (by simp [totL])) ?_
  intro i hi
  by_cases h : i < Ls.length
  · have ht := totL_succ h
    have hle := totL_le Ls (i + 1)
    have hw : IntKind.i64.wrap ((totL (Ls.take i) : Int) + (Ls[i].length : Int)) = (totL (Ls.take (i + 1)) : Nat) := by rw [ht]; push_cast; exact IntWalk.i64_in _ (by omega)
    have h0 : ¬ ((totL (Ls.take (i + 1)) : Nat) : Int) < 0 := by omega
    simp -implicitDefEqProofs [h, cellsL_drop h]
    intro _
    simp -implicitDefEqProofs [hw, h0]
    exact roundS (i + 1) h (by omega) (selW [] 0 (by simp) (by simp) (by simp) (by simp [wrap_succ h hl]))
  · have hil : i = Ls.length := by omega
    subst hil
    have hI : ¬ (Ls.length : Int) < Ls.length := by omega
    simp -implicitDefEqProofs
    refine callJ (growIds_ok (totL Ls) hb) [] (by simp) (by simp) (by simp) ?_
    simp -implicitDefEqProofs
    intro _
    refine loopS (S := Nat) (fun i => [(6, .row 0 (totL (Ls.take i))), (25, .sl Ls.length (cellsL Ls)), (26, int Ls.length), (27, int i)]) (fun i => [.row false 29 3 (totL (Ls.take i)) (cellsI (Ls.take i).flatten)]) (fun i => i ≤ Ls.length) (fun i => Ls.length - i) 0 (by simp)
      (selW [0] 0 (by simp) (by simp) (by simp [totL]) (by simp [totL])) ?_
    intro i hi
    by_cases h : i < Ls.length
    · have ht := totL_succ h
      have hle := totL_le Ls (i + 1)
      have hf : (Ls.take (i + 1)).flatten = (Ls.take i).flatten ++ Ls[i] := by rw [List.take_succ_eq_append_getElem h, List.flatten_append]; simp
      simp -implicitDefEqProofs [h, cellsL_drop h]
      refine ⟨⟨by simp [maxLen]; omega, by omega⟩, ?_⟩
      exact roundS (i + 1) h (by omega) (selW [0] 0 (by simp) (by simp) (by simp [ht, hf, cellsI_append]) (by simp [ht, wrap_succ h hl]))
    · have hil : i = Ls.length := by omega
      subst hil
      simp -implicitDefEqProofs
      exact ret_end 1 (by simp)
end Go.Proofs.YthglhccibdlccaaGreatDoor
namespace Go.Proofs.YthglhccibdlccaaGreatDoor
open Go.Abs
def KId : K :=
 K.seq (K.ops [kZ 2 [(.int .i64 0), (.int .i64 0), (.int .i64 0)]])
 (K.seq (K.ops [kM 3 0,
 ⟨none, .build (some 4) [(.int .i64 0), (.int .i64 0), (.int .i64 0)] [(1, 1, (.const (.int .i64 1))), (2, 1, (.tmp 3))]⟩,
 kS 2 4 3])
 (K.ret))
theorem cId : compile Tryz.prog Tryz.f40.ntmps (Tryz.f40.body.getD .skip) = some KId.erase := by kernel_rfl
@[simp] theorem calId : callable Tryz.prog 40 = true := by kernel_rfl
def EId : Entry := ⟨KId, [.cell 2 3 true], false⟩
theorem eokId : EntryOk Tryz.prog 40 EId := ⟨calId, _, _, noHint, Tryz.func40, rfl, cId, by kernel_rfl⟩
def KVar : K :=
 K.seq (K.ops [kZ 4 kz1])
 (K.seq (K.ops [kM 5 0,
 kC 6 40 [(.tmp 5)],
 kM 7 1,
 kC 8 40 [(.tmp 7)],
 ⟨none, .build (some 9) kz1 [(0, 3, (.tmp 6)), (3, 1, (.const (.int .i64 2))), (5, 3, (.tmp 8))]⟩,
 kS 4 9 15])
 (K.ret))
theorem cVar : compile Tryz.prog Tryz.f88.ntmps (Tryz.f88.body.getD .skip) = some KVar.erase := by kernel_rfl
@[simp] theorem calVar : callable Tryz.prog 88 = true := by kernel_rfl
def EVar : Entry := ⟨KVar, [.cell 4 15 true], false⟩
theorem eokVar : EntryOk Tryz.prog 88 EVar := ⟨calVar, _, _, noHint, Tryz.func88, rfl, cVar, by kernel_rfl⟩
def KEx : K :=
 K.seq (K.ops [kZ 0 [(.slice none 0 0), (.slice none 0 0)]])
 (K.seq (K.ops [kC 5 40 [(.const (.int .i64 11))],
 kC 6 88 [(.const (.int .i64 12)), (.const (.int .i64 2))],
 kC 7 40 [(.const (.int .i64 13))],
 ⟨none, .build (some 8) kz1 [(0, 3, (.tmp 7)), (4, 1, (.const (.int .i64 3)))]⟩,
 ⟨none, .bslice (some 9) 37 15 2 kz6 [(0, 15, (.tmp 6)), (15, 15, (.tmp 8))]⟩,
 ⟨none, .build (some 10) kz1 [(0, 3, (.tmp 5)), (3, 1, (.const (.int .i64 4))), (4, 1, (.const (.int .i64 5))), (13, 1, (.tmp 9))]⟩,
 kZ 1 kz1,
 kS 1 10 15])
 (K.seq (K.ops [kC 11 40 [(.const (.int .i64 15))],
 kC 12 40 [(.const (.int .i64 3))],
 kC 13 88 [(.const (.int .i64 16)), (.const (.int .i64 2))],
 ⟨none, .bslice (some 14) 37 15 1 kz1 [(0, 15, (.tmp 13))]⟩,
 ⟨none, .build (some 15) kz1 [(0, 3, (.tmp 11)), (3, 1, (.const (.int .i64 3))), (5, 3, (.tmp 12)), (13, 1, (.tmp 14))]⟩,
 kZ 2 kz1,
 kS 2 15 15])
 (K.seq (K.dops [(0, 1, kC 16 40 [(.const (.int .i64 1))]),
 (1, 1, kC 17 40 [(.const (.int .i64 0))]),
 (2, 1, kC 18 40 [(.const (.int .i64 2))]),
 (3, 0, ⟨none, .build (some 19) kz5 [(0, 3, (.tmp 18)), (3, 1, (.const (.string ⟨#[97]⟩)))]⟩),
 (4, 0, ⟨none, .bslice (some 20) 90 11 1 kz5 [(0, 11, (.tmp 19))]⟩),
 (5, 1, kC 21 40 [(.const (.int .i64 10))]),
 (6, 1, kG 22 1 15),
 (7, 1, kC 23 88 [(.const (.int .i64 14)), (.const (.int .i64 2))]),
 (8, 1, kG 24 2 15),
 (9, 0, ⟨none, .bslice (some 25) 37 15 3 kz4 [(0, 15, (.tmp 22)), (15, 15, (.tmp 23)), (30, 15, (.tmp 24))]⟩),
 (10, 0, ⟨none, .build (some 26) kz1 [(0, 3, (.tmp 21)), (3, 1, (.const (.int .i64 5))), (13, 1, (.tmp 25))]⟩),
 (11, 0, ⟨none, .build (some 27) kz0 [(0, 3, (.tmp 16)), (3, 1, (.const (.int .i64 2))), (4, 3, (.tmp 17)), (7, 1, (.const (.string ⟨#[102]⟩))), (8, 1, (.tmp 20)), (14, 15, (.tmp 26))]⟩),
 (12, 0, kZ 3 kz0),
 (13, 0, kS 3 27 31)])
 (K.seq (K.ops [kC 28 40 [(.const (.int .i64 3))],
 kC 29 40 [(.const (.int .i64 0))],
 kC 30 40 [(.const (.int .i64 4))],
 ⟨none, .build (some 31) kz5 [(0, 3, (.tmp 30)), (3, 1, (.const (.string ⟨#[97]⟩)))]⟩,
 ⟨none, .bslice (some 32) 90 11 1 kz5 [(0, 11, (.tmp 31))]⟩,
 kC 33 88 [(.const (.int .i64 17)), (.const (.int .i64 4))],
 ⟨none, .build (some 34) kz0 [(0, 3, (.tmp 28)), (3, 1, (.const (.int .i64 2))), (4, 3, (.tmp 29)), (7, 1, (.const (.string ⟨#[103]⟩))), (8, 1, (.tmp 32)), (14, 15, (.tmp 33))]⟩,
 kZ 4 kz0,
 kS 4 34 31])
 (K.seq (K.dops [(0, 1, kC 35 40 [(.const (.int .i64 0))]),
 (1, 1, kC 36 40 [(.const (.int .i64 1))]),
 (2, 1, kC 37 40 [(.const (.int .i64 3))]),
 (3, 0, ⟨none, .bslice (some 38) 29 3 2 [(.int .i64 0), (.int .i64 0), (.int .i64 0), (.int .i64 0), (.int .i64 0), (.int .i64 0)] [(0, 3, (.tmp 36)), (3, 3, (.tmp 37))]⟩),
 (4, 0, ⟨none, .build (some 39) kz9 [(0, 3, (.tmp 35)), (3, 1, (.const (.string ⟨#[109]⟩))), (5, 1, (.tmp 38))]⟩),
 (5, 0, ⟨none, .bslice (some 40) 84 6 1 kz9 [(0, 6, (.tmp 39))]⟩),
 (6, 1, kG 41 3 31),
 (7, 1, kG 42 4 31),
 (8, 9, ⟨none, .brow (some 43) 39 31 2 kz8 [(0, 31, (.tmp 41)), (31, 31, (.tmp 42))]⟩),
 (9, 0, ⟨none, .build (some 44) [(.slice none 0 0), (.slice none 0 0)] [(0, 1, (.tmp 40)), (1, 1, (.tmp 43))]⟩),
 (10, 0, kS 0 44 2)])
 (K.ret))))))
def hEx : Nat → Option (List (Nat × Nat)) := fun r => match r with | 5 => some [(0,1),(1,1),(2,1),(3,0),(4,0),(5,0),(6,1),(7,1),(8,9),(9,0),(10,0)] | _ => none
theorem cEx : compileH Tryz.prog Tryz.f39.ntmps hEx (Tryz.f39.body.getD .skip) = some KEx.erase := by kernel_rfl
@[simp] theorem calEx : callable Tryz.prog 39 = true := by kernel_rfl
def EEx : Entry := ⟨KEx, [.cell 0 2 true], false⟩
theorem eokEx : EntryOk Tryz.prog 39 EEx := ⟨calEx, _, _, hEx, Tryz.func39, rfl, cEx, by kernel_rfl⟩
def expN (i : Int) (k n : Int) (r : Int) (kids : List Exp) : Exp := .mk ⟨0, 1, i⟩ k n (if r < 0 then Id.zero else ⟨0, 1, r⟩) Typ.zero kids []
def exF : Dfn := ⟨⟨0, 1, 1⟩, 2, ⟨0, 1, 0⟩, ⟨#[102]⟩, [⟨⟨0, 1, 2⟩, ⟨#[97]⟩, Typ.zero, 0, 0⟩], Typ.zero,
  expN 10 5 0 (-1) [expN 11 4 5 (-1) [expN 12 2 0 2 [], expN 13 0 3 (-1) []], expN 14 2 0 2 [], expN 15 3 0 3 [expN 16 2 0 2 []]], 0, []⟩
def exG (b : Exp) : Dfn := ⟨⟨0, 1, 3⟩, 2, ⟨0, 1, 0⟩, ⟨#[103]⟩, [⟨⟨0, 1, 4⟩, ⟨#[97]⟩, Typ.zero, 0, 0⟩], Typ.zero, b, 0, []⟩
def exM : Md := ⟨⟨0, 1, 0⟩, ⟨#[109]⟩, [], [⟨0, 1, 1⟩, ⟨0, 1, 3⟩]⟩
def exP : Prg := ⟨[exM], [exF, exG (expN 17 2 0 4 [])]⟩
def exQ : Prg := ⟨[exM], [exF, exG (expN 17 0 7 (-1) [])]⟩
end Go.Proofs.YthglhccibdlccaaGreatDoor
namespace Go.Proofs.YthglhccibdlccaaGreatDoor
open Go.Abs
def allS {α : Type} (same : α → α → Bool) : List α → List α → Bool
  | [], [] => true
  | x :: a, y :: b => same x y && allS same a b
  | _, _ => false
theorem allS_len {α : Type} {same : α → α → Bool} : ∀ {a b : List α}, a.length ≠ b.length → allS same a b = false
  | [], [], h => (h rfl).elim
  | x :: a, y :: b, h => by simp only [allS, allS_len (a := a) (b := b) (by simpa using h), Bool.and_false]
  | [], _ :: _, _ => rfl
  | _ :: _, [], _ => rfl
theorem allS_iff {α : Type} {same : α → α → Bool} : ∀ {a b : List α} (hl : a.length = b.length), allS same a b = true ↔ ∀ (j : Nat) (h : j < a.length), same a[j] (b[j]'(hl ▸ h)) = true
  | [], [], _ => by simp [allS]
  | x :: a, y :: b, hl => by
    simp only [allS, Bool.and_eq_true, allS_iff (a := a) (b := b) (by simpa using hl)]
    constructor
    · rintro ⟨h1, h2⟩ j h
      cases j with
      | zero => exact h1
      | succ j => exact h2 j (by simpa using h)
    · intro h
      exact ⟨h 0 (by simp), fun j hj => h (j + 1) (by simpa using hj)⟩
  | [], _ :: _, hl => by simp at hl
  | _ :: _, [], hl => by simp at hl
def KEqT : K :=
 K.seq (K.ops [kMb 6 false])
 (K.seq (K.seq (K.ops [kM 10 0,
 kN 11 10,
 kM 12 1,
 kN 13 12,
 kQ 14 11 13 true])
 (K.cond (.tmp 14)
 (K.seq (K.ops [kMb 6 false])
 (K.ret))
 (K.skip)))
 (K.seq (K.seq (K.ops [kM 15 0,
 kN 16 15,
 kMi 17 0])
 (K.block 0 (K.loop (K.seq (K.ops [kB 18 17 16 .lss])
 (K.seq (K.cond (.tmp 18)
 (K.skip)
 (K.exit 0))
 (K.seq (K.block 1 (K.seq (K.ops [kM 19 17,
 kX 20 15 17 5,
 kG 21 20 5,
 kZ 8 kz2,
 kM 7 19,
 kS 8 21 5])
 (K.seq (K.ops [kM 22 1,
 kM 23 7,
 kX 24 22 23 5,
 kG 25 24 5,
 kZ 9 kz2,
 kS 9 25 5])
 (K.seq (K.ops [kM 26 2,
 kG 27 8 5,
 kG 28 9 5,
 ⟨none, .call (some 29) (.tmp 26) [(.tmp 27), (.tmp 28)]⟩,
 kR 30 29])
 (K.cond (.tmp 30)
 (K.seq (K.ops [kMb 6 false])
 (K.ret))
 (K.skip))))))
 (K.ops [kBi 31 17 1 .add,
 kM 17 31])))))))
 (K.seq (K.ops [kMb 6 true])
 (K.ret))))
theorem cEqT : compile Tryz.prog Tryz.f139.ntmps (Tryz.f139.body.getD .skip) = some KEqT.erase := by kernel_rfl
@[simp] theorem calEqT : callable Tryz.prog 139 = true := by kernel_rfl
theorem eqFT_ok (g : FuncId) (hcal : callable Tryz.prog g = true) (same : Typ → Typ → Bool) (a b : List Typ) (h : ∀ x ∈ a, ∀ y ∈ b, Ret Tryz.prog g [.agg (encT x), .agg (encT y)] [] (bl (same x y)) []) :
    Ret Tryz.prog 139 [.sl a.length (cellsT a), .sl b.length (cellsT b), .clo g [] []] [] (bl (allS same a b)) [] := by
  refine ret_of_wp Tryz.func139 rfl cEqT (rs := [.slot 6]) (by kernel_rfl) ?_
  unfold KEqT
  by_cases hab : a.length = b.length
  · simp -implicitDefEqProofs [hab]
    intro hlb
    refine loopS (S := Nat) (fun i => [(1, .sl b.length (cellsT b)), (2, .clo g [] []), (15, .sl a.length (cellsT a)), (16, int a.length), (17, int i)]) (fun s => []) (fun i => i ≤ a.length ∧ ∀ (j : Nat) (h : j < a.length), j < i → same a[j] (b[j]'(hab ▸ h)) = true) (fun i => a.length - i) 0 (by simp)
      (selW [] 0 (by simp) (by simp) (by simp) (by simp [hab])) ?_
    rintro i ⟨hi, hn⟩
    by_cases hia : i < a.length
    · have hib : i < b.length := by omega
      have hla : i * 5 < a.length * 5 := by omega
      have hlb' : i * 5 < b.length * 5 := by omega
      simp -implicitDefEqProofs [hia, hib, cellsT_drop hia, cellsT_drop hib, hcal, encT]
      refine call0 (h a[i] (List.getElem_mem hia) b[i] (List.getElem_mem hib)) (by simp [encT]) (by simp) ?_
      cases hs : same a[i] b[i] with
      | true =>
        simp -implicitDefEqProofs
        exact roundS (i + 1) ⟨hia, fun j hj hji => by
          by_cases e : j = i
          · subst e; exact hs
          · exact hn j hj (by omega)⟩ (by omega) (selW [] 0 (by simp) (by simp) (by simp) (by simp [wrap_succ hib hlb]))
      | false =>
        have hf : allS same a b = false := by
          cases hh : allS same a b with
          | false => rfl
          | true => have := (allS_iff hab).1 hh i hia; rw [hs] at this; cases this
        simp -implicitDefEqProofs
        exact ret_end 0 (by simp [hf])
    · have hil : i = a.length := by omega
      subst hil
      have ht : allS same a b = true := (allS_iff hab).2 fun j hj => hn j hj hj
      simp -implicitDefEqProofs
      exact ret_end 0 (by simp [ht])
  · have hab' : ¬ (a.length : Int) = b.length := by omega
    simp -implicitDefEqProofs [hab']
    exact fun _ _ => ret_end 0 (by simp [allS_len hab])
def KEqS : K :=
 K.seq (K.ops [kMb 6 false])
 (K.seq (K.seq (K.ops [kM 10 0,
 kN 11 10,
 kM 12 1,
 kN 13 12,
 kQ 14 11 13 true])
 (K.cond (.tmp 14)
 (K.seq (K.ops [kMb 6 false])
 (K.ret))
 (K.skip)))
 (K.seq (K.seq (K.ops [kM 15 0,
 kN 16 15,
 kMi 17 0])
 (K.block 0 (K.loop (K.seq (K.ops [kB 18 17 16 .lss])
 (K.seq (K.cond (.tmp 18)
 (K.skip)
 (K.exit 0))
 (K.seq (K.block 1 (K.seq (K.ops [kM 19 17,
 kX 20 15 17 11,
 kG 21 20 11,
 kZ 8 kz5,
 kM 7 19,
 kS 8 21 11])
 (K.seq (K.ops [kM 22 1,
 kM 23 7,
 kX 24 22 23 11,
 kG 25 24 11,
 kZ 9 kz5,
 kS 9 25 11])
 (K.seq (K.ops [kM 26 2,
 kG 27 8 11,
 kG 28 9 11,
 ⟨none, .call (some 29) (.tmp 26) [(.tmp 27), (.tmp 28)]⟩,
 kR 30 29])
 (K.cond (.tmp 30)
 (K.seq (K.ops [kMb 6 false])
 (K.ret))
 (K.skip))))))
 (K.ops [kBi 31 17 1 .add,
 kM 17 31])))))))
 (K.seq (K.ops [kMb 6 true])
 (K.ret))))
theorem cEqS : compile Tryz.prog Tryz.f106.ntmps (Tryz.f106.body.getD .skip) = some KEqS.erase := by kernel_rfl
@[simp] theorem calEqS : callable Tryz.prog 106 = true := by kernel_rfl
theorem eqFS_ok (g : FuncId) (hcal : callable Tryz.prog g = true) (same : Slt → Slt → Bool) (a b : List Slt) (h : ∀ x ∈ a, ∀ y ∈ b, Ret Tryz.prog g [.agg (encS x), .agg (encS y)] [] (bl (same x y)) []) :
    Ret Tryz.prog 106 [.sl a.length (cellsS a), .sl b.length (cellsS b), .clo g [] []] [] (bl (allS same a b)) [] := by
  refine ret_of_wp Tryz.func106 rfl cEqS (rs := [.slot 6]) (by kernel_rfl) ?_
  unfold KEqS
  by_cases hab : a.length = b.length
  · simp -implicitDefEqProofs [hab]
    intro hlb
    refine loopS (S := Nat) (fun i => [(1, .sl b.length (cellsS b)), (2, .clo g [] []), (15, .sl a.length (cellsS a)), (16, int a.length), (17, int i)]) (fun s => []) (fun i => i ≤ a.length ∧ ∀ (j : Nat) (h : j < a.length), j < i → same a[j] (b[j]'(hab ▸ h)) = true) (fun i => a.length - i) 0 (by simp)
      (selW [] 0 (by simp) (by simp) (by simp) (by simp [hab])) ?_
    rintro i ⟨hi, hn⟩
    by_cases hia : i < a.length
    · have hib : i < b.length := by omega
      have hla : i * 11 < a.length * 11 := by omega
      have hlb' : i * 11 < b.length * 11 := by omega
      simp -implicitDefEqProofs [hia, hib, cellsS_drop hia, cellsS_drop hib, hcal, encS]
      refine call0 (h a[i] (List.getElem_mem hia) b[i] (List.getElem_mem hib)) (by simp [encS]) (by simp) ?_
      cases hs : same a[i] b[i] with
      | true =>
        simp -implicitDefEqProofs
        exact roundS (i + 1) ⟨hia, fun j hj hji => by
          by_cases e : j = i
          · subst e; exact hs
          · exact hn j hj (by omega)⟩ (by omega) (selW [] 0 (by simp) (by simp) (by simp) (by simp [wrap_succ hib hlb]))
      | false =>
        have hf : allS same a b = false := by
          cases hh : allS same a b with
          | false => rfl
          | true => have := (allS_iff hab).1 hh i hia; rw [hs] at this; cases this
        simp -implicitDefEqProofs
        exact ret_end 0 (by simp [hf])
    · have hil : i = a.length := by omega
      subst hil
      have ht : allS same a b = true := (allS_iff hab).2 fun j hj => hn j hj hj
      simp -implicitDefEqProofs
      exact ret_end 0 (by simp [ht])
  · have hab' : ¬ (a.length : Int) = b.length := by omega
    simp -implicitDefEqProofs [hab']
    exact fun _ _ => ret_end 0 (by simp [allS_len hab])
def KEqE : K :=
 K.seq (K.ops [kMb 6 false])
 (K.seq (K.seq (K.ops [kM 10 0,
 kN 11 10,
 kM 12 1,
 kN 13 12,
 kQ 14 11 13 true])
 (K.cond (.tmp 14)
 (K.seq (K.ops [kMb 6 false])
 (K.ret))
 (K.skip)))
 (K.seq (K.seq (K.ops [kM 15 0,
 kN 16 15,
 kMi 17 0])
 (K.block 0 (K.loop (K.seq (K.ops [kB 18 17 16 .lss])
 (K.seq (K.cond (.tmp 18)
 (K.skip)
 (K.exit 0))
 (K.seq (K.block 1 (K.seq (K.ops [kM 19 17,
 kX 20 15 17 15,
 kG 21 20 15,
 kZ 8 kz1,
 kM 7 19,
 kS 8 21 15])
 (K.seq (K.ops [kM 22 1,
 kM 23 7,
 kX 24 22 23 15,
 kG 25 24 15,
 kZ 9 kz1,
 kS 9 25 15])
 (K.seq (K.ops [kM 26 2,
 kG 27 8 15,
 kG 28 9 15,
 ⟨none, .call (some 29) (.tmp 26) [(.tmp 27), (.tmp 28)]⟩,
 kR 30 29])
 (K.cond (.tmp 30)
 (K.seq (K.ops [kMb 6 false])
 (K.ret))
 (K.skip))))))
 (K.ops [kBi 31 17 1 .add,
 kM 17 31])))))))
 (K.seq (K.ops [kMb 6 true])
 (K.ret))))
theorem cEqE : compile Tryz.prog Tryz.f108.ntmps (Tryz.f108.body.getD .skip) = some KEqE.erase := by kernel_rfl
@[simp] theorem calEqE : callable Tryz.prog 108 = true := by kernel_rfl
theorem eqFE_ok (g : FuncId) (hcal : callable Tryz.prog g = true) (same : Exp → Exp → Bool) (a b : List Exp) (h : ∀ x ∈ a, ∀ y ∈ b, Ret Tryz.prog g [.agg (encE x), .agg (encE y)] [] (bl (same x y)) []) :
    Ret Tryz.prog 108 [.sl a.length (cellsE a), .sl b.length (cellsE b), .clo g [] []] [] (bl (allS same a b)) [] := by
  refine ret_of_wp Tryz.func108 rfl cEqE (rs := [.slot 6]) (by kernel_rfl) ?_
  unfold KEqE
  by_cases hab : a.length = b.length
  · simp -implicitDefEqProofs [hab]
    intro hlb
    refine loopS (S := Nat) (fun i => [(1, .sl b.length (cellsE b)), (2, .clo g [] []), (15, .sl a.length (cellsE a)), (16, int a.length), (17, int i)]) (fun s => []) (fun i => i ≤ a.length ∧ ∀ (j : Nat) (h : j < a.length), j < i → same a[j] (b[j]'(hab ▸ h)) = true) (fun i => a.length - i) 0 (by simp)
      (selW [] 0 (by simp) (by simp) (by simp) (by simp [hab])) ?_
    rintro i ⟨hi, hn⟩
    by_cases hia : i < a.length
    · have hib : i < b.length := by omega
      have hla : i * 15 < a.length * 15 := by omega
      have hlb' : i * 15 < b.length * 15 := by omega
      simp -implicitDefEqProofs [hia, hib, cellsE_drop hia, cellsE_drop hib, hcal, encE]
      refine call0 (h a[i] (List.getElem_mem hia) b[i] (List.getElem_mem hib)) (by simp [encE]) (by simp) ?_
      cases hs : same a[i] b[i] with
      | true =>
        simp -implicitDefEqProofs
        exact roundS (i + 1) ⟨hia, fun j hj hji => by
          by_cases e : j = i
          · subst e; exact hs
          · exact hn j hj (by omega)⟩ (by omega) (selW [] 0 (by simp) (by simp) (by simp) (by simp [wrap_succ hib hlb]))
      | false =>
        have hf : allS same a b = false := by
          cases hh : allS same a b with
          | false => rfl
          | true => have := (allS_iff hab).1 hh i hia; rw [hs] at this; cases this
        simp -implicitDefEqProofs
        exact ret_end 0 (by simp [hf])
    · have hil : i = a.length := by omega
      subst hil
      have ht : allS same a b = true := (allS_iff hab).2 fun j hj => hn j hj hj
      simp -implicitDefEqProofs
      exact ret_end 0 (by simp [ht])
  · have hab' : ¬ (a.length : Int) = b.length := by omega
    simp -implicitDefEqProofs [hab']
    exact fun _ _ => ret_end 0 (by simp [allS_len hab])
end Go.Proofs.YthglhccibdlccaaGreatDoor
