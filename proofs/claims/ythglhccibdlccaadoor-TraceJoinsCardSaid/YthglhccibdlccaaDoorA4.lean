/-
  slices.Clone, Grow, Concat, SortFunc, Compact at lists of IDs.
-/
import Derived.Test.YthglhccibdlccaaDoorA3
import Derived.Test.YthglhccibdlccaaDoorG1
namespace Go.Proofs.YthglhccibdlccaaDoor
open Go.Abs

def renIds : Go.Shelf.Ren := ⟨fun | 6 => 26 | 15 => 45 | 14 => 44 | 28 => 68 | 29 => 69 | 20 => 60 | 21 => 61 | 22 => 62 | 23 => 63 | 24 => 64 | 25 => 65 | 26 => 66 | 27 => 67 | 46 => 80 | 49 => 83 | 50 => 84 | 57 => 88 | 47 => 81 | 48 => 82 | n => n, fun | 22 => 23 | 24 => 39 | 25 => 72 | 3 => 3 | 39 => 102 | 0 => 0 | 53 => 126 | 55 => 128 | 4 => 4 | 46 => 119 | 45 => 118 | 50 => 123 | 5 => 5 | 9 => 9 | 66 => 135 | 70 => 139 | 76 => 143 | 77 => 144 | n => n, fun n => n⟩
theorem layIds : Go.Proofs.SlLaysF0.n6 Tryd.prog renIds := {
  mixed := by kernel_rfl,
  f6 := ⟨Tryd.f26.name, by decide, Tryd.func26.trans (congrArg some (by kernel_rfl))⟩,
  f14 := ⟨Tryd.f44.name, by decide, Tryd.func44.trans (congrArg some (by kernel_rfl))⟩,
  f15 := Tryd.func45.trans (congrArg some (by kernel_rfl)),
  f20 := ⟨Tryd.f60.name, by decide, Tryd.func60.trans (congrArg some (by kernel_rfl))⟩,
  f21 := ⟨Tryd.f61.name, by decide, Tryd.func61.trans (congrArg some (by kernel_rfl))⟩,
  f22 := ⟨Tryd.f62.name, by decide, Tryd.func62.trans (congrArg some (by kernel_rfl))⟩,
  f23 := ⟨Tryd.f63.name, by decide, Tryd.func63.trans (congrArg some (by kernel_rfl))⟩,
  f24 := ⟨Tryd.f64.name, by decide, Tryd.func64.trans (congrArg some (by kernel_rfl))⟩,
  f25 := ⟨Tryd.f65.name, by decide, Tryd.func65.trans (congrArg some (by kernel_rfl))⟩,
  f26 := ⟨Tryd.f66.name, by decide, Tryd.func66.trans (congrArg some (by kernel_rfl))⟩,
  f27 := ⟨Tryd.f67.name, by decide, Tryd.func67.trans (congrArg some (by kernel_rfl))⟩,
  f28 := Tryd.func68.trans (congrArg some (by kernel_rfl)),
  f29 := Tryd.func69.trans (congrArg some (by kernel_rfl)),
  f46 := ⟨Tryd.f80.name, by decide, Tryd.func80.trans (congrArg some (by kernel_rfl))⟩,
  f47 := Tryd.func81.trans (congrArg some (by kernel_rfl)),
  f48 := Tryd.func82.trans (congrArg some (by kernel_rfl)),
  f49 := ⟨Tryd.f83.name, by decide, Tryd.func83.trans (congrArg some (by kernel_rfl))⟩,
  f50 := ⟨Tryd.f84.name, by decide, Tryd.func84.trans (congrArg some (by kernel_rfl))⟩,
  f57 := ⟨Tryd.f88.name, by decide, Tryd.func88.trans (congrArg some (by kernel_rfl))⟩,
  t0 := Tryd.underlying0,
  a0 := Tryd.isAgg0,
  z0 := Tryd.sizeOf0,
  v0 := Tryd.zeroValue0,
  t3 := Tryd.underlying3,
  a3 := Tryd.isAgg3,
  z3 := Tryd.sizeOf3,
  v3 := Tryd.zeroValue3,
  t4 := Tryd.underlying4,
  a4 := Tryd.isAgg4,
  z4 := Tryd.sizeOf4,
  v4 := Tryd.zeroValue4,
  t5 := Tryd.underlying5,
  a5 := Tryd.isAgg5,
  z5 := Tryd.sizeOf5,
  v5 := Tryd.zeroValue5,
  t9 := Tryd.underlying9,
  a9 := Tryd.isAgg9,
  z9 := Tryd.sizeOf9,
  v9 := Tryd.zeroValue9,
  t22 := Tryd.underlying23,
  a22 := Tryd.isAgg23,
  z22 := Tryd.sizeOf23,
  v22 := Tryd.zeroValue23,
  t25 := Tryd.underlying72,
  a25 := Tryd.isAgg72,
  z25 := Tryd.sizeOf72,
  v25 := Tryd.zeroValue72,
  t39 := Tryd.underlying102,
  a39 := Tryd.isAgg102,
  z39 := Tryd.sizeOf102,
  v39 := Tryd.zeroValue102,
  t45 := Tryd.underlying118,
  a45 := Tryd.isAgg118,
  z45 := Tryd.sizeOf118,
  v45 := Tryd.zeroValue118,
  t46 := Tryd.underlying119,
  a46 := Tryd.isAgg119,
  z46 := Tryd.sizeOf119,
  v46 := Tryd.zeroValue119,
  t50 := Tryd.underlying123,
  a50 := Tryd.isAgg123,
  z50 := Tryd.sizeOf123,
  v50 := Tryd.zeroValue123,
  t53 := Tryd.underlying126,
  a53 := Tryd.isAgg126,
  z53 := Tryd.sizeOf126,
  v53 := Tryd.zeroValue126,
  t55 := Tryd.underlying128,
  a55 := Tryd.isAgg128,
  z55 := Tryd.sizeOf128,
  v55 := Tryd.zeroValue128,
  t66 := Tryd.underlying135,
  a66 := Tryd.isAgg135,
  z66 := Tryd.sizeOf135,
  v66 := Tryd.zeroValue135,
  t70 := Tryd.underlying139,
  a70 := Tryd.isAgg139,
  z70 := Tryd.sizeOf139,
  v70 := Tryd.zeroValue139,
  t76 := Tryd.underlying143,
  a76 := Tryd.isAgg143,
  z76 := Tryd.sizeOf143,
  v76 := Tryd.zeroValue143,
  t77 := Tryd.underlying144,
  a77 := Tryd.isAgg144,
  z77 := Tryd.sizeOf144,
  v77 := Tryd.zeroValue144 }
def renGIds : Go.Shelf.Ren := ⟨fun | 4 => 29 | n => n, fun | 0 => 0 | 3 => 3 | 4 => 4 | 9 => 9 | 20 => 20 | 22 => 23 | 25 => 39 | n => n, fun n => n⟩
theorem layGIds : Go.Proofs.Lays8.n4 Tryd.prog renGIds := {
  mixed := by kernel_rfl,
  f4 := ⟨Tryd.f29.name, by decide, Tryd.func29.trans (congrArg some (by kernel_rfl))⟩,
  t0 := Tryd.underlying0,
  a0 := Tryd.isAgg0,
  z0 := Tryd.sizeOf0,
  v0 := Tryd.zeroValue0,
  t3 := Tryd.underlying3,
  a3 := Tryd.isAgg3,
  z3 := Tryd.sizeOf3,
  v3 := Tryd.zeroValue3,
  t4 := Tryd.underlying4,
  a4 := Tryd.isAgg4,
  z4 := Tryd.sizeOf4,
  v4 := Tryd.zeroValue4,
  t9 := Tryd.underlying9,
  a9 := Tryd.isAgg9,
  z9 := Tryd.sizeOf9,
  v9 := Tryd.zeroValue9,
  t20 := Tryd.underlying20,
  a20 := Tryd.isAgg20,
  z20 := Tryd.sizeOf20,
  v20 := Tryd.zeroValue20,
  t22 := Tryd.underlying23,
  a22 := Tryd.isAgg23,
  z22 := Tryd.sizeOf23,
  v22 := Tryd.zeroValue23 }

@[simp] theorem calGrow : callable Tryd.prog 29 = true := by kernel_rfl
@[simp] theorem calSort : callable Tryd.prog 26 = true := by kernel_rfl
theorem entersOrder : ∀ args w, (callFunc 27 args).run Tryd.prog w = .ok (.enter 27 args) w := enters_of Tryd.func27 (by kernel_rfl) rfl

theorem sortsIds : SortsP Tryd.prog 26 27 encI cmpD :=
  sortsK (k := 3) (fun _ => rfl) lin_cmpD order_ok fun α _ enc hk h1 cf hO blk off cap d w hcmp hH hblk hsz =>
    Go.Proofs.AnyQ.slices_SortFunc layIds 3 Tryd.isAgg39 Tryd.sizeOf39 enc hk h1 cf hO 27 #[] blk off cap d w entersOrder hcmp hH hblk hsz
theorem noneIds : ∀ (p : Option Addr) (cap : Nat) (fv : Value) (w : World), Calls Tryd.prog 26 #[.slice p 0 cap, fv] w fun e w' => e = .returned (.tuple #[]) ∧ w' = w :=
  fun p cap fv w => Go.Proofs.AnyF.slices_SortFunc_none layIds p cap fv w

theorem cellsI_flat (l : List Id) : l.flatMap encI = cellsI l := by
  induction l with
  | nil => rfl
  | cons v l ih => rw [List.flatMap_cons, ih]; rfl

theorem sortIds_ok (l : List Id) (hmx : l.length < 4611686018427387904) : Ret Tryd.prog 26 [.row 0 l.length, .clo 27 [] []] [.row false 39 3 l.length (cellsI l)] (.tup []) [.row false 39 3 l.length (cellsI (sortL cmpD l))] := by
  have := sort_ret (sz := 3) (by omega) (fun _ => rfl) (fun b => by simp [encI]) lin_cmpD 39 sortsIds noneIds l hmx
  simpa only [cellsI_flat] using this
theorem sortNil_ok (x : A) : Ret Tryd.prog 26 [.sl 0 [], x] [] (.tup []) [] := by
  intro H L w vs hs hvs
  obtain ⟨v, vs', rfl, h1, h2⟩ := relL_cons_inv hvs
  obtain ⟨fv, vs'', rfl, h3, h4⟩ := relL_cons_inv h2
  have := relL_nil_inv h4
  subst this
  simp only [Rel] at h1
  obtain ⟨p, cap, rfl, _⟩ := h1
  refine (noneIds p cap fv w).mono fun e' w' hh => ?_
  obtain ⟨rfl, rfl⟩ := hh
  exact ⟨.ret (.tup []), _, H, L, ⟨_, rfl, by simp [Rel, RelL]⟩, Nxt.refl hs, rfl, rfl⟩

theorem growIds_ok (n : Nat) (hn : n ≤ 1000000) : Ret Tryd.prog 29 [.nil, int n] [] (.row 0 0) [.row false 39 3 0 []] :=
  grow_ret' (ρ := renGIds) (sz := 3) (bs := 24) (z := .agg #[.int .i64 0, .int .i64 0, .int .i64 0]) layGIds (by kernel_rfl) rfl (by omega) (by omega) (by omega)

-- slices.Clone[[]splicery/api.ID,splicery/api.ID] · results ["2"]
def KClone : K :=
 K.seq (K.ops [⟨none, .mov (some 2) (.const (.slice none 0 0))⟩])
 (K.seq (K.seq (K.ops [⟨none, .mov (some 3) (.tmp 0)⟩,
 ⟨none, .isz (some 4) false (.tmp 3)⟩])
 (K.cond (.tmp 4)
 (K.seq (K.ops [⟨none, .mov (some 2) (.const (.slice none 0 0))⟩])
 (K.ret))
 (K.skip)))
 (K.seq (K.ops [⟨none, .bslice (some 5) 39 3 0 [] []⟩,
 ⟨none, .mov (some 6) (.tmp 0)⟩,
 ⟨none, .app (some 7) 39 3 24 (.tmp 5) (.tmp 6)⟩,
 ⟨none, .mov (some 2) (.tmp 7)⟩])
 (K.ret)))
theorem cClone : compile Tryd.prog Tryd.f25.ntmps (Tryd.f25.body.getD .skip) = some KClone.erase := by kernel_rfl
@[simp] theorem calClone : callable Tryd.prog 25 = true := by kernel_rfl
-- slices.Concat[[]splicery/api.ID,splicery/api.ID] · results ["2"]
def KConcat : K :=
 K.seq (K.ops [⟨none, .mov (some 2) (.const (.slice none 0 0))⟩])
 (K.seq (K.ops [⟨none, .mov (some 3) (.const (.int .i64 0))⟩])
 (K.seq (K.seq (K.ops [⟨none, .mov (some 9) (.tmp 0)⟩,
 ⟨none, .len (some 10) false (.tmp 9)⟩,
 ⟨none, .mov (some 11) (.const (.int .i64 0))⟩])
 (K.block 0 (K.loop (K.seq (K.ops [⟨none, .bin (some 12) .lss (.tmp 11) (.tmp 10)⟩])
 (K.seq (K.cond (.tmp 12)
 (K.skip)
 (K.exit 0))
 (K.seq (K.block 1 (K.seq (K.ops [⟨none, .idx (some 13) (.tmp 9) (.tmp 11) 1⟩,
 ⟨none, .ld (some 14) (.tmp 13) 1 false⟩,
 ⟨none, .mov (some 5) (.tmp 14)⟩])
 (K.seq (K.ops [⟨none, .mov (some 15) (.tmp 3)⟩,
 ⟨none, .mov (some 16) (.tmp 5)⟩,
 ⟨none, .len (some 17) false (.tmp 16)⟩,
 ⟨none, .bin (some 18) .add (.tmp 15) (.tmp 17)⟩,
 ⟨none, .mov (some 3) (.tmp 18)⟩])
 (K.seq (K.ops [⟨none, .mov (some 19) (.tmp 3)⟩,
 ⟨none, .bin (some 20) .lss (.tmp 19) (.const (.int .i64 0))⟩])
 (K.cond (.tmp 20)
 (K.ops [⟨none, .mop (some 21) .boom []⟩,
 ⟨none, .mop none .boom []⟩])
 (K.skip))))))
 (K.ops [⟨none, .bin (some 22) .add (.tmp 11) (.const (.int .i64 1))⟩,
 ⟨none, .mov (some 11) (.tmp 22)⟩])))))))
 (K.seq (K.ops [⟨none, .mov (some 23) (.tmp 3)⟩,
 ⟨none, .call (some 24) (.func 29) [(.const (.slice none 0 0)), (.tmp 23)]⟩,
 ⟨none, .mov (some 6) (.tmp 24)⟩])
 (K.seq (K.seq (K.ops [⟨none, .mov (some 25) (.tmp 0)⟩,
 ⟨none, .len (some 26) false (.tmp 25)⟩,
 ⟨none, .mov (some 27) (.const (.int .i64 0))⟩])
 (K.block 2 (K.loop (K.seq (K.ops [⟨none, .bin (some 28) .lss (.tmp 27) (.tmp 26)⟩])
 (K.seq (K.cond (.tmp 28)
 (K.skip)
 (K.exit 2))
 (K.seq (K.block 3 (K.seq (K.ops [⟨none, .idx (some 29) (.tmp 25) (.tmp 27) 1⟩,
 ⟨none, .ld (some 30) (.tmp 29) 1 false⟩,
 ⟨none, .mov (some 8) (.tmp 30)⟩])
 (K.ops [⟨none, .mov (some 31) (.tmp 6)⟩,
 ⟨none, .mov (some 32) (.tmp 8)⟩,
 ⟨none, .app (some 33) 39 3 24 (.tmp 31) (.tmp 32)⟩,
 ⟨none, .mov (some 6) (.tmp 33)⟩])))
 (K.ops [⟨none, .bin (some 34) .add (.tmp 27) (.const (.int .i64 1))⟩,
 ⟨none, .mov (some 27) (.tmp 34)⟩])))))))
 (K.seq (K.ops [⟨none, .mov (some 35) (.tmp 6)⟩,
 ⟨none, .mov (some 2) (.tmp 35)⟩])
 (K.ret))))))
theorem cConcat : compile Tryd.prog Tryd.f15.ntmps (Tryd.f15.body.getD .skip) = some KConcat.erase := by kernel_rfl
@[simp] theorem calConcat : callable Tryd.prog 15 = true := by kernel_rfl
-- slices.Compact[[]splicery/api.ID,splicery/api.ID] · results ["2"]
def KCompact : K :=
 K.seq (K.ops [⟨none, .mov (some 2) (.const (.slice none 0 0))⟩])
 (K.seq (K.seq (K.ops [⟨none, .mov (some 6) (.tmp 0)⟩,
 ⟨none, .len (some 7) false (.tmp 6)⟩,
 ⟨none, .bin (some 8) .lss (.tmp 7) (.const (.int .i64 2))⟩])
 (K.cond (.tmp 8)
 (K.seq (K.ops [⟨none, .mov (some 9) (.tmp 0)⟩,
 ⟨none, .mov (some 2) (.tmp 9)⟩])
 (K.ret))
 (K.skip)))
 (K.seq (K.seq (K.ops [⟨none, .mov (some 3) (.const (.int .i64 1))⟩])
 (K.block 0 (K.loop (K.seq (K.seq (K.ops [⟨none, .mov (some 10) (.tmp 3)⟩,
 ⟨none, .mov (some 11) (.tmp 0)⟩,
 ⟨none, .len (some 12) false (.tmp 11)⟩,
 ⟨none, .bin (some 13) .lss (.tmp 10) (.tmp 12)⟩])
 (K.cond (.tmp 13)
 (K.skip)
 (K.exit 0)))
 (K.seq (K.block 1 (K.seq (K.dops [(0, 0, ⟨none, .mov (some 16) (.tmp 0)⟩),
 (1, 0, ⟨none, .mov (some 17) (.tmp 3)⟩),
 (2, 0, ⟨none, .idx (some 18) (.tmp 16) (.tmp 17) 3⟩),
 (3, 0, ⟨none, .ld (some 19) (.tmp 18) 3 true⟩),
 (4, 0, ⟨none, .mov (some 20) (.tmp 0)⟩),
 (5, 0, ⟨none, .mov (some 21) (.tmp 3)⟩),
 (6, 0, ⟨none, .bin (some 22) .sub (.tmp 21) (.const (.int .i64 1))⟩),
 (7, 0, ⟨none, .idx (some 23) (.tmp 20) (.tmp 22) 3⟩),
 (8, 0, ⟨none, .ld (some 24) (.tmp 23) 3 true⟩),
 (9, 0, ⟨none, .eqs (some 25) false [.i, .i, .i] (.tmp 19) (.tmp 24)⟩)])
 (K.cond (.tmp 25)
 (K.seq (K.ops [⟨none, .mov (some 26) (.tmp 0)⟩,
 ⟨none, .mov (some 27) (.tmp 3)⟩,
 ⟨none, .rslc (some 28) (.tmp 26) 3 (some (.tmp 27)) none⟩,
 ⟨none, .mov (some 4) (.tmp 28)⟩])
 (K.seq (K.seq (K.ops [⟨none, .mov (some 5) (.const (.int .i64 1))⟩])
 (K.block 2 (K.loop (K.seq (K.seq (K.ops [⟨none, .mov (some 29) (.tmp 5)⟩,
 ⟨none, .mov (some 30) (.tmp 4)⟩,
 ⟨none, .len (some 31) false (.tmp 30)⟩,
 ⟨none, .bin (some 32) .lss (.tmp 29) (.tmp 31)⟩])
 (K.cond (.tmp 32)
 (K.skip)
 (K.exit 2)))
 (K.seq (K.block 3 (K.seq (K.dops [(0, 0, ⟨none, .mov (some 35) (.tmp 4)⟩),
 (1, 0, ⟨none, .mov (some 36) (.tmp 5)⟩),
 (2, 0, ⟨none, .idx (some 37) (.tmp 35) (.tmp 36) 3⟩),
 (3, 0, ⟨none, .ld (some 38) (.tmp 37) 3 true⟩),
 (4, 0, ⟨none, .mov (some 39) (.tmp 4)⟩),
 (5, 0, ⟨none, .mov (some 40) (.tmp 5)⟩),
 (6, 0, ⟨none, .bin (some 41) .sub (.tmp 40) (.const (.int .i64 1))⟩),
 (7, 0, ⟨none, .idx (some 42) (.tmp 39) (.tmp 41) 3⟩),
 (8, 0, ⟨none, .ld (some 43) (.tmp 42) 3 true⟩),
 (9, 0, ⟨none, .eqs (some 44) true [.i, .i, .i] (.tmp 38) (.tmp 43)⟩)])
 (K.cond (.tmp 44)
 (K.seq (K.ops [⟨none, .mov (some 45) (.tmp 0)⟩,
 ⟨none, .mov (some 46) (.tmp 3)⟩,
 ⟨none, .mov (some 47) (.tmp 4)⟩,
 ⟨none, .mov (some 48) (.tmp 5)⟩,
 ⟨none, .idx (some 49) (.tmp 47) (.tmp 48) 3⟩,
 ⟨none, .ld (some 50) (.tmp 49) 3 true⟩,
 ⟨none, .idx (some 51) (.tmp 45) (.tmp 46) 3⟩,
 ⟨none, .st none (.tmp 51) (.tmp 50) 3⟩])
 (K.ops [⟨none, .mov (some 52) (.tmp 3)⟩,
 ⟨none, .bin (some 53) .add (.tmp 52) (.const (.int .i64 1))⟩,
 ⟨none, .mov (some 3) (.tmp 53)⟩]))
 (K.skip))))
 (K.ops [⟨none, .mov (some 33) (.tmp 5)⟩,
 ⟨none, .bin (some 34) .add (.tmp 33) (.const (.int .i64 1))⟩,
 ⟨none, .mov (some 5) (.tmp 34)⟩]))))))
 (K.seq (K.ops [⟨none, .mov (some 54) (.tmp 0)⟩,
 ⟨none, .mov (some 55) (.tmp 3)⟩,
 ⟨none, .rslc (some 56) (.tmp 54) 3 (some (.tmp 55)) none⟩,
 ⟨none, .mop none (.clr 3 [(.int .i64 0), (.int .i64 0), (.int .i64 0)]) [(.tmp 56)]⟩])
 (K.seq (K.ops [⟨none, .mov (some 57) (.tmp 0)⟩,
 ⟨none, .mov (some 58) (.tmp 3)⟩,
 ⟨none, .rslc (some 59) (.tmp 57) 3 none (some (.tmp 58))⟩,
 ⟨none, .mov (some 2) (.tmp 59)⟩])
 (K.ret)))))
 (K.skip))))
 (K.ops [⟨none, .mov (some 14) (.tmp 3)⟩,
 ⟨none, .bin (some 15) .add (.tmp 14) (.const (.int .i64 1))⟩,
 ⟨none, .mov (some 3) (.tmp 15)⟩]))))))
 (K.seq (K.ops [⟨none, .mov (some 60) (.tmp 0)⟩,
 ⟨none, .mov (some 2) (.tmp 60)⟩])
 (K.ret))))
theorem cCompact : compile Tryd.prog Tryd.f28.ntmps (Tryd.f28.body.getD .skip) = some KCompact.erase := by kernel_rfl
@[simp] theorem calCompact : callable Tryd.prog 28 = true := by kernel_rfl

theorem cloneIds_ok (l : List Id) (h : l ≠ []) (hb : l.length ≤ 1000000) : Ret Tryd.prog 25 [.sl l.length (cellsI l)] [] (.row 0 l.length) [.row false 39 3 l.length (cellsI l)] := by
  refine ret_of_wp Tryd.func25 rfl cClone (rs := [.slot 2]) (by kernel_rfl) ?_
  unfold KClone
  simp -implicitDefEqProofs [h]
  refine ⟨⟨by simp [maxLen]; omega, by omega⟩, ?_⟩
  exact ret_keep [0] 0 (by simp) (by simp) (by simp) (by simp)
theorem cloneNil_ok : Ret Tryd.prog 25 [.sl 0 []] [] (.sl 0 []) [] := by
  refine ret_of_wp Tryd.func25 rfl cClone (rs := [.slot 2]) (by kernel_rfl) ?_
  unfold KClone
  simp -implicitDefEqProofs
  exact ⟨ret_end 0 (by simp), ret_end 0 (by simp)⟩

/-! ### slices.Concat -/
def cellsL (Ls : List (List Id)) : List A := Ls.map fun l => A.sl l.length (cellsI l)
theorem cellsL_plain : ∀ (Ls : List (List Id)), Plain (cellsL Ls)
  | [] => Plain.nil
  | l :: Ls => by
    have h1 := cellsL_plain Ls
    have h2 := cellsI_plain l
    refine ⟨?_, fun rf g => ?_⟩
    · show nrm0L (A.sl l.length (cellsI l) :: cellsL Ls) = _
      simp [h1.1]
      rfl
    · show vwL rf g (A.sl l.length (cellsI l) :: cellsL Ls) = _
      simp [h1.2]
      rfl
@[simp] theorem nrm0_cellsL (l : List (List Id)) : nrm0L (cellsL l) = cellsL l := (cellsL_plain l).1
@[simp] theorem vw_cellsL {rf g} (l : List (List Id)) : vwL rf g (cellsL l) = cellsL l := (cellsL_plain l).2 _ _
@[simp] theorem cellsL_len (l : List (List Id)) : (cellsL l).length = l.length := by simp [cellsL]
theorem cellsL_drop {Ls : List (List Id)} {i : Nat} (h : i < Ls.length) : (cellsL Ls).drop i = .sl Ls[i].length (cellsI Ls[i]) :: cellsL (Ls.drop (i + 1)) := by
  rw [cellsL, ← List.map_drop, List.drop_eq_getElem_cons h]; rfl
def totL (Ls : List (List Id)) : Nat := Ls.flatten.length
theorem totL_succ {Ls : List (List Id)} {i : Nat} (h : i < Ls.length) : totL (Ls.take (i + 1)) = totL (Ls.take i) + Ls[i].length := by
  rw [totL, totL, List.take_succ_eq_append_getElem h, List.flatten_append]; simp
theorem totL_le (Ls : List (List Id)) (i : Nat) : totL (Ls.take i) ≤ totL Ls := by
  have : Ls.flatten = (Ls.take i).flatten ++ (Ls.drop i).flatten := by rw [← List.flatten_append, List.take_append_drop]
  rw [totL, totL, this, List.length_append]; omega
theorem concatIds_ok (Ls : List (List Id)) (hb : totL Ls ≤ 1000000) : Ret Tryd.prog 15 [.sl Ls.length (cellsL Ls)] [] (.sl (totL Ls) (cellsI Ls.flatten)) [] := by
  refine ret_of_wp Tryd.func15 rfl cConcat (rs := [.slot 2]) (by kernel_rfl) ?_
  unfold KConcat
  simp -implicitDefEqProofs
  intro hl
  refine loopS (S := Nat) (fun i => [(0, .sl Ls.length (cellsL Ls)), (3, int (totL (Ls.take i))), (9, .sl Ls.length (cellsL Ls)), (10, int Ls.length), (11, int i)]) (fun s => []) (fun i => i ≤ Ls.length) (fun i => Ls.length - i) 0 (by simp)
    (selW [] 0 (by simp) (by simp) (by simp) (by simp [totL])) ?_
  intro i hi
  by_cases h : i < Ls.length
  · have ht := totL_succ h
    have hle := totL_le Ls (i + 1)
    have hw : IntKind.i64.wrap ((totL (Ls.take i) : Int) + (Ls[i].length : Int)) = (totL (Ls.take (i + 1)) : Nat) := by rw [ht]; push_cast; exact IntWalk.i64_in _ (by omega)
    have h0 : ¬ ((totL (Ls.take (i + 1)) : Nat) : Int) < 0 := by omega
    simp -implicitDefEqProofs [h, cellsL_drop h]
    intro _
    simp -implicitDefEqProofs [hw, h0]
    exact roundS (i + 1) h (by omega) (selW [] 0 (by simp) (by simp) (by simp) (by simp [wrap_succ h hl]))
  · have hil : i = Ls.length := by omega
    subst hil
    have hI : ¬ (Ls.length : Int) < Ls.length := by omega
    simp -implicitDefEqProofs
    refine callJ (growIds_ok (totL Ls) hb) [] (by simp) (by simp) (by simp) ?_
    simp -implicitDefEqProofs
    intro _
    refine loopS (S := Nat) (fun i => [(6, .row 0 (totL (Ls.take i))), (25, .sl Ls.length (cellsL Ls)), (26, int Ls.length), (27, int i)]) (fun i => [.row false 39 3 (totL (Ls.take i)) (cellsI (Ls.take i).flatten)]) (fun i => i ≤ Ls.length) (fun i => Ls.length - i) 0 (by simp)
      (selW [0] 0 (by simp) (by simp) (by simp [totL]) (by simp [totL])) ?_
    intro i hi
    by_cases h : i < Ls.length
    · have ht := totL_succ h
      have hle := totL_le Ls (i + 1)
      have hf : (Ls.take (i + 1)).flatten = (Ls.take i).flatten ++ Ls[i] := by rw [List.take_succ_eq_append_getElem h, List.flatten_append]; simp
      simp -implicitDefEqProofs [h, cellsL_drop h]
      refine ⟨⟨by simp [maxLen]; omega, by omega⟩, ?_⟩
      exact roundS (i + 1) h (by omega) (selW [0] 0 (by simp) (by simp) (by simp [ht, hf, cellsI_append]) (by simp [ht, wrap_succ h hl]))
    · have hil : i = Ls.length := by omega
      subst hil
      simp -implicitDefEqProofs
      exact ret_end 1 (by simp)
end Go.Proofs.YthglhccibdlccaaDoor
