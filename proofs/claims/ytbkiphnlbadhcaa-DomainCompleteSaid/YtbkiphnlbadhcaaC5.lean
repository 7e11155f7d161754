/-
  slices.SortFunc at values and at lists of values.
-/
import Derived.Test.YtbkiphnlbadhcaaP1
import Derived.Test.YtbkiphnlbadhcaaC4
namespace Go.Proofs.Ytbkiphnlbadhcaa
open Go.Abs

def ren33 : Go.Shelf.Ren := ⟨fun | 6 => 33 | 15 => 66 | 14 => 65 | 28 => 92 | 29 => 93 | 20 => 84 | 21 => 85 | 22 => 86 | 23 => 87 | 24 => 88 | 25 => 89 | 26 => 90 | 27 => 91 | 46 => 106 | 47 => 107 | 48 => 108 | 49 => 109 | 50 => 110 | 57 => 114 | n => n, fun | 22 => 36 | 24 => 60 | 25 => 58 | 3 => 3 | 39 => 110 | 0 => 0 | 53 => 136 | 55 => 138 | 4 => 4 | 46 => 129 | 45 => 128 | 50 => 133 | 5 => 5 | 9 => 9 | 66 => 150 | 70 => 154 | 76 => 158 | 77 => 159 | n => n, fun | n => n⟩
theorem lay33 : Go.Proofs.SlLaysF0.n6 Try.prog ren33 := {
  mixed := by kernel_rfl,
  f6 := ⟨Try.f33.name, by decide, Try.func33.trans (congrArg some (by kernel_rfl))⟩,
  f14 := ⟨Try.f65.name, by decide, Try.func65.trans (congrArg some (by kernel_rfl))⟩,
  f15 := Try.func66.trans (congrArg some (by kernel_rfl)),
  f20 := ⟨Try.f84.name, by decide, Try.func84.trans (congrArg some (by kernel_rfl))⟩,
  f21 := ⟨Try.f85.name, by decide, Try.func85.trans (congrArg some (by kernel_rfl))⟩,
  f22 := ⟨Try.f86.name, by decide, Try.func86.trans (congrArg some (by kernel_rfl))⟩,
  f23 := ⟨Try.f87.name, by decide, Try.func87.trans (congrArg some (by kernel_rfl))⟩,
  f24 := ⟨Try.f88.name, by decide, Try.func88.trans (congrArg some (by kernel_rfl))⟩,
  f25 := ⟨Try.f89.name, by decide, Try.func89.trans (congrArg some (by kernel_rfl))⟩,
  f26 := ⟨Try.f90.name, by decide, Try.func90.trans (congrArg some (by kernel_rfl))⟩,
  f27 := ⟨Try.f91.name, by decide, Try.func91.trans (congrArg some (by kernel_rfl))⟩,
  f28 := Try.func92.trans (congrArg some (by kernel_rfl)),
  f29 := Try.func93.trans (congrArg some (by kernel_rfl)),
  f46 := ⟨Try.f106.name, by decide, Try.func106.trans (congrArg some (by kernel_rfl))⟩,
  f47 := Try.func107.trans (congrArg some (by kernel_rfl)),
  f48 := Try.func108.trans (congrArg some (by kernel_rfl)),
  f49 := ⟨Try.f109.name, by decide, Try.func109.trans (congrArg some (by kernel_rfl))⟩,
  f50 := ⟨Try.f110.name, by decide, Try.func110.trans (congrArg some (by kernel_rfl))⟩,
  f57 := ⟨Try.f114.name, by decide, Try.func114.trans (congrArg some (by kernel_rfl))⟩,
  t0 := Try.underlying0,
  a0 := Try.isAgg0,
  z0 := Try.sizeOf0,
  v0 := Try.zeroValue0,
  t3 := Try.underlying3,
  a3 := Try.isAgg3,
  z3 := Try.sizeOf3,
  v3 := Try.zeroValue3,
  t4 := Try.underlying4,
  a4 := Try.isAgg4,
  z4 := Try.sizeOf4,
  v4 := Try.zeroValue4,
  t5 := Try.underlying5,
  a5 := Try.isAgg5,
  z5 := Try.sizeOf5,
  v5 := Try.zeroValue5,
  t9 := Try.underlying9,
  a9 := Try.isAgg9,
  z9 := Try.sizeOf9,
  v9 := Try.zeroValue9,
  t22 := Try.underlying36,
  a22 := Try.isAgg36,
  z22 := Try.sizeOf36,
  v22 := Try.zeroValue36,
  t25 := Try.underlying58,
  a25 := Try.isAgg58,
  z25 := Try.sizeOf58,
  v25 := Try.zeroValue58,
  t39 := Try.underlying110,
  a39 := Try.isAgg110,
  z39 := Try.sizeOf110,
  v39 := Try.zeroValue110,
  t45 := Try.underlying128,
  a45 := Try.isAgg128,
  z45 := Try.sizeOf128,
  v45 := Try.zeroValue128,
  t46 := Try.underlying129,
  a46 := Try.isAgg129,
  z46 := Try.sizeOf129,
  v46 := Try.zeroValue129,
  t50 := Try.underlying133,
  a50 := Try.isAgg133,
  z50 := Try.sizeOf133,
  v50 := Try.zeroValue133,
  t53 := Try.underlying136,
  a53 := Try.isAgg136,
  z53 := Try.sizeOf136,
  v53 := Try.zeroValue136,
  t55 := Try.underlying138,
  a55 := Try.isAgg138,
  z55 := Try.sizeOf138,
  v55 := Try.zeroValue138,
  t66 := Try.underlying150,
  a66 := Try.isAgg150,
  z66 := Try.sizeOf150,
  v66 := Try.zeroValue150,
  t70 := Try.underlying154,
  a70 := Try.isAgg154,
  z70 := Try.sizeOf154,
  v70 := Try.zeroValue154,
  t76 := Try.underlying158,
  a76 := Try.isAgg158,
  z76 := Try.sizeOf158,
  v76 := Try.zeroValue158,
  t77 := Try.underlying159,
  a77 := Try.isAgg159,
  z77 := Try.sizeOf159,
  v77 := Try.zeroValue159 }

def ren47 : Go.Shelf.Ren := ⟨fun | 6 => 47 | 15 => 66 | 14 => 74 | 28 => 92 | 29 => 93 | 20 => 95 | 21 => 96 | 22 => 97 | 23 => 98 | 24 => 99 | 25 => 100 | 26 => 101 | 27 => 102 | 46 => 111 | 47 => 107 | 48 => 108 | 49 => 112 | 50 => 113 | 57 => 115 | n => n, fun | 22 => 49 | 24 => 36 | 25 => 54 | 3 => 3 | 39 => 110 | 0 => 0 | 53 => 136 | 55 => 138 | 4 => 4 | 46 => 129 | 45 => 128 | 50 => 133 | 5 => 5 | 9 => 9 | 66 => 150 | 70 => 154 | 76 => 158 | 77 => 159 | n => n, fun | n => n⟩
theorem lay47 : Go.Proofs.SlLaysF.n6 Try.prog ren47 := {
  mixed := by kernel_rfl,
  f6 := ⟨Try.f47.name, by decide, Try.func47.trans (congrArg some (by kernel_rfl))⟩,
  f14 := ⟨Try.f74.name, by decide, Try.func74.trans (congrArg some (by kernel_rfl))⟩,
  f15 := Try.func66.trans (congrArg some (by kernel_rfl)),
  f20 := ⟨Try.f95.name, by decide, Try.func95.trans (congrArg some (by kernel_rfl))⟩,
  f21 := ⟨Try.f96.name, by decide, Try.func96.trans (congrArg some (by kernel_rfl))⟩,
  f22 := ⟨Try.f97.name, by decide, Try.func97.trans (congrArg some (by kernel_rfl))⟩,
  f23 := ⟨Try.f98.name, by decide, Try.func98.trans (congrArg some (by kernel_rfl))⟩,
  f24 := ⟨Try.f99.name, by decide, Try.func99.trans (congrArg some (by kernel_rfl))⟩,
  f25 := ⟨Try.f100.name, by decide, Try.func100.trans (congrArg some (by kernel_rfl))⟩,
  f26 := ⟨Try.f101.name, by decide, Try.func101.trans (congrArg some (by kernel_rfl))⟩,
  f27 := ⟨Try.f102.name, by decide, Try.func102.trans (congrArg some (by kernel_rfl))⟩,
  f28 := Try.func92.trans (congrArg some (by kernel_rfl)),
  f29 := Try.func93.trans (congrArg some (by kernel_rfl)),
  f46 := ⟨Try.f111.name, by decide, Try.func111.trans (congrArg some (by kernel_rfl))⟩,
  f47 := Try.func107.trans (congrArg some (by kernel_rfl)),
  f48 := Try.func108.trans (congrArg some (by kernel_rfl)),
  f49 := ⟨Try.f112.name, by decide, Try.func112.trans (congrArg some (by kernel_rfl))⟩,
  f50 := ⟨Try.f113.name, by decide, Try.func113.trans (congrArg some (by kernel_rfl))⟩,
  f57 := ⟨Try.f115.name, by decide, Try.func115.trans (congrArg some (by kernel_rfl))⟩,
  t0 := Try.underlying0,
  a0 := Try.isAgg0,
  z0 := Try.sizeOf0,
  v0 := Try.zeroValue0,
  t3 := Try.underlying3,
  a3 := Try.isAgg3,
  z3 := Try.sizeOf3,
  v3 := Try.zeroValue3,
  t4 := Try.underlying4,
  a4 := Try.isAgg4,
  z4 := Try.sizeOf4,
  v4 := Try.zeroValue4,
  t5 := Try.underlying5,
  a5 := Try.isAgg5,
  z5 := Try.sizeOf5,
  v5 := Try.zeroValue5,
  t9 := Try.underlying9,
  a9 := Try.isAgg9,
  z9 := Try.sizeOf9,
  v9 := Try.zeroValue9,
  t22 := Try.underlying49,
  a22 := Try.isAgg49,
  z22 := Try.sizeOf49,
  v22 := Try.zeroValue49,
  a24 := Try.isAgg36,
  z24 := Try.sizeOf36,
  t25 := Try.underlying54,
  a25 := Try.isAgg54,
  z25 := Try.sizeOf54,
  v25 := Try.zeroValue54,
  t39 := Try.underlying110,
  a39 := Try.isAgg110,
  z39 := Try.sizeOf110,
  v39 := Try.zeroValue110,
  t45 := Try.underlying128,
  a45 := Try.isAgg128,
  z45 := Try.sizeOf128,
  v45 := Try.zeroValue128,
  t46 := Try.underlying129,
  a46 := Try.isAgg129,
  z46 := Try.sizeOf129,
  v46 := Try.zeroValue129,
  t50 := Try.underlying133,
  a50 := Try.isAgg133,
  z50 := Try.sizeOf133,
  v50 := Try.zeroValue133,
  t53 := Try.underlying136,
  a53 := Try.isAgg136,
  z53 := Try.sizeOf136,
  v53 := Try.zeroValue136,
  t55 := Try.underlying138,
  a55 := Try.isAgg138,
  z55 := Try.sizeOf138,
  v55 := Try.zeroValue138,
  t66 := Try.underlying150,
  a66 := Try.isAgg150,
  z66 := Try.sizeOf150,
  v66 := Try.zeroValue150,
  t70 := Try.underlying154,
  a70 := Try.isAgg154,
  z70 := Try.sizeOf154,
  v70 := Try.zeroValue154,
  t76 := Try.underlying158,
  a76 := Try.isAgg158,
  z76 := Try.sizeOf158,
  v76 := Try.zeroValue158,
  t77 := Try.underlying159,
  a77 := Try.isAgg159,
  z77 := Try.sizeOf159,
  v77 := Try.zeroValue159 }
-- splicery/domain.Values$1 · results ["4"]
def K34 : K :=
 K.seq (K.ops [⟨none, .box (some 2) (.tmp 0)⟩,
 ⟨none, .box (some 3) (.tmp 1)⟩,
 ⟨none, .mov (some 4) (.const (.int .i64 0))⟩])
 (K.seq (K.dops [(0, 0, ⟨none, .ld (some 5) (.tmp 2) 3 true⟩),
 (1, 0, ⟨none, .call (some 6) (.func 30) [(.tmp 5)]⟩),
 (2, 0, ⟨none, .ld (some 7) (.tmp 3) 3 true⟩),
 (3, 0, ⟨none, .call (some 8) (.func 30) [(.tmp 7)]⟩),
 (4, 0, ⟨none, .call (some 9) (.func 36) [(.tmp 6), (.tmp 8)]⟩),
 (5, 0, ⟨none, .ld (some 10) (.tmp 2) 3 true⟩),
 (6, 0, ⟨none, .ld (some 11) (.tmp 3) 3 true⟩),
 (7, 0, ⟨none, .call (some 12) (.func 25) [(.tmp 10), (.tmp 11)]⟩),
 (8, 0, ⟨none, .bslice (some 13) 3 1 2 [(.int .i64 0), (.int .i64 0)] [(0, 1, (.tmp 9)), (1, 1, (.tmp 12))]⟩),
 (9, 0, ⟨none, .call (some 14) (.func 35) [(.tmp 13)]⟩),
 (10, 0, ⟨none, .mov (some 4) (.tmp 14)⟩)])
 (K.ret))
theorem c34 : compile Try.prog Try.f34.ntmps (Try.f34.body.getD .skip) = some K34.erase := by kernel_rfl
@[simp] theorem cal34 : callable Try.prog 34 = true := by kernel_rfl

theorem valuesCmp_ok (a b : Val) : Ret Try.prog 34 [.agg (encV a), .agg (encV b)] [] (int (cmpW a b)) [] := by
  refine ret_of_wp Try.func34 rfl c34 (rs := [.slot 4]) (by kernel_rfl) ?_
  unfold K34
  simp -implicitDefEqProofs [encV]
  refine dcall0 (weight_ok a) (by simp [encV]) (by simp) ?_
  simp -implicitDefEqProofs
  refine dcall0 (weight_ok b) (by simp [encV]) (by simp) ?_
  simp -implicitDefEqProofs
  refine dcall0 (compare_ok (weightV a) (weightV b)) (by simp) (by simp) ?_
  simp -implicitDefEqProofs
  refine dcall0 (cmpV_ok a b) (by simp [encV]) (by simp) ?_
  simp -implicitDefEqProofs
  refine dcall0 (or_ok [cmpI (weightV a) (weightV b), cmpV a b]) (by simp) (by simp) ?_
  simp -implicitDefEqProofs
  exact ret_end 0 (by simp [cmpW])

theorem enters34 : ∀ args w, (callFunc 34 args).run Try.prog w = .ok (.enter 34 args) w := enters_of Try.func34 (by kernel_rfl) rfl
theorem enters48 : ∀ args w, (callFunc 48 args).run Try.prog w = .ok (.enter 48 args) w := enters_of Try.func48 (by kernel_rfl) rfl

theorem sorts33 : SortsP Try.prog 33 34 encV cmpW :=
  sortsK (k := 3) (fun _ => rfl) lin_cmpW.ord valuesCmp_ok fun α _ enc hk h1 cf hO blk off cap d w hcmp hH hblk hsz =>
    Go.Proofs.AnyQ.slices_SortFunc lay33 3 Try.isAgg60 Try.sizeOf60 enc hk h1 cf hO 34 #[] blk off cap d w enters34 hcmp hH hblk hsz
theorem none33 : ∀ (p : Option Addr) (cap : Nat) (fv : Value) (w : World), Calls Try.prog 33 #[.slice p 0 cap, fv] w fun e w' => e = .returned (.tuple #[]) ∧ w' = w :=
  fun p cap fv w => Go.Proofs.AnyF.slices_SortFunc_none lay33 p cap fv w

theorem sorts47 : SortsP Try.prog 47 48 (fun l : List Val => [.sl l.length (cellsV l)]) orderV :=
  sorts1 lin_orderV.ord order_ok fun α _ enc h1 cf hO blk off cap d w hcmp hH hblk hsz =>
    Go.Proofs.Any.slices_SortFunc lay47 enc h1 cf hO 48 #[] blk off cap d w enters48 hcmp hH hblk hsz
theorem none47 : ∀ (p : Option Addr) (cap : Nat) (fv : Value) (w : World), Calls Try.prog 47 #[.slice p 0 cap, fv] w fun e w' => e = .returned (.tuple #[]) ∧ w' = w :=
  fun p cap fv w => Go.Proofs.AnyF.slices_SortFunc_none { lay47 with } p cap fv w

theorem cells_flat (l : List Val) : l.flatMap encV = cellsV l := by
  induction l with
  | nil => simp
  | cons v l ih => simp [ih, encV]
theorem cellsW_flat (l : List (List Val)) : (l.flatMap fun l => [A.sl l.length (cellsV l)]) = cellsW l := by
  induction l with
  | nil => rfl
  | cons v l ih => simp [ih]

theorem sortVals_ok (l : List Val) (hmx : l.length < 4611686018427387904) : Ret Try.prog 33 [.row 0 l.length, .clo 34 [] []] [.row false 60 3 l.length (cellsV l)] (.tup []) [.row false 60 3 l.length (cellsV (sortL cmpW l))] := by
  have := sort_ret (sz := 3) (by omega) (fun _ => rfl) (fun b => by simp [encV]) lin_cmpW.ord 60 sorts33 none33 l hmx
  simpa only [cells_flat] using this
theorem sortLists_ok (l : List (List Val)) (hmx : l.length < 4611686018427387904) : Ret Try.prog 47 [.row 0 l.length, .clo 48 [] []] [.row false 36 1 l.length (cellsW l)] (.tup []) [.row false 36 1 l.length (cellsW (sortL orderV l))] := by
  have := sort_ret (sz := 1) (by omega) (fun _ => rfl) (fun b => by simp) lin_orderV.ord 36 sorts47 none47 l hmx
  simpa only [cellsW_flat] using this
end Go.Proofs.Ytbkiphnlbadhcaa
