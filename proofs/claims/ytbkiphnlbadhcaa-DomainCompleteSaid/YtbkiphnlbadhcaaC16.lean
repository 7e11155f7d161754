/-
  Numbers of lists, types made of numbers; the reference's Count and Inputs.
-/
import Derived.Test.YtbkiphnlbadhcaaC10
import Derived.Test.YtbkiphnlbadhcaaC15
namespace Go.Proofs.Ytbkiphnlbadhcaa
open Go.Abs

-- splicery/spliceryref01.Around · results ["4"]
def K9 : K :=
 K.seq (K.ops [⟨none, .mov (some 4) (.const (.int .i64 0))⟩])
 (K.seq (K.seq (K.ops [⟨none, .mov (some 5) (.tmp 0)⟩,
 ⟨none, .bin (some 6) .lss (.tmp 5) (.const (.int .i64 0))⟩])
 (K.cond (.tmp 6)
 (K.ops [⟨none, .mov (some 7) (.tmp 0)⟩,
 ⟨none, .bin (some 8) .add (.tmp 7) (.const (.int .i64 1))⟩,
 ⟨none, .neg (some 9) (.tmp 8)⟩,
 ⟨none, .mov (some 0) (.tmp 9)⟩])
 (K.skip)))
 (K.seq (K.ops [⟨none, .mov (some 10) (.tmp 0)⟩,
 ⟨none, .mov (some 11) (.tmp 1)⟩,
 ⟨none, .bin (some 12) .rem (.tmp 10) (.tmp 11)⟩,
 ⟨none, .mov (some 4) (.tmp 12)⟩])
 (K.ret)))
theorem c9 : compile Try.prog Try.f9.ntmps (Try.f9.body.getD .skip) = some K9.erase := by kernel_rfl
@[simp] theorem cal9 : callable Try.prog 9 = true := by kernel_rfl

-- splicery/spliceryref01.At · results ["6"]
def K51 : K :=
 K.seq (K.ops [⟨none, .mov (some 6) (.const (.int .i64 0))⟩])
 (K.seq (K.seq (K.ops [⟨none, .mov (some 7) (.tmp 1)⟩,
 ⟨none, .bin (some 8) .lss (.tmp 7) (.const (.int .i64 0))⟩,
 ⟨none, .mov (some 9) (.tmp 8)⟩,
 ⟨some (9, false), .mov (some 10) (.tmp 1)⟩,
 ⟨some (9, false), .mov (some 11) (.tmp 0)⟩,
 ⟨some (9, false), .len (some 12) false (.tmp 11)⟩,
 ⟨some (9, false), .bin (some 13) .geq (.tmp 10) (.tmp 12)⟩,
 ⟨none, .pick (some 14) (.tmp 9) (.const (.bool true)) (.tmp 13)⟩])
 (K.cond (.tmp 14)
 (K.seq (K.ops [⟨none, .mov (some 6) (.const (.int .i64 0))⟩])
 (K.ret))
 (K.skip)))
 (K.seq (K.ops [⟨none, .mov (some 15) (.tmp 0)⟩,
 ⟨none, .mov (some 16) (.tmp 1)⟩,
 ⟨none, .idx (some 17) (.tmp 15) (.tmp 16) 1⟩,
 ⟨none, .ld (some 18) (.tmp 17) 1 false⟩,
 ⟨none, .mov (some 19) (.tmp 2)⟩,
 ⟨none, .call (some 20) (.func 9) [(.tmp 18), (.tmp 19)]⟩,
 ⟨none, .mov (some 6) (.tmp 20)⟩])
 (K.ret)))
theorem c51 : compile Try.prog Try.f51.ntmps (Try.f51.body.getD .skip) = some K51.erase := by kernel_rfl
@[simp] theorem cal51 : callable Try.prog 51 = true := by kernel_rfl

-- splicery/spliceryref04.Pick · results ["cell 4"]
def K24 : K :=
 K.seq (K.ops [⟨none, .alloc (some 4) [(.int .i64 0), (.int .i64 0), (.int .i64 0), (.int .i64 0), (.slice none 0 0)]⟩])
 (K.seq (K.ops [⟨none, .mov (some 7) (.tmp 0)⟩,
 ⟨none, .mov (some 8) (.tmp 1)⟩,
 ⟨none, .bin (some 9) .mul (.const (.int .i64 2)) (.tmp 8)⟩,
 ⟨none, .bin (some 10) .add (.const (.int .i64 4)) (.tmp 9)⟩,
 ⟨none, .call (some 11) (.func 9) [(.tmp 7), (.tmp 10)]⟩,
 ⟨none, .mov (some 5) (.tmp 11)⟩])
 (K.seq (K.seq (K.ops [⟨none, .mov (some 12) (.tmp 5)⟩,
 ⟨none, .eqv (some 13) false .i (.tmp 12) (.const (.int .i64 1))⟩])
 (K.cond (.tmp 13)
 (K.seq (K.ops [⟨none, .build (some 14) [(.int .i64 0), (.int .i64 0), (.int .i64 0), (.int .i64 0), (.slice none 0 0)] [(0, 1, (.const (.int .i64 1)))]⟩,
 ⟨none, .st none (.tmp 4) (.tmp 14) 5⟩])
 (K.ret))
 (K.skip)))
 (K.seq (K.seq (K.ops [⟨none, .mov (some 15) (.tmp 5)⟩,
 ⟨none, .eqv (some 16) false .i (.tmp 15) (.const (.int .i64 2))⟩])
 (K.cond (.tmp 16)
 (K.seq (K.ops [⟨none, .build (some 17) [(.int .i64 0), (.int .i64 0), (.int .i64 0), (.int .i64 0), (.slice none 0 0)] []⟩,
 ⟨none, .call (some 18) (.func 42) [(.tmp 17)]⟩,
 ⟨none, .st none (.tmp 4) (.tmp 18) 5⟩])
 (K.ret))
 (K.skip)))
 (K.seq (K.seq (K.ops [⟨none, .mov (some 19) (.tmp 5)⟩,
 ⟨none, .bin (some 20) .geq (.tmp 19) (.const (.int .i64 4))⟩])
 (K.cond (.tmp 20)
 (K.seq (K.ops [⟨none, .mov (some 21) (.tmp 5)⟩,
 ⟨none, .bin (some 22) .sub (.tmp 21) (.const (.int .i64 4))⟩,
 ⟨none, .bin (some 23) .quo (.tmp 22) (.const (.int .i64 2))⟩,
 ⟨none, .bin (some 24) .add (.const (.int .i64 1)) (.tmp 23)⟩,
 ⟨none, .call (some 25) (.func 11) [(.tmp 24)]⟩,
 ⟨none, .call (some 26) (.func 10) [(.tmp 25)]⟩,
 ⟨none, .alloc (some 6) [(.int .i64 0), (.int .i64 0), (.int .i64 0), (.int .i64 0), (.slice none 0 0)]⟩,
 ⟨none, .st none (.tmp 6) (.tmp 26) 5⟩])
 (K.seq (K.seq (K.ops [⟨none, .mov (some 27) (.tmp 0)⟩,
 ⟨none, .bin (some 28) .quo (.tmp 27) (.const (.int .i64 64))⟩,
 ⟨none, .call (some 29) (.func 9) [(.tmp 28), (.const (.int .i64 5))]⟩,
 ⟨none, .eqv (some 30) false .i (.tmp 29) (.const (.int .i64 1))⟩])
 (K.cond (.tmp 30)
 (K.seq (K.ops [⟨none, .ld (some 31) (.tmp 6) 5 true⟩,
 ⟨none, .call (some 32) (.func 42) [(.tmp 31)]⟩,
 ⟨none, .st none (.tmp 4) (.tmp 32) 5⟩])
 (K.ret))
 (K.skip)))
 (K.seq (K.ops [⟨none, .ld (some 33) (.tmp 6) 5 true⟩,
 ⟨none, .st none (.tmp 4) (.tmp 33) 5⟩])
 (K.ret))))
 (K.skip)))
 (K.seq (K.ops [⟨none, .build (some 34) [(.int .i64 0), (.int .i64 0), (.int .i64 0), (.int .i64 0), (.slice none 0 0)] []⟩,
 ⟨none, .st none (.tmp 4) (.tmp 34) 5⟩])
 (K.ret))))))
theorem c24 : compile Try.prog Try.f24.ntmps (Try.f24.body.getD .skip) = some K24.erase := by kernel_rfl
@[simp] theorem cal24 : callable Try.prog 24 = true := by kernel_rfl

-- splicery/spliceryref13.Count · results ["4", "5"]
def K17 : K :=
 K.seq (K.ops [⟨none, .box (some 2) (.tmp 0)⟩,
 ⟨none, .mov (some 4) (.const (.int .i64 0))⟩,
 ⟨none, .mov (some 5) (.const (.int .i64 0))⟩])
 (K.seq (K.ops [⟨none, .mov (some 6) (.const (.int .i64 1))⟩])
 (K.seq (K.seq (K.ops [⟨none, .mov (some 7) (.const (.int .i64 0))⟩])
 (K.block 0 (K.loop (K.seq (K.seq (K.ops [⟨none, .mov (some 11) (.tmp 7)⟩,
 ⟨none, .mov (some 12) (.tmp 1)⟩,
 ⟨none, .len (some 13) false (.tmp 12)⟩,
 ⟨none, .bin (some 14) .lss (.tmp 11) (.tmp 13)⟩])
 (K.cond (.tmp 14)
 (K.skip)
 (K.exit 0)))
 (K.seq (K.block 1 (K.seq (K.seq (K.ops [⟨none, .mov (some 17) (.tmp 1)⟩,
 ⟨none, .mov (some 18) (.tmp 7)⟩,
 ⟨none, .idx (some 19) (.tmp 17) (.tmp 18) 11⟩,
 ⟨none, .addr (some 20) (.tmp 19) 9⟩,
 ⟨none, .ld (some 21) (.tmp 20) 1 false⟩,
 ⟨none, .bin (some 22) .lss (.tmp 21) (.const (.int .i64 0))⟩,
 ⟨none, .mov (some 23) (.tmp 22)⟩,
 ⟨some (23, false), .mov (some 24) (.tmp 1)⟩,
 ⟨some (23, false), .mov (some 25) (.tmp 7)⟩,
 ⟨some (23, false), .idx (some 26) (.tmp 24) (.tmp 25) 11⟩,
 ⟨some (23, false), .addr (some 27) (.tmp 26) 9⟩,
 ⟨some (23, false), .ld (some 28) (.tmp 27) 1 false⟩,
 ⟨some (23, false), .bin (some 29) .gtr (.tmp 28) (.const (.int .i64 64))⟩,
 ⟨none, .pick (some 30) (.tmp 23) (.const (.bool true)) (.tmp 29)⟩])
 (K.cond (.tmp 30)
 (K.seq (K.ops [⟨none, .mov (some 4) (.const (.int .i64 0))⟩,
 ⟨none, .mov (some 5) (.const (.int .i64 1))⟩])
 (K.ret))
 (K.skip)))
 (K.seq (K.dops [(0, 0, ⟨none, .ld (some 32) (.tmp 2) 2 true⟩),
 (1, 0, ⟨none, .mov (some 33) (.tmp 1)⟩),
 (2, 0, ⟨none, .mov (some 34) (.tmp 7)⟩),
 (3, 0, ⟨none, .idx (some 35) (.tmp 33) (.tmp 34) 11⟩),
 (4, 0, ⟨none, .addr (some 36) (.tmp 35) 4⟩),
 (5, 0, ⟨none, .ld (some 37) (.tmp 36) 5 true⟩),
 (6, 0, ⟨none, .mov (some 38) (.tmp 1)⟩),
 (7, 0, ⟨none, .mov (some 39) (.tmp 7)⟩),
 (8, 0, ⟨none, .idx (some 40) (.tmp 38) (.tmp 39) 11⟩),
 (9, 0, ⟨none, .addr (some 41) (.tmp 40) 9⟩),
 (10, 0, ⟨none, .ld (some 42) (.tmp 41) 1 false⟩),
 (11, 0, ⟨none, .call (some 43) (.func 37) [(.tmp 32), (.tmp 37), (.tmp 42), (.const (.int .i64 1))]⟩),
 (12, 0, ⟨none, .mov (some 31) (.tmp 43)⟩),
 (13, 0, ⟨none, .ext (some 44) (.tmp 31) 0⟩),
 (14, 0, ⟨none, .ext (some 45) (.tmp 31) 1⟩),
 (15, 0, ⟨none, .ext (some 46) (.tmp 31) 2⟩),
 (16, 0, ⟨none, .mov (some 8) (.tmp 44)⟩),
 (17, 0, ⟨none, .mov (some 9) (.tmp 45)⟩),
 (18, 0, ⟨none, .mov (some 10) (.tmp 46)⟩)])
 (K.seq (K.seq (K.ops [⟨none, .mov (some 47) (.tmp 10)⟩,
 ⟨none, .eqv (some 48) true .i (.tmp 47) (.const (.int .i64 0))⟩])
 (K.cond (.tmp 48)
 (K.seq (K.ops [⟨none, .mov (some 49) (.tmp 10)⟩,
 ⟨none, .mov (some 4) (.const (.int .i64 0))⟩,
 ⟨none, .mov (some 5) (.tmp 49)⟩])
 (K.ret))
 (K.skip)))
 (K.seq (K.ops [⟨none, .mov (some 50) (.tmp 6)⟩,
 ⟨none, .mov (some 51) (.tmp 8)⟩,
 ⟨none, .bin (some 52) .mul (.tmp 50) (.tmp 51)⟩,
 ⟨none, .mov (some 6) (.tmp 52)⟩])
 (K.seq (K.ops [⟨none, .mov (some 53) (.tmp 6)⟩,
 ⟨none, .bin (some 54) .gtr (.tmp 53) (.const (.int .i64 4096))⟩])
 (K.cond (.tmp 54)
 (K.seq (K.ops [⟨none, .mov (some 4) (.const (.int .i64 0))⟩,
 ⟨none, .mov (some 5) (.const (.int .i64 4))⟩])
 (K.ret))
 (K.skip))))))))
 (K.ops [⟨none, .mov (some 15) (.tmp 7)⟩,
 ⟨none, .bin (some 16) .add (.tmp 15) (.const (.int .i64 1))⟩,
 ⟨none, .mov (some 7) (.tmp 16)⟩]))))))
 (K.seq (K.ops [⟨none, .mov (some 55) (.tmp 6)⟩,
 ⟨none, .mov (some 4) (.tmp 55)⟩,
 ⟨none, .mov (some 5) (.const (.int .i64 0))⟩])
 (K.ret))))
theorem c17 : compile Try.prog Try.f17.ntmps (Try.f17.body.getD .skip) = some K17.erase := by kernel_rfl
@[simp] theorem cal17 : callable Try.prog 17 = true := by kernel_rfl

-- splicery/spliceryref13.Inputs · results ["4", "5"]
def K19 : K :=
 K.seq (K.ops [⟨none, .box (some 2) (.tmp 0)⟩,
 ⟨none, .mov (some 4) (.const (.slice none 0 0))⟩,
 ⟨none, .mov (some 5) (.const (.int .i64 0))⟩])
 (K.seq (K.ops [⟨none, .ld (some 11) (.tmp 2) 2 true⟩,
 ⟨none, .mov (some 12) (.tmp 1)⟩,
 ⟨none, .call (some 13) (.func 17) [(.tmp 11), (.tmp 12)]⟩,
 ⟨none, .mov (some 10) (.tmp 13)⟩,
 ⟨none, .ext (some 14) (.tmp 10) 0⟩,
 ⟨none, .ext (some 15) (.tmp 10) 1⟩,
 ⟨none, .mov (some 6) (.tmp 14)⟩,
 ⟨none, .mov (some 7) (.tmp 15)⟩])
 (K.seq (K.seq (K.ops [⟨none, .mov (some 16) (.tmp 7)⟩,
 ⟨none, .eqv (some 17) true .i (.tmp 16) (.const (.int .i64 0))⟩])
 (K.cond (.tmp 17)
 (K.seq (K.ops [⟨none, .mov (some 18) (.tmp 7)⟩,
 ⟨none, .mov (some 4) (.const (.slice none 0 0))⟩,
 ⟨none, .mov (some 5) (.tmp 18)⟩])
 (K.ret))
 (K.skip)))
 (K.seq (K.ops [⟨none, .mov (some 8) (.const (.slice none 0 0))⟩])
 (K.seq (K.seq (K.ops [⟨none, .mov (some 9) (.const (.int .i64 0))⟩])
 (K.block 0 (K.loop (K.seq (K.seq (K.ops [⟨none, .mov (some 19) (.tmp 9)⟩,
 ⟨none, .mov (some 20) (.tmp 1)⟩,
 ⟨none, .len (some 21) false (.tmp 20)⟩,
 ⟨none, .bin (some 22) .lss (.tmp 19) (.tmp 21)⟩])
 (K.cond (.tmp 22)
 (K.skip)
 (K.exit 0)))
 (K.seq (K.block 1 (K.dops [(0, 0, ⟨none, .mov (some 25) (.tmp 8)⟩),
 (1, 0, ⟨none, .ld (some 26) (.tmp 2) 2 true⟩),
 (2, 0, ⟨none, .mov (some 27) (.tmp 1)⟩),
 (3, 0, ⟨none, .mov (some 28) (.tmp 9)⟩),
 (4, 0, ⟨none, .idx (some 29) (.tmp 27) (.tmp 28) 11⟩),
 (5, 0, ⟨none, .addr (some 30) (.tmp 29) 4⟩),
 (6, 0, ⟨none, .ld (some 31) (.tmp 30) 5 true⟩),
 (7, 0, ⟨none, .mov (some 32) (.tmp 1)⟩),
 (8, 0, ⟨none, .mov (some 33) (.tmp 9)⟩),
 (9, 0, ⟨none, .idx (some 34) (.tmp 32) (.tmp 33) 11⟩),
 (10, 0, ⟨none, .addr (some 35) (.tmp 34) 9⟩),
 (11, 0, ⟨none, .ld (some 36) (.tmp 35) 1 false⟩),
 (12, 0, ⟨none, .call (some 37) (.func 38) [(.tmp 26), (.tmp 31), (.tmp 36)]⟩),
 (13, 0, ⟨none, .bslice (some 38) 36 1 1 [(.slice none 0 0)] [(0, 1, (.tmp 37))]⟩),
 (14, 0, ⟨none, .app (some 39) 36 1 24 (.tmp 25) (.tmp 38)⟩),
 (15, 0, ⟨none, .mov (some 8) (.tmp 39)⟩)]))
 (K.ops [⟨none, .mov (some 23) (.tmp 9)⟩,
 ⟨none, .bin (some 24) .add (.tmp 23) (.const (.int .i64 1))⟩,
 ⟨none, .mov (some 9) (.tmp 24)⟩]))))))
 (K.seq (K.ops [⟨none, .mov (some 40) (.tmp 8)⟩,
 ⟨none, .call (some 41) (.func 49) [(.tmp 40)]⟩,
 ⟨none, .call (some 42) (.func 39) [(.tmp 41)]⟩,
 ⟨none, .mov (some 4) (.tmp 42)⟩,
 ⟨none, .mov (some 5) (.const (.int .i64 0))⟩])
 (K.ret))))))
theorem c19 : compile Try.prog Try.f19.ntmps (Try.f19.body.getD .skip) = some K19.erase := by kernel_rfl
@[simp] theorem cal19 : callable Try.prog 19 = true := by kernel_rfl


def aroundV (n k : Int) : Int := (if n < 0 then w64 (0 - w64 (n + 1)) else n).tmod k
theorem around_ok (n k : Int) (hk : 0 < k) : Ret Try.prog 9 [int n, int k] [] (int (aroundV n k)) [] := by
  refine ret_of_wp Try.func9 rfl c9 (rs := [.slot 4]) (by kernel_rfl) ?_
  unfold K9
  have h0 : ¬ k = 0 := by omega
  by_cases h : n < 0
  · simp -implicitDefEqProofs [h, h0]
    exact ret_end 0 (by simp [aroundV, h, w64])
  · simp -implicitDefEqProofs [h, h0]
    exact ret_end 0 (by simp [aroundV, h])
theorem around_range {n k : Int} (hn : w64 n = n) (hk : 0 < k) : 0 ≤ aroundV n k ∧ aroundV n k < k := by
  unfold aroundV
  have h : 0 ≤ (if n < 0 then w64 (0 - w64 (n + 1)) else n) := by
    simp only [w64, IntKind.wrap_i64] at hn ⊢
    split <;> omega
  exact ⟨Int.tmod_nonneg _ h, Int.tmod_lt_of_pos _ hk⟩

def atV (l : List Int) (i most : Int) : Int := if i < 0 ∨ (l.length : Int) ≤ i then 0 else aroundV (l.getD i.toNat 0) most
theorem at_ok (l : List Int) (i most : Int) (hm : 0 < most) : Ret Try.prog 51 [.sl l.length (cellsN l), int i, int most] [] (int (atV l i most)) [] := by
  refine ret_of_wp Try.func51 rfl c51 (rs := [.slot 6]) (by kernel_rfl) ?_
  unfold K51
  by_cases h : i < 0
  · simp -implicitDefEqProofs [h]
    exact ret_end 0 (by simp [atV, h])
  by_cases h2 : (l.length : Int) ≤ i
  · simp -implicitDefEqProofs [h, h2]
    exact fun _ => ret_end 0 (by simp [atV, h2])
  · obtain ⟨j, rfl⟩ : ∃ j : Nat, i = j := ⟨i.toNat, by omega⟩
    have hj : j < l.length := by omega
    have hd := cellsN_drop hj
    simp -implicitDefEqProofs [h, h2, hj, hd]
    intro _
    refine call0 (around_ok l[j] most hm) (by simp) (by simp) ?_
    simp -implicitDefEqProofs
    exact ret_end 0 (by simp [atV, hj, h, show ¬ l.length ≤ j by omega])
theorem at_range {l : List Int} {i most : Int} (hl : ∀ x ∈ l, w64 x = x) (hm : 0 < most) : 0 ≤ atV l i most ∧ atV l i most < most := by
  unfold atV
  split
  · omega
  · rename_i h
    have hj : i.toNat < l.length := by omega
    rw [List.getD_eq_getElem?_getD, List.getElem?_eq_getElem hj]
    exact around_range (hl _ (List.getElem_mem hj)) hm

def listT (t : Typ) : Typ := .mk 2 ⟨0, 0, 0⟩ [t]
def pickT (n defs : Int) : Typ :=
  let k := aroundV n (4 + 2 * defs)
  if k = 1 then .mk 1 ⟨0, 0, 0⟩ [] else if k = 2 then listT Typ0 else if 4 ≤ k then
    (let t := Typ.mk 3 (idR (1 + (k - 4).tdiv 2)) []
     if aroundV (n.tdiv 64) 5 = 1 then listT t else t) else Typ0
theorem pick_ok (n defs : Int) (hn : w64 n = n) (hd : 0 ≤ defs ∧ defs ≤ 4) : Ret Try.prog 24 [int n, int defs] [] (.agg (encT (pickT n defs))) [] := by
  refine ret_of_wp Try.func24 rfl c24 (rs := [.cell 4 5 true]) (by kernel_rfl) ?_
  unfold K24
  have hw1 : IntKind.i64.wrap (2 * defs) = 2 * defs := IntWalk.i64_in _ (by omega)
  have hw2 : IntKind.i64.wrap (4 + 2 * defs) = 4 + 2 * defs := IntWalk.i64_in _ (by omega)
  have hr := around_range hn (show 0 < 4 + 2 * defs by omega)
  simp -implicitDefEqProofs [hw1, hw2]
  refine call0 (around_ok n (4 + 2 * defs) (by omega)) (by simp) (by simp) ?_
  have hp : pickT n defs = if aroundV n (4 + 2 * defs) = 1 then .mk 1 ⟨0, 0, 0⟩ [] else if aroundV n (4 + 2 * defs) = 2 then listT Typ0 else if 4 ≤ aroundV n (4 + 2 * defs) then
      (if aroundV (n.tdiv 64) 5 = 1 then listT (.mk 3 (idR (1 + (aroundV n (4 + 2 * defs) - 4).tdiv 2)) []) else .mk 3 (idR (1 + (aroundV n (4 + 2 * defs) - 4).tdiv 2)) []) else Typ0 := rfl
  rw [hp]
  generalize aroundV n (4 + 2 * defs) = k at hr ⊢
  by_cases h1 : k = 1
  · subst h1
    simp -implicitDefEqProofs
    exact ret_end 0 (by simp [encT])
  by_cases h2 : k = 2
  · subst h2
    simp -implicitDefEqProofs
    refine call0 (list_ok Typ0) (by simp [encT, Typ0]) (by simp [encT]) ?_
    simp -implicitDefEqProofs [encT]
    exact ret_end 0 (by simp [encT, listT])
  by_cases h4 : 4 ≤ k
  · have hd2 : (k - 4).tdiv 2 = (k - 4) / 2 := Int.tdiv_eq_ediv_of_nonneg (by omega)
    have hw3 : IntKind.i64.wrap (k - 4) = k - 4 := IntWalk.i64_in _ (by omega)
    have hw4 : IntKind.i64.wrap ((k - 4) / 2) = (k - 4) / 2 := IntWalk.i64_in _ (by omega)
    have hw5 : IntKind.i64.wrap (1 + (k - 4) / 2) = 1 + (k - 4) / 2 := IntWalk.i64_in _ (by omega)
    have hn6 : IntKind.i64.wrap (n.tdiv 64) = n.tdiv 64 := by
      refine IntWalk.i64_in _ ?_
      simp only [w64, IntKind.wrap_i64] at hn
      by_cases hneg : n < 0
      · have e : n.tdiv 64 = -((-n) / 64) := by
          rw [← Int.tdiv_eq_ediv_of_nonneg (by omega), Int.neg_tdiv, Int.neg_neg]
        omega
      · rw [Int.tdiv_eq_ediv_of_nonneg (by omega)]
        omega
    simp -implicitDefEqProofs [h1, h2, h4, hd2, hw3, hw4, hw5]
    refine call0 (id_ok (1 + (k - 4) / 2)) (by simp) (by simp [encI]) ?_
    simp -implicitDefEqProofs
    refine call0 (of_ok (idR (1 + (k - 4) / 2))) (by simp) (by simp [encT]) ?_
    simp -implicitDefEqProofs [encT, hn6]
    refine call0 (around_ok (n.tdiv 64) 5 (by decide)) (by simp) (by simp) ?_
    by_cases h5 : aroundV (n.tdiv 64) 5 = 1
    · simp -implicitDefEqProofs [h5]
      refine call0 (list_ok (.mk 3 (idR (1 + (k - 4) / 2)) [])) (by simp [encT]) (by simp [encT]) ?_
      simp -implicitDefEqProofs [encT]
      exact ret_end 0 (by simp [encT, listT])
    · simp -implicitDefEqProofs [h5]
      exact ret_end 0 (by simp [encT])
  · simp -implicitDefEqProofs [h1, h2, h4]
    exact ret_end 0 (by simp [encT, Typ0])
end Go.Proofs.Ytbkiphnlbadhcaa
