/-
  Zero of the reference: types of few levels, and their zero values.
-/
import Derived.Test.YtbkiphnlbadhcaaC21
namespace Go.Proofs.Ytbkiphnlbadhcaa
open Go.Abs

-- splicery/spliceryref04.zero · results ["cell 8", "9", "10"]
def K76 : K :=
 K.seq (K.ops [⟨none, .box (some 4) (.tmp 0)⟩,
 ⟨none, .box (some 5) (.tmp 1)⟩,
 ⟨none, .alloc (some 8) [(.int .i64 0), (.int .i64 0), (.slice none 0 0)]⟩,
 ⟨none, .mov (some 9) (.const (.int .i64 0))⟩,
 ⟨none, .mov (some 10) (.const (.int .i64 0))⟩])
 (K.seq (K.seq (K.ops [⟨none, .ld (some 19) (.tmp 4) 2 true⟩,
 ⟨none, .ld (some 20) (.tmp 5) 5 true⟩,
 ⟨none, .call (some 21) (.func 68) [(.tmp 19), (.tmp 20)]⟩,
 ⟨none, .not (some 22) (.tmp 21)⟩])
 (K.cond (.tmp 22)
 (K.seq (K.ops [⟨none, .build (some 23) [(.int .i64 0), (.int .i64 0), (.slice none 0 0)] []⟩,
 ⟨none, .mov (some 24) (.tmp 3)⟩,
 ⟨none, .st none (.tmp 8) (.tmp 23) 3⟩,
 ⟨none, .mov (some 9) (.tmp 24)⟩,
 ⟨none, .mov (some 10) (.const (.int .i64 1))⟩])
 (K.ret))
 (K.skip)))
 (K.seq (K.ops [⟨none, .mov (some 25) (.tmp 3)⟩,
 ⟨none, .bin (some 26) .add (.tmp 25) (.const (.int .i64 1))⟩,
 ⟨none, .mov (some 3) (.tmp 26)⟩])
 (K.seq (K.seq (K.ops [⟨none, .mov (some 27) (.tmp 3)⟩,
 ⟨none, .bin (some 28) .gtr (.tmp 27) (.const (.int .i64 256))⟩,
 ⟨none, .mov (some 29) (.tmp 28)⟩,
 ⟨some (29, false), .mov (some 30) (.tmp 2)⟩,
 ⟨some (29, false), .bin (some 31) .gtr (.tmp 30) (.const (.int .i64 24))⟩,
 ⟨none, .pick (some 32) (.tmp 29) (.const (.bool true)) (.tmp 31)⟩])
 (K.cond (.tmp 32)
 (K.seq (K.ops [⟨none, .build (some 33) [(.int .i64 0), (.int .i64 0), (.slice none 0 0)] []⟩,
 ⟨none, .mov (some 34) (.tmp 3)⟩,
 ⟨none, .st none (.tmp 8) (.tmp 33) 3⟩,
 ⟨none, .mov (some 9) (.tmp 34)⟩,
 ⟨none, .mov (some 10) (.const (.int .i64 4))⟩])
 (K.ret))
 (K.skip)))
 (K.seq (K.seq (K.ops [⟨none, .addr (some 35) (.tmp 5) 0⟩,
 ⟨none, .ld (some 36) (.tmp 35) 1 false⟩,
 ⟨none, .eqv (some 37) false .i (.tmp 36) (.const (.int .i64 0))⟩])
 (K.cond (.tmp 37)
 (K.seq (K.ops [⟨none, .build (some 38) [(.int .i64 0), (.int .i64 0), (.slice none 0 0)] [(0, 1, (.const (.int .i64 0)))]⟩,
 ⟨none, .mov (some 39) (.tmp 3)⟩,
 ⟨none, .st none (.tmp 8) (.tmp 38) 3⟩,
 ⟨none, .mov (some 9) (.tmp 39)⟩,
 ⟨none, .mov (some 10) (.const (.int .i64 0))⟩])
 (K.ret))
 (K.skip)))
 (K.seq (K.seq (K.ops [⟨none, .addr (some 40) (.tmp 5) 0⟩,
 ⟨none, .ld (some 41) (.tmp 40) 1 false⟩,
 ⟨none, .eqv (some 42) false .i (.tmp 41) (.const (.int .i64 1))⟩])
 (K.cond (.tmp 42)
 (K.seq (K.ops [⟨none, .build (some 43) [(.int .i64 0), (.int .i64 0), (.slice none 0 0)] [(0, 1, (.const (.int .i64 1)))]⟩,
 ⟨none, .mov (some 44) (.tmp 3)⟩,
 ⟨none, .st none (.tmp 8) (.tmp 43) 3⟩,
 ⟨none, .mov (some 9) (.tmp 44)⟩,
 ⟨none, .mov (some 10) (.const (.int .i64 0))⟩])
 (K.ret))
 (K.skip)))
 (K.seq (K.seq (K.ops [⟨none, .addr (some 45) (.tmp 5) 0⟩,
 ⟨none, .ld (some 46) (.tmp 45) 1 false⟩,
 ⟨none, .eqv (some 47) false .i (.tmp 46) (.const (.int .i64 2))⟩])
 (K.cond (.tmp 47)
 (K.seq (K.ops [⟨none, .build (some 48) [(.int .i64 0), (.int .i64 0), (.slice none 0 0)] [(0, 1, (.const (.int .i64 4)))]⟩,
 ⟨none, .mov (some 49) (.tmp 3)⟩,
 ⟨none, .st none (.tmp 8) (.tmp 48) 3⟩,
 ⟨none, .mov (some 9) (.tmp 49)⟩,
 ⟨none, .mov (some 10) (.const (.int .i64 0))⟩])
 (K.ret))
 (K.skip)))
 (K.seq (K.ops [⟨none, .ld (some 51) (.tmp 4) 2 true⟩,
 ⟨none, .addr (some 52) (.tmp 5) 1⟩,
 ⟨none, .ld (some 53) (.tmp 52) 3 true⟩,
 ⟨none, .call (some 54) (.func 69) [(.tmp 51), (.tmp 53)]⟩,
 ⟨none, .mov (some 50) (.tmp 54)⟩,
 ⟨none, .ext (some 55) (.tmp 50) 0⟩,
 ⟨none, .ext (some 56) (.tmp 50) 1⟩,
 ⟨none, .alloc (some 11) [(.int .i64 0), (.int .i64 0), (.int .i64 0), (.int .i64 0), (.int .i64 0), (.int .i64 0), (.int .i64 0), (.string ⟨#[]⟩), (.slice none 0 0), (.int .i64 0), (.int .i64 0), (.int .i64 0), (.int .i64 0), (.slice none 0 0), (.int .i64 0), (.int .i64 0), (.int .i64 0), (.int .i64 0), (.int .i64 0), (.int .i64 0), (.int .i64 0), (.int .i64 0), (.int .i64 0), (.int .i64 0), (.int .i64 0), (.int .i64 0), (.slice none 0 0), (.slice none 0 0), (.slice none 0 0), (.int .i64 0), (.slice none 0 0)]⟩,
 ⟨none, .st none (.tmp 11) (.tmp 55) 31⟩,
 ⟨none, .mov (some 12) (.tmp 56)⟩])
 (K.seq (K.ops [⟨none, .build (some 57) [(.int .i64 0), (.int .i64 0), (.slice none 0 0)] [(0, 1, (.const (.int .i64 2)))]⟩,
 ⟨none, .alloc (some 13) [(.int .i64 0), (.int .i64 0), (.slice none 0 0)]⟩,
 ⟨none, .st none (.tmp 13) (.tmp 57) 3⟩])
 (K.seq (K.ops [⟨none, .addr (some 58) (.tmp 11) 8⟩,
 ⟨none, .ld (some 59) (.tmp 58) 1 false⟩,
 ⟨none, .len (some 60) false (.tmp 59)⟩,
 ⟨none, .mov (some 14) (.tmp 60)⟩])
 (K.seq (K.seq (K.ops [⟨none, .addr (some 61) (.tmp 11) 3⟩,
 ⟨none, .ld (some 62) (.tmp 61) 1 false⟩,
 ⟨none, .eqv (some 63) false .i (.tmp 62) (.const (.int .i64 1))⟩])
 (K.cond (.tmp 63)
 (K.seq (K.ops [⟨none, .addr (some 64) (.tmp 13) 0⟩,
 ⟨none, .st none (.tmp 64) (.const (.int .i64 3)) 1⟩])
 (K.seq (K.seq (K.ops [⟨none, .mov (some 65) (.tmp 14)⟩,
 ⟨none, .eqv (some 66) false .i (.tmp 65) (.const (.int .i64 0))⟩])
 (K.cond (.tmp 66)
 (K.seq (K.ops [⟨none, .build (some 67) [(.int .i64 0), (.int .i64 0), (.slice none 0 0)] []⟩,
 ⟨none, .mov (some 68) (.tmp 3)⟩,
 ⟨none, .st none (.tmp 8) (.tmp 67) 3⟩,
 ⟨none, .mov (some 9) (.tmp 68)⟩,
 ⟨none, .mov (some 10) (.const (.int .i64 1))⟩])
 (K.ret))
 (K.skip)))
 (K.ops [⟨none, .mov (some 14) (.const (.int .i64 1))⟩])))
 (K.skip)))
 (K.seq (K.seq (K.ops [⟨none, .mov (some 15) (.const (.int .i64 0))⟩])
 (K.block 0 (K.loop (K.seq (K.seq (K.ops [⟨none, .mov (some 69) (.tmp 15)⟩,
 ⟨none, .mov (some 70) (.tmp 14)⟩,
 ⟨none, .bin (some 71) .lss (.tmp 69) (.tmp 70)⟩])
 (K.cond (.tmp 71)
 (K.skip)
 (K.exit 0)))
 (K.seq (K.block 1 (K.seq (K.dops [(0, 1, ⟨none, .ld (some 75) (.tmp 4) 2 true⟩),
 (1, 1, ⟨none, .addr (some 76) (.tmp 11) 8⟩),
 (2, 1, ⟨none, .ld (some 77) (.tmp 76) 1 false⟩),
 (3, 0, ⟨none, .mov (some 78) (.tmp 15)⟩),
 (4, 1, ⟨none, .idx (some 79) (.tmp 77) (.tmp 78) 11⟩),
 (5, 1, ⟨none, .addr (some 80) (.tmp 79) 4⟩),
 (6, 1, ⟨none, .ld (some 81) (.tmp 80) 5 true⟩),
 (7, 0, ⟨none, .mov (some 82) (.tmp 2)⟩),
 (8, 0, ⟨none, .bin (some 83) .add (.tmp 82) (.const (.int .i64 1))⟩),
 (9, 0, ⟨none, .mov (some 84) (.tmp 3)⟩),
 (10, 1, ⟨none, .call (some 85) (.func 76) [(.tmp 75), (.tmp 81), (.tmp 83), (.tmp 84)]⟩),
 (11, 0, ⟨none, .mov (some 74) (.tmp 85)⟩),
 (12, 0, ⟨none, .ext (some 86) (.tmp 74) 0⟩),
 (13, 0, ⟨none, .ext (some 87) (.tmp 74) 1⟩),
 (14, 0, ⟨none, .ext (some 88) (.tmp 74) 2⟩),
 (15, 0, ⟨none, .alloc (some 16) [(.int .i64 0), (.int .i64 0), (.slice none 0 0)]⟩),
 (16, 0, ⟨none, .st none (.tmp 16) (.tmp 86) 3⟩),
 (17, 0, ⟨none, .mov (some 17) (.tmp 87)⟩),
 (18, 0, ⟨none, .mov (some 18) (.tmp 88)⟩)])
 (K.seq (K.seq (K.ops [⟨none, .mov (some 89) (.tmp 18)⟩,
 ⟨none, .eqv (some 90) true .i (.tmp 89) (.const (.int .i64 0))⟩])
 (K.cond (.tmp 90)
 (K.seq (K.ops [⟨none, .build (some 91) [(.int .i64 0), (.int .i64 0), (.slice none 0 0)] []⟩,
 ⟨none, .mov (some 92) (.tmp 17)⟩,
 ⟨none, .mov (some 93) (.tmp 18)⟩,
 ⟨none, .st none (.tmp 8) (.tmp 91) 3⟩,
 ⟨none, .mov (some 9) (.tmp 92)⟩,
 ⟨none, .mov (some 10) (.tmp 93)⟩])
 (K.ret))
 (K.skip)))
 (K.seq (K.ops [⟨none, .mov (some 94) (.tmp 17)⟩,
 ⟨none, .mov (some 3) (.tmp 94)⟩])
 (K.ops [⟨none, .addr (some 95) (.tmp 13) 2⟩,
 ⟨none, .ld (some 96) (.tmp 95) 1 false⟩,
 ⟨none, .ld (some 97) (.tmp 16) 3 true⟩,
 ⟨none, .bslice (some 98) 60 3 1 [(.int .i64 0), (.int .i64 0), (.slice none 0 0)] [(0, 3, (.tmp 97))]⟩,
 ⟨none, .app (some 99) 60 3 40 (.tmp 96) (.tmp 98)⟩,
 ⟨none, .addr (some 100) (.tmp 13) 2⟩,
 ⟨none, .st none (.tmp 100) (.tmp 99) 1⟩])))))
 (K.ops [⟨none, .mov (some 72) (.tmp 15)⟩,
 ⟨none, .bin (some 73) .add (.tmp 72) (.const (.int .i64 1))⟩,
 ⟨none, .mov (some 15) (.tmp 73)⟩]))))))
 (K.seq (K.ops [⟨none, .ld (some 101) (.tmp 13) 3 true⟩,
 ⟨none, .mov (some 102) (.tmp 3)⟩,
 ⟨none, .st none (.tmp 8) (.tmp 101) 3⟩,
 ⟨none, .mov (some 9) (.tmp 102)⟩,
 ⟨none, .mov (some 10) (.const (.int .i64 0))⟩])
 (K.ret)))))))))))))
theorem c76 : compile Try.prog Try.f76.ntmps (Try.f76.body.getD .skip) = some K76.erase := by kernel_rfl
@[simp] theorem cal76 : callable Try.prog 76 = true := by kernel_rfl

-- splicery/spliceryref04.Zero · results ["cell 4", "5"]
def K56 : K :=
 K.seq (K.ops [⟨none, .box (some 2) (.tmp 0)⟩,
 ⟨none, .box (some 3) (.tmp 1)⟩,
 ⟨none, .alloc (some 4) [(.int .i64 0), (.int .i64 0), (.slice none 0 0)]⟩,
 ⟨none, .mov (some 5) (.const (.int .i64 0))⟩])
 (K.seq (K.ops [⟨none, .ld (some 10) (.tmp 2) 2 true⟩,
 ⟨none, .ld (some 11) (.tmp 3) 5 true⟩,
 ⟨none, .call (some 12) (.func 76) [(.tmp 10), (.tmp 11), (.const (.int .i64 1)), (.const (.int .i64 0))]⟩,
 ⟨none, .mov (some 9) (.tmp 12)⟩,
 ⟨none, .ext (some 13) (.tmp 9) 0⟩,
 ⟨none, .ext (some 14) (.tmp 9) 1⟩,
 ⟨none, .ext (some 15) (.tmp 9) 2⟩,
 ⟨none, .alloc (some 6) [(.int .i64 0), (.int .i64 0), (.slice none 0 0)]⟩,
 ⟨none, .st none (.tmp 6) (.tmp 13) 3⟩,
 ⟨none, .mov (some 7) (.tmp 14)⟩,
 ⟨none, .mov (some 8) (.tmp 15)⟩])
 (K.seq (K.seq (K.ops [⟨none, .mov (some 16) (.tmp 8)⟩,
 ⟨none, .eqv (some 17) true .i (.tmp 16) (.const (.int .i64 0))⟩])
 (K.cond (.tmp 17)
 (K.seq (K.ops [⟨none, .build (some 18) [(.int .i64 0), (.int .i64 0), (.slice none 0 0)] []⟩,
 ⟨none, .mov (some 19) (.tmp 8)⟩,
 ⟨none, .st none (.tmp 4) (.tmp 18) 3⟩,
 ⟨none, .mov (some 5) (.tmp 19)⟩])
 (K.ret))
 (K.skip)))
 (K.seq (K.ops [⟨none, .ld (some 20) (.tmp 6) 3 true⟩,
 ⟨none, .st none (.tmp 4) (.tmp 20) 3⟩,
 ⟨none, .mov (some 5) (.const (.int .i64 0))⟩])
 (K.ret))))
theorem c56 : compile Try.prog Try.f56.ntmps (Try.f56.body.getD .skip) = some K56.erase := by kernel_rfl
@[simp] theorem cal56 : callable Try.prog 56 = true := by kernel_rfl


/-- A type of which the zero value has at most n levels. -/
def Wz (p : Prg) : Nat → Typ → Prop
  | 0, _ => False
  | f + 1, t => validT p t = true ∧ (t.k = 0 ∨ t.k = 1 ∨ t.k = 2 ∨ (t.k = 3 ∧ ((dfn p t.id).kind = 0 ∨ (dfn p t.id).kind = 1) ∧ 1 ≤ (dfn p t.id).slots.length ∧ (dfn p t.id).slots.length ≤ 3 ∧ ∀ s ∈ (dfn p t.id).slots, Wz p f s.typ))
def zeroV (p : Prg) : Nat → Typ → Val
  | 0, _ => .mk 0 0 []
  | f + 1, t => if t.k = 0 then .mk 0 0 [] else if t.k = 1 then .mk 1 0 [] else if t.k = 2 then .mk 4 0 []
    else if (dfn p t.id).kind = 1 then .mk 3 0 (((dfn p t.id).slots.map fun s => zeroV p f s.typ).take 1) else .mk 2 0 ((dfn p t.id).slots.map fun s => zeroV p f s.typ)
def zcN : Nat → Nat
  | 0 => 0
  | f + 1 => 1 + 3 * zcN f
theorem sizesV_le {l : List Val} {c : Nat} (h : ∀ v ∈ l, sizeV v ≤ c) : sizesV l ≤ l.length * c := by
  induction l with
  | nil => simp [sizesV]
  | cons v l ih =>
    have h1 := h v (List.mem_cons_self ..)
    have h2 := ih fun x hx => h x (List.mem_cons_of_mem _ hx)
    simp only [sizesV, List.length_cons, Nat.add_mul, Nat.one_mul]
    omega
theorem zero_size (p : Prg) : ∀ (f : Nat) (t : Typ), Wz p f t → sizeV (zeroV p f t) ≤ zcN f
  | 0, t, h => h.elim
  | f + 1, t, h => by
    unfold Wz at h
    unfold zeroV zcN
    obtain ⟨_, h⟩ := h
    by_cases h0 : t.k = 0
    · rw [if_pos h0]; simp [sizeV, sizesV]
    by_cases h1 : t.k = 1
    · rw [if_neg h0, if_pos h1]; simp [sizeV, sizesV]
    by_cases h2 : t.k = 2
    · rw [if_neg h0, if_neg h1, if_pos h2]; simp [sizeV, sizesV]
    rw [if_neg h0, if_neg h1, if_neg h2]
    obtain ⟨_, _, _, g3, g4⟩ := h.resolve_left h0 |>.resolve_left h1 |>.resolve_left h2
    have hm : ∀ v ∈ (dfn p t.id).slots.map fun s => zeroV p f s.typ, sizeV v ≤ zcN f := fun v hv => by
      obtain ⟨s, hs, rfl⟩ := List.mem_map.1 hv
      exact zero_size p f s.typ (g4 s hs)
    have hl : ((dfn p t.id).slots.map fun s => zeroV p f s.typ).length ≤ 3 := by simpa using g3
    generalize ((dfn p t.id).slots.map fun s => zeroV p f s.typ) = L at hm hl
    split
    · have := sizesV_le (l := L.take 1) fun v hv => hm v (List.mem_of_mem_take hv)
      have e : (L.take 1).length * zcN f ≤ 3 * zcN f := Nat.mul_le_mul_right _ (by simp; omega)
      simp only [sizeV]; omega
    · have := sizesV_le hm
      have e : L.length * zcN f ≤ 3 * zcN f := Nat.mul_le_mul_right _ hl
      simp only [sizeV]; omega

theorem zero_ok (p : Prg) : ∀ (f : Nat) (t : Typ) (d : Int) (u : Nat), Wz p f t → 1 ≤ d → d + f ≤ 25 → u + zcN f ≤ 256 →
    Ret Try.prog 76 [.agg (encP p), .agg (encT t), int d, int u] [] (.tup [.agg (encV (zeroV p f t)), int (u + sizeV (zeroV p f t) : Nat), int 0]) []
  | 0, t, d, u, h, _, _, _ => h.elim
  | f + 1, t, d, u, h, hd, hdf, hu => by
    have hz := zero_size p (f + 1) t h
    unfold Wz at h
    obtain ⟨hv, h⟩ := h
    simp only [zcN] at hu hz
    refine ret_of_wp Try.func76 rfl c76 (rs := [.cell 8 3 true, .slot 9, .slot 10]) (by kernel_rfl) ?_
    unfold K76
    have hwu : IntKind.i64.wrap ((u : Int) + 1) = (u : Int) + 1 := IntWalk.i64_in _ (by omega)
    have hu1 : ¬ (256 : Int) < (u : Int) + 1 := by omega
    have hd1 : ¬ 24 < d := by omega
    simp -implicitDefEqProofs [encP, encT]
    refine call0 (refValid_ok p t) (by simp [encP, encT]) (by simp) ?_
    by_cases h0 : t.k = 0
    · have e : zeroV p (f + 1) t = .mk 0 0 [] := by rw [zeroV, if_pos h0]
      rw [e]
      simp -implicitDefEqProofs [hv, hwu, hu1, hd1, h0]
      exact ret_end 0 (by simp [encV, valk_mk, valn_mk, valkids_mk, sizeV, sizesV])
    by_cases h1 : t.k = 1
    · have e : zeroV p (f + 1) t = .mk 1 0 [] := by rw [zeroV, if_neg h0, if_pos h1]
      rw [e]
      simp -implicitDefEqProofs [hv, hwu, hu1, hd1, h1]
      exact ret_end 0 (by simp [encV, valk_mk, valn_mk, valkids_mk, sizeV, sizesV])
    by_cases h2 : t.k = 2
    · have e : zeroV p (f + 1) t = .mk 4 0 [] := by rw [zeroV, if_neg h0, if_neg h1, if_pos h2]
      rw [e]
      simp -implicitDefEqProofs [hv, hwu, hu1, hd1, h2]
      exact ret_end 0 (by simp [encV, valk_mk, valn_mk, valkids_mk, sizeV, sizesV])
    obtain ⟨_, gk, g1, g3, g4⟩ := h.resolve_left h0 |>.resolve_left h1 |>.resolve_left h2
    simp -implicitDefEqProofs [hv, hwu, hu1, hd1, h0, h1, h2]
    refine call0 (refDef_ok p t.id) (by simp [encP, encI]) (by simp [defR]) ?_
    have hD : (findD p.defs t.id).getD .zero = dfn p t.id := rfl
    have hzl : ∀ s ∈ (dfn p t.id).slots, sizeV (zeroV p f s.typ) ≤ zcN f := fun s hs => zero_size p f s.typ (g4 s hs)
    have hLl : ((dfn p t.id).slots.map fun s => zeroV p f s.typ).length = (dfn p t.id).slots.length := by simp
    have hLg : ∀ i (h : i < (dfn p t.id).slots.length), ((dfn p t.id).slots.map fun s => zeroV p f s.typ)[i]? = some (zeroV p f (dfn p t.id).slots[i].typ) := fun i h => by simp [h]
    have e : ∃ (Q : Nat) (K : Int), zeroV p (f + 1) t = .mk K 0 (((dfn p t.id).slots.map fun s => zeroV p f s.typ).take Q) ∧ Q ≤ (dfn p t.id).slots.length ∧ (((dfn p t.id).kind = 1 ∧ Q = 1 ∧ K = 3) ∨ ((dfn p t.id).kind = 0 ∧ Q = (dfn p t.id).slots.length ∧ K = 2)) := by
      rcases gk with gk | gk
      · exact ⟨_, 2, by rw [zeroV, if_neg h0, if_neg h1, if_neg h2, if_neg (by omega), List.take_of_length_le (by simp)], Nat.le_refl _, .inr ⟨gk, rfl, rfl⟩⟩
      · exact ⟨1, 3, by rw [zeroV, if_neg h0, if_neg h1, if_neg h2, if_pos gk], g1, .inl ⟨gk, rfl, rfl⟩⟩
    obtain ⟨Q, K, e, hQ, hQK⟩ := e
    rw [e] at hz ⊢
    clear e gk
    generalize ((dfn p t.id).slots.map fun s => zeroV p f s.typ) = L at hLl hLg hz
    generalize dfn p t.id = D at hD g1 g3 g4 hzl hLl hLg hQ hQK
    have hs0 : ∀ i, i ≤ D.slots.length → sizesV (L.take i) ≤ i * zcN f := fun i hi => by
      have := sizesV_le (l := L.take i) (c := zcN f) fun v hv => by
        obtain ⟨j, hj, rfl⟩ := List.mem_iff_getElem.1 (List.mem_of_mem_take hv)
        have := hLg j (by omega)
        rw [List.getElem?_eq_getElem hj] at this
        rw [Option.some.inj this]
        exact hzl _ (List.getElem_mem _)
      simpa [Nat.min_eq_left (show i ≤ L.length by omega)] using this
    rcases hQK with ⟨hk, hQ1, hK⟩ | ⟨hk, hQ1, hK⟩
    case' inl =>
      have hn0 : ¬ D.slots = [] := fun e => by rw [e] at g1; simp at g1
      simp -implicitDefEqProofs [defR, hD, encD, hk, hn0]
      intro _
    case' inr =>
      simp -implicitDefEqProofs [defR, hD, encD, hk]
      intro _
    all_goals
      refine loopS (S := Nat) (fun i => [(2, int d), (3, int ((u + 1 + sizesV (L.take i) : Nat) : Int)), (4, .ptr 0 0), (8, .ptr 2 0), (11, .ptr 3 0), (13, .ptr 4 0), (14, int Q), (15, int i)])
        (fun i => [.box (encP p), .box (encT t), .box [int 0, int 0, .nil], .box (encD D), .box [int K, int 0, .row 5 i], .row false 60 3 i (cellsV (L.take i))]) (fun i => i ≤ Q) (fun i => Q - i) 0 (by simp)
        ((weak_nilbox (l := 4) (o := 2) rfl rfl 60 3).trans (selW [0, 1, 2, 3, 4, 5] 0 (by simp) (by simp) (by simp [encP, encT, encD, hk, hK]) (by simp [sizesV, hQ1]))) ?_
      intro i hi
      by_cases hiQ : i < Q
      · have hiD : i < D.slots.length := by omega
        have hiL : i < L.length := by omega
        have hLi := hLg i hiD
        rw [List.getElem?_eq_getElem hiL] at hLi
        have hLi := Option.some.inj hLi
        have htL : cellsV (L.take (i + 1)) = cellsV (L.take i) ++ encV (zeroV p f D.slots[i].typ) := by
          rw [List.take_succ_eq_append_getElem hiL, hLi]; simp [encV]
        have hsz := sizesV_take hiL
        rw [hLi] at hsz
        have b1 := hs0 i (by omega)
        have b2 : i * zcN f ≤ 2 * zcN f := Nat.mul_le_mul_right _ (by omega)
        have hwd : IntKind.i64.wrap (d + 1) = d + 1 := IntWalk.i64_in _ (by omega)
        have hwi : IntKind.i64.wrap ((i : Int) + 1) = (i : Int) + 1 := IntWalk.i64_in _ (by omega)
        simp -implicitDefEqProofs [hiQ, hiD, cellsS_drop hiD, encP, encD, encS, hwd]
        refine dcallF0 (zero_ok p f D.slots[i].typ (d + 1) (u + 1 + sizesV (L.take i)) (g4 _ (List.getElem_mem hiD)) (by omega) (by omega) (by omega)) (by simp [encP, encT]) (by simp [encV]) ?_
        simp -implicitDefEqProofs [lenP, encV]
        refine ⟨⟨by simp [maxLen]; omega, by omega⟩, ?_⟩
        exact roundS (i + 1) hiQ (by omega) (selW [0, 1, 2, 3, 4, 5] 0 (by simp) (by simp) (by simp [encP, encT, encD, htL, encV]) (by simp [hwi, hsz]; omega))
      · have hiQ : i = Q := by omega
        subst hiQ
        have hlt : (L.take i).length = i := by simp; omega
        simp -implicitDefEqProofs
        exact ret_end 1 (by simp [encV, hlt, valk_mk, valn_mk, valkids_mk, sizeV, Nat.add_assoc]; omega)

theorem zcN_le {f : Nat} (h : f ≤ 5) : zcN f ≤ 121 := by
  have : f = 0 ∨ f = 1 ∨ f = 2 ∨ f = 3 ∨ f = 4 ∨ f = 5 := by omega
  rcases this with rfl | rfl | rfl | rfl | rfl | rfl <;> decide
theorem zeroT_ok (p : Prg) (f : Nat) (hf : f ≤ 5) (t : Typ) (h : Wz p f t) : Ret Try.prog 56 [.agg (encP p), .agg (encT t)] [] (.tup [.agg (encV (zeroV p f t)), int 0]) [] := by
  refine ret_of_wp Try.func56 rfl c56 (rs := [.cell 4 3 true, .slot 5]) (by kernel_rfl) ?_
  unfold K56
  have hz := zcN_le hf
  simp -implicitDefEqProofs [encP, encT]
  refine call0 (zero_ok p f t 1 0 h (by omega) (by omega) (by omega)) (by simp [encP, encT]) (by simp [encV]) ?_
  simp -implicitDefEqProofs [encV]
  exact ret_end 0 (by simp)
end Go.Proofs.Ytbkiphnlbadhcaa
