/-
  domain.all: all values of a type up to a bound.
-/
import Derived.Test.YtbkiphnlbadhcaaC6
import Derived.Test.YtbkiphnlbadhcaaC7
namespace Go.Proofs.Ytbkiphnlbadhcaa
open Go.Abs

-- splicery/domain.all · results ["6"]
def K32 : K :=
 K.seq (K.ops [⟨none, .box (some 3) (.tmp 0)⟩,
 ⟨none, .box (some 4) (.tmp 1)⟩,
 ⟨none, .mov (some 6) (.const (.slice none 0 0))⟩])
 (K.seq (K.ops [⟨none, .alloc (some 7) [(.slice none 0 0)]⟩])
 (K.seq (K.seq (K.ops [⟨none, .addr (some 21) (.tmp 4) 0⟩,
 ⟨none, .ld (some 22) (.tmp 21) 1 false⟩])
 (K.block 0 (K.seq (K.ops [⟨none, .eqv (some 24) false .i (.tmp 22) (.const (.int .i64 0))⟩,
 ⟨none, .mov (some 23) (.tmp 24)⟩])
 (K.cond (.tmp 23)
 (K.seq (K.seq (K.ops [⟨none, .mov (some 25) (.tmp 2)⟩,
 ⟨none, .neg (some 26) (.tmp 25)⟩,
 ⟨none, .mov (some 8) (.tmp 26)⟩])
 (K.block 1 (K.loop (K.seq (K.seq (K.ops [⟨none, .mov (some 27) (.tmp 8)⟩,
 ⟨none, .mov (some 28) (.tmp 2)⟩,
 ⟨none, .bin (some 29) .leq (.tmp 27) (.tmp 28)⟩])
 (K.cond (.tmp 29)
 (K.skip)
 (K.exit 1)))
 (K.seq (K.block 2 (K.dops [(0, 0, ⟨none, .ld (some 32) (.tmp 7) 1 false⟩),
 (1, 0, ⟨none, .mov (some 33) (.tmp 8)⟩),
 (2, 0, ⟨none, .build (some 34) [(.int .i64 0), (.int .i64 0), (.slice none 0 0)] [(0, 1, (.const (.int .i64 0))), (1, 1, (.tmp 33))]⟩),
 (3, 0, ⟨none, .len (some 35) false (.tmp 32)⟩),
 (4, 0, ⟨none, .bslice (some 36) 60 3 1 [(.int .i64 0), (.int .i64 0), (.slice none 0 0)] [(0, 3, (.const (.agg #[(.int .i64 0), (.int .i64 0), (.slice none 0 0)])))]⟩),
 (5, 0, ⟨none, .app (some 37) 60 3 40 (.tmp 32) (.tmp 36)⟩),
 (6, 6, ⟨none, .idx (some 38) (.tmp 37) (.tmp 35) 3⟩),
 (7, 6, ⟨none, .st none (.tmp 38) (.tmp 34) 3⟩),
 (8, 5, ⟨none, .st none (.tmp 7) (.tmp 37) 1⟩)]))
 (K.ops [⟨none, .mov (some 30) (.tmp 8)⟩,
 ⟨none, .bin (some 31) .add (.tmp 30) (.const (.int .i64 1))⟩,
 ⟨none, .mov (some 8) (.tmp 31)⟩]))))))
 (K.seq (K.ops [⟨none, .ld (some 39) (.tmp 7) 1 false⟩,
 ⟨none, .mov (some 6) (.tmp 39)⟩])
 (K.ret)))
 (K.seq (K.ops [⟨none, .eqv (some 41) false .i (.tmp 22) (.const (.int .i64 1))⟩,
 ⟨none, .mov (some 40) (.tmp 41)⟩])
 (K.cond (.tmp 40)
 (K.seq (K.ops [⟨none, .build (some 42) [(.int .i64 0), (.int .i64 0), (.slice none 0 0)] [(0, 1, (.const (.int .i64 1)))]⟩,
 ⟨none, .build (some 43) [(.int .i64 0), (.int .i64 0), (.slice none 0 0)] [(0, 1, (.const (.int .i64 1))), (1, 1, (.const (.int .i64 1)))]⟩,
 ⟨none, .brow (some 44) 60 3 2 [(.int .i64 0), (.int .i64 0), (.slice none 0 0), (.int .i64 0), (.int .i64 0), (.slice none 0 0)] [(0, 3, (.tmp 42)), (3, 3, (.tmp 43))]⟩,
 ⟨none, .mov (some 6) (.tmp 44)⟩])
 (K.ret))
 (K.seq (K.ops [⟨none, .eqv (some 46) false .i (.tmp 22) (.const (.int .i64 2))⟩,
 ⟨none, .mov (some 45) (.tmp 46)⟩])
 (K.cond (.tmp 45)
 (K.seq (K.dops [(0, 1, ⟨none, .ld (some 47) (.tmp 3) 2 true⟩),
 (1, 1, ⟨none, .addr (some 48) (.tmp 4) 4⟩),
 (2, 1, ⟨none, .ld (some 49) (.tmp 48) 1 false⟩),
 (3, 1, ⟨none, .idx (some 50) (.tmp 49) (.const (.int .i64 0)) 5⟩),
 (4, 1, ⟨none, .ld (some 51) (.tmp 50) 5 true⟩),
 (5, 0, ⟨none, .mov (some 52) (.tmp 2)⟩),
 (6, 3, ⟨none, .call (some 53) (.func 32) [(.tmp 47), (.tmp 51), (.tmp 52)]⟩),
 (7, 0, ⟨none, .mov (some 9) (.tmp 53)⟩)])
 (K.seq (K.seq (K.ops [⟨none, .mov (some 54) (.tmp 2)⟩,
 ⟨none, .mm (some 55) false [(.tmp 54), (.const (.int .i64 2))]⟩,
 ⟨none, .bin (some 56) .add (.tmp 55) (.const (.int .i64 1))⟩,
 ⟨none, .mov (some 57) (.const (.int .i64 0))⟩])
 (K.block 3 (K.loop (K.seq (K.ops [⟨none, .bin (some 58) .lss (.tmp 57) (.tmp 56)⟩])
 (K.seq (K.cond (.tmp 58)
 (K.skip)
 (K.exit 3))
 (K.seq (K.block 4 (K.seq (K.ops [⟨none, .mov (some 59) (.tmp 57)⟩,
 ⟨none, .mov (some 10) (.tmp 59)⟩])
 (K.seq (K.ops [⟨none, .mov (some 60) (.tmp 9)⟩,
 ⟨none, .bslice (some 61) 36 1 1 [(.slice none 0 0)] [(0, 1, (.tmp 60))]⟩,
 ⟨none, .mov (some 62) (.tmp 10)⟩,
 ⟨none, .call (some 63) (.func 63) [(.tmp 61), (.tmp 62)]⟩,
 ⟨none, .call (some 64) (.func 46) [(.tmp 63)]⟩])
 (K.block 5 (K.rng (.tmp 64) [65]
 (K.ops [⟨none, .mov (some 11) (.tmp 65)⟩])
 (K.block 6 (K.dops [(0, 0, ⟨none, .ld (some 66) (.tmp 7) 1 false⟩),
 (1, 0, ⟨none, .mov (some 67) (.tmp 11)⟩),
 (2, 0, ⟨none, .build (some 68) [(.int .i64 0), (.int .i64 0), (.slice none 0 0)] [(0, 1, (.const (.int .i64 4))), (2, 1, (.tmp 67))]⟩),
 (3, 0, ⟨none, .len (some 69) false (.tmp 66)⟩),
 (4, 0, ⟨none, .bslice (some 70) 60 3 1 [(.int .i64 0), (.int .i64 0), (.slice none 0 0)] [(0, 3, (.const (.agg #[(.int .i64 0), (.int .i64 0), (.slice none 0 0)])))]⟩),
 (5, 0, ⟨none, .app (some 71) 60 3 40 (.tmp 66) (.tmp 70)⟩),
 (6, 6, ⟨none, .idx (some 72) (.tmp 71) (.tmp 69) 3⟩),
 (7, 6, ⟨none, .st none (.tmp 72) (.tmp 68) 3⟩),
 (8, 5, ⟨none, .st none (.tmp 7) (.tmp 71) 1⟩)])))))))
 (K.ops [⟨none, .bin (some 73) .add (.tmp 57) (.const (.int .i64 1))⟩,
 ⟨none, .mov (some 57) (.tmp 73)⟩])))))))
 (K.seq (K.ops [⟨none, .ld (some 74) (.tmp 7) 1 false⟩,
 ⟨none, .mov (some 6) (.tmp 74)⟩])
 (K.ret))))
 (K.skip)))))))))
 (K.seq (K.ops [⟨none, .ld (some 76) (.tmp 3) 2 true⟩,
 ⟨none, .addr (some 77) (.tmp 4) 1⟩,
 ⟨none, .ld (some 78) (.tmp 77) 3 true⟩,
 ⟨none, .call (some 79) (.func 64) [(.tmp 76), (.tmp 78)]⟩,
 ⟨none, .mov (some 75) (.tmp 79)⟩,
 ⟨none, .ext (some 80) (.tmp 75) 0⟩,
 ⟨none, .ext (some 81) (.tmp 75) 1⟩,
 ⟨none, .alloc (some 12) [(.int .i64 0), (.int .i64 0), (.int .i64 0), (.int .i64 0), (.int .i64 0), (.int .i64 0), (.int .i64 0), (.string ⟨#[]⟩), (.slice none 0 0), (.int .i64 0), (.int .i64 0), (.int .i64 0), (.int .i64 0), (.slice none 0 0), (.int .i64 0), (.int .i64 0), (.int .i64 0), (.int .i64 0), (.int .i64 0), (.int .i64 0), (.int .i64 0), (.int .i64 0), (.int .i64 0), (.int .i64 0), (.int .i64 0), (.int .i64 0), (.slice none 0 0), (.slice none 0 0), (.slice none 0 0), (.int .i64 0), (.slice none 0 0)]⟩,
 ⟨none, .st none (.tmp 12) (.tmp 80) 31⟩,
 ⟨none, .mov (some 13) (.tmp 81)⟩])
 (K.seq (K.ops [⟨none, .mov (some 14) (.const (.slice none 0 0))⟩])
 (K.seq (K.seq (K.ops [⟨none, .addr (some 82) (.tmp 12) 8⟩,
 ⟨none, .ld (some 83) (.tmp 82) 1 false⟩,
 ⟨none, .len (some 84) false (.tmp 83)⟩,
 ⟨none, .mov (some 85) (.const (.int .i64 0))⟩])
 (K.block 7 (K.loop (K.seq (K.ops [⟨none, .bin (some 86) .lss (.tmp 85) (.tmp 84)⟩])
 (K.seq (K.cond (.tmp 86)
 (K.skip)
 (K.exit 7))
 (K.seq (K.block 8 (K.seq (K.ops [⟨none, .mov (some 87) (.tmp 85)⟩,
 ⟨none, .idx (some 88) (.tmp 83) (.tmp 85) 11⟩,
 ⟨none, .ld (some 89) (.tmp 88) 11 true⟩,
 ⟨none, .alloc (some 16) [(.int .i64 0), (.int .i64 0), (.int .i64 0), (.string ⟨#[]⟩), (.int .i64 0), (.int .i64 0), (.int .i64 0), (.int .i64 0), (.slice none 0 0), (.int .i64 0), (.int .i64 0)]⟩,
 ⟨none, .mov (some 15) (.tmp 87)⟩,
 ⟨none, .st none (.tmp 16) (.tmp 89) 11⟩])
 (K.seq (K.ops [⟨none, .ld (some 90) (.tmp 3) 2 true⟩,
 ⟨none, .addr (some 91) (.tmp 16) 4⟩,
 ⟨none, .ld (some 92) (.tmp 91) 5 true⟩,
 ⟨none, .mov (some 93) (.tmp 2)⟩,
 ⟨none, .call (some 94) (.func 32) [(.tmp 90), (.tmp 92), (.tmp 93)]⟩,
 ⟨none, .mov (some 17) (.tmp 94)⟩])
 (K.seq (K.ops [⟨none, .mov (some 95) (.tmp 14)⟩,
 ⟨none, .mov (some 96) (.tmp 17)⟩,
 ⟨none, .bslice (some 97) 36 1 1 [(.slice none 0 0)] [(0, 1, (.tmp 96))]⟩,
 ⟨none, .app (some 98) 36 1 24 (.tmp 95) (.tmp 97)⟩,
 ⟨none, .mov (some 14) (.tmp 98)⟩])
 (K.seq (K.ops [⟨none, .mov (some 99) (.tmp 17)⟩,
 ⟨none, .len (some 100) false (.tmp 99)⟩,
 ⟨none, .mov (some 101) (.const (.int .i64 0))⟩])
 (K.block 9 (K.loop (K.seq (K.ops [⟨none, .bin (some 102) .lss (.tmp 101) (.tmp 100)⟩])
 (K.seq (K.cond (.tmp 102)
 (K.skip)
 (K.exit 9))
 (K.seq (K.block 10 (K.seq (K.ops [⟨none, .idx (some 103) (.tmp 99) (.tmp 101) 3⟩,
 ⟨none, .ld (some 104) (.tmp 103) 3 true⟩,
 ⟨none, .alloc (some 19) [(.int .i64 0), (.int .i64 0), (.slice none 0 0)]⟩,
 ⟨none, .st none (.tmp 19) (.tmp 104) 3⟩])
 (K.seq (K.ops [⟨none, .addr (some 105) (.tmp 12) 3⟩,
 ⟨none, .ld (some 106) (.tmp 105) 1 false⟩,
 ⟨none, .eqv (some 107) false .i (.tmp 106) (.const (.int .i64 1))⟩])
 (K.cond (.tmp 107)
 (K.dops [(0, 0, ⟨none, .ld (some 108) (.tmp 7) 1 false⟩),
 (1, 0, ⟨none, .mov (some 109) (.tmp 15)⟩),
 (2, 0, ⟨none, .ld (some 110) (.tmp 19) 3 true⟩),
 (3, 0, ⟨none, .bslice (some 111) 60 3 1 [(.int .i64 0), (.int .i64 0), (.slice none 0 0)] [(0, 3, (.tmp 110))]⟩),
 (4, 0, ⟨none, .build (some 112) [(.int .i64 0), (.int .i64 0), (.slice none 0 0)] [(0, 1, (.const (.int .i64 3))), (1, 1, (.tmp 109)), (2, 1, (.tmp 111))]⟩),
 (5, 0, ⟨none, .len (some 113) false (.tmp 108)⟩),
 (6, 0, ⟨none, .bslice (some 114) 60 3 1 [(.int .i64 0), (.int .i64 0), (.slice none 0 0)] [(0, 3, (.const (.agg #[(.int .i64 0), (.int .i64 0), (.slice none 0 0)])))]⟩),
 (7, 0, ⟨none, .app (some 115) 60 3 40 (.tmp 108) (.tmp 114)⟩),
 (8, 6, ⟨none, .idx (some 116) (.tmp 115) (.tmp 113) 3⟩),
 (9, 6, ⟨none, .st none (.tmp 116) (.tmp 112) 3⟩),
 (10, 5, ⟨none, .st none (.tmp 7) (.tmp 115) 1⟩)])
 (K.skip)))))
 (K.ops [⟨none, .bin (some 117) .add (.tmp 101) (.const (.int .i64 1))⟩,
 ⟨none, .mov (some 101) (.tmp 117)⟩])))))))))))
 (K.ops [⟨none, .bin (some 118) .add (.tmp 85) (.const (.int .i64 1))⟩,
 ⟨none, .mov (some 85) (.tmp 118)⟩])))))))
 (K.seq (K.seq (K.ops [⟨none, .addr (some 119) (.tmp 12) 3⟩,
 ⟨none, .ld (some 120) (.tmp 119) 1 false⟩,
 ⟨none, .eqv (some 121) false .i (.tmp 120) (.const (.int .i64 0))⟩])
 (K.cond (.tmp 121)
 (K.wk (K.seq (K.ops [⟨none, .mov (some 122) (.tmp 14)⟩,
 ⟨none, .call (some 123) (.func 46) [(.tmp 122)]⟩])
 (K.block 11 (K.rng (.tmp 123) [124]
 (K.ops [⟨none, .mov (some 20) (.tmp 124)⟩])
 (K.block 12 (K.dops [(0, 0, ⟨none, .ld (some 125) (.tmp 7) 1 false⟩),
 (1, 0, ⟨none, .mov (some 126) (.tmp 20)⟩),
 (2, 0, ⟨none, .build (some 127) [(.int .i64 0), (.int .i64 0), (.slice none 0 0)] [(0, 1, (.const (.int .i64 2))), (2, 1, (.tmp 126))]⟩),
 (3, 0, ⟨none, .len (some 128) false (.tmp 125)⟩),
 (4, 0, ⟨none, .bslice (some 129) 60 3 1 [(.int .i64 0), (.int .i64 0), (.slice none 0 0)] [(0, 3, (.const (.agg #[(.int .i64 0), (.int .i64 0), (.slice none 0 0)])))]⟩),
 (5, 0, ⟨none, .app (some 130) 60 3 40 (.tmp 125) (.tmp 129)⟩),
 (6, 6, ⟨none, .idx (some 131) (.tmp 130) (.tmp 128) 3⟩),
 (7, 6, ⟨none, .st none (.tmp 131) (.tmp 127) 3⟩),
 (8, 5, ⟨none, .st none (.tmp 7) (.tmp 130) 1⟩)]))))))
 (K.skip)))
 (K.seq (K.ops [⟨none, .ld (some 132) (.tmp 7) 1 false⟩,
 ⟨none, .mov (some 6) (.tmp 132)⟩])
 (K.ret))))))))
def h32 : Nat → Option (List (Nat × Nat)) := fun r => if r = 12 then some [(0, 1), (1, 1), (2, 1), (3, 1), (4, 1), (5, 0), (6, 3), (7, 0)] else if r = 32 then some [(0, 0), (1, 0), (2, 0), (3, 0), (4, 0), (5, 0), (6, 0), (7, 0), (8, 6), (9, 6), (10, 5)] else if r = 7 ∨ r = 18 ∨ r = 38 then some [(0, 0), (1, 0), (2, 0), (3, 0), (4, 0), (5, 0), (6, 6), (7, 6), (8, 5)] else none
theorem c32 : compileH Try.prog Try.f32.ntmps h32 (Try.f32.body.getD .skip) = some K32.erase := by kernel_rfl
@[simp] theorem cal32 : callable Try.prog 32 = true := by kernel_rfl


def intsV (m : Int) : List Val := (List.range (2 * m + 1).toNat).map fun (i : Nat) => .mk 0 (i - m) []
def listsV (m : Int) (e : List Val) : List Val := (List.range ((if 2 < m then 2 else m) + 1).toNat).flatMap fun k => (prodT (List.replicate k e)).map (.mk 4 0)
def casesV (i : Int) : List (List Val) → List Val
  | [] => []
  | l :: r => l.map (fun v => .mk 3 i [v]) ++ casesV (i + 1) r
def recsV (l : List (List Val)) : List Val := (prodT l).map (.mk 2 0)
def slotsV (k : Int) (l : List (List Val)) : List Val := if k = 0 then recsV l else if k = 1 then casesV 0 l else []
def allV (p : Prg) (m : Int) : Nat → Typ → List Val
  | 0, _ => []
  | n + 1, t => if t.k = 0 then intsV m else if t.k = 1 then [.mk 1 0 [], .mk 1 1 []] else if t.k = 2 then listsV m (allV p m n (t.kids.headD Typ0))
    else slotsV (dfn p t.id).kind ((dfn p t.id).slots.map fun s => allV p m n s.typ)

/-! Sizes. -/
theorem prodT_length : ∀ (l acc : List (List Val)), (l.foldl stepT acc).length = acc.length * (l.map List.length).foldl (· * ·) 1
  | [], acc => by simp
  | a :: l, acc => by
    have h : ∀ (l : List Nat) (x y : Nat), l.foldl (· * ·) (x * y) = x * l.foldl (· * ·) y := by
      intro l
      induction l with
      | nil => intro x y; rfl
      | cons a l ih => intro x y; simp only [List.foldl_cons, Nat.mul_assoc, ih]
    simp only [List.foldl_cons, List.map_cons, prodT_length l, stepT_length, Nat.one_mul]
    have := h (l.map List.length) a.length 1
    rw [Nat.mul_one] at this
    rw [this, Nat.mul_assoc]
theorem recF_prod : ∀ (l : List (List Val)) (z : List Sz) (a b : Int), z.map (·.a) = l.map (fun x => (x.length : Int)) → (recF a b z).e = 0 → (recF a b z).a = a * ((l.map List.length).foldl (· * ·) 1 : Nat)
  | [], [], a, b, _, _ => by simp [recF]
  | x :: l, k :: z, a, b, h, he => by
    simp only [List.map_cons, List.cons.injEq] at h
    simp only [recF] at he ⊢
    split at he
    · simp at he
    · rename_i hn
      rw [if_neg hn, recF_prod l z _ _ h.2 he, h.1]
      have hh : ∀ (l : List Nat) (x y : Nat), l.foldl (· * ·) (x * y) = x * l.foldl (· * ·) y := by
        intro l
        induction l with
        | nil => intro x y; rfl
        | cons a l ih => intro x y; simp only [List.foldl_cons, Nat.mul_assoc, ih]
      have := hh (l.map List.length) x.length 1
      rw [Nat.mul_one] at this
      simp only [List.map_cons, List.foldl_cons, Nat.one_mul, this]
      rw [Int.natCast_mul, Int.mul_assoc]
  | [], _ :: _, _, _, h, _ => by simp at h
  | _ :: _, [], _, _, h, _ => by simp at h
theorem casesV_len : ∀ (l : List (List Val)) (z : List Sz) (i a b : Int), z.map (·.a) = l.map (fun x => (x.length : Int)) → (caseF a b z).a = a + (casesV i l).length
  | [], [], i, a, b, _ => by simp [caseF, casesV]
  | x :: l, k :: z, i, a, b, h => by
    simp only [List.map_cons, List.cons.injEq] at h
    simp only [caseF, casesV, List.length_append, List.length_map]
    rw [casesV_len l z (i + 1) _ _ h.2, h.1]
    omega
  | [], _ :: _, _, _, _, h => by simp at h
  | _ :: _, [], _, _, _, h => by simp at h
theorem listsV_len (m : Int) (hm : 0 ≤ m) (e : List Val) (k : Sz) (hk : k.a = e.length) (he : k.e = 0) : (listSz m k).a = (listsV m e).length := by
  have h2 : stepT (stepT [[]] e) e = prodT [e, e] := rfl
  unfold listSz listsV
  rw [if_neg (by simp [he])]
  have c0 : m = 0 ∨ m = 1 ∨ 2 ≤ m := by omega
  rcases c0 with rfl | rfl | hm
  · simp [List.range_succ]
  · simp [List.range_succ, prodT, stepT_length, hk]; omega
  · have e1 : ((if 2 < m then 2 else m) + 1).toNat = 3 := by split <;> omega
    rw [e1, if_neg (by omega), if_neg (by omega)]
    simp [List.range_succ, prodT, stepT_length, hk, List.replicate]
    omega
theorem map_lens {p : Prg} {m : Int} {n : Nat} (ih : ∀ t, (sizeN p m n t).e = 0 → (sizeN p m n t).a = (allV p m n t).length) : ∀ (l : List Slt), errF (l.map fun s => sizeN p m n s.typ) = 0 →
    (l.map fun s => sizeN p m n s.typ).map (·.a) = (l.map fun s => allV p m n s.typ).map (fun x => (x.length : Int)) := by
  intro l h
  have h0 := errF_zero h
  rw [List.map_map, List.map_map]
  apply List.map_congr_left
  intro s hs
  exact ih s.typ (h0 _ (List.mem_map_of_mem hs))
theorem finSz_e {k : Sz} (h : (finSz k).e = 0) : k.e = 0 ∧ (finSz k).a = k.a ∧ k.a ≤ 4096 := by
  unfold finSz at h ⊢
  split at h
  · simp at h; contradiction
  · rename_i h1
    split at h
    · simp at h
    · rename_i h2
      rw [if_neg h1, if_neg h2]
      simp at h1
      exact ⟨h1, rfl, by omega⟩
theorem valid_kind {p : Prg} {n : Nat} {t : Typ} (h : validN p n t = true) (h0 : t.k ≠ 0) (h1 : t.k ≠ 1) (h2 : t.k ≠ 2) : (dfn p t.id).kind = 0 ∨ (dfn p t.id).kind = 1 := by
  cases n with
  | zero => simp [validN] at h
  | succ n =>
    cases t with
    | mk k id kids =>
      simp only [Typ.k_mk] at h0 h1 h2
      unfold dfn
      simp only [validN, Typ.k_mk, Typ.id_mk, Typ.kids_mk, h2, if_false] at h
      by_cases hk : kids = []
      · by_cases h3 : k = 3
        · cases hf : findD p.defs id with
          | none => simp [hk, h3, hf, kindOk] at h
          | some d => simpa [hk, h3, hf, kindOk] using h
        · simp [hk, h3, h0, h1] at h
      · simp [hk] at h
theorem size_len (p : Prg) (m : Int) (hm : 0 ≤ m) : ∀ (n : Nat) (t : Typ), (sizeN p m n t).e = 0 → (sizeN p m n t).a = (allV p m n t).length
  | 0, t, h => by
    unfold sizeN at h
    split at h <;> simp at h
  | n + 1, t, h => by
    unfold sizeN allV at *
    split at h
    · simp at h
    rename_i hv
    have hv : validT p t = true := by simpa using hv
    rw [if_neg (by simp [hv])]
    by_cases h0 : t.k = 0
    · simp [h0, intsV]; omega
    by_cases h1 : t.k = 1
    · simp [h1]
    by_cases h2 : t.k = 2
    · rw [if_neg h0, if_neg h1, if_pos h2] at h ⊢
      rw [if_neg h0, if_neg h1, if_pos h2]
      obtain ⟨e1, e2, _⟩ := finSz_e h
      have e3 : (sizeN p m n (t.kids.headD Typ0)).e = 0 := by
        by_cases hz : (sizeN p m n (t.kids.headD Typ0)).e = 0
        · exact hz
        · exact absurd e1 (by rw [listSz, if_pos hz]; exact hz)
      rw [e2]
      exact listsV_len m hm _ _ (size_len p m hm n (t.kids.headD Typ0) e3) e3
    · rw [if_neg h0, if_neg h1, if_neg h2] at h ⊢
      rw [if_neg h0, if_neg h1, if_neg h2]
      obtain ⟨e1, e2, _⟩ := finSz_e h
      rw [e2]
      have e3 : errF ((dfn p t.id).slots.map fun s => sizeN p m n s.typ) = 0 := by
        by_cases hz : errF ((dfn p t.id).slots.map fun s => sizeN p m n s.typ) = 0
        · exact hz
        · exact absurd e1 (by simp [slotsSz, hz])
      have e4 := map_lens (fun t => size_len p m hm n t) _ e3
      have e5 := valid_kind hv h0 h1 h2
      unfold slotsV
      rcases e5 with e5 | e5
      · rw [if_pos e5]
        have ee : slotsSz (decide ((dfn p t.id).kind = 0)) ((dfn p t.id).slots.map fun s => sizeN p m n s.typ) = recF 1 1 ((dfn p t.id).slots.map fun s => sizeN p m n s.typ) := by simp [slotsSz, e3, e5]
        rw [ee] at e1 ⊢
        rw [recF_prod _ _ _ _ e4 e1, recsV, List.length_map, prodT, prodT_length]
        simp
      · rw [if_neg (by omega), if_pos e5]
        have ee : slotsSz (decide ((dfn p t.id).kind = 0)) ((dfn p t.id).slots.map fun s => sizeN p m n s.typ) = caseF 0 1 ((dfn p t.id).slots.map fun s => sizeN p m n s.typ) := by simp [slotsSz, e3, e5]
        rw [ee, casesV_len _ _ 0 _ _ e4]
        simp

def num (x : Int) : Val := .mk 0 x []
theorem intsV_get {m : Int} {j : Nat} (h : j < (2 * m + 1).toNat) : (intsV m).take (j + 1) = (intsV m).take j ++ [.mk 0 (j - m) []] := by
  rw [List.take_succ_eq_append_getElem (by simpa [intsV] using h)]
  simp [intsV]

def listsP (X : List Val) (j : Nat) : List Val := (List.range j).flatMap fun k => (prodT (List.replicate k X)).map (.mk 4 0)
mutual
theorem bnd_of_vw : ∀ (a : A) (k : Nat), vw anyRow (fun _ => none) a = a → a.bnd k = true
  | .any, k, h => rfl
  | .nil, k, h => rfl
  | .lit _, k, h => rfl
  | .agg cs, k, h => by simp only [vw, A.agg.injEq] at h; simpa [A.bnd] using bndL_of_vw cs k h
  | .tup cs, k, h => by simp only [vw, A.tup.injEq] at h; simpa [A.bnd] using bndL_of_vw cs k h
  | .sl n cs, k, h => by simp only [vw, A.sl.injEq] at h; simpa [A.bnd] using bndL_of_vw cs k h.2
  | .fsl n cs, k, h => by simp only [vw, A.fsl.injEq] at h; simpa [A.bnd] using bndL_of_vw cs k h.2
  | .ptr l off, k, h => by simp [vw] at h
  | .rptr cs, k, h => by simp only [vw, A.rptr.injEq] at h; simpa [A.bnd] using bndL_of_vw cs k h
  | .row l n, k, h => by simp [vw, anyRow] at h
  | .rwp l n off, k, h => by simp [vw] at h
  | .map l, k, h => by simp [vw] at h
  | .clo f first cap, k, h => by
    simp only [vw, A.clo.injEq, true_and] at h
    simp [A.bnd, bndL_of_vw first k h.1, bndL_of_vw cap k h.2]
theorem bndL_of_vw : ∀ (cs : List A) (k : Nat), vwL anyRow (fun _ => none) cs = cs → bndL k cs = true
  | [], k, h => rfl
  | c :: cs, k, h => by
    simp only [vwL, List.cons.injEq] at h
    simp [bndL, bnd_of_vw c k h.1, bndL_of_vw cs k h.2]
end
theorem listsP_succ (X : List Val) (j : Nat) : listsP X (j + 1) = listsP X j ++ (prodT (List.replicate j X)).map (.mk 4 0) := by simp [listsP, List.range_succ]
theorem listsP_pre (X : List Val) (j d : Nat) : ∃ R, listsP X (j + d) = listsP X j ++ R := by
  induction d with
  | zero => exact ⟨[], by simp⟩
  | succ d ih =>
    obtain ⟨R, hR⟩ := ih
    exact ⟨R ++ (prodT (List.replicate (j + d) X)).map (.mk 4 0), by rw [← Nat.add_assoc, listsP_succ, hR, List.append_assoc]⟩
theorem listsP_take {X : List Val} {j N i : Nat} (h : j < N) (hi : i < (prodT (List.replicate j X)).length) :
    (listsP X N).take ((listsP X j).length + (i + 1)) = (listsP X N).take ((listsP X j).length + i) ++ [.mk 4 0 (prodT (List.replicate j X))[i]] ∧ (listsP X j).length + (i + 1) ≤ (listsP X N).length := by
  obtain ⟨R, hR⟩ := listsP_pre X (j + 1) (N - (j + 1))
  rw [show j + 1 + (N - (j + 1)) = N by omega, listsP_succ] at hR
  have hl : (listsP X j).length + (i + 1) ≤ (listsP X N).length := by rw [hR]; simp; omega
  refine ⟨?_, hl⟩
  rw [← Nat.add_assoc, List.take_succ_eq_append_getElem (by omega)]
  congr 2
  have : (listsP X N)[(listsP X j).length + i]? = some (.mk 4 0 (prodT (List.replicate j X))[i]) := by
    rw [hR, List.append_assoc, List.getElem?_append_right (by omega), Nat.add_sub_cancel_left, List.getElem?_append_left (by simpa using hi)]
    simp [hi]
  rw [List.getElem?_eq_getElem (by omega)] at this
  exact Option.some.inj this

theorem cellsT_bnd (l : List Typ) (k : Nat) : bndL k (cellsT l) = true := bndL_of_vw _ k ((cellsT_plain l).2 _ _)
theorem cellsD_bnd (l : List Dfn) (k : Nat) : bndL k (cellsD l) = true := bndL_of_vw _ k ((cellsD_plain l).2 _ _)
theorem mods_bnd (p : Prg) (k : Nat) : p.mods.bnd k = true := bnd_of_vw _ k (by simp)
attribute [simp] cellsT_bnd cellsD_bnd mods_bnd
@[simp] theorem cal63 : callable Try.prog 63 = true := by kernel_rfl

theorem weak_nilslot {n0 t : Nat} {env : Env} {σ : St} (ht : env t = .nil) (e : TypeId) (sz : Nat) : Weak n0 (env.put (some t) (.row σ.length 0)) (σ ++ [AObj.row false e sz 0 []]) env σ := by
  intro H0 L0 w0 H L w N tmps h0 h1 h2
  have hn := nxt_nilrow h1.st e sz
  refine ⟨H, _, h1.trans hn, h2.1, fun x => ?_⟩
  simp only [Env.put]
  split
  · rename_i hx
    subst hx
    have := h2.2 x
    rw [ht] at this
    simp only [Rel] at this
    rw [this]
    simp only [Rel]
    exact ⟨rfl, ⟨none, 0, 0, true⟩, by rw [← h1.st.len]; simp, rfl, Nat.le_refl _, fun _ => rfl⟩
  · exact Rel.mono (HLe.refl _) hn.lle _ (h2.2 x)

theorem casesV_append (i : Int) : ∀ (l r : List (List Val)), casesV i (l ++ r) = casesV i l ++ casesV (i + l.length) r
  | [], r => by simp [casesV]
  | x :: l, r => by
    have h := casesV_append (i + 1) l r
    simp only [List.cons_append, casesV, h, List.length_cons, List.append_assoc]
    rw [show i + 1 + (l.length : Int) = i + ((l.length + 1 : Nat) : Int) by omega]
theorem casesV_succ {L : List (List Val)} {j : Nat} (h : j < L.length) : casesV 0 (L.take (j + 1)) = casesV 0 (L.take j) ++ L[j].map (fun v => .mk 3 j [v]) := by
  rw [List.take_succ_eq_append_getElem h, casesV_append]
  simp [casesV, Nat.min_eq_left (Nat.le_of_lt h)]
theorem casesV_take {L : List (List Val)} {j k : Nat} (h : j < L.length) (hk : k < L[j].length) :
    (casesV 0 L).take ((casesV 0 (L.take j)).length + (k + 1)) = (casesV 0 L).take ((casesV 0 (L.take j)).length + k) ++ [.mk 3 j [L[j][k]]] ∧ (casesV 0 (L.take j)).length + (k + 1) ≤ (casesV 0 L).length := by
  have hR : casesV 0 L = casesV 0 (L.take j) ++ (L[j].map (fun v => Val.mk 3 j [v]) ++ casesV ((j : Int) + 1) (L.drop (j + 1))) := by
    conv => lhs; rw [← List.take_append_drop j L]
    rw [casesV_append, List.drop_eq_getElem_cons h]
    simp [casesV, Nat.min_eq_left (Nat.le_of_lt h)]
  have hl : (casesV 0 (L.take j)).length + (k + 1) ≤ (casesV 0 L).length := by rw [hR]; simp; omega
  refine ⟨?_, hl⟩
  rw [← Nat.add_assoc, List.take_succ_eq_append_getElem (by omega)]
  congr 2
  have : (casesV 0 L)[(casesV 0 (L.take j)).length + k]? = some (.mk 3 j [L[j][k]]) := by
    rw [hR, List.getElem?_append_right (by omega), Nat.add_sub_cancel_left, List.getElem?_append_left (by simpa using hk)]
    simp [hk]
  rw [List.getElem?_eq_getElem (by omega)] at this
  exact Option.some.inj this

theorem app3 {X : List Val} {j : Nat} (h : j ≤ X.length) : (∀ ds, (cellsV (X.take j) ++ ds).take (j * 3) = cellsV (X.take j)) ∧ (∀ ds, (cellsV (X.take j) ++ ds).drop (j * 3 + 3) = ds.drop 3) := by
  have hl : (cellsV (X.take j)).length = j * 3 := by simp [Nat.min_eq_left h]
  refine ⟨fun ds => by rw [← hl]; simp, fun ds => by rw [← hl, List.drop_append]; simp⟩

theorem all_ok (p : Prg) (hs : Sml p) (m : Int) (hm : 0 ≤ m ∧ m ≤ 64) : ∀ (n : Nat) (t : Typ), (sizeN p m n t).e = 0 → Ret Try.prog 32 [.agg (encP p), .agg (encT t), int m] [] (.row 0 (allV p m n t).length) [.row false 60 3 (allV p m n t).length (cellsV (allV p m n t))] := by
  intro n
  induction n with
  | zero =>
    intro t h
    unfold sizeN at h
    split at h <;> simp at h
  | succ n ih =>
    intro t h
    have hlen := size_len p m hm.1 (n + 1) t h
    have hle := sizeN_ok p m hm (n + 1) t h
    refine ret_of_wpH Try.func32 rfl c32 (rs := [.slot 6]) (by kernel_rfl) ?_
    unfold K32
    unfold sizeN at h
    split at h
    · simp at h
    rename_i hv
    have hv : validT p t = true := by simpa using hv
    by_cases h0 : t.k = 0
    · have ha : allV p m (n + 1) t = intsV m := by rw [allV, if_pos h0]
      rw [ha]
      have hli : (intsV m).length = (2 * m + 1).toNat := by simp [intsV]
      have hw0 : IntKind.i64.wrap (0 - m) = 0 - m := IntWalk.i64_in _ (by omega)
      have hw0' : IntKind.i64.wrap (-m) = -m := IntWalk.i64_in _ (by omega)
      simp -implicitDefEqProofs [encP, encT, h0, hw0, hw0']
      refine loopS (S := Nat) (fun j => [(2, int m), (6, .nil), (7, .ptr 2 0), (8, int (j - m))])
        (fun j => [.box (encP p), .box (encT t), .box [.row 3 j], .row false 60 3 j (cellsV ((intsV m).take j))])
        (fun j => (j : Int) ≤ 2 * m + 1) (fun j => (2 * m + 1).toNat - j) 0 (by simp; omega)
        ((weak_nilbox (l := 2) (o := 0) rfl rfl 60 3).trans (selW [0, 1, 2, 3] 0 (by simp) (by simp) (by simp [encP, encT, h0]) (by simp))) ?_
      intro j hj
      by_cases hjl : (j : Int) - m ≤ m
      · have htk := intsV_get (m := m) (j := j) (by omega)
        have hw1 : IntKind.i64.wrap ((j : Int) - m + 1) = (j : Int) - m + 1 := IntWalk.i64_in _ (by omega)
        have hll : ((intsV m).take j).length = j := by simp; omega
        have hjx : j ≤ (intsV m).length := by omega
        simp -implicitDefEqProofs [hjl, idxP, lenP, hw1, Nat.min_eq_left hjx, (app3 hjx).1, (app3 hjx).2]
        refine ⟨⟨by simp [maxLen]; omega, by omega⟩, by omega, ?_⟩
        exact roundS (j + 1) (by omega) (by omega) (selW [0, 1, 2, 3] 0 (by simp) (by simp) (by simp [encP, encT, h0, htk, encV, Val.k, Val.n, Val.kids]) (by simp; omega))
      · have hjj : (j : Int) = 2 * m + 1 := by omega
        have hjn : j = (intsV m).length := by omega
        have htk : (intsV m).take j = intsV m := by rw [hjn]; exact List.take_of_length_le (Nat.le_refl _)
        simp -implicitDefEqProofs [hjl, htk]
        exact ret_keep [3] 0 (by simp) (by simp) (by simp [hjn]) (by simp [hjn])
    by_cases h1 : t.k = 1
    · have ha : allV p m (n + 1) t = [.mk 1 0 [], .mk 1 1 []] := by rw [allV, if_neg h0, if_pos h1]
      rw [ha]
      simp -implicitDefEqProofs [encP, encT, h1]
      exact ret_keep [3] 0 (by simp) (by simp) (by simp [encV, Val.k, Val.n, Val.kids]) (by simp)
    by_cases h2 : t.k = 2
    · obtain ⟨x, hx⟩ := valid_list hv h2
      rw [if_neg h0, if_neg h1, if_pos h2, hx] at h
      obtain ⟨e1, _, _⟩ := finSz_e h
      have e3 : (sizeN p m n x).e = 0 := by
        by_cases hz : (sizeN p m n x).e = 0
        · exact hz
        · exact absurd e1 (by rw [List.headD_cons, listSz, if_pos hz]; exact hz)
      have ha : allV p m (n + 1) t = listsP (allV p m n x) ((if 2 < m then 2 else m) + 1).toNat := by rw [allV, if_neg h0, if_neg h1, if_pos h2, hx]; rfl
      have hex := sizeN_ok p m hm n x e3
      have hel := size_len p m hm.1 n x e3
      have ih := ih x e3
      rw [ha] at hlen ⊢
      generalize allV p m n x = X at ih hel hlen
      simp -implicitDefEqProofs [encP, encT, h2, hx]
      refine dcallG0 ih (by simp [encP, encT]) ?_
      obtain ⟨K, hK, hK2⟩ : ∃ K : Nat, (if 2 < m then 2 else m) + 1 = (K : Int) ∧ K ≤ 3 := ⟨((if 2 < m then 2 else m) + 1).toNat, by split <;> omega, by split <;> omega⟩
      have hw3 : IntKind.i64.wrap ((if 2 < m then 2 else m) + 1) = (K : Int) := by rw [← hK]; exact IntWalk.i64_in _ (by split <;> omega)
      rw [hK] at hlen ⊢
      simp only [Int.toNat_natCast] at hlen ⊢
      have hW : (listsP X K).length ≤ 4096 := by omega
      simp -implicitDefEqProofs [hw3]
      refine loopS (S := Nat) (fun j => [(7, .ptr 2 0), (9, .sl X.length (cellsV X)), (56, int K), (57, int j)])
        (fun j => [.box (encP p), .box (encT t), .box [.row 3 (listsP X j).length], .row false 60 3 (listsP X j).length (cellsV ((listsP X K).take (listsP X j).length))])
        (fun j => j ≤ K) (fun j => K - j) 0 (by simp)
        ((weak_nilbox (l := 2) (o := 0) rfl rfl 60 3).trans (selW [0, 1, 2, 4] 1 (by simp) (by simp) (by simp [encP, encT, h2, hx, listsP]) (by simp))) ?_
      intro j hj
      by_cases hjl : j < K
      · have hw4 : IntKind.i64.wrap ((j : Int) + 1) = (j : Int) + 1 := IntWalk.i64_in _ (by omega)
        simp -implicitDefEqProofs [hjl, hw4]
        have hrep : Ret Try.prog 63 [.sl 1 (cellsW [X]), int j] [] (.sl (List.replicate j X).length (cellsW (List.replicate j X))) [] := by
          have := repeat_ok j (by omega) (.sl X.length (cellsV X))
          rw [List.length_replicate, cellsW, cellsW, List.map_replicate]
          exact this
        refine call0 hrep (by simp) (by simp) ?_
        simp -implicitDefEqProofs
        refine call0 (tuples_ok (List.replicate j X)) (by simp) (by simp) ?_
        simp -implicitDefEqProofs
        have hc1 : (listsP X (j + 1)).length = (listsP X j).length + (prodT (List.replicate j X)).length := by rw [listsP_succ]; simp
        refine ⟨[(7, .ptr 2 0), (9, .sl X.length (cellsV X)), (56, int K), (57, int j), (64, .clo 72 [] [.rptr [.sl (List.replicate j X).length (cellsW (List.replicate j X))]])], 4, (prodT (List.replicate j X)).map (fun t => [tupA t]),
          fun i => [.box (encP p), .box (encT t), .box [.row 3 ((listsP X j).length + i)], .row false 60 3 ((listsP X j).length + i) (cellsV ((listsP X K).take ((listsP X j).length + i)))],
          72, [], [.rptr [.sl (List.replicate j X).length (cellsW (List.replicate j X))]], by simp, cal72, iter_ok _ _ rfl (by simp; omega), cut_at (τ := []) (by simp) (by simp) (by simp) (by simp) (by simp [encP, encT]), by omega, ?_, by simp, by simp, ?_, ?_⟩
        · intro i hi
          simp [encP, encT]
        · intro i hi b' M r r'
          simp only [List.length_map] at hi
          obtain ⟨htk, hle⟩ := listsP_take hjl hi
          have hlx : (listsP X j).length + i ≤ (listsP X K).length := by omega
          have hcast : (((listsP X j).length : Int) + (i : Int)).toNat = (listsP X j).length + i := by omega
          simp -implicitDefEqProofs [idxP, lenP, Nat.min_eq_left hlx, (app3 hlx).1, (app3 hlx).2, hcast]
          refine ⟨⟨by simp [maxLen]; omega, by omega⟩, ⟨by omega, by omega⟩, ?_⟩
          refine ⟨mkEnv [], _, ?_, rfl⟩
          exact selW [0, 1, 2, 3, 4] 0 (by decide) (by simp) (by simp [encP, encT, htk, encV, Val.k, Val.n, Val.kids, Nat.add_assoc]) (by simp)
        · simp -implicitDefEqProofs
          exact roundS (j + 1) hjl (by omega) (selW [0, 1, 2, 3] 0 (by simp) (by simp) (by simp [hc1, encP, encT]) (by simp [hw4]))
      · have hjj : j = K := by omega
        subst hjj
        simp -implicitDefEqProofs
        exact ret_keep [3] 0 (by simp) (by simp) (by simp) (by simp)
    · rw [if_neg h0, if_neg h1, if_neg h2] at h
      obtain ⟨e1, _, _⟩ := finSz_e h
      have ha : allV p m (n + 1) t = slotsV (dfn p t.id).kind ((dfn p t.id).slots.map fun s => allV p m n s.typ) := by rw [allV, if_neg h0, if_neg h1, if_neg h2]
      have e5 := valid_kind hv h0 h1 h2
      have hsl := hs.dfn t.id
      have e3 : errF ((dfn p t.id).slots.map fun s => sizeN p m n s.typ) = 0 := by
        by_cases hz : errF ((dfn p t.id).slots.map fun s => sizeN p m n s.typ) = 0
        · exact hz
        · exact absurd e1 (by simp [slotsSz, hz])
      have e4 : ∀ s ∈ (dfn p t.id).slots, (sizeN p m n s.typ).e = 0 := fun s hs => errF_zero e3 _ (List.mem_map_of_mem hs)
      have e6 : ∀ s ∈ (dfn p t.id).slots, (allV p m n s.typ).length ≤ 4096 := fun s hs => by
        have g1 := sizeN_ok p m hm n s.typ (e4 s hs)
        have g2 := size_len p m hm.1 n s.typ (e4 s hs)
        omega
      rw [ha] at hlen ⊢
      obtain ⟨k, id, kids⟩ := t
      simp only [Typ.k_mk, Typ.id_mk] at h0 h1 h2 hlen hsl e3 e4 e5 e6 ⊢
      generalize hD : dfn p id = D at hlen hsl e3 e4 e5 e6 ⊢
      rw [dfn] at hD
      have hW : (slotsV D.kind (D.slots.map fun s => allV p m n s.typ)).length ≤ 4096 := by omega
      have hih : ∀ s ∈ D.slots, Ret Try.prog 32 [.agg (encP p), .agg (encT s.typ), int m] [] (.row 0 (allV p m n s.typ).length) [.row false 60 3 (allV p m n s.typ).length (cellsV (allV p m n s.typ))] := fun s hs => ih s.typ (e4 s hs)
      have hLl : (D.slots.map fun s => allV p m n s.typ).length = D.slots.length := by simp
      have hLg : ∀ i (h : i < D.slots.length), (D.slots.map fun s => allV p m n s.typ)[i]? = some (allV p m n D.slots[i].typ) := fun i h => by simp [h]
      generalize (D.slots.map fun s => allV p m n s.typ) = L at hLl hLg hW hlen ⊢
      clear hlen h e1 ha hle hv
      simp -implicitDefEqProofs [encP, encT, h0, h1, h2]
      refine call0 (def_ok p id) (by simp [encP, encI]) (by simp [defR]) ?_
      simp -implicitDefEqProofs [defR, hD, encD]
      intro hl
      rcases e5 with e5 | e5
      · have hsv : slotsV D.kind L = recsV L := by simp [slotsV, e5]
        rw [hsv] at hW ⊢
        refine loopS (S := Nat) (fun i => [(2, int m), (3, .ptr 0 0), (7, .ptr 2 0), (12, .ptr 3 0), (14, .row 4 i), (83, .sl D.slots.length (cellsS D.slots)), (84, int D.slots.length), (85, int i)])
          (fun i => [.box (encP p), .box (encT (.mk k id kids)), .box [.nil], .box (encD D), .row false 36 1 i (cellsW (L.take i))])
          (fun i => i ≤ D.slots.length) (fun i => D.slots.length - i) 0 (by simp)
          ((weak_nilslot (t := 14) (by simp) 36 1).trans (selW [0, 1, 2, 3, 4] 0 (by simp) (by simp) (by simp [encP, encT, encD]) (by simp))) ?_
        intro i hi
        by_cases h : i < D.slots.length
        · have hil : i < L.length := by omega
          have hl6 := e6 D.slots[i] (List.getElem_mem h)
          have hc := hih D.slots[i] (List.getElem_mem h)
          have hLi := hLg i h
          rw [List.getElem?_eq_getElem hil] at hLi
          rw [← Option.some.inj hLi] at hc hl6
          simp -implicitDefEqProofs [h, cellsS_drop h, encS, encP]
          refine callJ hc [] (by simp) (by simp) (by simp [encP, encT]) ?_
          simp -implicitDefEqProofs [lenP]
          refine ⟨⟨by simp [maxLen]; omega, by omega⟩, ?_⟩
          have htL : cellsW (L.take (i + 1)) = cellsW (L.take i) ++ [.sl L[i].length (cellsV L[i])] := by rw [List.take_succ_eq_append_getElem hil, cellsW_append]; rfl
          refine loopS (S := Nat) (fun k => [(2, int m), (3, .ptr 0 0), (7, .ptr 2 0), (12, .ptr 3 0), (14, .row 4 (i + 1)), (15, int i), (83, .sl D.slots.length (cellsS D.slots)), (84, int D.slots.length), (85, int i), (99, .sl L[i].length (cellsV L[i])), (100, int L[i].length), (101, int k)])
            (fun q => [.box (encP p), .box (encT (.mk k id kids)), .box [.nil], .box (encD D), .row false 36 1 (i + 1) (cellsW (L.take (i + 1)))])
            (fun q => q ≤ L[i].length) (fun q => L[i].length - q) 0 (by simp)
            (selW [0, 1, 2, 3, 4] 1 (by simp) (by simp) (by simp [encP, encT, encD, htL]) (by simp)) ?_
          intro q hq
          by_cases hql : q < L[i].length
          · have hwq : IntKind.i64.wrap ((q : Int) + 1) = (q : Int) + 1 := IntWalk.i64_in _ (by omega)
            simp -implicitDefEqProofs [hql, cellsV_drop hql, encD, e5, idxP, lenP, hwq]
            exact roundS (q + 1) hql (by omega) (selW [0, 1, 2, 3, 4] 0 (by simp) (by simp) (by simp [encP, encT, encD, e5]) (by simp [hwq]))
          · have hqq : q = L[i].length := by omega
            subst hqq
            have hwi : IntKind.i64.wrap ((i : Int) + 1) = (i : Int) + 1 := IntWalk.i64_in _ (by omega)
            simp -implicitDefEqProofs
            exact roundS (i + 1) h (by omega) (selW [0, 1, 2, 3, 4] 0 (by simp) (by simp) (by simp [encP, encT, encD]) (by simp [hwi]))
        · have hi : i = D.slots.length := by omega
          subst hi
          have htk : L.take D.slots.length = L := List.take_of_length_le (by omega)
          simp -implicitDefEqProofs [htk, e5, encD]
          refine ⟨mkEnv [(7, .ptr 0 0), (14, .sl L.length (cellsW L))], [.box [.row 1 0], .row false 60 3 0 []], (weak_nilbox (l := 2) (o := 0) rfl rfl 60 3).trans (selW [2, 5] 1 (by simp) (by simp) (by simp) (by simp [hLl])), ?_⟩
          simp -implicitDefEqProofs
          refine call0 (tuples_ok L) (by simp) (by simp) ?_
          simp -implicitDefEqProofs
          have hWl : (prodT L).length = (recsV L).length := by simp [recsV]
          refine ⟨[(7, .ptr 0 0), (123, .clo 72 [] [.rptr [.sl L.length (cellsW L)]])], 2, (prodT L).map (fun t => [tupA t]),
            fun i => [.box [.row 1 i], .row false 60 3 i (cellsV ((recsV L).take i))],
            72, [], [.rptr [.sl L.length (cellsW L)]], by simp, cal72, iter_ok _ _ rfl (by omega), cut_at (τ := []) (by simp) (by simp) (by simp) (by simp) (by simp), by omega, ?_, by simp, by simp, ?_, ?_⟩
          · intro i hi
            simp
          · intro i hi b' M r r'
            simp only [List.length_map] at hi
            have hlx : i ≤ (recsV L).length := by omega
            have htk : cellsV ((recsV L).take (i + 1)) = cellsV ((recsV L).take i) ++ encV (.mk 2 0 (prodT L)[i]) := by
              rw [List.take_succ_eq_append_getElem (by omega), cellsV_append]
              simp [recsV, encV]
            simp -implicitDefEqProofs [idxP, lenP, Nat.min_eq_left hlx, (app3 hlx).1, (app3 hlx).2]
            refine ⟨⟨by simp [maxLen]; omega, by omega⟩, by omega, ?_⟩
            refine ⟨mkEnv [], _, ?_, rfl⟩
            exact selW [0, 1, 2] 0 (by decide) (by simp) (by simp [htk, encV, Val.k, Val.n, Val.kids]) (by simp)
          · have htk : (recsV L).take (prodT L).length = recsV L := List.take_of_length_le (by omega)
            simp -implicitDefEqProofs [htk]
            exact ret_keep [1] 0 (by simp) (by simp) (by simp [hWl]) (by simp [hWl])
      · have hsv : slotsV D.kind L = casesV 0 L := by simp [slotsV, e5]
        rw [hsv] at hW ⊢
        refine loopS (S := Nat) (fun i => [(2, int m), (3, .ptr 0 0), (7, .ptr 2 0), (12, .ptr 3 0), (14, .row 5 i), (83, .sl D.slots.length (cellsS D.slots)), (84, int D.slots.length), (85, int i)])
          (fun i => [.box (encP p), .box (encT (.mk k id kids)), .box [.row 4 (casesV 0 (L.take i)).length], .box (encD D), .row false 60 3 (casesV 0 (L.take i)).length (cellsV ((casesV 0 L).take (casesV 0 (L.take i)).length)), .row false 36 1 i (cellsW (L.take i))])
          (fun i => i ≤ D.slots.length) (fun i => D.slots.length - i) 0 (by simp)
          (((weak_nilbox (l := 2) (o := 0) rfl rfl 60 3).trans (weak_nilslot (t := 14) (by simp) 36 1)).trans (selW [0, 1, 2, 3, 4, 5] 0 (by simp) (by simp) (by simp [encP, encT, encD, casesV]) (by simp))) ?_
        intro i hi
        by_cases h : i < D.slots.length
        · have hil : i < L.length := by omega
          have hl6 := e6 D.slots[i] (List.getElem_mem h)
          have hc := hih D.slots[i] (List.getElem_mem h)
          have hLi := hLg i h
          rw [List.getElem?_eq_getElem hil] at hLi
          rw [← Option.some.inj hLi] at hc hl6
          simp -implicitDefEqProofs [h, cellsS_drop h, encS, encP]
          refine callJ hc [] (by simp) (by simp) (by simp [encP, encT]) ?_
          simp -implicitDefEqProofs [lenP]
          refine ⟨⟨by simp [maxLen]; omega, by omega⟩, ?_⟩
          have hcs := casesV_succ hil
          have hc1 : (casesV 0 (L.take (i + 1))).length = (casesV 0 (L.take i)).length + L[i].length := by rw [hcs]; simp
          have htL : cellsW (L.take (i + 1)) = cellsW (L.take i) ++ [.sl L[i].length (cellsV L[i])] := by rw [List.take_succ_eq_append_getElem hil, cellsW_append]; rfl
          refine loopS (S := Nat) (fun k => [(2, int m), (3, .ptr 0 0), (7, .ptr 2 0), (12, .ptr 3 0), (14, .row 5 (i + 1)), (15, int i), (83, .sl D.slots.length (cellsS D.slots)), (84, int D.slots.length), (85, int i), (99, .sl L[i].length (cellsV L[i])), (100, int L[i].length), (101, int k)])
            (fun q => [.box (encP p), .box (encT (.mk k id kids)), .box [.row 4 ((casesV 0 (L.take i)).length + q)], .box (encD D), .row false 60 3 ((casesV 0 (L.take i)).length + q) (cellsV ((casesV 0 L).take ((casesV 0 (L.take i)).length + q))), .row false 36 1 (i + 1) (cellsW (L.take (i + 1)))])
            (fun q => q ≤ L[i].length) (fun q => L[i].length - q) 0 (by simp)
            (selW [0, 1, 2, 3, 4, 5] 1 (by simp) (by simp) (by simp [encP, encT, encD, htL]) (by simp)) ?_
          intro q hq
          by_cases hql : q < L[i].length
          · obtain ⟨htk, hle⟩ := casesV_take hil hql
            have hlx : (casesV 0 (L.take i)).length + q ≤ (casesV 0 L).length := by omega
            have hcast : (((casesV 0 (L.take i)).length : Int) + (q : Int)).toNat = (casesV 0 (L.take i)).length + q := by omega
            have hwq : IntKind.i64.wrap ((q : Int) + 1) = (q : Int) + 1 := IntWalk.i64_in _ (by omega)
            simp -implicitDefEqProofs [hql, cellsV_drop hql, encD, e5, idxP, lenP, Nat.min_eq_left hlx, (app3 hlx).1, (app3 hlx).2, hcast, hwq]
            refine ⟨⟨by simp [maxLen]; omega, by omega⟩, ⟨by omega, by omega⟩, ?_⟩
            exact roundS (q + 1) hql (by omega) (selW [0, 1, 2, 3, 4, 5] 0 (by simp) (by simp) (by simp [encP, encT, encD, e5, htk, encV, Val.k, Val.n, Val.kids, Nat.add_assoc]) (by simp [hwq]))
          · have hqq : q = L[i].length := by omega
            subst hqq
            have hwi : IntKind.i64.wrap ((i : Int) + 1) = (i : Int) + 1 := IntWalk.i64_in _ (by omega)
            simp -implicitDefEqProofs
            exact roundS (i + 1) h (by omega) (selW [0, 1, 2, 3, 4, 5] 0 (by simp) (by simp) (by simp [encP, encT, encD, hc1]) (by simp [hwi]))
        · have hi : i = D.slots.length := by omega
          subst hi
          have htk : L.take D.slots.length = L := List.take_of_length_le (by omega)
          simp -implicitDefEqProofs [htk, e5, encD]
          exact ret_keep [4] 0 (by simp) (by simp) (by simp) (by simp)
end Go.Proofs.Ytbkiphnlbadhcaa
