/-
  Programs of types, made of numbers.
-/
import Derived.Test.YtbkiphnlbadhcaaC16
namespace Go.Abs
theorem weak_nilrow {n0 : Nat} {env : Env} {σ : St} {l o n : Nat} {e : TypeId} {sz : Nat} {cs : List A} (hl : σ[l]? = some (.row false e sz n cs)) (hc : cs[o]? = some .nil) (e' : TypeId) (sz' : Nat) :
    Weak n0 env (σ.set l (.row false e sz n (cs.set o (.row σ.length 0))) ++ [AObj.row false e' sz' 0 []]) env σ := by
  intro H0 L0 w0 H L w N tmps h0 h1 h2
  have hn := nxt_nilrow h1.st e' sz'
  have hlt : l < σ.length := (List.getElem?_eq_some_iff.1 hl).1
  have hl' : (σ ++ [AObj.row false e' sz' 0 []])[l]? = some (.row false e sz n cs) := by rw [List.getElem?_append_left hlt]; exact hl
  have hs := relSt_obj (o' := .row false e sz n (cs.set o (.row σ.length 0))) hn.st hl' (fun li hob => by
    simp only [RelObj] at hob ⊢
    obtain ⟨g0, g1, g2, g3⟩ := hob
    refine ⟨g0, g1, by simpa using g2, ?_⟩
    rcases g3 with ⟨q1, q2⟩ | ⟨b, cur, q1, q2, q3, q4, q5, q6, q7, q8⟩
    · subst q2
      have : cs = [] := List.eq_nil_of_length_eq_zero (by simpa using g2)
      subst this
      simp at hc
    · obtain ⟨v, hv, hrel⟩ := q6.get hc
      simp only [Rel] at hrel
      subst hrel
      have hset : cur.toList.take (n * sz) = (cur.toList.take (n * sz)).set o (.slice none 0 0) := by
        apply List.ext_getElem?
        intro i
        by_cases hi : i = o
        · subst hi; rw [List.getElem?_set_self (List.getElem?_eq_some_iff.1 hv).1, hv]
        · rw [List.getElem?_set_ne (Ne.symm hi)]
      refine .inr ⟨b, cur, q1, q2, q3, q4, q5, ?_, q7, q8⟩
      rw [hset]
      refine q6.set o ?_
      simp only [Rel]
      exact ⟨rfl, ⟨none, 0, 0, true⟩, by rw [← h1.st.len]; simp, rfl, Nat.le_refl _, fun _ => rfl⟩)
  rw [List.set_append_left _ _ hlt] at hs
  have hm := h1.trans hn
  exact ⟨H, _, ⟨hs, hm.step, hm.lle, hm.own⟩, h2.1, fun x => Rel.mono (HLe.refl _) hn.lle _ (h2.2 x)⟩
end Go.Abs
namespace Go.Proofs.Ytbkiphnlbadhcaa
open Go.Abs

-- splicery/spliceryref04.Types · results ["cell 2"]
def K23 : K :=
 K.seq (K.ops [⟨none, .alloc (some 2) [(.slice none 0 0), (.slice none 0 0)]⟩])
 (K.seq (K.ops [⟨none, .call (some 11) (.func 11) [(.const (.int .i64 0))]⟩,
 ⟨none, .build (some 12) [(.int .i64 0), (.int .i64 0), (.int .i64 0), (.string ⟨#[]⟩), (.slice none 0 0), (.slice none 0 0)] [(0, 3, (.tmp 11)), (3, 1, (.const (.string ⟨#[99, 111, 114, 101]⟩)))]⟩,
 ⟨none, .brow (some 13) 94 6 1 [(.int .i64 0), (.int .i64 0), (.int .i64 0), (.string ⟨#[]⟩), (.slice none 0 0), (.slice none 0 0)] [(0, 6, (.tmp 12))]⟩,
 ⟨none, .build (some 14) [(.slice none 0 0), (.slice none 0 0)] [(0, 1, (.tmp 13))]⟩,
 ⟨none, .alloc (some 3) [(.slice none 0 0), (.slice none 0 0)]⟩,
 ⟨none, .st none (.tmp 3) (.tmp 14) 2⟩])
 (K.seq (K.ops [⟨none, .mov (some 15) (.tmp 0)⟩,
 ⟨none, .call (some 16) (.func 51) [(.tmp 15), (.const (.int .i64 0)), (.const (.int .i64 4))]⟩,
 ⟨none, .bin (some 17) .add (.const (.int .i64 1)) (.tmp 16)⟩,
 ⟨none, .mov (some 4) (.tmp 17)⟩])
 (K.seq (K.ops [⟨none, .mov (some 18) (.tmp 4)⟩,
 ⟨none, .bin (some 19) .add (.const (.int .i64 1)) (.tmp 18)⟩,
 ⟨none, .mov (some 5) (.tmp 19)⟩])
 (K.seq (K.seq (K.ops [⟨none, .mov (some 6) (.const (.int .i64 0))⟩])
 (K.block 0 (K.loop (K.seq (K.seq (K.ops [⟨none, .mov (some 20) (.tmp 6)⟩,
 ⟨none, .mov (some 21) (.tmp 4)⟩,
 ⟨none, .bin (some 22) .lss (.tmp 20) (.tmp 21)⟩])
 (K.cond (.tmp 22)
 (K.skip)
 (K.exit 0)))
 (K.seq (K.block 1 (K.seq (K.ops [⟨none, .mov (some 25) (.tmp 0)⟩,
 ⟨none, .mov (some 26) (.tmp 6)⟩,
 ⟨none, .bin (some 27) .add (.const (.int .i64 1)) (.tmp 26)⟩,
 ⟨none, .call (some 28) (.func 51) [(.tmp 25), (.tmp 27), (.const (.int .i64 65536))]⟩,
 ⟨none, .mov (some 7) (.tmp 28)⟩])
 (K.seq (K.dops [(0, 0, ⟨none, .mov (some 29) (.tmp 6)⟩),
 (1, 0, ⟨none, .bin (some 30) .add (.const (.int .i64 1)) (.tmp 29)⟩),
 (2, 1, ⟨none, .call (some 31) (.func 11) [(.tmp 30)]⟩),
 (3, 0, ⟨none, .mov (some 32) (.tmp 7)⟩),
 (4, 0, ⟨none, .bin (some 33) .rem (.tmp 32) (.const (.int .i64 2))⟩),
 (5, 1, ⟨none, .call (some 34) (.func 11) [(.const (.int .i64 0))]⟩),
 (6, 0, ⟨none, .bslice (some 35) 9 1 4 [(.string ⟨#[]⟩), (.string ⟨#[]⟩), (.string ⟨#[]⟩), (.string ⟨#[]⟩)] [(0, 1, (.const (.string ⟨#[80, 111, 105, 110, 116]⟩))), (1, 1, (.const (.string ⟨#[83, 104, 97, 112, 101]⟩))), (2, 1, (.const (.string ⟨#[83, 116, 97, 116, 101]⟩))), (3, 1, (.const (.string ⟨#[69, 118, 101, 110, 116]⟩)))]⟩),
 (7, 0, ⟨none, .mov (some 36) (.tmp 6)⟩),
 (8, 1, ⟨none, .idx (some 37) (.tmp 35) (.tmp 36) 1⟩),
 (9, 1, ⟨none, .ld (some 38) (.tmp 37) 1 false⟩),
 (10, 0, ⟨none, .build (some 39) [(.int .i64 0), (.int .i64 0), (.int .i64 0), (.int .i64 0), (.int .i64 0), (.int .i64 0), (.int .i64 0), (.string ⟨#[]⟩), (.slice none 0 0), (.int .i64 0), (.int .i64 0), (.int .i64 0), (.int .i64 0), (.slice none 0 0), (.int .i64 0), (.int .i64 0), (.int .i64 0), (.int .i64 0), (.int .i64 0), (.int .i64 0), (.int .i64 0), (.int .i64 0), (.int .i64 0), (.int .i64 0), (.int .i64 0), (.int .i64 0), (.slice none 0 0), (.slice none 0 0), (.slice none 0 0), (.int .i64 0), (.slice none 0 0)] [(0, 3, (.tmp 31)), (3, 1, (.tmp 33)), (4, 3, (.tmp 34)), (7, 1, (.tmp 38))]⟩),
 (11, 0, ⟨none, .alloc (some 8) [(.int .i64 0), (.int .i64 0), (.int .i64 0), (.int .i64 0), (.int .i64 0), (.int .i64 0), (.int .i64 0), (.string ⟨#[]⟩), (.slice none 0 0), (.int .i64 0), (.int .i64 0), (.int .i64 0), (.int .i64 0), (.slice none 0 0), (.int .i64 0), (.int .i64 0), (.int .i64 0), (.int .i64 0), (.int .i64 0), (.int .i64 0), (.int .i64 0), (.int .i64 0), (.int .i64 0), (.int .i64 0), (.int .i64 0), (.int .i64 0), (.slice none 0 0), (.slice none 0 0), (.slice none 0 0), (.int .i64 0), (.slice none 0 0)]⟩),
 (12, 0, ⟨none, .st none (.tmp 8) (.tmp 39) 31⟩)])
 (K.seq (K.ops [⟨none, .mov (some 40) (.tmp 7)⟩,
 ⟨none, .bin (some 41) .quo (.tmp 40) (.const (.int .i64 2))⟩,
 ⟨none, .bin (some 42) .rem (.tmp 41) (.const (.int .i64 3))⟩,
 ⟨none, .bin (some 43) .add (.const (.int .i64 1)) (.tmp 42)⟩,
 ⟨none, .mov (some 9) (.tmp 43)⟩])
 (K.seq (K.seq (K.ops [⟨none, .mov (some 10) (.const (.int .i64 0))⟩])
 (K.block 2 (K.loop (K.seq (K.seq (K.ops [⟨none, .mov (some 44) (.tmp 10)⟩,
 ⟨none, .mov (some 45) (.tmp 9)⟩,
 ⟨none, .bin (some 46) .lss (.tmp 44) (.tmp 45)⟩])
 (K.cond (.tmp 46)
 (K.skip)
 (K.exit 2)))
 (K.seq (K.block 3 (K.seq (K.dops [(0, 0, ⟨none, .addr (some 49) (.tmp 8) 8⟩),
 (1, 0, ⟨none, .ld (some 50) (.tmp 49) 1 false⟩),
 (2, 0, ⟨none, .mov (some 51) (.tmp 5)⟩),
 (3, 0, ⟨none, .call (some 52) (.func 11) [(.tmp 51)]⟩),
 (4, 0, ⟨none, .bslice (some 53) 9 1 3 [(.string ⟨#[]⟩), (.string ⟨#[]⟩), (.string ⟨#[]⟩)] [(0, 1, (.const (.string ⟨#[120]⟩))), (1, 1, (.const (.string ⟨#[121]⟩))), (2, 1, (.const (.string ⟨#[122]⟩)))]⟩),
 (5, 0, ⟨none, .mov (some 54) (.tmp 10)⟩),
 (6, 0, ⟨none, .idx (some 55) (.tmp 53) (.tmp 54) 1⟩),
 (7, 0, ⟨none, .ld (some 56) (.tmp 55) 1 false⟩),
 (8, 0, ⟨none, .mov (some 57) (.tmp 0)⟩),
 (9, 0, ⟨none, .mov (some 58) (.tmp 6)⟩),
 (10, 0, ⟨none, .bin (some 59) .mul (.const (.int .i64 3)) (.tmp 58)⟩),
 (11, 0, ⟨none, .bin (some 60) .add (.const (.int .i64 5)) (.tmp 59)⟩),
 (12, 0, ⟨none, .mov (some 61) (.tmp 10)⟩),
 (13, 0, ⟨none, .bin (some 62) .add (.tmp 60) (.tmp 61)⟩),
 (14, 0, ⟨none, .call (some 63) (.func 51) [(.tmp 57), (.tmp 62), (.const (.int .i64 65536))]⟩),
 (15, 0, ⟨none, .mov (some 64) (.tmp 6)⟩),
 (16, 0, ⟨none, .call (some 65) (.func 24) [(.tmp 63), (.tmp 64)]⟩),
 (17, 0, ⟨none, .build (some 66) [(.int .i64 0), (.int .i64 0), (.int .i64 0), (.string ⟨#[]⟩), (.int .i64 0), (.int .i64 0), (.int .i64 0), (.int .i64 0), (.slice none 0 0), (.int .i64 0), (.int .i64 0)] [(0, 3, (.tmp 52)), (3, 1, (.tmp 56)), (4, 5, (.tmp 65))]⟩),
 (18, 0, ⟨none, .bslice (some 67) 45 11 1 [(.int .i64 0), (.int .i64 0), (.int .i64 0), (.string ⟨#[]⟩), (.int .i64 0), (.int .i64 0), (.int .i64 0), (.int .i64 0), (.slice none 0 0), (.int .i64 0), (.int .i64 0)] [(0, 11, (.tmp 66))]⟩),
 (19, 0, ⟨none, .app (some 68) 45 11 112 (.tmp 50) (.tmp 67)⟩),
 (20, 0, ⟨none, .addr (some 69) (.tmp 8) 8⟩),
 (21, 0, ⟨none, .st none (.tmp 69) (.tmp 68) 1⟩)])
 (K.ops [⟨none, .mov (some 70) (.tmp 5)⟩,
 ⟨none, .bin (some 71) .add (.tmp 70) (.const (.int .i64 1))⟩,
 ⟨none, .mov (some 5) (.tmp 71)⟩])))
 (K.ops [⟨none, .mov (some 47) (.tmp 10)⟩,
 ⟨none, .bin (some 48) .add (.tmp 47) (.const (.int .i64 1))⟩,
 ⟨none, .mov (some 10) (.tmp 48)⟩]))))))
 (K.seq (K.ops [⟨none, .addr (some 72) (.tmp 3) 1⟩,
 ⟨none, .ld (some 73) (.tmp 72) 1 false⟩,
 ⟨none, .ld (some 74) (.tmp 8) 31 true⟩,
 ⟨none, .bslice (some 75) 73 31 1 [(.int .i64 0), (.int .i64 0), (.int .i64 0), (.int .i64 0), (.int .i64 0), (.int .i64 0), (.int .i64 0), (.string ⟨#[]⟩), (.slice none 0 0), (.int .i64 0), (.int .i64 0), (.int .i64 0), (.int .i64 0), (.slice none 0 0), (.int .i64 0), (.int .i64 0), (.int .i64 0), (.int .i64 0), (.int .i64 0), (.int .i64 0), (.int .i64 0), (.int .i64 0), (.int .i64 0), (.int .i64 0), (.int .i64 0), (.int .i64 0), (.slice none 0 0), (.slice none 0 0), (.slice none 0 0), (.int .i64 0), (.slice none 0 0)] [(0, 31, (.tmp 74))]⟩,
 ⟨none, .app (some 76) 73 31 352 (.tmp 73) (.tmp 75)⟩,
 ⟨none, .addr (some 77) (.tmp 3) 1⟩,
 ⟨none, .st none (.tmp 77) (.tmp 76) 1⟩])
 (K.dops [(0, 1, ⟨none, .addr (some 78) (.tmp 3) 0⟩),
 (1, 1, ⟨none, .ld (some 79) (.tmp 78) 1 false⟩),
 (2, 0, ⟨none, .addr (some 80) (.tmp 3) 0⟩),
 (3, 0, ⟨none, .ld (some 81) (.tmp 80) 1 false⟩),
 (4, 0, ⟨none, .idx (some 82) (.tmp 81) (.const (.int .i64 0)) 6⟩),
 (5, 0, ⟨none, .addr (some 83) (.tmp 82) 5⟩),
 (6, 0, ⟨none, .ld (some 84) (.tmp 83) 1 false⟩),
 (7, 0, ⟨none, .addr (some 85) (.tmp 8) 0⟩),
 (8, 0, ⟨none, .ld (some 86) (.tmp 85) 3 true⟩),
 (9, 0, ⟨none, .bslice (some 87) 24 3 1 [(.int .i64 0), (.int .i64 0), (.int .i64 0)] [(0, 3, (.tmp 86))]⟩),
 (10, 0, ⟨none, .app (some 88) 24 3 24 (.tmp 84) (.tmp 87)⟩),
 (11, 0, ⟨none, .idx (some 89) (.tmp 79) (.const (.int .i64 0)) 6⟩),
 (12, 0, ⟨none, .addr (some 90) (.tmp 89) 5⟩),
 (13, 0, ⟨none, .st none (.tmp 90) (.tmp 88) 1⟩)])))))))
 (K.ops [⟨none, .mov (some 23) (.tmp 6)⟩,
 ⟨none, .bin (some 24) .add (.tmp 23) (.const (.int .i64 1))⟩,
 ⟨none, .mov (some 6) (.tmp 24)⟩]))))))
 (K.seq (K.ops [⟨none, .ld (some 91) (.tmp 3) 2 true⟩,
 ⟨none, .st none (.tmp 2) (.tmp 91) 2⟩])
 (K.ret))))))
theorem c23 : compile Try.prog Try.f23.ntmps (Try.f23.body.getD .skip) = some K23.erase := by kernel_rfl
@[simp] theorem cal23 : callable Try.prog 23 = true := by kernel_rfl


def nm4 : Nat → ByteArray
  | 0 => ⟨#[80, 111, 105, 110, 116]⟩
  | 1 => ⟨#[83, 104, 97, 112, 101]⟩
  | 2 => ⟨#[83, 116, 97, 116, 101]⟩
  | _ => ⟨#[69, 118, 101, 110, 116]⟩
def nm3 : Nat → ByteArray
  | 0 => ⟨#[120]⟩
  | 1 => ⟨#[121]⟩
  | _ => ⟨#[122]⟩
def cntV (l : List Int) (i : Nat) : Nat := (1 + ((atV l (1 + i) 65536).tdiv 2).tmod 3).toNat
def manyV (l : List Int) : Nat := (1 + atV l 0 4).toNat
def nextV (l : List Int) : Nat → Nat
  | 0 => 1 + manyV l
  | i + 1 => nextV l i + cntV l i
def slotV (l : List Int) (i k : Nat) : Slt := ⟨idR (nextV l i + k : Nat), nm3 k, pickT (atV l (5 + 3 * i + k : Nat) 65536) i, 0, 0⟩
def dfnV (l : List Int) (i : Nat) : Dfn := ⟨idR (1 + i : Nat), (atV l (1 + i) 65536).tmod 2, idR 0, nm4 i, (List.range (cntV l i)).map (slotV l i)⟩
def defsV (l : List Int) : List Dfn := (List.range (manyV l)).map (dfnV l)
def idsA (l : List Int) (n : Nat) : List A := ((List.range n).map fun i => encI (idR (1 + i : Nat))).flatten
def modsA (l : List Int) : A := .sl 1 (encI (idR 0) ++ [.lit (.string ⟨#[99, 111, 114, 101]⟩), .sl 0 [], .sl (manyV l) (idsA l (manyV l))])

theorem cellsS_append : ∀ (a b : List Slt), cellsS (a ++ b) = cellsS a ++ cellsS b
  | [], b => by simp [cellsS]
  | x :: a, b => by simp [cellsS, cellsS_append a b]
theorem cellsD_append : ∀ (a b : List Dfn), cellsD (a ++ b) = cellsD a ++ cellsD b
  | [], b => by simp [cellsD]
  | x :: a, b => by simp [cellsD, cellsD_append a b]
theorem idsA_succ (l : List Int) (n : Nat) : idsA l (n + 1) = idsA l n ++ encI (idR (1 + n : Nat)) := by simp [idsA, List.range_succ]
theorem idsA_plain (l : List Int) : ∀ n, Plain (idsA l n)
  | 0 => Plain.nil
  | n + 1 => by rw [idsA_succ]; exact (idsA_plain l n).append ⟨by simp [encI], fun rf g => by simp [encI]⟩
@[simp] theorem nrm0_idsA (l : List Int) (n : Nat) : nrm0L (idsA l n) = idsA l n := (idsA_plain l n).1
@[simp] theorem vw_idsA {rf g} (l : List Int) (n : Nat) : vwL rf g (idsA l n) = idsA l n := (idsA_plain l n).2 _ _
@[simp] theorem idsA_len (l : List Int) : ∀ n, (idsA l n).length = n * 3
  | 0 => rfl
  | n + 1 => by rw [idsA_succ, List.length_append, idsA_len l n]; simp [encI]; omega
theorem cnt_range {l : List Int} (hl : ∀ x ∈ l, w64 x = x) (i : Nat) : 1 ≤ cntV l i ∧ cntV l i ≤ 3 ∧ (cntV l i : Int) = 1 + ((atV l (1 + i) 65536).tdiv 2).tmod 3 := by
  have h := at_range (i := 1 + i) hl (show (0 : Int) < 65536 by decide)
  have e : (atV l (1 + i) 65536).tdiv 2 = atV l (1 + i) 65536 / 2 := Int.tdiv_eq_ediv_of_nonneg h.1
  have h1 : 0 ≤ ((atV l (1 + i) 65536).tdiv 2).tmod 3 := Int.tmod_nonneg _ (by rw [e]; omega)
  have h2 : ((atV l (1 + i) 65536).tdiv 2).tmod 3 < 3 := Int.tmod_lt_of_pos _ (by decide)
  unfold cntV
  omega
theorem many_range {l : List Int} (hl : ∀ x ∈ l, w64 x = x) : 1 ≤ manyV l ∧ manyV l ≤ 4 ∧ (manyV l : Int) = 1 + atV l 0 4 := by
  have h := at_range (i := 0) hl (show (0 : Int) < 4 by decide)
  unfold manyV
  omega
theorem next_range {l : List Int} (hl : ∀ x ∈ l, w64 x = x) : ∀ i, nextV l i ≤ 5 + 3 * i
  | 0 => by have := many_range hl; simp only [nextV]; omega
  | i + 1 => by have := next_range hl i; have := cnt_range hl i; simp only [nextV]; omega

theorem types_ok (l : List Int) (hl : ∀ x ∈ l, w64 x = x) : Ret Try.prog 23 [.sl l.length (cellsN l)] [] (.agg [modsA l, .row 0 (manyV l)]) [.row false 73 31 (manyV l) (cellsD (defsV l))] := by
  refine ret_of_wp Try.func23 rfl c23 (rs := [.cell 2 2 true]) (by kernel_rfl) ?_
  unfold K23
  obtain ⟨hm1, hm4, hme⟩ := many_range hl
  have hr0 := at_range (i := 0) hl (show (0 : Int) < 4 by decide)
  have hwm : IntKind.i64.wrap (1 + atV l 0 4) = (manyV l : Int) := by rw [hme]; exact IntWalk.i64_in _ (by omega)
  have hwn : IntKind.i64.wrap (1 + (manyV l : Int)) = 1 + (manyV l : Int) := IntWalk.i64_in _ (by omega)
  simp -implicitDefEqProofs
  refine call0 (id_ok 0) (by simp) (by simp [encI]) ?_
  simp -implicitDefEqProofs [encI]
  refine call0 (at_ok l 0 4 (by decide)) (by simp) (by simp) ?_
  simp -implicitDefEqProofs [hwm, hwn]
  refine loopS (S := Nat) (fun i => [(0, .sl l.length (cellsN l)), (2, .ptr 0 0), (3, .ptr 1 0), (4, int (manyV l)), (5, int (nextV l i)), (6, int i)])
    (fun i => [.box [.nil, .nil], .box [.row 2 1, .row 3 i], .row false 94 6 1 (encI (idR 0) ++ [.lit (.string ⟨#[99, 111, 114, 101]⟩), .sl 0 [], .row 4 i]), .row false 73 31 i (cellsD ((defsV l).take i)), .row false 24 3 i (idsA l i)])
    (fun i => i ≤ manyV l) (fun i => manyV l - i) 0 (by simp)
    (((weak_nilrow (l := 1) (o := 5) rfl rfl 24 3).trans (weak_nilbox (l := 2) (o := 1) rfl rfl 73 31)).trans (selW [0, 2, 1, 4, 3] 0 (by decide) (by decide) (by simp [encI, idsA]) (by simp [nextV]))) ?_
  intro i hi
  by_cases h : i < manyV l
  · have hi' : (i : Int) < manyV l := by omega
    obtain ⟨hc1, hc3, hce⟩ := cnt_range hl i
    have hw1 : IntKind.i64.wrap (1 + (i : Int)) = 1 + (i : Int) := IntWalk.i64_in _ (by omega)
    simp -implicitDefEqProofs [hi', hw1]
    refine call0 (at_ok l (1 + i) 65536 (by decide)) (by simp) (by simp) ?_
    simp -implicitDefEqProofs [hw1]
    have hi4 : i < 4 := by omega
    have hdn : List.drop i [A.lit (.string ⟨#[80, 111, 105, 110, 116]⟩), A.lit (.string ⟨#[83, 104, 97, 112, 101]⟩), A.lit (.string ⟨#[83, 116, 97, 116, 101]⟩), A.lit (.string ⟨#[69, 118, 101, 110, 116]⟩)] = A.lit (.string (nm4 i)) :: List.drop (i + 1) [A.lit (.string ⟨#[80, 111, 105, 110, 116]⟩), A.lit (.string ⟨#[83, 104, 97, 112, 101]⟩), A.lit (.string ⟨#[83, 116, 97, 116, 101]⟩), A.lit (.string ⟨#[69, 118, 101, 110, 116]⟩)] := by
      have : i = 0 ∨ i = 1 ∨ i = 2 ∨ i = 3 := by omega
      rcases this with rfl | rfl | rfl | rfl <;> rfl
    refine dcallF0 (id_ok (1 + i)) (by simp) (by simp [encI]) ?_
    simp -implicitDefEqProofs [encI]
    refine dcallF0 (id_ok 0) (by simp) (by simp [encI]) ?_
    have hx := at_range (i := 1 + (i : Int)) hl (show (0 : Int) < 65536 by decide)
    have hwq : IntKind.i64.wrap ((atV l (1 + i) 65536).tdiv 2) = (atV l (1 + i) 65536).tdiv 2 := by
      rw [Int.tdiv_eq_ediv_of_nonneg hx.1]; exact IntWalk.i64_in _ (by omega)
    have hwc : IntKind.i64.wrap (1 + ((atV l (1 + i) 65536).tdiv 2).tmod 3) = (cntV l i : Int) := by rw [← hce]; exact IntWalk.i64_in _ (by omega)
    simp -implicitDefEqProofs [encI, hdn, hi4, hwq, hwc]
    refine ⟨by omega, ?_⟩
    have hnx := next_range hl i
    have hsl : (dfnV l i).slots = (List.range (cntV l i)).map (slotV l i) := rfl
    refine loopS (S := Nat) (fun k => [(0, .sl l.length (cellsN l)), (2, .ptr 0 0), (3, .ptr 1 0), (4, int (manyV l)), (5, int (nextV l i + k : Nat)), (6, int i), (8, .ptr 5 0), (9, int (cntV l i)), (10, int k)])
      (fun k => [.box [.nil, .nil], .box [.row 2 1, .row 3 i], .row false 94 6 1 (encI (idR 0) ++ [.lit (.string ⟨#[99, 111, 114, 101]⟩), .sl 0 [], .row 4 i]), .row false 73 31 i (cellsD ((defsV l).take i)), .row false 24 3 i (idsA l i),
        .box (encI (idR (1 + i)) ++ [int ((atV l (1 + i) 65536).tmod 2)] ++ encI (idR 0) ++ [.lit (.string (nm4 i)), .row 6 k] ++ restD), .row false 45 11 k (cellsS ((dfnV l i).slots.take k))])
      (fun k => k ≤ cntV l i) (fun k => cntV l i - k) 0 (by simp)
      ((weak_nilbox (l := 5) (o := 8) rfl rfl 45 11).trans (selW [0, 1, 2, 3, 4, 5, 6] 0 (by decide) (by decide) (by simp [encI, restD]) (by simp))) ?_
    intro k hk
    by_cases hkc : k < cntV l i
    · have hkc' : (k : Int) < cntV l i := by omega
      have hk3 : k < 3 := by omega
      have hk3' : (k : Int) < 3 := by omega
      have hdn3 : List.drop k [A.lit (.string ⟨#[120]⟩), A.lit (.string ⟨#[121]⟩), A.lit (.string ⟨#[122]⟩)] = A.lit (.string (nm3 k)) :: List.drop (k + 1) [A.lit (.string ⟨#[120]⟩), A.lit (.string ⟨#[121]⟩), A.lit (.string ⟨#[122]⟩)] := by
        have : k = 0 ∨ k = 1 ∨ k = 2 := by omega
        rcases this with rfl | rfl | rfl <;> rfl
      have hw2 : IntKind.i64.wrap (3 * (i : Int)) = 3 * (i : Int) := IntWalk.i64_in _ (by omega)
      have hw3 : IntKind.i64.wrap (5 + 3 * (i : Int)) = 5 + 3 * (i : Int) := IntWalk.i64_in _ (by omega)
      have hw4 : IntKind.i64.wrap (5 + 3 * (i : Int) + k) = 5 + 3 * (i : Int) + k := IntWalk.i64_in _ (by omega)
      have hw5 : IntKind.i64.wrap ((nextV l i : Int) + k + 1) = (nextV l i : Int) + k + 1 := IntWalk.i64_in _ (by omega)
      have hw6 : IntKind.i64.wrap ((k : Int) + 1) = (k : Int) + 1 := IntWalk.i64_in _ (by omega)
      have hxs := at_range (i := 5 + 3 * (i : Int) + k) hl (show (0 : Int) < 65536 by decide)
      have hxw : w64 (atV l (5 + 3 * (i : Int) + k) 65536) = atV l (5 + 3 * (i : Int) + k) 65536 := w64_lit (by omega)
      simp -implicitDefEqProofs [hkc', encI, restD]
      refine dcall0 (id_ok ((nextV l i : Int) + k)) (by simp) (by simp [encI]) ?_
      simp -implicitDefEqProofs [encI, hdn3, hk3, hk3', hw2, hw3, hw4]
      refine dcall0 (at_ok l (5 + 3 * (i : Int) + k) 65536 (by decide)) (by simp) (by simp) ?_
      simp -implicitDefEqProofs
      refine dcall0 (pick_ok (atV l (5 + 3 * (i : Int) + k) 65536) i hxw (by omega)) (by simp) (by simp [encT]) ?_
      simp -implicitDefEqProofs [encT, hw5, hw6]
      have htS : cellsS ((dfnV l i).slots.take (k + 1)) = cellsS ((dfnV l i).slots.take k) ++ encS (slotV l i k) := by
        rw [List.take_succ_eq_append_getElem (by rw [hsl]; simpa using hkc), cellsS_append]
        simp [hsl, cellsS]
      refine ⟨⟨by simp [maxLen]; omega, by omega⟩, ?_⟩
      exact roundS (k + 1) hkc (by omega) (selW [0, 1, 2, 3, 4, 5, 6] 0 (by decide) (by decide) (by simp [encI, restD, htS, encS, slotV, Int.add_assoc]) (by simp [Int.add_assoc]))
    · have hkk : k = cntV l i := by omega
      subst hkk
      simp -implicitDefEqProofs [encI, restD, idxP, addrA]
      have hlt : i < (defsV l).length := by simpa [defsV] using h
      have htD : cellsD ((defsV l).take (i + 1)) = cellsD ((defsV l).take i) ++ encD (dfnV l i) := by
        rw [List.take_succ_eq_append_getElem hlt, cellsD_append]
        simp [defsV, cellsD]
      have hfull : (dfnV l i).slots.take (cntV l i) = (dfnV l i).slots := List.take_of_length_le (by simp [hsl])
      have hlen : (dfnV l i).slots.length = cntV l i := by simp [hsl]
      have hD : encD (dfnV l i) = encI (idR (1 + i)) ++ [int ((atV l (1 + i) 65536).tmod 2)] ++ encI (idR 0) ++ [.lit (.string (nm4 i)), .sl (cntV l i) (cellsS (dfnV l i).slots)] ++ restD := by
        rw [← hlen]
        simp [encD, encI, dfnV]
      have hwi : IntKind.i64.wrap ((i : Int) + 1) = (i : Int) + 1 := IntWalk.i64_in _ (by omega)
      refine ⟨⟨by simp [maxLen]; omega, by omega⟩, ⟨by simp [maxLen]; omega, by omega⟩, ?_⟩
      rw [hfull]
      exact roundS (i + 1) h (by omega) (selW [0, 1, 2, 3, 4] 1 (by decide) (by decide) (by simp [encI, restD, htD, hD, idsA_succ]) (by simp [nextV, hwi]))
  · have hii : i = manyV l := by omega
    subst hii
    have htk : (defsV l).take (manyV l) = defsV l := List.take_of_length_le (by simp [defsV])
    simp -implicitDefEqProofs
    exact ret_keep [3] 2 (by simp) (by simp) (by simp [htk]) (by simp [modsA, encI])
end Go.Proofs.Ytbkiphnlbadhcaa
