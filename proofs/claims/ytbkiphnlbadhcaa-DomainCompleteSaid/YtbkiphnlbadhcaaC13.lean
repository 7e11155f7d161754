/-
  The reference's all.
-/
import Derived.Test.YtbkiphnlbadhcaaC12
namespace Go.Abs

section
variable {P : Program} {H : Mem} {L : List LI} {σ : St} {w : World}
theorem callA_frz {f : FuncId} {l n : Nat} {e : TypeId} {sz : Nat} {cs : List A} (hσ : σ[l]? = some (.row false e sz n cs)) {Q : Out → St → Prop} (h : CallA P f [.sl n cs] (σ.set l (.row true e sz n cs)) Q) : CallA P f [.row l n] σ Q := by
  intro H L w vs hs hvs
  obtain ⟨v, vs', rfl, h1, h2⟩ := relL_cons_inv hvs
  have := relL_nil_inv h2
  subst this
  obtain ⟨H', hn, hr⟩ := nxt_frz hs hσ h1
  refine (h H' L w [v] hn.st (relL_cons hr relL_nil)).mono fun e w' hh => ?_
  obtain ⟨o, σ', H2, L2, g1, g2, g3⟩ := hh
  exact ⟨o, σ', H2, L2, g1, hn.trans g2, g3⟩
theorem callA_frzT {f : FuncId} {l n : Nat} {e : TypeId} {sz : Nat} {cs : List A} (hσ : σ[l]? = some (.row true e sz n cs)) {Q : Out → St → Prop} (h : CallA P f [.sl n cs] σ Q) : CallA P f [.row l n] σ Q := by
  intro H L w vs hs hvs
  obtain ⟨v, vs', rfl, h1, h2⟩ := relL_cons_inv hvs
  have := relL_nil_inv h2
  subst this
  refine h H L w [v] hs (relL_cons ?_ relL_nil)
  simp only [Rel] at h1
  obtain ⟨_, li, e1, e2, e3, hv⟩ := h1
  have hob := hs.obj l li _ e1 hσ
  simp only [RelObj] at hob
  obtain ⟨_, hln, hcl, hob⟩ := hob
  have hv := hv hln.symm
  rcases hob with ⟨hb, h0⟩ | ⟨b, cur, hb, hh, k1, k2, k3, k4, k5, k6⟩
  · rw [hb] at hv
    subst h0
    have hcs : cs = [] := List.eq_nil_of_length_eq_zero (by simpa using hcl)
    simp only [Rel]
    exact ⟨none, 0, hv, Nat.le_refl _, Nat.zero_le _, .inl ⟨trivial, hcs⟩⟩
  · rw [hb] at hv
    simp only [Rel]
    exact ⟨_, _, hv, k1, k2, .inr ⟨b, 0, _, rfl, k4, k5, k6.1⟩⟩
theorem weak_frz {n0 : Nat} {env : Env} {l n : Nat} {e : TypeId} {sz : Nat} {cs : List A} (hσ : σ[l]? = some (.row false e sz n cs)) : Weak n0 env (σ.set l (.row true e sz n cs)) env σ := by
  intro H0 L0 w0 H L w N tmps h0 h1 h2
  have hlt : l < L.length := by rw [h1.st.len]; exact (List.getElem?_eq_some_iff.1 hσ).1
  have hl : L[l]? = some L[l] := by simp [hlt]
  have hob := h1.st.obj l L[l] _ hl hσ
  simp only [RelObj] at hob
  have hr : Rel H L (.row l n) (match L[l].block with | none => .slice none 0 0 | some b => .slice (some ⟨b, 0, none⟩) n L[l].cap) := by
    simp only [Rel]
    refine ⟨?_, L[l], hl, hob.1, by rw [hob.2.1]; exact Nat.le_refl _, fun _ => rfl⟩
    split <;> rfl
  obtain ⟨H', hn, _⟩ := nxt_frz h1.st hσ hr
  exact ⟨H', L, h1.trans hn, h2.mono hn.step.hle hn.lle⟩
end
end Go.Abs
namespace Go.Proofs.Ytbkiphnlbadhcaa
open Go.Abs

-- splicery/spliceryref13.all · results ["6"]
def K38 : K :=
 K.seq (K.ops [⟨none, .box (some 3) (.tmp 0)⟩,
 ⟨none, .box (some 4) (.tmp 1)⟩,
 ⟨none, .mov (some 6) (.const (.slice none 0 0))⟩])
 (K.seq (K.ops [⟨none, .mov (some 7) (.const (.slice none 0 0))⟩])
 (K.seq (K.seq (K.ops [⟨none, .addr (some 22) (.tmp 4) 0⟩,
 ⟨none, .ld (some 23) (.tmp 22) 1 false⟩,
 ⟨none, .eqv (some 24) false .i (.tmp 23) (.const (.int .i64 0))⟩])
 (K.cond (.tmp 24)
 (K.seq (K.seq (K.ops [⟨none, .mov (some 25) (.tmp 2)⟩,
 ⟨none, .neg (some 26) (.tmp 25)⟩,
 ⟨none, .mov (some 8) (.tmp 26)⟩])
 (K.block 0 (K.loop (K.seq (K.seq (K.ops [⟨none, .mov (some 27) (.tmp 8)⟩,
 ⟨none, .mov (some 28) (.tmp 2)⟩,
 ⟨none, .bin (some 29) .leq (.tmp 27) (.tmp 28)⟩])
 (K.cond (.tmp 29)
 (K.skip)
 (K.exit 0)))
 (K.seq (K.block 1 (K.ops [⟨none, .mov (some 32) (.tmp 7)⟩,
 ⟨none, .mov (some 33) (.tmp 8)⟩,
 ⟨none, .build (some 34) [(.int .i64 0), (.int .i64 0), (.slice none 0 0)] [(0, 1, (.const (.int .i64 0))), (1, 1, (.tmp 33))]⟩,
 ⟨none, .bslice (some 35) 60 3 1 [(.int .i64 0), (.int .i64 0), (.slice none 0 0)] [(0, 3, (.tmp 34))]⟩,
 ⟨none, .app (some 36) 60 3 40 (.tmp 32) (.tmp 35)⟩,
 ⟨none, .mov (some 7) (.tmp 36)⟩]))
 (K.ops [⟨none, .mov (some 30) (.tmp 8)⟩,
 ⟨none, .bin (some 31) .add (.tmp 30) (.const (.int .i64 1))⟩,
 ⟨none, .mov (some 8) (.tmp 31)⟩]))))))
 (K.seq (K.ops [⟨none, .mov (some 37) (.tmp 7)⟩,
 ⟨none, .mov (some 6) (.tmp 37)⟩])
 (K.ret)))
 (K.skip)))
 (K.seq (K.seq (K.ops [⟨none, .addr (some 38) (.tmp 4) 0⟩,
 ⟨none, .ld (some 39) (.tmp 38) 1 false⟩,
 ⟨none, .eqv (some 40) false .i (.tmp 39) (.const (.int .i64 1))⟩])
 (K.cond (.tmp 40)
 (K.seq (K.ops [⟨none, .build (some 41) [(.int .i64 0), (.int .i64 0), (.slice none 0 0)] [(0, 1, (.const (.int .i64 1)))]⟩,
 ⟨none, .build (some 42) [(.int .i64 0), (.int .i64 0), (.slice none 0 0)] [(0, 1, (.const (.int .i64 1))), (1, 1, (.const (.int .i64 1)))]⟩,
 ⟨none, .bslice (some 43) 60 3 2 [(.int .i64 0), (.int .i64 0), (.slice none 0 0), (.int .i64 0), (.int .i64 0), (.slice none 0 0)] [(0, 3, (.tmp 41)), (3, 3, (.tmp 42))]⟩,
 ⟨none, .mov (some 6) (.tmp 43)⟩])
 (K.ret))
 (K.skip)))
 (K.seq (K.seq (K.ops [⟨none, .addr (some 44) (.tmp 4) 0⟩,
 ⟨none, .ld (some 45) (.tmp 44) 1 false⟩,
 ⟨none, .eqv (some 46) false .i (.tmp 45) (.const (.int .i64 2))⟩])
 (K.cond (.tmp 46)
 (K.seq (K.dops [(0, 0, ⟨none, .ld (some 47) (.tmp 3) 2 true⟩),
 (1, 0, ⟨none, .addr (some 48) (.tmp 4) 4⟩),
 (2, 0, ⟨none, .ld (some 49) (.tmp 48) 1 false⟩),
 (3, 0, ⟨none, .idx (some 50) (.tmp 49) (.const (.int .i64 0)) 5⟩),
 (4, 0, ⟨none, .ld (some 51) (.tmp 50) 5 true⟩),
 (5, 0, ⟨none, .mov (some 52) (.tmp 2)⟩),
 (6, 0, ⟨none, .call (some 53) (.func 38) [(.tmp 47), (.tmp 51), (.tmp 52)]⟩),
 (7, 0, ⟨none, .mov (some 9) (.tmp 53)⟩)])
 (K.seq (K.ops [⟨none, .mov (some 10) (.const (.slice none 0 0))⟩])
 (K.seq (K.seq (K.ops [⟨none, .mov (some 11) (.const (.int .i64 0))⟩])
 (K.block 2 (K.loop (K.seq (K.seq (K.ops [⟨none, .mov (some 54) (.tmp 11)⟩,
 ⟨none, .mov (some 55) (.tmp 2)⟩,
 ⟨none, .mm (some 56) false [(.tmp 55), (.const (.int .i64 2))]⟩,
 ⟨none, .bin (some 57) .leq (.tmp 54) (.tmp 56)⟩])
 (K.cond (.tmp 57)
 (K.skip)
 (K.exit 2)))
 (K.seq (K.block 3 (K.seq (K.ops [⟨none, .mov (some 60) (.tmp 10)⟩,
 ⟨none, .call (some 61) (.func 49) [(.tmp 60)]⟩,
 ⟨none, .mov (some 12) (.tmp 61)⟩])
 (K.seq (K.seq (K.ops [⟨none, .mov (some 13) (.const (.int .i64 0))⟩])
 (K.block 4 (K.loop (K.seq (K.seq (K.ops [⟨none, .mov (some 62) (.tmp 13)⟩,
 ⟨none, .mov (some 63) (.tmp 12)⟩,
 ⟨none, .len (some 64) false (.tmp 63)⟩,
 ⟨none, .bin (some 65) .lss (.tmp 62) (.tmp 64)⟩])
 (K.cond (.tmp 65)
 (K.skip)
 (K.exit 4)))
 (K.seq (K.block 5 (K.ops [⟨none, .mov (some 68) (.tmp 7)⟩,
 ⟨none, .mov (some 69) (.tmp 12)⟩,
 ⟨none, .mov (some 70) (.tmp 13)⟩,
 ⟨none, .idx (some 71) (.tmp 69) (.tmp 70) 1⟩,
 ⟨none, .ld (some 72) (.tmp 71) 1 false⟩,
 ⟨none, .build (some 73) [(.int .i64 0), (.int .i64 0), (.slice none 0 0)] [(0, 1, (.const (.int .i64 4))), (2, 1, (.tmp 72))]⟩,
 ⟨none, .bslice (some 74) 60 3 1 [(.int .i64 0), (.int .i64 0), (.slice none 0 0)] [(0, 3, (.tmp 73))]⟩,
 ⟨none, .app (some 75) 60 3 40 (.tmp 68) (.tmp 74)⟩,
 ⟨none, .mov (some 7) (.tmp 75)⟩]))
 (K.ops [⟨none, .mov (some 66) (.tmp 13)⟩,
 ⟨none, .bin (some 67) .add (.tmp 66) (.const (.int .i64 1))⟩,
 ⟨none, .mov (some 13) (.tmp 67)⟩]))))))
 (K.ops [⟨none, .mov (some 76) (.tmp 10)⟩,
 ⟨none, .mov (some 77) (.tmp 9)⟩,
 ⟨none, .bslice (some 78) 36 1 1 [(.slice none 0 0)] [(0, 1, (.tmp 77))]⟩,
 ⟨none, .app (some 79) 36 1 24 (.tmp 76) (.tmp 78)⟩,
 ⟨none, .mov (some 10) (.tmp 79)⟩]))))
 (K.ops [⟨none, .mov (some 58) (.tmp 11)⟩,
 ⟨none, .bin (some 59) .add (.tmp 58) (.const (.int .i64 1))⟩,
 ⟨none, .mov (some 11) (.tmp 59)⟩]))))))
 (K.seq (K.ops [⟨none, .mov (some 80) (.tmp 7)⟩,
 ⟨none, .mov (some 6) (.tmp 80)⟩])
 (K.ret)))))
 (K.skip)))
 (K.seq (K.ops [⟨none, .ld (some 82) (.tmp 3) 2 true⟩,
 ⟨none, .addr (some 83) (.tmp 4) 1⟩,
 ⟨none, .ld (some 84) (.tmp 83) 3 true⟩,
 ⟨none, .call (some 85) (.func 69) [(.tmp 82), (.tmp 84)]⟩,
 ⟨none, .mov (some 81) (.tmp 85)⟩,
 ⟨none, .ext (some 86) (.tmp 81) 0⟩,
 ⟨none, .ext (some 87) (.tmp 81) 1⟩,
 ⟨none, .alloc (some 14) [(.int .i64 0), (.int .i64 0), (.int .i64 0), (.int .i64 0), (.int .i64 0), (.int .i64 0), (.int .i64 0), (.string ⟨#[]⟩), (.slice none 0 0), (.int .i64 0), (.int .i64 0), (.int .i64 0), (.int .i64 0), (.slice none 0 0), (.int .i64 0), (.int .i64 0), (.int .i64 0), (.int .i64 0), (.int .i64 0), (.int .i64 0), (.int .i64 0), (.int .i64 0), (.int .i64 0), (.int .i64 0), (.int .i64 0), (.int .i64 0), (.slice none 0 0), (.slice none 0 0), (.slice none 0 0), (.int .i64 0), (.slice none 0 0)]⟩,
 ⟨none, .st none (.tmp 14) (.tmp 86) 31⟩,
 ⟨none, .mov (some 15) (.tmp 87)⟩])
 (K.seq (K.ops [⟨none, .mov (some 16) (.const (.slice none 0 0))⟩])
 (K.seq (K.seq (K.ops [⟨none, .mov (some 17) (.const (.int .i64 0))⟩])
 (K.block 6 (K.loop (K.seq (K.seq (K.ops [⟨none, .mov (some 88) (.tmp 17)⟩,
 ⟨none, .addr (some 89) (.tmp 14) 8⟩,
 ⟨none, .ld (some 90) (.tmp 89) 1 false⟩,
 ⟨none, .len (some 91) false (.tmp 90)⟩,
 ⟨none, .bin (some 92) .lss (.tmp 88) (.tmp 91)⟩])
 (K.cond (.tmp 92)
 (K.skip)
 (K.exit 6)))
 (K.seq (K.block 7 (K.seq (K.dops [(0, 0, ⟨none, .ld (some 95) (.tmp 3) 2 true⟩),
 (1, 0, ⟨none, .addr (some 96) (.tmp 14) 8⟩),
 (2, 0, ⟨none, .ld (some 97) (.tmp 96) 1 false⟩),
 (3, 0, ⟨none, .mov (some 98) (.tmp 17)⟩),
 (4, 0, ⟨none, .idx (some 99) (.tmp 97) (.tmp 98) 11⟩),
 (5, 0, ⟨none, .addr (some 100) (.tmp 99) 4⟩),
 (6, 0, ⟨none, .ld (some 101) (.tmp 100) 5 true⟩),
 (7, 0, ⟨none, .mov (some 102) (.tmp 2)⟩),
 (8, 0, ⟨none, .call (some 103) (.func 38) [(.tmp 95), (.tmp 101), (.tmp 102)]⟩),
 (9, 0, ⟨none, .mov (some 18) (.tmp 103)⟩)])
 (K.seq (K.ops [⟨none, .mov (some 104) (.tmp 16)⟩,
 ⟨none, .mov (some 105) (.tmp 18)⟩,
 ⟨none, .bslice (some 106) 36 1 1 [(.slice none 0 0)] [(0, 1, (.tmp 105))]⟩,
 ⟨none, .app (some 107) 36 1 24 (.tmp 104) (.tmp 106)⟩,
 ⟨none, .mov (some 16) (.tmp 107)⟩])
 (K.seq (K.ops [⟨none, .mov (some 19) (.const (.int .i64 0))⟩])
 (K.block 8 (K.loop (K.seq (K.seq (K.ops [⟨none, .mov (some 108) (.tmp 19)⟩,
 ⟨none, .mov (some 109) (.tmp 18)⟩,
 ⟨none, .len (some 110) false (.tmp 109)⟩,
 ⟨none, .bin (some 111) .lss (.tmp 108) (.tmp 110)⟩,
 ⟨none, .mov (some 112) (.tmp 111)⟩,
 ⟨some (112, true), .addr (some 113) (.tmp 14) 3⟩,
 ⟨some (112, true), .ld (some 114) (.tmp 113) 1 false⟩,
 ⟨some (112, true), .eqv (some 115) false .i (.tmp 114) (.const (.int .i64 1))⟩,
 ⟨none, .pick (some 116) (.tmp 112) (.tmp 115) (.const (.bool false))⟩])
 (K.cond (.tmp 116)
 (K.skip)
 (K.exit 8)))
 (K.seq (K.block 9 (K.ops [⟨none, .mov (some 119) (.tmp 7)⟩,
 ⟨none, .mov (some 120) (.tmp 17)⟩,
 ⟨none, .mov (some 121) (.tmp 18)⟩,
 ⟨none, .mov (some 122) (.tmp 19)⟩,
 ⟨none, .idx (some 123) (.tmp 121) (.tmp 122) 3⟩,
 ⟨none, .ld (some 124) (.tmp 123) 3 true⟩,
 ⟨none, .bslice (some 125) 60 3 1 [(.int .i64 0), (.int .i64 0), (.slice none 0 0)] [(0, 3, (.tmp 124))]⟩,
 ⟨none, .build (some 126) [(.int .i64 0), (.int .i64 0), (.slice none 0 0)] [(0, 1, (.const (.int .i64 3))), (1, 1, (.tmp 120)), (2, 1, (.tmp 125))]⟩,
 ⟨none, .bslice (some 127) 60 3 1 [(.int .i64 0), (.int .i64 0), (.slice none 0 0)] [(0, 3, (.tmp 126))]⟩,
 ⟨none, .app (some 128) 60 3 40 (.tmp 119) (.tmp 127)⟩,
 ⟨none, .mov (some 7) (.tmp 128)⟩]))
 (K.ops [⟨none, .mov (some 117) (.tmp 19)⟩,
 ⟨none, .bin (some 118) .add (.tmp 117) (.const (.int .i64 1))⟩,
 ⟨none, .mov (some 19) (.tmp 118)⟩])))))))))
 (K.ops [⟨none, .mov (some 93) (.tmp 17)⟩,
 ⟨none, .bin (some 94) .add (.tmp 93) (.const (.int .i64 1))⟩,
 ⟨none, .mov (some 17) (.tmp 94)⟩]))))))
 (K.seq (K.seq (K.ops [⟨none, .addr (some 129) (.tmp 14) 3⟩,
 ⟨none, .ld (some 130) (.tmp 129) 1 false⟩,
 ⟨none, .eqv (some 131) false .i (.tmp 130) (.const (.int .i64 0))⟩])
 (K.cond (.tmp 131)
 (K.seq (K.ops [⟨none, .mov (some 132) (.tmp 16)⟩,
 ⟨none, .call (some 133) (.func 49) [(.tmp 132)]⟩,
 ⟨none, .mov (some 20) (.tmp 133)⟩])
 (K.seq (K.ops [⟨none, .mov (some 21) (.const (.int .i64 0))⟩])
 (K.block 10 (K.loop (K.seq (K.seq (K.ops [⟨none, .mov (some 134) (.tmp 21)⟩,
 ⟨none, .mov (some 135) (.tmp 20)⟩,
 ⟨none, .len (some 136) false (.tmp 135)⟩,
 ⟨none, .bin (some 137) .lss (.tmp 134) (.tmp 136)⟩])
 (K.cond (.tmp 137)
 (K.skip)
 (K.exit 10)))
 (K.seq (K.block 11 (K.ops [⟨none, .mov (some 140) (.tmp 7)⟩,
 ⟨none, .mov (some 141) (.tmp 20)⟩,
 ⟨none, .mov (some 142) (.tmp 21)⟩,
 ⟨none, .idx (some 143) (.tmp 141) (.tmp 142) 1⟩,
 ⟨none, .ld (some 144) (.tmp 143) 1 false⟩,
 ⟨none, .build (some 145) [(.int .i64 0), (.int .i64 0), (.slice none 0 0)] [(0, 1, (.const (.int .i64 2))), (2, 1, (.tmp 144))]⟩,
 ⟨none, .bslice (some 146) 60 3 1 [(.int .i64 0), (.int .i64 0), (.slice none 0 0)] [(0, 3, (.tmp 145))]⟩,
 ⟨none, .app (some 147) 60 3 40 (.tmp 140) (.tmp 146)⟩,
 ⟨none, .mov (some 7) (.tmp 147)⟩]))
 (K.ops [⟨none, .mov (some 138) (.tmp 21)⟩,
 ⟨none, .bin (some 139) .add (.tmp 138) (.const (.int .i64 1))⟩,
 ⟨none, .mov (some 21) (.tmp 139)⟩])))))))
 (K.skip)))
 (K.seq (K.ops [⟨none, .mov (some 148) (.tmp 7)⟩,
 ⟨none, .mov (some 6) (.tmp 148)⟩])
 (K.ret))))))))))
theorem c38 : compile Try.prog Try.f38.ntmps (Try.f38.body.getD .skip) = some K38.erase := by kernel_rfl
@[simp] theorem cal38 : callable Try.prog 38 = true := by kernel_rfl


theorem listsP_pref (X : List Val) (n i : Nat) (h : i ≤ n) : (prodT ((List.replicate n X).take i)).length = (prodT (List.replicate i X)).length := by
  rw [List.take_replicate, Nat.min_eq_left h]

theorem foldl_mul (l : List Nat) (x y : Nat) : l.foldl (· * ·) (x * y) = x * l.foldl (· * ·) y := by
  induction l generalizing x y with
  | nil => rfl
  | cons a l ih => simp only [List.foldl_cons, Nat.mul_assoc, ih]
theorem recF_part : ∀ (l : List (List Val)) (z : List Sz) (a b : Int), z.map (·.a) = l.map (fun x => (x.length : Int)) → (recF a b z).e = 0 → a ≤ 4096 → ∀ i, a * (((l.take i).map List.length).foldl (· * ·) 1 : Nat) ≤ 4096
  | [], _, a, b, _, _, ha, i => by simpa using ha
  | x :: l, z, a, b, _, _, ha, 0 => by simpa using ha
  | x :: l, k :: z, a, b, h, he, ha, i + 1 => by
    simp only [List.map_cons, List.cons.injEq] at h
    simp only [recF] at he
    split at he
    · simp at he
    · rename_i hn
      have := recF_part l z _ _ h.2 he (by omega) i
      have h2 := foldl_mul ((l.take i).map List.length) x.length 1
      rw [Nat.mul_one] at h2
      simp only [List.take_succ_cons, List.map_cons, List.foldl_cons, Nat.one_mul, h2]
      rw [Int.natCast_mul, ← Int.mul_assoc, ← h.1]
      exact this
  | _ :: _, [], _, _, h, _, _, _ => by simp at h
theorem prodT_take_len (l : List (List Val)) (i : Nat) : (prodT (l.take i)).length = ((l.take i).map List.length).foldl (· * ·) 1 := by
  rw [prodT, prodT_length]; simp

theorem refAll_ok (p : Prg) (hs : Sml p) (m : Int) (hm : 0 ≤ m ∧ m ≤ 64) : ∀ (n : Nat) (t : Typ), (sizeN p m n t).e = 0 → Ret Try.prog 38 [.agg (encP p), .agg (encT t), int m] [] (.sl (allV p m n t).length (cellsV (allV p m n t))) [] := by
  intro n
  induction n with
  | zero =>
    intro t h
    unfold sizeN at h
    split at h <;> simp at h
  | succ n ih =>
    intro t h
    have hlen := size_len p m hm.1 (n + 1) t h
    have hle := sizeN_ok p m hm (n + 1) t h
    refine ret_of_wp Try.func38 rfl c38 (rs := [.slot 6]) (by kernel_rfl) ?_
    unfold K38
    unfold sizeN at h
    split at h
    · simp at h
    rename_i hv
    have hv : validT p t = true := by simpa using hv
    by_cases h0 : t.k = 0
    · have ha : allV p m (n + 1) t = intsV m := by rw [allV, if_pos h0]
      rw [ha]
      have hli : (intsV m).length = (2 * m + 1).toNat := by simp [intsV]
      have hw0 : IntKind.i64.wrap (0 - m) = 0 - m := IntWalk.i64_in _ (by omega)
      have hw0' : IntKind.i64.wrap (-m) = -m := IntWalk.i64_in _ (by omega)
      simp -implicitDefEqProofs [encP, encT, h0, hw0, hw0']
      refine loopS (S := Nat) (fun j => [(2, int m), (7, .row 0 j), (8, int (j - m))])
        (fun j => [.row false 60 3 j (cellsV ((intsV m).take j))])
        (fun j => (j : Int) ≤ 2 * m + 1) (fun j => (2 * m + 1).toNat - j) 0 (by simp; omega)
        ((weak_nilslot (t := 7) (by simp) 60 3).trans (selW [2] 0 (by simp) (by simp) (by simp) (by simp))) ?_
      intro j hj
      by_cases hjl : (j : Int) - m ≤ m
      · have htk := intsV_get (m := m) (j := j) (by omega)
        have hw1 : IntKind.i64.wrap ((j : Int) - m + 1) = (j : Int) - m + 1 := IntWalk.i64_in _ (by omega)
        have hjx : j ≤ (intsV m).length := by omega
        simp -implicitDefEqProofs [hjl, hw1]
        refine ⟨⟨by simp [maxLen]; omega, by omega⟩, ?_⟩
        exact roundS (j + 1) (by omega) (by omega) (selW [0] 0 (by simp) (by simp) (by simp [htk, Val.k, Val.n, Val.kids]) (by simp; omega))
      · have hjj : (j : Int) = 2 * m + 1 := by omega
        have hjn : j = (intsV m).length := by omega
        have htk : (intsV m).take j = intsV m := by rw [hjn]; exact List.take_of_length_le (Nat.le_refl _)
        simp -implicitDefEqProofs [hjl, htk]
        exact ret_end 1 (by simp [hjn])
    by_cases h1 : t.k = 1
    · have ha : allV p m (n + 1) t = [.mk 1 0 [], .mk 1 1 []] := by rw [allV, if_neg h0, if_pos h1]
      rw [ha]
      simp -implicitDefEqProofs [encP, encT, h1]
      exact ret_end 1 (by simp [Val.k, Val.n, Val.kids])
    by_cases h2 : t.k = 2
    · obtain ⟨x, hx⟩ := valid_list hv h2
      rw [if_neg h0, if_neg h1, if_pos h2, hx] at h
      obtain ⟨e1, _, _⟩ := finSz_e h
      have e3 : (sizeN p m n x).e = 0 := by
        by_cases hz : (sizeN p m n x).e = 0
        · exact hz
        · exact absurd e1 (by rw [List.headD_cons, listSz, if_pos hz]; exact hz)
      have ha : allV p m (n + 1) t = listsP (allV p m n x) ((if 2 < m then 2 else m) + 1).toNat := by rw [allV, if_neg h0, if_neg h1, if_pos h2, hx]; rfl
      have hex := sizeN_ok p m hm n x e3
      have hel := size_len p m hm.1 n x e3
      have ih := ih x e3
      rw [ha] at hlen ⊢
      generalize allV p m n x = X at ih hel hlen
      simp -implicitDefEqProofs [encP, encT, h2, hx]
      refine dcall0 ih (by simp [encP, encT]) (by simp) ?_
      obtain ⟨K, hK, hK2⟩ : ∃ K : Nat, (if 2 < m then 2 else m) + 1 = (K : Int) ∧ K ≤ 3 := ⟨((if 2 < m then 2 else m) + 1).toNat, by split <;> omega, by split <;> omega⟩
      rw [hK] at hlen ⊢
      simp only [Int.toNat_natCast] at hlen ⊢
      have hW : (listsP X K).length ≤ 4096 := by omega
      simp -implicitDefEqProofs
      refine loopS (S := Nat) (fun j => [(2, int m), (7, .row 0 (listsP X j).length), (9, .sl X.length (cellsV X)), (10, .row 1 j), (11, int j)])
        (fun j => [.row false 60 3 (listsP X j).length (cellsV ((listsP X K).take (listsP X j).length)), .row true 36 1 j (cellsW (List.replicate j X))])
        (fun j => j ≤ K) (fun j => K - j) 0 (by simp)
        ((((weak_nilslot (t := 7) (by simp) 60 3).trans (weak_nilslot (t := 10) (by simp) 36 1)).trans (weak_frz (l := 3) rfl)).trans (selW [2, 3] 0 (by simp) (by simp) (by simp [listsP]) (by simp [listsP]))) ?_
      intro j hj
      by_cases hjl : j < K
      · have hw4 : IntKind.i64.wrap ((j : Int) + 1) = (j : Int) + 1 := IntWalk.i64_in _ (by omega)
        have hjm : (j : Int) ≤ (if 2 < m then 2 else m) := by omega
        simp -implicitDefEqProofs [hjm]
        refine callA_frzT (l := 1) rfl ?_
        have hPj : ∀ i, (prodT ((List.replicate j X).take i)).length ≤ 1000000 := fun i => by
          rw [List.take_replicate]
          have h1 : min i j < K := by omega
          have hc1 : (listsP X (min i j + 1)).length = (listsP X (min i j)).length + (prodT (List.replicate (min i j) X)).length := by rw [listsP_succ]; simp
          obtain ⟨R, hR⟩ := listsP_pre X (min i j + 1) (K - (min i j + 1))
          rw [show min i j + 1 + (K - (min i j + 1)) = K by omega] at hR
          have := congrArg List.length hR
          simp only [List.length_append] at this
          omega
        refine call0 (product_ok (List.replicate j X) (by simp; omega) hPj) (by simp) (by simp) ?_
        simp -implicitDefEqProofs
        have hc1 : (listsP X (j + 1)).length = (listsP X j).length + (prodT (List.replicate j X)).length := by rw [listsP_succ]; simp
        have htake : ∀ i (hi : i < (prodT (List.replicate j X)).length), cellsV ((listsP X K).take ((listsP X j).length + (i + 1))) = cellsV ((listsP X K).take ((listsP X j).length + i)) ++ encV (.mk 4 0 (prodT (List.replicate j X))[i]) ∧ (listsP X j).length + (i + 1) ≤ (listsP X K).length := fun i hi => by
          obtain ⟨q1, q2⟩ := listsP_take hjl hi
          exact ⟨by rw [q1, cellsV_append]; simp [encV], q2⟩
        have hrep : cellsW (List.replicate (j + 1) X) = cellsW (List.replicate j X) ++ [.sl X.length (cellsV X)] := by rw [List.replicate_succ', cellsW_append]; rfl
        generalize prodT (List.replicate j X) = Y at hc1 htake ⊢
        refine loopS (S := Nat) (fun i => [(2, int m), (7, .row 0 ((listsP X j).length + i)), (9, .sl X.length (cellsV X)), (10, .row 1 j), (11, int j), (12, .sl Y.length (cellsW Y)), (13, int i)])
          (fun i => [.row false 60 3 ((listsP X j).length + i) (cellsV ((listsP X K).take ((listsP X j).length + i))), .row true 36 1 j (cellsW (List.replicate j X))])
          (fun i => i ≤ Y.length) (fun i => Y.length - i) 0 (by simp)
          (selW [0, 1] 0 (by simp) (by simp) (by simp) (by simp)) ?_
        intro i hi
        by_cases hiY : i < Y.length
        · obtain ⟨htk, hle⟩ := htake i hiY
          simp -implicitDefEqProofs [hiY, cellsW_drop hiY]
          intro hYm
          refine ⟨⟨by simp [maxLen]; omega, by omega⟩, ?_⟩
          exact roundS (i + 1) hiY (by omega) (selW [0, 1] 0 (by simp) (by simp) (by simp [htk, encV, Val.k, Val.n, Val.kids, Nat.add_assoc]) (by simp [Nat.add_assoc, wrap_succ hiY hYm]))
        · have hii : i = Y.length := by omega
          subst hii
          simp -implicitDefEqProofs
          intro hYm
          refine ⟨⟨by simp [maxLen]; omega, by omega⟩, ?_⟩
          exact roundS (j + 1) hjl (by omega) (selW [0, 1] 1 (by simp) (by simp) (by simp [hc1, hrep]) (by simp [hc1, hw4]))
      · have hjj : j = K := by omega
        subst hjj
        have hjm : ¬ (j : Int) ≤ (if 2 < m then 2 else m) := by omega
        simp -implicitDefEqProofs [hjm]
        exact ret_end 1 (by simp)
    · rw [if_neg h0, if_neg h1, if_neg h2] at h
      obtain ⟨e1, _, _⟩ := finSz_e h
      have ha : allV p m (n + 1) t = slotsV (dfn p t.id).kind ((dfn p t.id).slots.map fun s => allV p m n s.typ) := by rw [allV, if_neg h0, if_neg h1, if_neg h2]
      have e5 := valid_kind hv h0 h1 h2
      have hsl := hs.dfn t.id
      have e3 : errF ((dfn p t.id).slots.map fun s => sizeN p m n s.typ) = 0 := by
        by_cases hz : errF ((dfn p t.id).slots.map fun s => sizeN p m n s.typ) = 0
        · exact hz
        · exact absurd e1 (by simp [slotsSz, hz])
      have e4 : ∀ s ∈ (dfn p t.id).slots, (sizeN p m n s.typ).e = 0 := fun s hs => errF_zero e3 _ (List.mem_map_of_mem hs)
      have e6 : ∀ s ∈ (dfn p t.id).slots, (allV p m n s.typ).length ≤ 4096 := fun s hs => by
        have g1 := sizeN_ok p m hm n s.typ (e4 s hs)
        have g2 := size_len p m hm.1 n s.typ (e4 s hs)
        omega
      have hmap := map_lens (fun t => size_len p m hm.1 n t) _ e3
      have e7 : (dfn p t.id).kind = 0 → (recF 1 1 ((dfn p t.id).slots.map fun s => sizeN p m n s.typ)).e = 0 := fun hk0 => by
        have ee : slotsSz (decide ((dfn p t.id).kind = 0)) ((dfn p t.id).slots.map fun s => sizeN p m n s.typ) = recF 1 1 ((dfn p t.id).slots.map fun s => sizeN p m n s.typ) := by simp [slotsSz, e3, hk0]
        rw [ee] at e1
        exact e1
      clear e1
      rw [ha] at hlen ⊢
      obtain ⟨k, id, kids⟩ := t
      simp only [Typ.k_mk, Typ.id_mk] at h0 h1 h2 hlen hsl e7 e3 e4 e5 e6 hmap ⊢
      generalize hD : dfn p id = D at hlen hsl e7 e3 e4 e5 e6 hmap ⊢
      rw [dfn] at hD
      have hW : (slotsV D.kind (D.slots.map fun s => allV p m n s.typ)).length ≤ 4096 := by omega
      have hpart : D.kind = 0 → ∀ i, (prodT ((D.slots.map fun s => allV p m n s.typ).take i)).length ≤ 1000000 := fun hk0 i => by
        have := recF_part _ _ _ _ hmap (e7 hk0) (by decide) i
        rw [prodT_take_len]
        omega
      have hih : ∀ s ∈ D.slots, Ret Try.prog 38 [.agg (encP p), .agg (encT s.typ), int m] [] (.sl (allV p m n s.typ).length (cellsV (allV p m n s.typ))) [] := fun s hs => ih s.typ (e4 s hs)
      have hLl : (D.slots.map fun s => allV p m n s.typ).length = D.slots.length := by simp
      have hLg : ∀ i (h : i < D.slots.length), (D.slots.map fun s => allV p m n s.typ)[i]? = some (allV p m n D.slots[i].typ) := fun i h => by simp [h]
      clear e7 h hle hv hmap e3
      generalize (D.slots.map fun s => allV p m n s.typ) = L at hLl hLg hW hlen hpart ⊢
      clear hlen
      simp -implicitDefEqProofs [encP, encT, h0, h1, h2]
      refine call0 (refDef_ok p id) (by simp [encP, encI]) (by simp [defR]) ?_
      simp -implicitDefEqProofs [defR, hD, encD]
      rcases e5 with e5 | e5
      · have hsv : slotsV D.kind L = recsV L := by simp [slotsV, e5]
        rw [hsv] at hW ⊢
        refine loopS (S := Nat) (fun i => [(2, int m), (3, .ptr 0 0), (7, .nil), (14, .ptr 1 0), (16, .row 2 i), (17, int i)])
          (fun i => [.box (encP p), .box (encD D), .row false 36 1 i (cellsW (L.take i))])
          (fun i => i ≤ D.slots.length) (fun i => D.slots.length - i) 0 (by simp)
          ((weak_nilslot (t := 16) (by simp) 36 1).trans (selW [0, 2, 3] 0 (by simp) (by simp) (by simp [encP, encD]) (by simp))) ?_
        intro i hi
        by_cases h : i < D.slots.length
        · have hil : i < L.length := by omega
          have hl6 := e6 D.slots[i] (List.getElem_mem h)
          have hc := hih D.slots[i] (List.getElem_mem h)
          have hLi := hLg i h
          rw [List.getElem?_eq_getElem hil] at hLi
          rw [← Option.some.inj hLi] at hc hl6
          simp -implicitDefEqProofs [h, cellsS_drop h, encS, encP, encD]
          intro hl
          refine dcall0 hc (by simp [encP, encT]) (by simp) ?_
          simp -implicitDefEqProofs
          refine ⟨⟨by simp [maxLen]; omega, by omega⟩, ?_⟩
          have htL : cellsW (L.take (i + 1)) = cellsW (L.take i) ++ [.sl L[i].length (cellsV L[i])] := by rw [List.take_succ_eq_append_getElem hil, cellsW_append]; rfl
          have hwi : IntKind.i64.wrap ((i : Int) + 1) = (i : Int) + 1 := IntWalk.i64_in _ (by omega)
          refine loopS (S := Nat) (fun q => [(2, int m), (3, .ptr 0 0), (7, .nil), (14, .ptr 1 0), (16, .row 2 (i + 1)), (17, int i), (18, .sl L[i].length (cellsV L[i])), (19, int 0)])
            (fun q => [.box (encP p), .box (encD D), .row false 36 1 (i + 1) (cellsW (L.take (i + 1)))])
            (fun q => True) (fun q => 0) 0 trivial
            (selW [0, 1, 2] 0 (by decide) (by simp) (by simp [encP, encD, htL]) (by simp)) ?_
          intro q _
          by_cases hql : 0 < L[i].length
          · simp -implicitDefEqProofs [hql, encD, e5]
            exact fun _ => roundS (i + 1) h (by omega) (selW [0, 1, 2] 0 (by decide) (by simp) (by simp [encP, encD, e5]) (by simp [hwi]))
          · simp -implicitDefEqProofs [hql, encD, e5]
            exact fun _ => roundS (i + 1) h (by omega) (selW [0, 1, 2] 0 (by decide) (by simp) (by simp [encP, encD, e5]) (by simp [hwi]))
        · have hi : i = D.slots.length := by omega
          subst hi
          have htk : L.take D.slots.length = L := List.take_of_length_le (by omega)
          simp -implicitDefEqProofs [htk, e5, encD]
          intro hl
          refine callA_frz (l := 2) rfl ?_
          refine call0 (product_ok L (by omega) (hpart e5)) (by simp [hLl]) (by simp) ?_
          simp -implicitDefEqProofs
          have hWl : (prodT L).length = (recsV L).length := by simp [recsV]
          refine loopS (S := Nat) (fun i => [(7, .row 0 i), (20, .sl (prodT L).length (cellsW (prodT L))), (21, int i)])
            (fun i => [.row false 60 3 i (cellsV ((recsV L).take i))]) (fun i => i ≤ (prodT L).length) (fun i => (prodT L).length - i) 0 (by simp)
            ((weak_nilslot (t := 7) (by simp) 60 3).trans (selW [3] 0 (by simp) (by simp) (by simp) (by simp))) ?_
          intro i hi
          by_cases hiY : i < (prodT L).length
          · have htk : cellsV ((recsV L).take (i + 1)) = cellsV ((recsV L).take i) ++ encV (.mk 2 0 (prodT L)[i]) := by
              rw [List.take_succ_eq_append_getElem (by omega), cellsV_append]
              simp [recsV, encV]
            simp -implicitDefEqProofs [hiY, cellsW_drop hiY]
            intro hYm
            refine ⟨⟨by simp [maxLen]; omega, by omega⟩, ?_⟩
            exact roundS (i + 1) hiY (by omega) (selW [0] 0 (by simp) (by simp) (by simp [htk, encV, Val.k, Val.n, Val.kids]) (by simp [wrap_succ hiY hYm]))
          · have hii : i = (prodT L).length := by omega
            subst hii
            have htk : (recsV L).take (prodT L).length = recsV L := List.take_of_length_le (by omega)
            simp -implicitDefEqProofs [htk]
            exact fun _ => ret_end 1 (by simp [hWl])
      · have hsv : slotsV D.kind L = casesV 0 L := by simp [slotsV, e5]
        rw [hsv] at hW ⊢
        refine loopS (S := Nat) (fun i => [(2, int m), (3, .ptr 0 0), (7, .row 2 (casesV 0 (L.take i)).length), (14, .ptr 1 0), (16, .row 3 i), (17, int i)])
          (fun i => [.box (encP p), .box (encD D), .row false 60 3 (casesV 0 (L.take i)).length (cellsV ((casesV 0 L).take (casesV 0 (L.take i)).length)), .row false 36 1 i (cellsW (L.take i))])
          (fun i => i ≤ D.slots.length) (fun i => D.slots.length - i) 0 (by simp)
          (((weak_nilslot (t := 7) (by simp) 60 3).trans (weak_nilslot (t := 16) (by simp) 36 1)).trans (selW [0, 2, 3, 4] 0 (by simp) (by simp) (by simp [encP, encD, casesV]) (by simp [casesV]))) ?_
        intro i hi
        by_cases h : i < D.slots.length
        · have hil : i < L.length := by omega
          have hl6 := e6 D.slots[i] (List.getElem_mem h)
          have hc := hih D.slots[i] (List.getElem_mem h)
          have hLi := hLg i h
          rw [List.getElem?_eq_getElem hil] at hLi
          rw [← Option.some.inj hLi] at hc hl6
          simp -implicitDefEqProofs [h, cellsS_drop h, encS, encP, encD]
          intro hl
          refine dcall0 hc (by simp [encP, encT]) (by simp) ?_
          simp -implicitDefEqProofs
          refine ⟨⟨by simp [maxLen]; omega, by omega⟩, ?_⟩
          have htL : cellsW (L.take (i + 1)) = cellsW (L.take i) ++ [.sl L[i].length (cellsV L[i])] := by rw [List.take_succ_eq_append_getElem hil, cellsW_append]; rfl
          have hwi : IntKind.i64.wrap ((i : Int) + 1) = (i : Int) + 1 := IntWalk.i64_in _ (by omega)
          have hcs := casesV_succ hil
          have hc1 : (casesV 0 (L.take (i + 1))).length = (casesV 0 (L.take i)).length + L[i].length := by rw [hcs]; simp
          refine loopS (S := Nat) (fun q => [(2, int m), (3, .ptr 0 0), (7, .row 2 ((casesV 0 (L.take i)).length + q)), (14, .ptr 1 0), (16, .row 3 (i + 1)), (17, int i), (18, .sl L[i].length (cellsV L[i])), (19, int q)])
            (fun q => [.box (encP p), .box (encD D), .row false 60 3 ((casesV 0 (L.take i)).length + q) (cellsV ((casesV 0 L).take ((casesV 0 (L.take i)).length + q))), .row false 36 1 (i + 1) (cellsW (L.take (i + 1)))])
            (fun q => q ≤ L[i].length) (fun q => L[i].length - q) 0 (by simp)
            (selW [0, 1, 2, 3] 0 (by decide) (by simp) (by simp [encP, encD, htL]) (by simp)) ?_
          intro q hq
          by_cases hql : q < L[i].length
          · obtain ⟨htk, hle⟩ := casesV_take hil hql
            rw [← Nat.add_assoc] at htk
            simp -implicitDefEqProofs [hql, cellsV_drop hql, encD, e5]
            intro hqm
            refine ⟨⟨by simp [maxLen]; omega, by omega⟩, ?_⟩
            exact roundS (q + 1) hql (by omega) (selW [0, 1, 2, 3] 0 (by decide) (by simp) (by simp [encP, encD, e5, htk, encV, Val.k, Val.n, Val.kids, ← Nat.add_assoc]) (by simp [wrap_succ hql hqm, ← Nat.add_assoc]))
          · have hqq : q = L[i].length := by omega
            subst hqq
            simp -implicitDefEqProofs [encD, e5]
            exact fun _ => roundS (i + 1) h (by omega) (selW [0, 1, 2, 3] 0 (by decide) (by simp) (by simp [encP, encD, e5, hc1]) (by simp [hwi, hc1]))
        · have hi : i = D.slots.length := by omega
          subst hi
          have htk : L.take D.slots.length = L := List.take_of_length_le (by omega)
          simp -implicitDefEqProofs [htk, e5, encD]
          exact fun _ => ret_end 1 (by simp)
end Go.Proofs.Ytbkiphnlbadhcaa
