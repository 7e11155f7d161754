/-
  The law TraceChanges, walked.
-/
import Derived.Test.YthglhccibdlccaaGreatDoorX50
import Derived.Test.YthglhccibdlccaaGreatDoorX32
set_option linter.unusedVariables false
set_option linter.unusedSimpArgs false
namespace Go.Proofs.YthglhccibdlccaaGreatDoor
open Go.Abs
def KLawC : K :=
 K.seq (K.ops [kMb 8 false])
 (K.seq (K.ops [kM 17 0,
 kC 18 9 [(.tmp 17)],
 kZ 9 [(.slice none 0 0), (.slice none 0 0)],
 kS 9 18 2])
 (K.seq (K.ops [kG 19 9 2,
 kM 20 1,
 kC 21 18 [(.tmp 19), (.tmp 20), (.const (.int .i64 3))],
 kZ 10 [(.slice none 0 0), (.slice none 0 0)],
 kS 10 21 2])
 (K.seq (K.ops [kG 22 9 2,
 kM 23 2,
 kC 24 18 [(.tmp 22), (.tmp 23), (.const (.int .i64 2))],
 kM 25 3,
 kC 26 12 [(.tmp 25), (.const (.int .i64 50))],
 kC 27 19 [(.tmp 24), (.tmp 26)],
 kZ 11 [(.slice none 0 0), (.slice none 0 0)],
 kS 11 27 2])
 (K.seq (K.dops [(0, 0, kA 28 11 1),
 (1, 0, kL 29 28 1),
 (2, 0, kM 30 3),
 (3, 0, kC 31 12 [(.tmp 30), (.const (.int .i64 2))]),
 (4, 0, ⟨none, .slc (some 32) (.tmp 29) 31 (some (.tmp 31)) none none⟩),
 (5, 0, kA 33 11 1),
 (6, 0, kS 33 32 1)])
 (K.seq (K.ops [kG 34 9 2,
 kZ 12 [(.slice none 0 0), (.slice none 0 0)],
 kS 12 34 2])
 (K.seq (K.seq (K.ops [kA 35 10 1,
 kL 36 35 1,
 kN 37 36,
 kBi 38 37 0 .gtr])
 (K.cond (.tmp 38)
 (K.seq (K.dops [(0, 1, kA 39 10 1),
 (1, 1, kL 40 39 1),
 (2, 0, kM 41 3),
 (3, 1, kA 42 10 1),
 (4, 1, kL 43 42 1),
 (5, 1, kN 44 43),
 (6, 1, kC 45 12 [(.tmp 41), (.tmp 44)]),
 (7, 1, kX 46 40 45 31),
 (8, 1, kG 47 46 31),
 (9, 0, kZ 13 kz0),
 (10, 0, kS 13 47 31)])
 (K.seq (K.ops [kM 48 3,
 kBi 49 48 9 .quo,
 kC 50 12 [(.tmp 49), (.const (.int .i64 6))],
 kA 51 13 3,
 kS 51 50 1])
 (K.dops [(4, 1, kG 56 13 31),
 (5, 0, ⟨none, .bslice (some 57) 39 31 1 kz0 [(0, 31, (.tmp 56))]⟩),
 (0, 0, ⟨none, .bslice (some 52) 39 31 0 [] []⟩),
 (1, 0, kA 53 9 1),
 (2, 0, kL 54 53 1),
 (3, 0, kP 55 39 31 352 52 54),
 (6, 0, kP 58 39 31 352 55 57),
 (7, 0, kA 59 12 1),
 (8, 0, kS 59 58 1)])))
 (K.skip)))
 (K.seq (K.dops [(0, 0, kG 60 9 2),
 (1, 0, kG 61 10 2),
 (2, 0, kG 62 11 2),
 (3, 0, kG 63 12 2),
 (4, 0, kM 64 1),
 (5, 0, kC 65 9 [(.tmp 64)]),
 (6, 0, ⟨none, .build (some 66) [(.slice none 0 0), (.slice none 0 0)] []⟩),
 (7, 0, ⟨none, .bslice (some 67) 26 2 6 [(.slice none 0 0), (.slice none 0 0), (.slice none 0 0), (.slice none 0 0), (.slice none 0 0), (.slice none 0 0), (.slice none 0 0), (.slice none 0 0), (.slice none 0 0), (.slice none 0 0), (.slice none 0 0), (.slice none 0 0)] [(0, 2, (.tmp 60)), (2, 2, (.tmp 61)), (4, 2, (.tmp 62)), (6, 2, (.tmp 63)), (8, 2, (.tmp 65)), (10, 2, (.tmp 66))]⟩),
 (8, 0, kM 14 67)])
 (K.seq (K.seq (K.ops [kMi 15 0])
 (K.block 0 (K.loop (K.seq (K.seq (K.ops [kM 68 15,
 kM 69 14,
 kN 70 69,
 kB 71 68 70 .lss])
 (K.cond (.tmp 71)
 (K.skip)
 (K.exit 0)))
 (K.seq (K.block 1 (K.seq (K.ops [kMi 16 0])
 (K.block 2 (K.loop (K.seq (K.seq (K.ops [kM 74 16,
 kM 75 14,
 kN 76 75,
 kB 77 74 76 .lss])
 (K.cond (.tmp 77)
 (K.skip)
 (K.exit 2)))
 (K.seq (K.block 3 (K.seq (K.dops [(0, 0, kM 80 15),
 (1, 0, kBi 81 80 2 .lss),
 (2, 0, kM 82 81),
 (3, 0, kT 82 false (kM 83 16)),
 (4, 0, kT 82 false (kBi 84 83 2 .lss)),
 (5, 0, kPt 85 82 84),
 (6, 0, kM 86 85),
 (7, 0, kT 86 true (kM 87 14)),
 (8, 0, kT 86 true (kM 88 15)),
 (9, 0, kT 86 true (kX 89 87 88 2)),
 (10, 0, kT 86 true (kG 90 89 2)),
 (11, 0, kT 86 true (kM 91 14)),
 (12, 0, kT 86 true (kM 92 16)),
 (13, 0, kT 86 true (kX 93 91 92 2)),
 (14, 0, kT 86 true (kG 94 93 2)),
 (15, 0, kT 86 true (kC 95 21 [(.tmp 90), (.tmp 94)])),
 (16, 0, kT 86 true (kM 96 14)),
 (17, 0, kT 86 true (kM 97 15)),
 (18, 0, kT 86 true (kX 98 96 97 2)),
 (19, 0, kT 86 true (kG 99 98 2)),
 (20, 0, kT 86 true (kM 100 14)),
 (21, 0, kT 86 true (kM 101 16)),
 (22, 0, kT 86 true (kX 102 100 101 2)),
 (23, 0, kT 86 true (kG 103 102 2)),
 (24, 0, kT 86 true (kC 104 22 [(.tmp 99), (.tmp 103)])),
 (25, 0, kT 86 true (kC 105 20 [(.tmp 95), (.tmp 104)])),
 (26, 0, kT 86 true (kR 106 105)),
 (27, 0, kPf 107 86 106)])
 (K.cond (.tmp 107)
 (K.seq (K.ops [kMb 8 false])
 (K.ret))
 (K.skip))))
 (K.ops [kM 78 16,
 kBi 79 78 1 .add,
 kM 16 79])))))))
 (K.ops [kM 72 15,
 kBi 73 72 1 .add,
 kM 15 73]))))))
 (K.seq (K.ops [kG 108 9 2,
 kG 109 9 2,
 kC 110 21 [(.tmp 108), (.tmp 109)],
 kN 111 110,
 kQi 112 111 0 false,
 kM 113 112,
 kT 113 true (kC 114 11 []),
 kPf 115 113 114,
 kM 8 115])
 (K.ret))))))))))
def hLawC : Nat → Option (List (Nat × Nat)) := fun r => match r with | 9 => some [(4,1),(5,0),(0,0),(1,0),(2,0),(3,0),(6,0),(7,0),(8,0)] | _ => none
theorem cLawC : compileH Tryz.prog Tryz.f4.ntmps hLawC (Tryz.f4.body.getD .skip) = some KLawC.erase := by kernel_rfl
@[simp] theorem calLawC : callable Tryz.prog 4 = true := by kernel_rfl
theorem PrgOk.fine {l : List Int} (hl : ∀ x ∈ l, w64 x = x) {P : Prg} (h : PrgOk l P) : FineP P ∧ 5 ≤ P.defs.length ∧ P.defs.length ≤ 8 ∧ 0 < P.mods.length := by
  obtain ⟨hnm, hnm2⟩ := nmV_eq l hl
  have m1 : 1 ≤ (nmV l : Int) := by omega
  have m2 : (nmV l : Int) ≤ 2 := by omega
  obtain ⟨n5, n8⟩ := plansV_len l (nmV l : Int)
  have hlen : P.defs.length = (plansV l (nmV l)).length := by have := congrArg List.length h.heads; simpa using this
  have hml : 0 < P.mods.length ∧ P.mods.length ≤ 2 := by
    rw [h.mods, modsV]
    split <;> simp
  obtain ⟨base, _, hb⟩ := h.bodies
  have key : ∀ d ∈ P.defs, FineD d := fun d hd => by
    obtain ⟨k, hk, rfl⟩ := List.getElem_of_mem hd
    have hg : P.defs[k]? = some P.defs[k] := List.getElem?_eq_getElem hk
    obtain ⟨_, e1, e6, _⟩ := env_ok m1 m2 hl (i := k) (d := P.defs[k]) (by rw [← h.heads, List.getElem?_map, hg]; rfl) 0
    rw [envV_len] at e1 e6
    rcases hb k _ hg with ⟨_, h2, _⟩ | ⟨_, e, f, hr, _⟩
    · exact ⟨e1, e6, by rw [h2]; exact nice_zero, by rw [h2]; simp [Exp.zero, tmps, tmpsL]⟩
    · have := ren_nice f e (wt_nice hr.wt)
      exact ⟨e1, e6, by rw [hr.body]; exact this.1, by rw [hr.body, this.2]; exact hr.len⟩
  exact ⟨FineP.mk' (by omega) (by omega) key, by omega, by omega, hml.1⟩
theorem renDs_fine (n : Int) (md : Id) {ds : List Dfn} (h : ∀ d ∈ ds, FineD d) : ∀ d ∈ renDs n md ds, FineD d := fun d hd => by
  simp only [renDs, List.mem_mapIdx] at hd
  obtain ⟨i, hi, rfl⟩ := hd
  have hf := h _ (List.getElem_mem hi)
  have hn := nam_nice (txt 118 n) ds[i].body hf.nice
  exact ⟨by simp only [renD, slN_len]; exact hf.s1, by simp only [renD, slN_len]; exact hf.s6, hn.1, by simp only [renD]; rw [hn.2]; exact hf.size⟩
theorem renP_fine (n : Int) {p : Prg} (h : FineP p) : FineP (renP n p) := by
  refine FineP.mk' (by simp only [renP, renDs_len]; exact h.defs) ?_ (renDs_fine _ _ h.get)
  unfold renP
  have hm := h.mods
  have hl : (modsQ n p.mods).length = p.mods.length := by simp [modsQ]
  cases hq : modsQ n p.mods with
  | nil => simp
  | cons a l => rw [hq] at hl; simp only [List.length_cons] at hl ⊢; omega
def cellsP (l : List Prg) : List A := l.flatMap encP
theorem encP_plain (p : Prg) : Plain (encP p) := by
  have h1 := cellsM_plain p.mods
  have h2 := cellsD_plain p.defs
  exact ⟨by simp [encP, h1.1], fun rf g => by simp [encP, h1.2]⟩
theorem cellsP_plain (l : List Prg) : Plain (cellsP l) := flat_plain encP_plain l
@[simp] theorem nrm0_cellsP (l : List Prg) : nrm0L (cellsP l) = cellsP l := (cellsP_plain l).1
@[simp] theorem vw_cellsP {rf g} (l : List Prg) : vwL rf g (cellsP l) = cellsP l := (cellsP_plain l).2 _ _
@[simp] theorem cellsP_len (l : List Prg) : (cellsP l).length = l.length * 2 := by rw [cellsP, flat_len (k := 2) (fun _ => rfl)]
theorem cellsP_drop {l : List Prg} {i : Nat} (h : i < l.length) : (cellsP l).drop (i * 2) = encP l[i] ++ cellsP (l.drop (i + 1)) := by rw [cellsP, cellsP, flat_drop (k := 2) (fun _ => rfl) h]
set_option maxHeartbeats 4000000 in
set_option maxRecDepth 100000 in
theorem lawC (l m k : List Int) (at_ : Int) (hl : ∀ x ∈ l, w64 x = x) (hm : ∀ x ∈ m, w64 x = x) (hk : ∀ x ∈ k, w64 x = x) (hat : w64 at_ = at_) :
    Ret Tryz.prog 4 [.sl l.length (ints l), .sl m.length (ints m), .sl k.length (ints k), int at_] [] (bl true) [] := by
  obtain ⟨P, hP, rP⟩ := prog_ok l hl
  obtain ⟨P2, hP2, rP2⟩ := prog_ok m hm
  obtain ⟨fP, p5, p8, pm⟩ := hP.fine hl
  obtain ⟨fP2, _, _, _⟩ := hP2.fine hm
  have rq := tweakP_ok P fP (by omega) m hm 3 (by omega)
  have rt := tweakP_ok P fP (by omega) k hk 2 (by omega)
  have fQ := twAll_fine m fP (twN3 m 3)
  have fT := twAll_fine k fP (twN3 k 2)
  have lQ : (twAll m P.defs (twN3 m 3)).length = P.defs.length := twAll_len _ _ _
  have lT : (twAll k P.defs (twN3 k 2)).length = P.defs.length := twAll_len _ _ _
  generalize twAll m P.defs (twN3 m 3) = DQ at *
  generalize twAll k P.defs (twN3 k 2) = DT at *
  obtain ⟨a0, a1⟩ := around_range (k := 50) hat (by omega)
  have ra := around_ok at_ 50 (by omega)
  have rr := renP_ok ⟨P.mods, DT⟩ fT pm (aroundV at_ 50) a0 (by omega)
  have fR := renP_fine (aroundV at_ 50) fT
  have lR : (renP (aroundV at_ 50) ⟨P.mods, DT⟩).defs.length = P.defs.length := by simp only [renP, renDs_len]; exact lT
  generalize renP (aroundV at_ 50) ⟨P.mods, DT⟩ = R at *
  obtain ⟨b0, b1⟩ := around_range (k := 2) hat (by omega)
  have rb := around_ok at_ 2 (by omega)
  obtain ⟨x, hx⟩ : ∃ x : Nat, aroundV at_ 2 = x := ⟨(aroundV at_ 2).toNat, by omega⟩
  have hx2 : x < 2 := by omega
  rw [hx] at rb
  obtain ⟨c0, c1⟩ := around_range (k := (P.defs.length : Int)) hat (by omega)
  have rc := around_ok at_ P.defs.length (by omega)
  obtain ⟨y, hy⟩ : ∃ y : Nat, aroundV at_ P.defs.length = y := ⟨(aroundV at_ P.defs.length).toNat, by omega⟩
  rw [hy] at rc
  have hyQ : y < DQ.length := by omega
  have rd := around_ok (IntKind.i64.wrap (at_.tdiv 9)) 6 (by omega)
  obtain ⟨dd, hdd⟩ : ∃ dd : Dfn, dd = { DQ[y] with kind := aroundV (IntKind.i64.wrap (at_.tdiv 9)) 6 } := ⟨_, rfl⟩
  obtain ⟨PL, hPL⟩ : ∃ PL : List Prg, PL = [P, ⟨P.mods, DQ⟩, ⟨R.mods, R.defs.drop x⟩, ⟨P.mods, P.defs ++ [dd]⟩, P2, ⟨[], []⟩] := ⟨_, rfl⟩
  have hPL6 : PL.length = 6 := by rw [hPL]; rfl
  have fdd : FineD dd := by
    have := fQ.get DQ[y] (List.getElem_mem hyQ)
    rw [hdd]
    exact ⟨this.s1, this.s6, this.nice, this.size⟩
  have fPL : ∀ p ∈ PL, FineP p := by
    rw [hPL]
    intro p hp
    simp only [List.mem_cons, List.not_mem_nil, or_false] at hp
    rcases hp with rfl | rfl | rfl | rfl | rfl | rfl
    · exact fP
    · exact fQ
    · exact FineP.mk' (by simp only [List.length_drop]; omega) fR.mods fun d hd => fR.get d (List.mem_of_mem_drop hd)
    · exact FineP.mk' (by simp only [List.length_append, List.length_singleton]; omega) fP.mods fun d hd => by
        rcases List.mem_append.1 hd with hd | hd
        · exact fP.get d hd
        · rw [List.mem_singleton.1 hd]; exact fdd
    · exact fP2
    · exact FineP.mk' (by simp) (by simp) (by simp)
  have cells : cellsP PL = encP P ++ encP ⟨P.mods, DQ⟩ ++ encP ⟨R.mods, R.defs.drop x⟩ ++ encP ⟨P.mods, P.defs ++ [dd]⟩ ++ encP P2 ++ [.sl 0 [], .sl 0 []] := by rw [hPL]; simp [cellsP, encP]
  have hself := changed_ok P P (fP.small.1) (fP.small.1) (fP.small.2.1) (fP.small.2.1)
  rw [chgD_self] at hself
  refine ret_of_wpH Tryz.func4 rfl cLawC (rs := [.slot 8]) (by kernel_rfl) ?_
  unfold KLawC
  simp -implicitDefEqProofs
  refine call0 rP (by simp) (by simp [encP]) ?_
  simp -implicitDefEqProofs [encP]
  refine call0 rq (by simp [encP]) (by simp [encP]) ?_
  simp -implicitDefEqProofs [encP]
  refine call0 rt (by simp [encP]) (by simp [encP]) ?_
  simp -implicitDefEqProofs [encP]
  refine call0 ra (by simp) (by simp) ?_
  simp -implicitDefEqProofs [encP]
  refine call0 rr (by simp [encP]) (by simp [encP]) ?_
  simp -implicitDefEqProofs [encP]
  refine dcall0 rb (by simp) (by simp) ?_
  have hxl : x ≤ R.defs.length := by omega
  have hsl : (cellsD R.defs).drop (x * 31) = cellsD (R.defs.drop x) := cellsD_dropW _ _
  have hst : (cellsD (R.defs.drop x)).take ((R.defs.length - x) * 31) = cellsD (R.defs.drop x) := List.take_of_length_le (by rw [cellsD_len, List.length_drop]; exact Nat.le_refl _)
  have hDQ0 : 0 < DQ.length := by omega
  have hdr := cellsD_drop hyQ
  have hP0 : 0 < P.defs.length := by omega
  have hyP : y < P.defs.length := by omega
  have hy31 : y * 31 + 31 ≤ P.defs.length * 31 := by omega
  have hPn : P.defs ≠ [] := fun e => by rw [e] at p5; simp at p5
  have hsame := fun a : List Id => sameIDs_ok a a
  generalize DQ[y] = dq at *
  simp -implicitDefEqProofs [hxl, hsl, hst, hP0, encP, lQ]
  intros
  refine dcallF0 rc (by simp) (by simp) ?_
  simp -implicitDefEqProofs [hyP, hdr, hy31, encD, lQ]
  refine call0 rd (by simp) (by simp) ?_
  simp -implicitDefEqProofs [hPn, encP]
  refine ⟨⟨by simp [maxLen]; omega, by omega⟩, ⟨by simp [maxLen]; omega, by omega⟩, ?_⟩
  refine dcall0 rP2 (by simp) (by simp [encP]) ?_
  simp -implicitDefEqProofs [encP]
  refine loopS (S := Nat) (fun i => [(9, .ptr 0 0), (14, .sl 6 (cellsP PL)), (15, int i)]) (fun _ => [.box (encP P)]) (fun i => i ≤ 6) (fun i => 6 - i) 0 (by simp)
    (selW [0] 1 (by decide) (by simp) (by simp [encP]) (by rw [cells]; simp [encP, cellsD_append, cellsD_cons, encD, hdd, lQ])) ?_
  intro i hi
  by_cases h : i < 6
  · have hi6 : (i : Int) < 6 := by omega
    have wi : IntKind.i64.wrap ((i : Int) + 1) = i + 1 := IntWalk.i64_in _ (by omega)
    simp -implicitDefEqProofs [hi6, encP]
    intros
    refine loopS (S := Nat) (fun j => [(9, .ptr 0 0), (14, .sl 6 (cellsP PL)), (15, int i), (16, int j)]) (fun _ => [.box (encP P)]) (fun j => j ≤ 6) (fun j => 6 - j) 0 (by simp)
      (selW [0] 0 (by decide) (by simp) (by simp [encP]) (by simp)) ?_
    intro j hj
    by_cases h' : j < 6
    · have hj6 : (j : Int) < 6 := by omega
      have wj : IntKind.i64.wrap ((j : Int) + 1) = j + 1 := IntWalk.i64_in _ (by omega)
      have hiL : i < PL.length := by omega
      have hjL : j < PL.length := by omega
      have hdi := cellsP_drop hiL
      have hdj := cellsP_drop hjL
      have f1 := fPL _ (List.getElem_mem hiL)
      have f2 := fPL _ (List.getElem_mem hjL)
      have r1 := changed_ok PL[i] PL[j] f1.small.1 f2.small.1 f1.small.2.1 f2.small.2.1
      have r2 := changedR_ok PL[i] PL[j] f1.toSmall f2.toSmall
      have r3 := hsame (chgD PL[i].defs PL[j].defs)
      rw [decide_eq_true rfl] at r3
      generalize chgD PL[i].defs PL[j].defs = CD at *
      generalize PL[i] = A1 at *
      generalize PL[j] = A2 at *
      have q1 : i * 2 + 2 ≤ PL.length * 2 := by omega
      have q2 : j * 2 + 2 ≤ PL.length * 2 := by omega
      rw [hPL6] at q1 q2
      by_cases hi2 : (i : Int) < 2
      · simp -implicitDefEqProofs [hj6, hi2, h, h', hdi, hdj, q1, q2, hPL6, encP]
        intros
        refine ⟨⟨by omega, by omega⟩, by omega, ?_⟩
        refine dcall0 r1 (by simp [encP]) (by simp) ?_
        simp -implicitDefEqProofs [hj6, h, h', hdi, hdj, q1, q2, hPL6, encP]
        refine ⟨⟨by omega, by omega⟩, by omega, ?_⟩
        refine dcall0 r2 (by simp [encP]) (by simp) ?_
        simp -implicitDefEqProofs
        refine dcall0 r3 (by simp) (by simp) ?_
        simp -implicitDefEqProofs
        exact roundS (j + 1) h' (by omega) (selW [0] 0 (by decide) (by simp) (by simp [encP]) (by simp [wj]))
      · by_cases hj2 : (j : Int) < 2
        · simp -implicitDefEqProofs [hj6, hi2, hj2, h, h', hdi, hdj, q1, q2, hPL6, encP]
          intros
          refine ⟨⟨by omega, by omega⟩, by omega, ?_⟩
          refine dcall0 r1 (by simp [encP]) (by simp) ?_
          simp -implicitDefEqProofs [hj6, h, h', hdi, hdj, q1, q2, hPL6, encP]
          refine ⟨⟨by omega, by omega⟩, by omega, ?_⟩
          refine dcall0 r2 (by simp [encP]) (by simp) ?_
          simp -implicitDefEqProofs
          refine dcall0 r3 (by simp) (by simp) ?_
          simp -implicitDefEqProofs
          exact roundS (j + 1) h' (by omega) (selW [0] 0 (by decide) (by simp) (by simp [encP]) (by simp [wj]))
        · simp -implicitDefEqProofs [hj6, hi2, hj2]
          intros
          exact roundS (j + 1) h' (by omega) (selW [0] 0 (by decide) (by simp) (by simp [encP]) (by simp [wj]))
    · have hje : j = 6 := by omega
      subst hje
      simp -implicitDefEqProofs
      intros
      exact roundS (i + 1) h (by omega) (selW [0] 0 (by decide) (by simp) (by simp [encP]) (by simp [wi]))
  · have hie : i = 6 := by omega
    subst hie
    simp -implicitDefEqProofs [encP]
    intros
    refine call0 hself (by simp [encP]) (by simp) ?_
    simp -implicitDefEqProofs
    refine call0 lives_ok (by simp) (by simp) ?_
    simp -implicitDefEqProofs
    exact ret_end 0 (by simp)
end Go.Proofs.YthglhccibdlccaaGreatDoor
