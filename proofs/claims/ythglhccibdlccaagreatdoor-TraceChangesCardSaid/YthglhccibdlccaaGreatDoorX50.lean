/-
  Programs with other names, walked.
-/
import Derived.Test.YthglhccibdlccaaGreatDoorX49
set_option linter.unusedVariables false
set_option linter.unusedSimpArgs false
namespace Go.Proofs.YthglhccibdlccaaGreatDoor
open Go.Abs
def KRnPE : K :=
  (K.ops [kA 117 5 1,
 kL 118 117 1,
 kG 119 9 31,
 ⟨none, .bslice (some 120) 39 31 1 kz0 [(0, 31, (.tmp 119))]⟩,
 kP 121 39 31 352 118 120,
 kA 122 5 1,
 kS 122 121 1])
def KRnPD : K :=
  (K.seq (K.seq (K.ops [kA 123 5 1,
 kL 124 123 1,
 kN 125 124,
 kBi 126 125 1 .sub,
 kM 11 126])
 (K.block 6 (K.loop (K.seq (K.seq (K.ops [kM 127 11,
 kBi 128 127 0 .geq,
 kM 129 128,
 kT 129 true (kA 130 5 0),
 kT 129 true (kL 131 130 1),
 kT 129 true (kN 132 131),
 kT 129 true (kBi 133 132 0 .gtr),
 kPf 134 129 133])
 (K.cond (.tmp 134)
 (K.skip)
 (K.exit 6)))
 (K.seq (K.block 7 (K.dops [(0, 1, kA 137 5 0),
 (1, 1, kL 138 137 1),
 (2, 0, kA 139 5 0),
 (3, 0, kL 140 139 1),
 (4, 0, kXi 141 140 6 0),
 (5, 0, kA 142 141 5),
 (6, 0, kL 143 142 1),
 (7, 0, kA 144 5 1),
 (8, 0, kL 145 144 1),
 (9, 0, kM 146 11),
 (10, 0, kX 147 145 146 31),
 (11, 0, kA 148 147 0),
 (12, 0, kG 149 148 3),
 (13, 0, ⟨none, .bslice (some 150) 29 3 1 [(.int .i64 0), (.int .i64 0), (.int .i64 0)] [(0, 3, (.tmp 149))]⟩),
 (14, 0, kP 151 29 3 24 143 150),
 (15, 0, kXi 152 138 6 0),
 (16, 0, kA 153 152 5),
 (17, 0, kS 153 151 1)]))
 (K.ops [kM 135 11,
 kBi 136 135 1 .sub,
 kM 11 136]))))))
 (K.seq (K.ops [kG 154 5 2,
 kS 4 154 2])
 (K.ret)))
def KRnP : K :=
 K.seq (K.ops [kO 2 0,
 kZ 4 [(.slice none 0 0), (.slice none 0 0)]])
 (K.seq (K.ops [⟨none, .build (some 12) [(.slice none 0 0), (.slice none 0 0)] []⟩,
 kZ 5 [(.slice none 0 0), (.slice none 0 0)],
 kS 5 12 2])
 (K.seq (K.seq (K.ops [kMi 6 0])
 (K.block 0 (K.loop (K.seq (K.seq (K.ops [kM 13 6,
 kA 14 2 0,
 kL 15 14 1,
 kN 16 15,
 kB 17 13 16 .lss])
 (K.cond (.tmp 17)
 (K.skip)
 (K.exit 0)))
 (K.seq (K.block 1 (K.seq (K.ops [kA 20 2 0,
 kL 21 20 1,
 kM 22 6,
 kX 23 21 22 6,
 kG 24 23 6,
 kZ 7 kz9,
 kS 7 24 6])
 (K.seq (K.ops [⟨none, .bslice (some 25) 9 1 4 [(.string ⟨#[]⟩), (.string ⟨#[]⟩), (.string ⟨#[]⟩), (.string ⟨#[]⟩)] [(0, 1, (.const (.string ⟨#[108, 101, 102, 116]⟩))), (1, 1, (.const (.string ⟨#[114, 105, 103, 104, 116]⟩))), (2, 1, (.const (.string ⟨#[110, 111, 114, 116, 104]⟩))), (3, 1, (.const (.string ⟨#[115, 111, 117, 116, 104]⟩)))]⟩,
 kM 26 6,
 kM 27 1,
 kB 28 26 27 .add,
 kBi 29 28 4 .rem,
 kX 30 25 29 1,
 kL 31 30 1,
 kA 32 7 3,
 kS 32 31 1])
 (K.seq (K.ops [kA 33 7 5,
 ⟨none, .st none (.tmp 33) (.const (.slice none 0 0)) 1⟩])
 (K.ops [kA 34 5 0,
 kL 35 34 1,
 kG 36 7 6,
 ⟨none, .bslice (some 37) 84 6 1 kz9 [(0, 6, (.tmp 36))]⟩,
 kP 38 84 6 88 35 37,
 kA 39 5 0,
 kS 39 38 1])))))
 (K.ops [kM 18 6,
 kBi 19 18 1 .add,
 kM 6 19]))))))
 (K.seq (K.seq (K.ops [kMi 8 0])
 (K.block 2 (K.loop (K.seq (K.seq (K.ops [kM 40 8,
 kA 41 2 1,
 kL 42 41 1,
 kN 43 42,
 kB 44 40 43 .lss])
 (K.cond (.tmp 44)
 (K.skip)
 (K.exit 2)))
 (K.seq (K.block 3 (K.seq (K.ops [kA 47 2 1,
 kL 48 47 1,
 kM 49 8,
 kX 50 48 49 31,
 kG 51 50 31,
 kZ 9 kz0,
 kS 9 51 31])
 (K.seq (K.ops [kM 52 8,
 kM 53 1,
 kB 54 52 53 .add,
 kBi 55 54 26 .rem,
 ⟨none, .bin (some 56) .add (.const (.int .i64 97)) (.tmp 55)⟩,
 ⟨none, .mop (some 57) (.cvt .u8) [(.tmp 56)]⟩,
 ⟨none, .bslice (some 58) 5 1 1 [(.int .u8 0)] [(0, 1, (.tmp 57))]⟩,
 ⟨none, .mop (some 59) .str [(.tmp 58)]⟩,
 ⟨none, .bin (some 60) .add (.const (.string ⟨#[122]⟩)) (.tmp 59)⟩,
 kA 61 9 7,
 kS 61 60 1])
 (K.seq (K.ops [kA 62 2 1,
 kL 63 62 1,
 kN 64 63,
 kM 65 8,
 kB 66 64 65 .sub,
 kA 67 9 29,
 kS 67 66 1])
 (K.seq (K.ops [⟨none, .bslice (some 68) 9 1 1 [(.string ⟨#[]⟩)] [(0, 1, (.const (.string ⟨#[35, 32, 120, 10]⟩)))]⟩,
 kA 69 9 30,
 kS 69 68 1])
 (K.seq (K.seq (K.ops [kA 70 5 0,
 kL 71 70 1,
 kN 72 71,
 kBi 73 72 0 .gtr])
 (K.cond (.tmp 73)
 (K.ops [kA 74 5 0,
 kL 75 74 1,
 kXi 76 75 6 0,
 kA 77 76 0,
 kG 78 77 3,
 kA 79 9 4,
 kS 79 78 3])
 (K.skip)))
 (K.seq (K.ops [kA 80 9 14,
 kG 81 80 15,
 kM 82 1,
 kBi 83 82 26 .rem,
 ⟨none, .bin (some 84) .add (.const (.int .i64 97)) (.tmp 83)⟩,
 ⟨none, .mop (some 85) (.cvt .u8) [(.tmp 84)]⟩,
 ⟨none, .bslice (some 86) 5 1 1 [(.int .u8 0)] [(0, 1, (.tmp 85))]⟩,
 ⟨none, .mop (some 87) .str [(.tmp 86)]⟩,
 ⟨none, .bin (some 88) .add (.const (.string ⟨#[118]⟩)) (.tmp 87)⟩,
 kC 89 54 [(.tmp 81), (.tmp 88)],
 kA 90 9 14,
 kS 90 89 15])
 (K.seq (K.ops [⟨none, .bslice (some 91) 90 11 0 [] []⟩,
 kA 92 9 8,
 kL 93 92 1,
 kP 94 90 11 112 91 93,
 kA 95 9 8,
 kS 95 94 1])
 (K.seq (K.seq (K.ops [kMi 10 0])
 (K.block 4 (K.loop (K.seq (K.seq (K.ops [kM 96 10,
 kA 97 9 8,
 kL 98 97 1,
 kN 99 98,
 kB 100 96 99 .lss])
 (K.cond (.tmp 100)
 (K.skip)
 (K.exit 4)))
 (K.seq (K.block 5 (K.ops [kA 103 9 8,
 kL 104 103 1,
 kM 105 10,
 kM 106 10,
 kM 107 1,
 kB 108 106 107 .add,
 kBi 109 108 26 .rem,
 ⟨none, .bin (some 110) .add (.const (.int .i64 97)) (.tmp 109)⟩,
 ⟨none, .mop (some 111) (.cvt .u8) [(.tmp 110)]⟩,
 ⟨none, .bslice (some 112) 5 1 1 [(.int .u8 0)] [(0, 1, (.tmp 111))]⟩,
 ⟨none, .mop (some 113) .str [(.tmp 112)]⟩,
 ⟨none, .bin (some 114) .add (.const (.string ⟨#[115]⟩)) (.tmp 113)⟩,
 kX 115 104 105 11,
 kA 116 115 3,
 kS 116 114 1]))
 (K.ops [kM 101 10,
 kBi 102 101 1 .add,
 kM 10 102]))))))
 (K.wk KRnPE))))))))))
 (K.ops [kM 45 8,
 kBi 46 45 1 .add,
 kM 8 46]))))))
 (K.wk KRnPD))))
theorem cRnP : compile Tryz.prog Tryz.f19.ntmps (Tryz.f19.body.getD .skip) = some KRnP.erase := by kernel_rfl
@[simp] theorem calRnP : callable Tryz.prog 19 = true := by kernel_rfl
def txt (c : UInt8) (x : Int) : ByteArray := ⟨#[c]⟩ ++ strOfNums [IntKind.u8.wrap (IntKind.i64.wrap (97 + x.tmod 26))]
@[simp] theorem litsU_one {x : Int} : litsU [.lit (.int .u8 x)] = some [x] := rfl
theorem txt_size (c : UInt8) (x : Int) : (⟨#[c]⟩ : ByteArray).size + (strOfNums [x]).size ≤ 1000000 := by
  have h1 : (⟨#[c]⟩ : ByteArray).size = 1 := rfl
  have h2 : (strOfNums [x]).size = 1 := rfl
  omega
def four (x : Int) : ByteArray := [(⟨#[108, 101, 102, 116]⟩ : ByteArray), ⟨#[114, 105, 103, 104, 116]⟩, ⟨#[110, 111, 114, 116, 104]⟩, ⟨#[115, 111, 117, 116, 104]⟩].getD (x.tmod 4).toNat ⟨#[]⟩
def encQ (m : Md) : List A := [.lit (.int .i64 m.id.a), .lit (.int .i64 m.id.b), .lit (.int .i64 m.id.c), .lit (.string m.name), .sl m.uses.length (cellsI m.uses), .nil]
def cellsQ (l : List Md) : List A := l.flatMap encQ
theorem cellsQ_take_succ {l : List Md} {i : Nat} (h : i < l.length) : cellsQ (l.take (i + 1)) = cellsQ (l.take i) ++ encQ l[i] := by
  rw [List.take_succ_eq_append_getElem h]
  simp only [cellsQ, List.flatMap_append, List.flatMap_cons, List.flatMap_nil, List.append_nil]
@[simp] theorem cellsQ_len (l : List Md) : (cellsQ l).length = l.length * 6 := by rw [cellsQ, flat_len (k := 6) (fun _ => rfl)]
@[simp] theorem vw_cellsQ {rf g} (l : List Md) : vwL rf g (cellsQ l) = cellsQ l := by
  induction l with
  | nil => rfl
  | cons m l ih =>
    have e : cellsQ (m :: l) = encQ m ++ cellsQ l := rfl
    rw [e, vwL_append, ih]
    simp [encQ]
theorem nrm0L_append (a b : List A) : nrm0L (a ++ b) = nrm0L a ++ nrm0L b := by
  induction a with
  | nil => simp
  | cons x a ih => simp [ih]
theorem nrm0_cellsQ (l : List Md) : nrm0L (cellsQ l) = cellsM (l.map fun m => { m with defs := [] }) := by
  induction l with
  | nil => rfl
  | cons m l ih =>
    have e : cellsQ (m :: l) = encQ m ++ cellsQ l := rfl
    rw [e, nrm0L_append, ih]
    simp [encQ, cellsM_cons, encM]
def modsQ (n : Int) (l : List Md) : List Md := l.mapIdx fun j m => ⟨m.id, four (IntKind.i64.wrap (j + n)), m.uses, []⟩
def renS (n : Int) (k : Nat) (s : Slt) : Slt := { s with name := txt 115 (IntKind.i64.wrap (k + n)) }
def slN (n : Int) (l : List Slt) (j : Nat) : List Slt := l.mapIdx fun k s => if k < j then renS n k s else s
theorem slN_zero (n : Int) (l : List Slt) : slN n l 0 = l := by
  apply List.ext_getElem
  · simp [slN]
  · intro i h1 h2; simp [slN]
@[simp] theorem slN_len (n : Int) (l : List Slt) (j : Nat) : (slN n l j).length = l.length := by simp [slN]
theorem slN_succ (n : Int) (l : List Slt) {j : Nat} (h : j < l.length) : slN n l (j + 1) = (slN n l j).set j (renS n j ((slN n l j)[j]'(by simpa using h))) := by
  apply List.ext_getElem
  · simp
  · intro i h1 h2
    rw [List.getElem_set]
    split
    · rename_i e
      subst e
      simp [slN]
    · rename_i e
      simp only [slN, List.getElem_mapIdx]
      by_cases hi : i < j
      · rw [if_pos hi, if_pos (by omega)]
      · rw [if_neg hi, if_neg (by omega)]
def renD (n : Int) (len : Nat) (md : Id) (i : Nat) (d : Dfn) : Dfn :=
  ⟨d.id, d.kind, md, txt 122 (IntKind.i64.wrap (i + n)), slN n d.slots d.slots.length, d.res, namE (txt 118 n) d.body, IntKind.i64.wrap (len - i), [⟨#[35, 32, 120, 10]⟩]⟩
def renDs (n : Int) (md : Id) (ds : List Dfn) : List Dfn := ds.mapIdx fun i d => renD n ds.length md i d
@[simp] theorem renDs_len (n : Int) (md : Id) (ds : List Dfn) : (renDs n md ds).length = ds.length := by simp [renDs]
theorem cellsS_name {l : List Slt} {i : Nat} (h : i < l.length) (s : ByteArray) : (cellsS l).take (i * 11 + 3) ++ (.lit (.string s) :: (cellsS l).drop (i * 11 + 3 + 1)) = cellsS (l.set i { l[i] with name := s }) := by
  have hs := cellsS_set { l[i] with name := s } h
  rw [← hs]
  have hd := cellsS_drop h
  have h1 : (cellsS l).take (i * 11 + 3) = (cellsS l).take (i * 11) ++ (encS l[i]).take 3 := by
    rw [List.take_add, hd, List.take_append_of_le_length (by simp)]
  have h3 : (cellsS l).drop (i * 11 + 11) = cellsS (l.drop (i + 1)) := by rw [← List.drop_drop, hd, List.drop_left' (encS_len _)]
  have h2 : (cellsS l).drop (i * 11 + 3 + 1) = (encS l[i]).drop 4 ++ (cellsS l).drop (i * 11 + 11) := by
    rw [h3, Nat.add_assoc, ← List.drop_drop, hd, List.drop_append_of_le_length (by simp)]
  rw [h1, h2, List.append_assoc]
  rfl
def renP (n : Int) (p : Prg) : Prg := ⟨(match modsQ n p.mods with
  | m :: l => { m with defs := (p.defs.map (·.id)).reverse } :: l
  | [] => []), renDs n (match p.mods with | m :: _ => m.id | [] => Id.zero) p.defs⟩
theorem rev_take {l : List Id} {k : Nat} (h : k < l.length) : l.reverse.take (k + 1) = l.reverse.take k ++ [l[l.length - 1 - k]] := by
  rw [List.take_succ_eq_append_getElem (by simpa using h), List.getElem_reverse]
set_option maxHeartbeats 1000000 in
theorem rn_D (nm : Nat) (a0 : Md) (L0 : List Md) (hL0 : ∀ m ∈ L0, m.defs = []) (hnm : L0.length + 1 = nm) (DS : List Dfn) (hd : DS.length ≤ 100) :
    wpK Tryz.prog 0 KRnPD (fin [RS.cell 4 2 true] (RetQ 0 (.agg (encP ⟨{ a0 with defs := (DS.map (·.id)).reverse } :: L0, DS⟩)) [])) (mkEnv [(4, .ptr 0 0), (5, .ptr 1 0)])
      [.box [.nil, .nil], .box [.row 2 nm, .row 3 DS.length], .row false 84 6 nm (encQ a0 ++ cellsQ L0), .row false 39 31 DS.length (cellsD DS)] := by
  have hmapL : (L0.map fun m => ({ m with defs := [] } : Md)) = L0 := by
    clear hnm
    induction L0 with
    | nil => rfl
    | cons m L ih =>
      rw [List.map_cons, ih fun x hx => hL0 x (by simp [hx])]
      have := hL0 m (by simp)
      cases m
      simp_all
  obtain ⟨R, hR⟩ : ∃ R : List Id, R = (DS.map (·.id)).reverse := ⟨_, rfl⟩
  have hRl : R.length = DS.length := by rw [hR]; simp
  rw [← hR]
  unfold KRnPD
  simp -implicitDefEqProofs
  refine loopS (S := Nat) (fun k => [(4, .ptr 0 0), (5, .ptr 1 0), (11, int ((DS.length : Int) - 1 - k))])
    (fun k => [.box [.nil, .nil], .box [.row 2 nm, .row 3 DS.length], .row false 84 6 nm ((encQ a0).take 5 ++ [.row 4 k] ++ cellsQ L0), .row false 39 31 DS.length (cellsD DS), .row false 29 3 k (cellsI (R.take k))]) (fun k => k ≤ DS.length) (fun k => DS.length - k) 0 (by simp)
    ((weak_nilrow (l := 2) (o := 5) rfl rfl 29 3).trans (selW [0, 1, 2, 3, 4] 0 (by decide) (by simp) (by simp [encQ]) (by simp; exact (IntWalk.i64_in _ (by omega)).symm))) ?_
  intro k hk
  by_cases h : k < DS.length
  · have hi0 : DS.length - 1 - k < DS.length := by omega
    have c1 : (0 : Int) ≤ (DS.length : Int) - 1 - k := by omega
    obtain ⟨i, hi⟩ : ∃ i : Nat, i = DS.length - 1 - k := ⟨_, rfl⟩
    have hii : (DS.length : Int) - 1 - k = i := by omega
    rw [← hi] at hi0
    have hst : R.take (k + 1) = R.take k ++ [DS[i].id] := by
      have := rev_take (l := DS.map (·.id)) (k := k) (by simpa using h)
      rw [hR, this]
      simp only [List.getElem_map, List.length_map]
      congr 4
      exact hi.symm
    have hdr := cellsD_drop hi0
    have hb3 : i * 31 + 3 ≤ DS.length * 31 := by omega
    have hw : IntKind.i64.wrap ((i : Int) - 1) = (DS.length : Int) - 1 - ((k + 1 : Nat) : Int) := by
      have : (i : Int) - 1 = (DS.length : Int) - 1 - ((k + 1 : Nat) : Int) := by omega
      rw [← this]
      exact IntWalk.i64_in _ (by omega)
    have hnm0 : 0 < nm := by omega
    rw [hii]
    simp -implicitDefEqProofs [hi0, hdr, hb3, encD, hnm0, encQ]
    refine ⟨⟨by simp [maxLen]; omega, by omega⟩, ?_⟩
    exact roundS (k + 1) h (by omega) (selW [0, 1, 2, 3, 4] 0 (by decide) (by simp) (by rw [hst]; simp [encQ, cellsI_append, encI]) (by simp [hw]))
  · have hke : k = DS.length := by omega
    subst hke
    have c1 : ¬ (0 : Int) ≤ (DS.length : Int) - 1 - DS.length := by omega
    have hall : R.take DS.length = R := List.take_of_length_le (by omega)
    have em : (DS.length : Int) - 1 - DS.length = -1 := by omega
    rw [em]
    simp -implicitDefEqProofs
    exact ret_end 2 (by simp [encP, encQ, cellsM_cons, encM, hall, hRl, hnm, nrm0_cellsQ, hmapL, nrm0L_append])
set_option maxHeartbeats 4000000 in
set_option maxRecDepth 100000 in
theorem renP_ok (p : Prg) (hf : FineP p) (hm : 0 < p.mods.length) (n : Int) (hn0 : 0 ≤ n) (hn : n ≤ 1000) : Ret Tryz.prog 19 [.agg (encP p), int n] [] (.agg (encP (renP n p))) [] := by
  have hd9 := hf.defs
  have hm100 := hf.mods
  refine ret_of_wp Tryz.func19 rfl cRnP (rs := [.cell 4 2 true]) (by kernel_rfl) ?_
  unfold KRnP
  simp -implicitDefEqProofs [encP]
  refine loopS (S := Nat) (fun i => [(1, int n), (2, .ptr 0 0), (4, .ptr 1 0), (5, .ptr 2 0), (6, int i)])
    (fun i => [.box (encP p), .box [.nil, .nil], .box [.row 3 i, .row 4 0], .row false 84 6 i (cellsQ ((modsQ n p.mods).take i)), .row false 39 31 0 []]) (fun i => i ≤ p.mods.length) (fun i => p.mods.length - i) 0 (by simp)
    (((weak_nilbox (l := 2) (o := 0) rfl rfl 84 6).trans (weak_nilbox (l := 2) (o := 1) rfl rfl 39 31)).trans (selW [0, 1, 2, 3, 4] 0 (by decide) (by simp) (by simp [encP, cellsQ]) (by simp))) ?_
  intro i hi
  by_cases h : i < p.mods.length
  · have hdr := cellsM_drop h
    have hb6 : i * 6 + 6 ≤ p.mods.length * 6 := by omega
    have hst := cellsQ_take_succ (l := modsQ n p.mods) (i := i) (by simp [modsQ]; exact h)
    have hg : (modsQ n p.mods)[i]'(by simp [modsQ]; exact h) = ⟨p.mods[i].id, four (IntKind.i64.wrap (i + n)), p.mods[i].uses, []⟩ := by simp [modsQ]
    rw [hg] at hst
    have wi : IntKind.i64.wrap ((i : Int) + 1) = i + 1 := IntWalk.i64_in _ (by omega)
    have win : IntKind.i64.wrap ((i : Int) + n) = i + n := IntWalk.i64_in _ (by omega)
    rw [win] at hst
    have e4 : ((i : Int) + n).tmod 4 = ((i : Int) + n) % 4 := tmN (by omega)
    obtain ⟨x, hx⟩ : ∃ x : Nat, ((i : Int) + n).tmod 4 = x := ⟨(((i : Int) + n) % 4).toNat, by omega⟩
    have hx4 : x < 4 := by omega
    have hfour : ∃ s rest, four (i + n) = s ∧ List.drop x [A.lit (.string ⟨#[108, 101, 102, 116]⟩), .lit (.string ⟨#[114, 105, 103, 104, 116]⟩), .lit (.string ⟨#[110, 111, 114, 116, 104]⟩), .lit (.string ⟨#[115, 111, 117, 116, 104]⟩)] = A.lit (.string s) :: rest := by
      have : x = 0 ∨ x = 1 ∨ x = 2 ∨ x = 3 := by omega
      unfold four
      rw [hx]
      rcases this with rfl | rfl | rfl | rfl <;> exact ⟨_, _, rfl, rfl⟩
    obtain ⟨s, rest, hs1, hs2⟩ := hfour
    rw [hs1] at hst
    have hx4' : (x : Int) < 4 := by omega
    generalize p.mods[i] = m at *
    simp -implicitDefEqProofs [encP, h, hdr, hb6, encM, win, hx, hx4, hx4', hs2]
    intros
    refine ⟨⟨by simp [maxLen]; omega, by omega⟩, ?_⟩
    exact roundS (i + 1) h (by omega) (selW [0, 1, 2, 3, 4] 0 (by decide) (by simp) (by rw [hst]; simp [encP, encQ]) (by simp [wi]))
  · have hie : i = p.mods.length := by omega
    subst hie
    have hql : (modsQ n p.mods).length = p.mods.length := by simp [modsQ]
    have hall : (modsQ n p.mods).take p.mods.length = modsQ n p.mods := List.take_of_length_le (by omega)
    rw [hall]
    have hrid : ∃ a0 L0, modsQ n p.mods = a0 :: L0 ∧ a0.id = (match p.mods with | m :: _ => m.id | [] => Id.zero) ∧ L0.length + 1 = p.mods.length := by
      cases hp : p.mods with
      | nil => rw [hp] at hm; simp at hm
      | cons m L => exact ⟨⟨m.id, four (IntKind.i64.wrap (((0 : Nat) : Int) + n)), m.uses, []⟩, _, by rw [modsQ, List.mapIdx_cons], rfl, by simp⟩
    obtain ⟨a0, L0, hq, hmd, hL0⟩ := hrid
    have hfin : renP n p = ⟨{ a0 with defs := (p.defs.map (·.id)).reverse } :: L0, renDs n a0.id p.defs⟩ := by
      unfold renP
      rw [hq, ← hmd]
    rw [hq]
    rw [hfin]
    have hcq : cellsQ (a0 :: L0) = encQ a0 ++ cellsQ L0 := rfl
    have hL0' : ∀ m ∈ L0, m.defs = [] := fun m hm' => by
      have : m ∈ modsQ n p.mods := by rw [hq]; simp [hm']
      simp only [modsQ, List.mem_mapIdx] at this
      obtain ⟨j, hj, rfl⟩ := this
      rfl
    rw [hcq]
    simp -implicitDefEqProofs [encP]
    intros
    refine loopS (S := Nat) (fun i => [(1, int n), (2, .ptr 0 0), (4, .ptr 1 0), (5, .ptr 2 0), (8, int i)])
      (fun i => [.box (encP p), .box [.nil, .nil], .box [.row 3 p.mods.length, .row 4 i], .row false 84 6 p.mods.length (encQ a0 ++ cellsQ L0), .row false 39 31 i (cellsD ((renDs n a0.id p.defs).take i))]) (fun i => i ≤ p.defs.length) (fun i => p.defs.length - i) 0 (by simp)
      (selW [0, 1, 2, 3, 4] 0 (by decide) (by simp) (by simp [encP, encQ]) (by simp)) ?_
    intro i hi
    by_cases h : i < p.defs.length
    · have hdr := cellsD_drop h
      have hb31 : i * 31 + 31 ≤ p.defs.length * 31 := by omega
      have hst := cellsD_take_succ (l := renDs n a0.id p.defs) (i := i) (by simp; exact h)
      have hg : (renDs n a0.id p.defs)[i]'(by simp; exact h) = renD n p.defs.length a0.id i p.defs[i] := by simp [renDs]
      rw [hg] at hst
      have hfd := hf.get _ (List.getElem_mem h)
      generalize p.defs[i] = d at *
      have wi : IntKind.i64.wrap ((i : Int) + 1) = i + 1 := IntWalk.i64_in _ (by omega)
      have hs1 := hfd.s1
      have hs6 := hfd.s6
      have hsz := hfd.size
      have hnil : d.slots ≠ [] := fun e => by rw [e] at hs1; simp at hs1
      have hnm := named_ok (txt 118 n) d.body (nice_few _ hfd.nice (by omega))
      have t1 := txt_size 122 (IntKind.u8.wrap (IntKind.i64.wrap (97 + (IntKind.i64.wrap (i + n)).tmod 26)))
      have t2 := txt_size 118 (IntKind.u8.wrap (IntKind.i64.wrap (97 + n.tmod 26)))
      have hml : ¬ p.mods.length = 0 := by omega
      simp -implicitDefEqProofs [encP, h, hdr, hb31, encD, t1, t2, hm, encQ]
      intros
      refine call0 hnm (by simp [encE, txt]) (by simp) ?_
      simp -implicitDefEqProofs [encE, hnil]
      refine ⟨⟨by simp [maxLen]; omega, by omega⟩, ?_⟩
      refine loopS (S := Nat) (fun j => [(1, int n), (2, .ptr 0 0), (4, .ptr 1 0), (5, .ptr 2 0), (8, int i), (9, .ptr 5 0), (10, int j)])
        (fun j => [.box (encP p), .box [.nil, .nil], .box [.row 3 p.mods.length, .row 4 i], .row false 84 6 p.mods.length (encQ a0 ++ cellsQ L0), .row false 39 31 i (cellsD ((renDs n a0.id p.defs).take i)),
          .box ((encD (renD n p.defs.length a0.id i d)).take 8 ++ [.row 6 d.slots.length] ++ (encD (renD n p.defs.length a0.id i d)).drop 9), .row false 90 11 d.slots.length (cellsS (slN n d.slots j))]) (fun j => j ≤ d.slots.length) (fun j => d.slots.length - j) 0 (by simp)
        (selW [0, 1, 2, 3, 4, 5, 6] 0 (by decide) (by simp) (by simp [encP, encQ, encD, renD, slN_zero, cellsN_one, encE, txt]) (by simp)) ?_
      intro j hj
      have hwE : IntKind.i64.wrap ((j : Int) + 1) = j + 1 := IntWalk.i64_in _ (by omega)
      by_cases hjl : j < d.slots.length
      · have hjl' : j < (slN n d.slots j).length := by simpa using hjl
        have t3 := txt_size 115 (IntKind.u8.wrap (IntKind.i64.wrap (97 + (IntKind.i64.wrap (j + n)).tmod 26)))
        have hnmS := cellsS_name hjl' (txt 115 (IntKind.i64.wrap (j + n)))
        have hsu := slN_succ n d.slots hjl
        unfold renS at hsu
        rw [← hsu] at hnmS
        have hb1 : j * 11 + 3 + 1 ≤ d.slots.length * 11 := by omega
        simp -implicitDefEqProofs [encD, renD, hjl, t3, hb1]
        intros
        exact roundS (j + 1) hjl (by omega) (selW [0, 1, 2, 3, 4, 5, 6] 0 (by decide) (by simp) (by simp [encP, encQ, encD, renD, ← hnmS, txt]) (by simp [hwE]))
      · have hje : j = d.slots.length := by omega
        subst hje
        simp -implicitDefEqProofs [encD, renD]
        intros
        refine ⟨mkEnv [(1, int n), (2, .ptr 0 0), (4, .ptr 1 0), (5, .ptr 2 0), (8, int i), (9, .ptr 5 0)],
          [.box (encP p), .box [.nil, .nil], .box [.row 3 p.mods.length, .row 4 i], .row false 84 6 p.mods.length (encQ a0 ++ cellsQ L0), .row false 39 31 i (cellsD ((renDs n a0.id p.defs).take i)),
            .box (encD (renD n p.defs.length a0.id i d))], selW [0, 1, 2, 3, 4, 5] 1 (by decide) (by simp) (by simp [encP, encQ, encD, renD]) (by simp), ?_⟩
        unfold KRnPE
        simp -implicitDefEqProofs
        refine ⟨⟨by simp [maxLen]; omega, by omega⟩, ?_⟩
        exact roundS (i + 1) h (by omega) (selW [0, 1, 2, 3, 4] 0 (by decide) (by simp) (by rw [hst]; simp [encP, encQ]) (by simp [wi]))
    · have hie : i = p.defs.length := by omega
      subst hie
      have halld : (renDs n a0.id p.defs).take p.defs.length = renDs n a0.id p.defs := List.take_of_length_le (by simp)
      rw [halld]
      have hD := rn_D p.mods.length a0 L0 hL0' hL0 (renDs n a0.id p.defs) (by simp; omega)
      have hids : (renDs n a0.id p.defs).map (·.id) = p.defs.map (·.id) := by
        apply List.ext_getElem
        · simp
        · intro j h1 h2; simp [renDs, renD]
      rw [hids, renDs_len] at hD
      simp -implicitDefEqProofs [encP] at hD ⊢
      intros
      exact ⟨_, _, selW [1, 2, 3, 4] 0 (by decide) (by simp) (by simp [encQ]) (by simp), hD⟩
end Go.Proofs.YthglhccibdlccaaGreatDoor
