/-
  Programs as data: types, expressions, definitions, and their cells.
  Tables of the evaluator; results in their plain form.
-/
import Derived.Test.YthglhccibdlccaaGreatDoorX21
import Derived.Test.YthglhccibdlccaaGreatDoorX20
import Derived.Test.YthglhccibdlccaaGreatDoorX23
set_option linter.unusedVariables false
set_option linter.unusedSimpArgs false
namespace Go.Proofs.YthglhccibdlccaaGreatDoor
open Go.Abs
@[simp] theorem encI_all (d : Id) : (encI d).take 3 = encI d := List.take_of_length_le (Nat.le_refl _)
@[simp] theorem encI_len (d : Id) : (encI d).length = 3 := rfl
theorem encI_plain (d : Id) : Plain (encI d) := Plain.lit (Plain.lit (Plain.lit Plain.nil))
@[simp] theorem nrm0_encI (d : Id) : nrm0L (encI d) = encI d := (encI_plain d).1
@[simp] theorem vw_encI (d : Id) {rf g} : vwL rf g (encI d) = encI d := (encI_plain d).2 _ _
def encN (s : ByteArray) : List A := [.lit (.string s)]
def cellsN (l : List ByteArray) : List A := l.flatMap encN
theorem encN_plain (s : ByteArray) : Plain (encN s) := Plain.lit Plain.nil
theorem cellsN_plain (l : List ByteArray) : Plain (cellsN l) := flat_plain encN_plain l
@[simp] theorem nrm0_cellsN (l : List ByteArray) : nrm0L (cellsN l) = cellsN l := (cellsN_plain l).1
@[simp] theorem vw_cellsN {rf g} (l : List ByteArray) : vwL rf g (cellsN l) = cellsN l := (cellsN_plain l).2 _ _
@[simp] theorem cellsN_len (l : List ByteArray) : (cellsN l).length = l.length := by rw [cellsN, flat_len (k := 1) (fun _ => rfl), Nat.mul_one]
@[simp] theorem cellsN_nil : cellsN [] = [] := rfl
inductive Typ where
  | mk (k : Int) (id : Id) (kids : List Typ)
def Typ.k : Typ → Int | .mk k _ _ => k
def Typ.id : Typ → Id | .mk _ d _ => d
def Typ.kids : Typ → List Typ | .mk _ _ l => l
@[simp] theorem Typ.k_mk {k : Int} {i : Id} {l : List Typ} : (Typ.mk k i l).k = k := rfl
@[simp] theorem Typ.id_mk {k : Int} {i : Id} {l : List Typ} : (Typ.mk k i l).id = i := rfl
@[simp] theorem Typ.kids_mk {k : Int} {i : Id} {l : List Typ} : (Typ.mk k i l).kids = l := rfl
mutual
def cellT : Typ → A
  | .mk _ _ l => .sl l.length (cellsT l)
def cellsT : List Typ → List A
  | [] => []
  | t :: l => .lit (.int .i64 t.k) :: .lit (.int .i64 t.id.a) :: .lit (.int .i64 t.id.b) :: .lit (.int .i64 t.id.c) :: cellT t :: cellsT l
end
theorem cellT_eq (t : Typ) : cellT t = .sl t.kids.length (cellsT t.kids) := by cases t; simp only [cellT, Typ.kids]
def encT (t : Typ) : List A := [.lit (.int .i64 t.k), .lit (.int .i64 t.id.a), .lit (.int .i64 t.id.b), .lit (.int .i64 t.id.c), .sl t.kids.length (cellsT t.kids)]
theorem cellsT_eq (l : List Typ) : cellsT l = l.flatMap encT := by
  induction l with
  | nil => simp only [cellsT, List.flatMap_nil]
  | cons t l ih => simp only [cellsT, List.flatMap_cons, ih, cellT_eq, encT]; rfl
mutual
theorem cellT_plain : ∀ t : Typ, nrm0 (cellT t) = cellT t ∧ ∀ rf g, vw rf g (cellT t) = cellT t
  | .mk k n l => by
    have h := cellsT_plain l
    simp only [cellT]
    exact ⟨by simp [h.1], fun rf g => by simp [h.2]⟩
theorem cellsT_plain : ∀ l : List Typ, Plain (cellsT l)
  | [] => by simp only [cellsT]; exact Plain.nil
  | v :: l => by
    have h := cellT_plain v
    have h' := cellsT_plain l
    simp only [cellsT]
    exact ⟨by simp [h.1, h'.1], fun rf g => by simp [h.2, h'.2]⟩
end
theorem encT_plain (t : Typ) : Plain (encT t) := Plain.lit (Plain.lit (Plain.lit (Plain.lit (Plain.sl (cellsT_plain _) Plain.nil))))
inductive Exp where
  | mk (id : Id) (k n : Int) (ref : Id) (typ : Typ) (kids : List Exp) (names : List ByteArray)
def Exp.id : Exp → Id | .mk x _ _ _ _ _ _ => x
def Exp.k : Exp → Int | .mk _ x _ _ _ _ _ => x
def Exp.n : Exp → Int | .mk _ _ x _ _ _ _ => x
def Exp.ref : Exp → Id | .mk _ _ _ x _ _ _ => x
def Exp.typ : Exp → Typ | .mk _ _ _ _ x _ _ => x
def Exp.kids : Exp → List Exp | .mk _ _ _ _ _ x _ => x
def Exp.names : Exp → List ByteArray | .mk _ _ _ _ _ _ x => x
@[simp] theorem Exp.id_mk {a : Id} {b c : Int} {d : Id} {e : Typ} {f : List Exp} {g : List ByteArray} : (Exp.mk a b c d e f g).id = a := rfl
@[simp] theorem Exp.k_mk {a : Id} {b c : Int} {d : Id} {e : Typ} {f : List Exp} {g : List ByteArray} : (Exp.mk a b c d e f g).k = b := rfl
@[simp] theorem Exp.n_mk {a : Id} {b c : Int} {d : Id} {e : Typ} {f : List Exp} {g : List ByteArray} : (Exp.mk a b c d e f g).n = c := rfl
@[simp] theorem Exp.ref_mk {a : Id} {b c : Int} {d : Id} {e : Typ} {f : List Exp} {g : List ByteArray} : (Exp.mk a b c d e f g).ref = d := rfl
@[simp] theorem Exp.typ_mk {a : Id} {b c : Int} {d : Id} {e : Typ} {f : List Exp} {g : List ByteArray} : (Exp.mk a b c d e f g).typ = e := rfl
@[simp] theorem Exp.kids_mk {a : Id} {b c : Int} {d : Id} {e : Typ} {f : List Exp} {g : List ByteArray} : (Exp.mk a b c d e f g).kids = f := rfl
@[simp] theorem Exp.names_mk {a : Id} {b c : Int} {d : Id} {e : Typ} {f : List Exp} {g : List ByteArray} : (Exp.mk a b c d e f g).names = g := rfl
mutual
def cellE : Exp → A
  | .mk _ _ _ _ _ l _ => .sl l.length (cellsE l)
def cellsE : List Exp → List A
  | [] => []
  | e :: l => [.lit (.int .i64 e.id.a), .lit (.int .i64 e.id.b), .lit (.int .i64 e.id.c), .lit (.int .i64 e.k), .lit (.int .i64 e.n), .lit (.int .i64 e.ref.a), .lit (.int .i64 e.ref.b), .lit (.int .i64 e.ref.c), .lit (.int .i64 e.typ.k), .lit (.int .i64 e.typ.id.a), .lit (.int .i64 e.typ.id.b), .lit (.int .i64 e.typ.id.c), .sl e.typ.kids.length (cellsT e.typ.kids), cellE e, .sl e.names.length (cellsN e.names)] ++ cellsE l
end
theorem cellE_eq (e : Exp) : cellE e = .sl e.kids.length (cellsE e.kids) := by cases e; simp only [cellE, Exp.kids]
def encE (e : Exp) : List A := [.lit (.int .i64 e.id.a), .lit (.int .i64 e.id.b), .lit (.int .i64 e.id.c), .lit (.int .i64 e.k), .lit (.int .i64 e.n), .lit (.int .i64 e.ref.a), .lit (.int .i64 e.ref.b), .lit (.int .i64 e.ref.c), .lit (.int .i64 e.typ.k), .lit (.int .i64 e.typ.id.a), .lit (.int .i64 e.typ.id.b), .lit (.int .i64 e.typ.id.c), .sl e.typ.kids.length (cellsT e.typ.kids), .sl e.kids.length (cellsE e.kids), .sl e.names.length (cellsN e.names)]
theorem cellsE_eq (l : List Exp) : cellsE l = l.flatMap encE := by
  induction l with
  | nil => simp only [cellsE, List.flatMap_nil]
  | cons t l ih => simp only [cellsE, List.flatMap_cons, ih, cellE_eq, encE]
mutual
theorem cellE_plain : ∀ t : Exp, nrm0 (cellE t) = cellE t ∧ ∀ rf g, vw rf g (cellE t) = cellE t
  | .mk _ _ _ _ _ l _ => by
    have h := cellsE_plain l
    simp only [cellE]
    exact ⟨by simp [h.1], fun rf g => by simp [h.2]⟩
theorem cellsE_plain : ∀ l : List Exp, Plain (cellsE l)
  | [] => by simp only [cellsE]; exact Plain.nil
  | v :: l => by
    have h := cellE_plain v
    have h' := cellsE_plain l
    have h1 := cellsT_plain v.typ.kids
    have h2 := cellsN_plain v.names
    simp only [cellsE]
    exact ⟨by simp [h.1, h'.1, h1.1, h2.1], fun rf g => by simp [h.2, h'.2, h1.2, h2.2]⟩
end
theorem encE_plain (e : Exp) : Plain (encE e) := by
  have h := cellsE_plain e.kids
  have h1 := cellsT_plain e.typ.kids
  have h2 := cellsN_plain e.names
  exact ⟨by simp [encE, h.1, h1.1, h2.1], fun rf g => by simp [encE, h.2, h1.2, h2.2]⟩
structure Slt where
  id : Id
  name : ByteArray
  typ : Typ
  most : Int
  place : Int
def encS (s : Slt) : List A := [.lit (.int .i64 s.id.a), .lit (.int .i64 s.id.b), .lit (.int .i64 s.id.c), .lit (.string s.name), .lit (.int .i64 s.typ.k), .lit (.int .i64 s.typ.id.a), .lit (.int .i64 s.typ.id.b), .lit (.int .i64 s.typ.id.c), .sl s.typ.kids.length (cellsT s.typ.kids), .lit (.int .i64 s.most), .lit (.int .i64 s.place)]
theorem encS_plain (s : Slt) : Plain (encS s) := by
  have h1 := cellsT_plain s.typ.kids
  exact ⟨by simp [encS, h1.1], fun rf g => by simp [encS, h1.2]⟩
def cellsS (l : List Slt) : List A := l.flatMap encS
theorem cellsS_eq (l : List Slt) : cellsS l = l.flatMap encS := rfl
structure Dfn where
  id : Id
  kind : Int
  mod : Id
  name : ByteArray
  slots : List Slt
  res : Typ
  body : Exp
  place : Int
  lay : List ByteArray
def encD (d : Dfn) : List A := [.lit (.int .i64 d.id.a), .lit (.int .i64 d.id.b), .lit (.int .i64 d.id.c), .lit (.int .i64 d.kind), .lit (.int .i64 d.mod.a), .lit (.int .i64 d.mod.b), .lit (.int .i64 d.mod.c), .lit (.string d.name), .sl d.slots.length (cellsS d.slots), .lit (.int .i64 d.res.k), .lit (.int .i64 d.res.id.a), .lit (.int .i64 d.res.id.b), .lit (.int .i64 d.res.id.c), .sl d.res.kids.length (cellsT d.res.kids), .lit (.int .i64 d.body.id.a), .lit (.int .i64 d.body.id.b), .lit (.int .i64 d.body.id.c), .lit (.int .i64 d.body.k), .lit (.int .i64 d.body.n), .lit (.int .i64 d.body.ref.a), .lit (.int .i64 d.body.ref.b), .lit (.int .i64 d.body.ref.c), .lit (.int .i64 d.body.typ.k), .lit (.int .i64 d.body.typ.id.a), .lit (.int .i64 d.body.typ.id.b), .lit (.int .i64 d.body.typ.id.c), .sl d.body.typ.kids.length (cellsT d.body.typ.kids), .sl d.body.kids.length (cellsE d.body.kids), .sl d.body.names.length (cellsN d.body.names), .lit (.int .i64 d.place), .sl d.lay.length (cellsN d.lay)]
theorem encD_plain (d : Dfn) : Plain (encD d) := by
  have h1 := cellsT_plain d.res.kids
  have h2 := cellsT_plain d.body.typ.kids
  have h3 := cellsE_plain d.body.kids
  have h4 := cellsN_plain d.body.names
  have h5 := cellsN_plain d.lay
  have h6 := flat_plain encS_plain d.slots
  exact ⟨by simp [encD, cellsS, h1.1, h2.1, h3.1, h4.1, h5.1, h6.1], fun rf g => by simp [encD, cellsS, h1.2, h2.2, h3.2, h4.2, h5.2, h6.2]⟩
def cellsD (l : List Dfn) : List A := l.flatMap encD
theorem cellsD_eq (l : List Dfn) : cellsD l = l.flatMap encD := rfl
structure Md where
  id : Id
  name : ByteArray
  uses : List Id
  defs : List Id
def encM (m : Md) : List A := [.lit (.int .i64 m.id.a), .lit (.int .i64 m.id.b), .lit (.int .i64 m.id.c), .lit (.string m.name), .sl m.uses.length (cellsI m.uses), .sl m.defs.length (cellsI m.defs)]
theorem encM_plain (m : Md) : Plain (encM m) := by
  have h1 := cellsI_plain m.uses
  have h2 := cellsI_plain m.defs
  exact ⟨by simp [encM, h1.1, h2.1], fun rf g => by simp [encM, h1.2, h2.2]⟩
def cellsM (l : List Md) : List A := l.flatMap encM
theorem cellsM_eq (l : List Md) : cellsM l = l.flatMap encM := rfl
structure Prg where
  mods : List Md
  defs : List Dfn
def encP (p : Prg) : List A := [.sl p.mods.length (cellsM p.mods), .sl p.defs.length (cellsD p.defs)]
@[simp] theorem nrm0_cellsT (l : List Typ) : nrm0L (cellsT l) = cellsT l := (cellsT_plain l).1
@[simp] theorem vw_cellsT {rf g} (l : List Typ) : vwL rf g (cellsT l) = cellsT l := (cellsT_plain l).2 _ _
@[simp] theorem cellsT_nil : cellsT [] = [] := by rw [cellsT_eq]; rfl
theorem cellsT_cons (x : Typ) (l : List Typ) : cellsT (x :: l) = encT x ++ cellsT l := by rw [cellsT_eq, cellsT_eq]; rfl
theorem cellsT_append (l l' : List Typ) : cellsT (l ++ l') = cellsT l ++ cellsT l' := by simp only [cellsT_eq, List.flatMap_append]
@[simp] theorem cellsT_len (l : List Typ) : (cellsT l).length = l.length * 5 := by rw [cellsT_eq, flat_len (k := 5) (fun _ => rfl)]
theorem cellsT_drop {l : List Typ} {i : Nat} (h : i < l.length) : (cellsT l).drop (i * 5) = encT l[i] ++ cellsT (l.drop (i + 1)) := by rw [cellsT_eq, cellsT_eq, flat_drop (k := 5) (fun _ => rfl) h]
@[simp] theorem encT_len (d : Typ) : (encT d).length = 5 := rfl
@[simp] theorem encT_all (d : Typ) : (encT d).take 5 = encT d := List.take_of_length_le (Nat.le_refl _)
@[simp] theorem encT_take (d : Typ) (l : List A) : (encT d ++ l).take 5 = encT d := by rw [List.take_append_of_le_length (by simp)]; exact List.take_of_length_le (by simp)
@[simp] theorem nrm0_encT (d : Typ) : nrm0L (encT d) = encT d := (encT_plain d).1
@[simp] theorem vw_encT (d : Typ) {rf g} : vwL rf g (encT d) = encT d := (encT_plain d).2 _ _
@[simp] theorem nrm0_cellsE (l : List Exp) : nrm0L (cellsE l) = cellsE l := (cellsE_plain l).1
@[simp] theorem vw_cellsE {rf g} (l : List Exp) : vwL rf g (cellsE l) = cellsE l := (cellsE_plain l).2 _ _
@[simp] theorem cellsE_nil : cellsE [] = [] := by rw [cellsE_eq]; rfl
theorem cellsE_cons (x : Exp) (l : List Exp) : cellsE (x :: l) = encE x ++ cellsE l := by rw [cellsE_eq, cellsE_eq]; rfl
theorem cellsE_append (l l' : List Exp) : cellsE (l ++ l') = cellsE l ++ cellsE l' := by simp only [cellsE_eq, List.flatMap_append]
@[simp] theorem cellsE_len (l : List Exp) : (cellsE l).length = l.length * 15 := by rw [cellsE_eq, flat_len (k := 15) (fun _ => rfl)]
theorem cellsE_drop {l : List Exp} {i : Nat} (h : i < l.length) : (cellsE l).drop (i * 15) = encE l[i] ++ cellsE (l.drop (i + 1)) := by rw [cellsE_eq, cellsE_eq, flat_drop (k := 15) (fun _ => rfl) h]
theorem cellsE_take_succ {l : List Exp} {i : Nat} (h : i < l.length) : cellsE (l.take (i + 1)) = cellsE (l.take i) ++ encE l[i] := by rw [cellsE_eq, cellsE_eq, flat_take_succ (k := 15) (fun _ => rfl) h]
@[simp] theorem encE_len (d : Exp) : (encE d).length = 15 := rfl
@[simp] theorem encE_all (d : Exp) : (encE d).take 15 = encE d := List.take_of_length_le (Nat.le_refl _)
@[simp] theorem encE_take (d : Exp) (l : List A) : (encE d ++ l).take 15 = encE d := by rw [List.take_append_of_le_length (by simp)]; exact List.take_of_length_le (by simp)
@[simp] theorem nrm0_encE (d : Exp) : nrm0L (encE d) = encE d := (encE_plain d).1
@[simp] theorem vw_encE (d : Exp) {rf g} : vwL rf g (encE d) = encE d := (encE_plain d).2 _ _
theorem cellsS_plain (l : List Slt) : Plain (cellsS l) := flat_plain encS_plain l
@[simp] theorem nrm0_cellsS (l : List Slt) : nrm0L (cellsS l) = cellsS l := (cellsS_plain l).1
@[simp] theorem vw_cellsS {rf g} (l : List Slt) : vwL rf g (cellsS l) = cellsS l := (cellsS_plain l).2 _ _
@[simp] theorem cellsS_nil : cellsS [] = [] := by rw [cellsS_eq]; rfl
@[simp] theorem cellsS_len (l : List Slt) : (cellsS l).length = l.length * 11 := by rw [cellsS_eq, flat_len (k := 11) (fun _ => rfl)]
theorem cellsS_drop {l : List Slt} {i : Nat} (h : i < l.length) : (cellsS l).drop (i * 11) = encS l[i] ++ cellsS (l.drop (i + 1)) := by rw [cellsS_eq, cellsS_eq, flat_drop (k := 11) (fun _ => rfl) h]
theorem cellsS_take_succ {l : List Slt} {i : Nat} (h : i < l.length) : cellsS (l.take (i + 1)) = cellsS (l.take i) ++ encS l[i] := by rw [cellsS_eq, cellsS_eq, flat_take_succ (k := 11) (fun _ => rfl) h]
theorem cellsS_set {l : List Slt} {i : Nat} (x : Slt) (h : i < l.length) : (cellsS l).take (i * 11) ++ (encS x ++ (cellsS l).drop (i * 11 + 11)) = cellsS (l.set i x) := by rw [cellsS_eq, cellsS_eq, flat_set (k := 11) (fun _ => rfl) x h]
@[simp] theorem encS_len (d : Slt) : (encS d).length = 11 := rfl
@[simp] theorem encS_all (d : Slt) : (encS d).take 11 = encS d := List.take_of_length_le (Nat.le_refl _)
@[simp] theorem encS_take (d : Slt) (l : List A) : (encS d ++ l).take 11 = encS d := by rw [List.take_append_of_le_length (by simp)]; exact List.take_of_length_le (by simp)
@[simp] theorem nrm0_encS (d : Slt) : nrm0L (encS d) = encS d := (encS_plain d).1
@[simp] theorem vw_encS (d : Slt) {rf g} : vwL rf g (encS d) = encS d := (encS_plain d).2 _ _
theorem cellsD_plain (l : List Dfn) : Plain (cellsD l) := flat_plain encD_plain l
@[simp] theorem nrm0_cellsD (l : List Dfn) : nrm0L (cellsD l) = cellsD l := (cellsD_plain l).1
@[simp] theorem vw_cellsD {rf g} (l : List Dfn) : vwL rf g (cellsD l) = cellsD l := (cellsD_plain l).2 _ _
@[simp] theorem cellsD_nil : cellsD [] = [] := by rw [cellsD_eq]; rfl
theorem cellsD_cons (x : Dfn) (l : List Dfn) : cellsD (x :: l) = encD x ++ cellsD l := by rw [cellsD_eq, cellsD_eq]; rfl
theorem cellsD_append (l l' : List Dfn) : cellsD (l ++ l') = cellsD l ++ cellsD l' := by simp only [cellsD_eq, List.flatMap_append]
@[simp] theorem cellsD_len (l : List Dfn) : (cellsD l).length = l.length * 31 := by rw [cellsD_eq, flat_len (k := 31) (fun _ => rfl)]
theorem cellsD_drop {l : List Dfn} {i : Nat} (h : i < l.length) : (cellsD l).drop (i * 31) = encD l[i] ++ cellsD (l.drop (i + 1)) := by rw [cellsD_eq, cellsD_eq, flat_drop (k := 31) (fun _ => rfl) h]
theorem cellsD_dropW (l : List Dfn) (i : Nat) : (cellsD l).drop (i * 31) = cellsD (l.drop i) := by rw [cellsD_eq, cellsD_eq, flat_dropW (k := 31) (fun _ => rfl)]
theorem cellsD_take_succ {l : List Dfn} {i : Nat} (h : i < l.length) : cellsD (l.take (i + 1)) = cellsD (l.take i) ++ encD l[i] := by rw [cellsD_eq, cellsD_eq, flat_take_succ (k := 31) (fun _ => rfl) h]
theorem cellsD_set {l : List Dfn} {i : Nat} (x : Dfn) (h : i < l.length) : (cellsD l).take (i * 31) ++ (encD x ++ (cellsD l).drop (i * 31 + 31)) = cellsD (l.set i x) := by rw [cellsD_eq, cellsD_eq, flat_set (k := 31) (fun _ => rfl) x h]
@[simp] theorem encD_len (d : Dfn) : (encD d).length = 31 := rfl
@[simp] theorem encD_all (d : Dfn) : (encD d).take 31 = encD d := List.take_of_length_le (Nat.le_refl _)
@[simp] theorem encD_take (d : Dfn) (l : List A) : (encD d ++ l).take 31 = encD d := by rw [List.take_append_of_le_length (by simp)]; exact List.take_of_length_le (by simp)
@[simp] theorem nrm0_encD (d : Dfn) : nrm0L (encD d) = encD d := (encD_plain d).1
@[simp] theorem vw_encD (d : Dfn) {rf g} : vwL rf g (encD d) = encD d := (encD_plain d).2 _ _
theorem cellsM_plain (l : List Md) : Plain (cellsM l) := flat_plain encM_plain l
@[simp] theorem nrm0_cellsM (l : List Md) : nrm0L (cellsM l) = cellsM l := (cellsM_plain l).1
@[simp] theorem vw_cellsM {rf g} (l : List Md) : vwL rf g (cellsM l) = cellsM l := (cellsM_plain l).2 _ _
@[simp] theorem cellsM_nil : cellsM [] = [] := by rw [cellsM_eq]; rfl
theorem cellsM_cons (x : Md) (l : List Md) : cellsM (x :: l) = encM x ++ cellsM l := by rw [cellsM_eq, cellsM_eq]; rfl
@[simp] theorem cellsM_len (l : List Md) : (cellsM l).length = l.length * 6 := by rw [cellsM_eq, flat_len (k := 6) (fun _ => rfl)]
theorem cellsM_drop {l : List Md} {i : Nat} (h : i < l.length) : (cellsM l).drop (i * 6) = encM l[i] ++ cellsM (l.drop (i + 1)) := by rw [cellsM_eq, cellsM_eq, flat_drop (k := 6) (fun _ => rfl) h]
@[simp] theorem encM_len (d : Md) : (encM d).length = 6 := rfl
@[simp] theorem encM_all (d : Md) : (encM d).take 6 = encM d := List.take_of_length_le (Nat.le_refl _)
@[simp] theorem encM_take (d : Md) (l : List A) : (encM d ++ l).take 6 = encM d := by rw [List.take_append_of_le_length (by simp)]; exact List.take_of_length_le (by simp)
@[simp] theorem nrm0_encM (d : Md) : nrm0L (encM d) = encM d := (encM_plain d).1
@[simp] theorem vw_encM (d : Md) {rf g} : vwL rf g (encM d) = encM d := (encM_plain d).2 _ _
def Typ.zero : Typ := .mk 0 Id.zero []
def Exp.zero : Exp := .mk Id.zero 0 0 Id.zero Typ.zero [] []
def Dfn.zero : Dfn := ⟨Id.zero, 0, Id.zero, ⟨#[]⟩, [], Typ.zero, Exp.zero, 0, []⟩
end Go.Proofs.YthglhccibdlccaaGreatDoor
namespace Go.Abs
section
variable {P : Program}
theorem tab_nil : ∀ f e, findE f [] = some e → EntryOk P f e := fun f e h => by cases h
theorem tab_cons {f0 : Nat} {e0 : Entry} {T : List (Nat × Entry)} (h0 : EntryOk P f0 e0) (hT : ∀ f e, findE f T = some e → EntryOk P f e) : ∀ f e, findE f ((f0, e0) :: T) = some e → EntryOk P f e := fun f e h => by
  simp only [findE] at h
  cases hb : Nat.beq f f0
  · rw [hb] at h; exact hT f e h
  · rw [hb] at h
    cases h
    rw [Nat.eq_of_beq_eq_true hb]
    exact h0
theorem ret_nrm0 {f : FuncId} {xs : List A} {σ σ' : St} {r : A} (h : Ret P f xs σ r σ') : Ret P f xs σ (nrm0 r) σ' := fun H L w vs hs ha => (h H L w vs hs ha).mono fun e w' hh => by
  obtain ⟨o, τ, H', L', ho, hn, rfl, rfl⟩ := hh
  obtain ⟨v, rfl, hv⟩ := ho
  exact ⟨.ret (nrm0 r), _, H', L', ⟨v, rfl, Rel.nrm0 _ hv⟩, hn, rfl, rfl⟩
def runPl (T : List (Nat × Entry)) (orc : Run) (lf n : Nat) (f : FuncId) (xs : List A) (σ : St) : Option (A × St) := match runF T orc lf n f xs σ with
  | some (r, σ') => some (nrm0 r, σ')
  | none => none
theorem runPl_ok {T : List (Nat × Entry)} {orc : Run} {lf n : Nat} (hT : ∀ f e, findE f T = some e → EntryOk P f e) (hO : CallsOk P orc) {f : FuncId} {xs : List A} {σ σ' : St} {r : A} (h : runPl T orc lf n f xs σ = some (r, σ')) : Ret P f xs σ r σ' := by
  unfold runPl at h
  split at h
  · rename_i r0 τ h0
    cases h
    exact ret_nrm0 (runF_ok hT hO n _ _ _ _ _ h0).2
  · cases h
def idV : Value → Value → Bool
  | .int .i64 a, .int .i64 b => decide (a = b)
  | .bool a, .bool b => a == b
  | .string a, .string b => decide (a = b)
  | _, _ => false
theorem idV_sound {a b : Value} (h : idV a b = true) : a = b := by
  unfold idV at h
  split at h
  · rw [of_decide_eq_true h]
  · rw [eq_of_beq h]
  · rw [of_decide_eq_true h]
  · cases h
mutual
def idA : A → A → Bool
  | .nil, .nil => true
  | .lit a, .lit b => idV a b
  | .agg a, .agg b => idL a b
  | .sl n a, .sl m b => Nat.beq n m && idL a b
  | _, _ => false
def idL : List A → List A → Bool
  | [], [] => true
  | a :: l, b :: l' => idA a b && idL l l'
  | _, _ => false
end
mutual
theorem idA_sound : ∀ {a b : A}, idA a b = true → a = b := by
  intro a b h
  cases a <;> cases b <;> first | rfl | (simp [idA] at h; done) | skip
  case lit.lit => simp only [idA] at h; rw [idV_sound h]
  case agg.agg => simp only [idA] at h; rw [idL_sound h]
  case sl.sl =>
    simp only [idA] at h
    rw [Bool.and_eq_true] at h
    rw [Nat.eq_of_beq_eq_true h.1, idL_sound h.2]
theorem idL_sound : ∀ {a b : List A}, idL a b = true → a = b := by
  intro a b h
  cases a <;> cases b <;> first | rfl | (simp [idL] at h; done) | skip
  · simp only [idL] at h
    rw [Bool.and_eq_true] at h
    rw [idA_sound h.1, idL_sound h.2]
end
theorem relL_nrm0 {H : Mem} {L : List LI} : ∀ {xs : List A} {vs : List Value}, RelL H L xs vs → RelL H L (nrm0L xs) vs
  | [], vs, h => by simpa [nrm0L] using h
  | x :: xs, vs, h => by
    obtain ⟨u, us, rfl, h1, h2⟩ := relL_cons_inv h
    simp only [nrm0L]
    exact relL_cons (Rel.nrm0 _ h1) (relL_nrm0 h2)
def orcT : List (Nat × List A × A) → Run
  | [], _, _, _ => none
  | (g, ys, r) :: T, f, xs, σ => match Nat.beq f g && idL (nrm0L xs) ys, σ with
    | true, [] => some (r, [])
    | _, _ => orcT T f xs σ
theorem orcT_ok : ∀ {T : List (Nat × List A × A)}, (∀ p ∈ T, callable P p.1 = true ∧ Ret P p.1 p.2.1 [] p.2.2 []) → CallsOk P (orcT T)
  | [], _ => fun f xs σ r σ' h => by cases h
  | (g, ys, r0) :: T, hT => fun f xs σ r σ' h => by
    simp only [orcT] at h
    split at h
    · rename_i hb
      cases h
      rw [Bool.and_eq_true] at hb
      obtain ⟨h1, h2⟩ := hT _ (List.mem_cons_self ..)
      rw [Nat.eq_of_beq_eq_true hb.1]
      refine ⟨h1, fun H L w vs hs ha => h2 H L w vs hs ?_⟩
      have := relL_nrm0 ha
      rw [idL_sound hb.2] at this
      exact this
    · exact orcT_ok (fun p hp => hT p (List.mem_cons_of_mem _ hp)) _ _ _ _ _ h
def orE (a b : Run) : Run := fun f xs σ => match a f xs σ with
  | some r => some r
  | none => b f xs σ
theorem orE_ok {a b : Run} (ha : CallsOk P a) (hb : CallsOk P b) : CallsOk P (orE a b) := fun f xs σ r σ' h => by
  unfold orE at h
  split at h
  · rename_i hx
    cases h
    exact ha _ _ _ _ _ hx
  · exact hb _ _ _ _ _ h
end
end Go.Abs
