/-
  The law's example.
-/
import Derived.Test.YthglhccibdlccaaDoorB1
import Derived.Test.YthglhccibdlccaaDoorE29
namespace Go.Proofs.YthglhccibdlccaaDoor
open Go.Abs

-- splicery/splicerylaw12.id · results ["cell 2"]
def KId : K :=
 K.seq (K.ops [⟨none, .alloc (some 2) [(.int .i64 0), (.int .i64 0), (.int .i64 0)]⟩])
 (K.seq (K.ops [⟨none, .mov (some 3) (.tmp 0)⟩,
 ⟨none, .build (some 4) [(.int .i64 0), (.int .i64 0), (.int .i64 0)] [(1, 1, (.const (.int .i64 1))), (2, 1, (.tmp 3))]⟩,
 ⟨none, .st none (.tmp 2) (.tmp 4) 3⟩])
 (K.ret))
theorem cId : compile Tryd.prog Tryd.f22.ntmps (Tryd.f22.body.getD .skip) = some KId.erase := by kernel_rfl
@[simp] theorem calId : callable Tryd.prog 22 = true := by kernel_rfl
def EId : Entry := ⟨KId, [.cell 2 3 true], false⟩
theorem eokId : EntryOk Tryd.prog 22 EId := ⟨calId, _, _, noHint, Tryd.func22, rfl, cId, by kernel_rfl⟩

-- splicery/splicerylaw12.variable · results ["cell 4"]
def KVar : K :=
 K.seq (K.ops [⟨none, .alloc (some 4) [(.int .i64 0), (.int .i64 0), (.int .i64 0), (.int .i64 0), (.int .i64 0), (.int .i64 0), (.int .i64 0), (.int .i64 0), (.int .i64 0), (.int .i64 0), (.int .i64 0), (.int .i64 0), (.slice none 0 0), (.slice none 0 0), (.slice none 0 0)]⟩])
 (K.seq (K.ops [⟨none, .mov (some 5) (.tmp 0)⟩,
 ⟨none, .call (some 6) (.func 22) [(.tmp 5)]⟩,
 ⟨none, .mov (some 7) (.tmp 1)⟩,
 ⟨none, .call (some 8) (.func 22) [(.tmp 7)]⟩,
 ⟨none, .build (some 9) [(.int .i64 0), (.int .i64 0), (.int .i64 0), (.int .i64 0), (.int .i64 0), (.int .i64 0), (.int .i64 0), (.int .i64 0), (.int .i64 0), (.int .i64 0), (.int .i64 0), (.int .i64 0), (.slice none 0 0), (.slice none 0 0), (.slice none 0 0)] [(0, 3, (.tmp 6)), (3, 1, (.const (.int .i64 2))), (5, 3, (.tmp 8))]⟩,
 ⟨none, .st none (.tmp 4) (.tmp 9) 15⟩])
 (K.ret))
theorem cVar : compile Tryd.prog Tryd.f32.ntmps (Tryd.f32.body.getD .skip) = some KVar.erase := by kernel_rfl
@[simp] theorem calVar : callable Tryd.prog 32 = true := by kernel_rfl
def EVar : Entry := ⟨KVar, [.cell 4 15 true], false⟩
theorem eokVar : EntryOk Tryd.prog 32 EVar := ⟨calVar, _, _, noHint, Tryd.func32, rfl, cVar, by kernel_rfl⟩

-- splicery/splicerylaw12.example · results ["cell 0"]
def KEx : K :=
 K.seq (K.ops [⟨none, .alloc (some 0) [(.slice none 0 0), (.slice none 0 0)]⟩])
 (K.seq (K.ops [⟨none, .call (some 5) (.func 22) [(.const (.int .i64 11))]⟩,
 ⟨none, .call (some 6) (.func 32) [(.const (.int .i64 12)), (.const (.int .i64 2))]⟩,
 ⟨none, .call (some 7) (.func 22) [(.const (.int .i64 13))]⟩,
 ⟨none, .build (some 8) [(.int .i64 0), (.int .i64 0), (.int .i64 0), (.int .i64 0), (.int .i64 0), (.int .i64 0), (.int .i64 0), (.int .i64 0), (.int .i64 0), (.int .i64 0), (.int .i64 0), (.int .i64 0), (.slice none 0 0), (.slice none 0 0), (.slice none 0 0)] [(0, 3, (.tmp 7)), (4, 1, (.const (.int .i64 3)))]⟩,
 ⟨none, .bslice (some 9) 66 15 2 [(.int .i64 0), (.int .i64 0), (.int .i64 0), (.int .i64 0), (.int .i64 0), (.int .i64 0), (.int .i64 0), (.int .i64 0), (.int .i64 0), (.int .i64 0), (.int .i64 0), (.int .i64 0), (.slice none 0 0), (.slice none 0 0), (.slice none 0 0), (.int .i64 0), (.int .i64 0), (.int .i64 0), (.int .i64 0), (.int .i64 0), (.int .i64 0), (.int .i64 0), (.int .i64 0), (.int .i64 0), (.int .i64 0), (.int .i64 0), (.int .i64 0), (.slice none 0 0), (.slice none 0 0), (.slice none 0 0)] [(0, 15, (.tmp 6)), (15, 15, (.tmp 8))]⟩,
 ⟨none, .build (some 10) [(.int .i64 0), (.int .i64 0), (.int .i64 0), (.int .i64 0), (.int .i64 0), (.int .i64 0), (.int .i64 0), (.int .i64 0), (.int .i64 0), (.int .i64 0), (.int .i64 0), (.int .i64 0), (.slice none 0 0), (.slice none 0 0), (.slice none 0 0)] [(0, 3, (.tmp 5)), (3, 1, (.const (.int .i64 4))), (4, 1, (.const (.int .i64 5))), (13, 1, (.tmp 9))]⟩,
 ⟨none, .alloc (some 1) [(.int .i64 0), (.int .i64 0), (.int .i64 0), (.int .i64 0), (.int .i64 0), (.int .i64 0), (.int .i64 0), (.int .i64 0), (.int .i64 0), (.int .i64 0), (.int .i64 0), (.int .i64 0), (.slice none 0 0), (.slice none 0 0), (.slice none 0 0)]⟩,
 ⟨none, .st none (.tmp 1) (.tmp 10) 15⟩])
 (K.seq (K.ops [⟨none, .call (some 11) (.func 22) [(.const (.int .i64 15))]⟩,
 ⟨none, .call (some 12) (.func 22) [(.const (.int .i64 3))]⟩,
 ⟨none, .call (some 13) (.func 32) [(.const (.int .i64 16)), (.const (.int .i64 2))]⟩,
 ⟨none, .bslice (some 14) 66 15 1 [(.int .i64 0), (.int .i64 0), (.int .i64 0), (.int .i64 0), (.int .i64 0), (.int .i64 0), (.int .i64 0), (.int .i64 0), (.int .i64 0), (.int .i64 0), (.int .i64 0), (.int .i64 0), (.slice none 0 0), (.slice none 0 0), (.slice none 0 0)] [(0, 15, (.tmp 13))]⟩,
 ⟨none, .build (some 15) [(.int .i64 0), (.int .i64 0), (.int .i64 0), (.int .i64 0), (.int .i64 0), (.int .i64 0), (.int .i64 0), (.int .i64 0), (.int .i64 0), (.int .i64 0), (.int .i64 0), (.int .i64 0), (.slice none 0 0), (.slice none 0 0), (.slice none 0 0)] [(0, 3, (.tmp 11)), (3, 1, (.const (.int .i64 3))), (5, 3, (.tmp 12)), (13, 1, (.tmp 14))]⟩,
 ⟨none, .alloc (some 2) [(.int .i64 0), (.int .i64 0), (.int .i64 0), (.int .i64 0), (.int .i64 0), (.int .i64 0), (.int .i64 0), (.int .i64 0), (.int .i64 0), (.int .i64 0), (.int .i64 0), (.int .i64 0), (.slice none 0 0), (.slice none 0 0), (.slice none 0 0)]⟩,
 ⟨none, .st none (.tmp 2) (.tmp 15) 15⟩])
 (K.seq (K.dops [(0, 1, ⟨none, .call (some 16) (.func 22) [(.const (.int .i64 1))]⟩),
 (1, 1, ⟨none, .call (some 17) (.func 22) [(.const (.int .i64 0))]⟩),
 (2, 1, ⟨none, .call (some 18) (.func 22) [(.const (.int .i64 2))]⟩),
 (3, 0, ⟨none, .build (some 19) [(.int .i64 0), (.int .i64 0), (.int .i64 0), (.string ⟨#[]⟩), (.int .i64 0), (.int .i64 0), (.int .i64 0), (.int .i64 0), (.slice none 0 0), (.int .i64 0), (.int .i64 0)] [(0, 3, (.tmp 18)), (3, 1, (.const (.string ⟨#[97]⟩)))]⟩),
 (4, 0, ⟨none, .bslice (some 20) 78 11 1 [(.int .i64 0), (.int .i64 0), (.int .i64 0), (.string ⟨#[]⟩), (.int .i64 0), (.int .i64 0), (.int .i64 0), (.int .i64 0), (.slice none 0 0), (.int .i64 0), (.int .i64 0)] [(0, 11, (.tmp 19))]⟩),
 (5, 1, ⟨none, .call (some 21) (.func 22) [(.const (.int .i64 10))]⟩),
 (6, 1, ⟨none, .ld (some 22) (.tmp 1) 15 true⟩),
 (7, 1, ⟨none, .call (some 23) (.func 32) [(.const (.int .i64 14)), (.const (.int .i64 2))]⟩),
 (8, 1, ⟨none, .ld (some 24) (.tmp 2) 15 true⟩),
 (9, 0, ⟨none, .bslice (some 25) 66 15 3 [(.int .i64 0), (.int .i64 0), (.int .i64 0), (.int .i64 0), (.int .i64 0), (.int .i64 0), (.int .i64 0), (.int .i64 0), (.int .i64 0), (.int .i64 0), (.int .i64 0), (.int .i64 0), (.slice none 0 0), (.slice none 0 0), (.slice none 0 0), (.int .i64 0), (.int .i64 0), (.int .i64 0), (.int .i64 0), (.int .i64 0), (.int .i64 0), (.int .i64 0), (.int .i64 0), (.int .i64 0), (.int .i64 0), (.int .i64 0), (.int .i64 0), (.slice none 0 0), (.slice none 0 0), (.slice none 0 0), (.int .i64 0), (.int .i64 0), (.int .i64 0), (.int .i64 0), (.int .i64 0), (.int .i64 0), (.int .i64 0), (.int .i64 0), (.int .i64 0), (.int .i64 0), (.int .i64 0), (.int .i64 0), (.slice none 0 0), (.slice none 0 0), (.slice none 0 0)] [(0, 15, (.tmp 22)), (15, 15, (.tmp 23)), (30, 15, (.tmp 24))]⟩),
 (10, 0, ⟨none, .build (some 26) [(.int .i64 0), (.int .i64 0), (.int .i64 0), (.int .i64 0), (.int .i64 0), (.int .i64 0), (.int .i64 0), (.int .i64 0), (.int .i64 0), (.int .i64 0), (.int .i64 0), (.int .i64 0), (.slice none 0 0), (.slice none 0 0), (.slice none 0 0)] [(0, 3, (.tmp 21)), (3, 1, (.const (.int .i64 5))), (13, 1, (.tmp 25))]⟩),
 (11, 0, ⟨none, .build (some 27) [(.int .i64 0), (.int .i64 0), (.int .i64 0), (.int .i64 0), (.int .i64 0), (.int .i64 0), (.int .i64 0), (.string ⟨#[]⟩), (.slice none 0 0), (.int .i64 0), (.int .i64 0), (.int .i64 0), (.int .i64 0), (.slice none 0 0), (.int .i64 0), (.int .i64 0), (.int .i64 0), (.int .i64 0), (.int .i64 0), (.int .i64 0), (.int .i64 0), (.int .i64 0), (.int .i64 0), (.int .i64 0), (.int .i64 0), (.int .i64 0), (.slice none 0 0), (.slice none 0 0), (.slice none 0 0), (.int .i64 0), (.slice none 0 0)] [(0, 3, (.tmp 16)), (3, 1, (.const (.int .i64 2))), (4, 3, (.tmp 17)), (7, 1, (.const (.string ⟨#[102]⟩))), (8, 1, (.tmp 20)), (14, 15, (.tmp 26))]⟩),
 (12, 0, ⟨none, .alloc (some 3) [(.int .i64 0), (.int .i64 0), (.int .i64 0), (.int .i64 0), (.int .i64 0), (.int .i64 0), (.int .i64 0), (.string ⟨#[]⟩), (.slice none 0 0), (.int .i64 0), (.int .i64 0), (.int .i64 0), (.int .i64 0), (.slice none 0 0), (.int .i64 0), (.int .i64 0), (.int .i64 0), (.int .i64 0), (.int .i64 0), (.int .i64 0), (.int .i64 0), (.int .i64 0), (.int .i64 0), (.int .i64 0), (.int .i64 0), (.int .i64 0), (.slice none 0 0), (.slice none 0 0), (.slice none 0 0), (.int .i64 0), (.slice none 0 0)]⟩),
 (13, 0, ⟨none, .st none (.tmp 3) (.tmp 27) 31⟩)])
 (K.seq (K.ops [⟨none, .call (some 28) (.func 22) [(.const (.int .i64 3))]⟩,
 ⟨none, .call (some 29) (.func 22) [(.const (.int .i64 0))]⟩,
 ⟨none, .call (some 30) (.func 22) [(.const (.int .i64 4))]⟩,
 ⟨none, .build (some 31) [(.int .i64 0), (.int .i64 0), (.int .i64 0), (.string ⟨#[]⟩), (.int .i64 0), (.int .i64 0), (.int .i64 0), (.int .i64 0), (.slice none 0 0), (.int .i64 0), (.int .i64 0)] [(0, 3, (.tmp 30)), (3, 1, (.const (.string ⟨#[97]⟩)))]⟩,
 ⟨none, .bslice (some 32) 78 11 1 [(.int .i64 0), (.int .i64 0), (.int .i64 0), (.string ⟨#[]⟩), (.int .i64 0), (.int .i64 0), (.int .i64 0), (.int .i64 0), (.slice none 0 0), (.int .i64 0), (.int .i64 0)] [(0, 11, (.tmp 31))]⟩,
 ⟨none, .call (some 33) (.func 32) [(.const (.int .i64 17)), (.const (.int .i64 4))]⟩,
 ⟨none, .build (some 34) [(.int .i64 0), (.int .i64 0), (.int .i64 0), (.int .i64 0), (.int .i64 0), (.int .i64 0), (.int .i64 0), (.string ⟨#[]⟩), (.slice none 0 0), (.int .i64 0), (.int .i64 0), (.int .i64 0), (.int .i64 0), (.slice none 0 0), (.int .i64 0), (.int .i64 0), (.int .i64 0), (.int .i64 0), (.int .i64 0), (.int .i64 0), (.int .i64 0), (.int .i64 0), (.int .i64 0), (.int .i64 0), (.int .i64 0), (.int .i64 0), (.slice none 0 0), (.slice none 0 0), (.slice none 0 0), (.int .i64 0), (.slice none 0 0)] [(0, 3, (.tmp 28)), (3, 1, (.const (.int .i64 2))), (4, 3, (.tmp 29)), (7, 1, (.const (.string ⟨#[103]⟩))), (8, 1, (.tmp 32)), (14, 15, (.tmp 33))]⟩,
 ⟨none, .alloc (some 4) [(.int .i64 0), (.int .i64 0), (.int .i64 0), (.int .i64 0), (.int .i64 0), (.int .i64 0), (.int .i64 0), (.string ⟨#[]⟩), (.slice none 0 0), (.int .i64 0), (.int .i64 0), (.int .i64 0), (.int .i64 0), (.slice none 0 0), (.int .i64 0), (.int .i64 0), (.int .i64 0), (.int .i64 0), (.int .i64 0), (.int .i64 0), (.int .i64 0), (.int .i64 0), (.int .i64 0), (.int .i64 0), (.int .i64 0), (.int .i64 0), (.slice none 0 0), (.slice none 0 0), (.slice none 0 0), (.int .i64 0), (.slice none 0 0)]⟩,
 ⟨none, .st none (.tmp 4) (.tmp 34) 31⟩])
 (K.seq (K.dops [(0, 1, ⟨none, .call (some 35) (.func 22) [(.const (.int .i64 0))]⟩),
 (1, 1, ⟨none, .call (some 36) (.func 22) [(.const (.int .i64 1))]⟩),
 (2, 1, ⟨none, .call (some 37) (.func 22) [(.const (.int .i64 3))]⟩),
 (3, 0, ⟨none, .bslice (some 38) 39 3 2 [(.int .i64 0), (.int .i64 0), (.int .i64 0), (.int .i64 0), (.int .i64 0), (.int .i64 0)] [(0, 3, (.tmp 36)), (3, 3, (.tmp 37))]⟩),
 (4, 0, ⟨none, .build (some 39) [(.int .i64 0), (.int .i64 0), (.int .i64 0), (.string ⟨#[]⟩), (.slice none 0 0), (.slice none 0 0)] [(0, 3, (.tmp 35)), (3, 1, (.const (.string ⟨#[109]⟩))), (5, 1, (.tmp 38))]⟩),
 (5, 0, ⟨none, .bslice (some 40) 80 6 1 [(.int .i64 0), (.int .i64 0), (.int .i64 0), (.string ⟨#[]⟩), (.slice none 0 0), (.slice none 0 0)] [(0, 6, (.tmp 39))]⟩),
 (6, 1, ⟨none, .ld (some 41) (.tmp 3) 31 true⟩),
 (7, 1, ⟨none, .ld (some 42) (.tmp 4) 31 true⟩),
 (8, 9, ⟨none, .brow (some 43) 69 31 2 [(.int .i64 0), (.int .i64 0), (.int .i64 0), (.int .i64 0), (.int .i64 0), (.int .i64 0), (.int .i64 0), (.string ⟨#[]⟩), (.slice none 0 0), (.int .i64 0), (.int .i64 0), (.int .i64 0), (.int .i64 0), (.slice none 0 0), (.int .i64 0), (.int .i64 0), (.int .i64 0), (.int .i64 0), (.int .i64 0), (.int .i64 0), (.int .i64 0), (.int .i64 0), (.int .i64 0), (.int .i64 0), (.int .i64 0), (.int .i64 0), (.slice none 0 0), (.slice none 0 0), (.slice none 0 0), (.int .i64 0), (.slice none 0 0), (.int .i64 0), (.int .i64 0), (.int .i64 0), (.int .i64 0), (.int .i64 0), (.int .i64 0), (.int .i64 0), (.string ⟨#[]⟩), (.slice none 0 0), (.int .i64 0), (.int .i64 0), (.int .i64 0), (.int .i64 0), (.slice none 0 0), (.int .i64 0), (.int .i64 0), (.int .i64 0), (.int .i64 0), (.int .i64 0), (.int .i64 0), (.int .i64 0), (.int .i64 0), (.int .i64 0), (.int .i64 0), (.int .i64 0), (.int .i64 0), (.slice none 0 0), (.slice none 0 0), (.slice none 0 0), (.int .i64 0), (.slice none 0 0)] [(0, 31, (.tmp 41)), (31, 31, (.tmp 42))]⟩),
 (9, 0, ⟨none, .build (some 44) [(.slice none 0 0), (.slice none 0 0)] [(0, 1, (.tmp 40)), (1, 1, (.tmp 43))]⟩),
 (10, 0, ⟨none, .st none (.tmp 0) (.tmp 44) 2⟩)])
 (K.ret))))))
def hEx : Nat → Option (List (Nat × Nat)) := fun r => match r with | 5 => some [(0,1),(1,1),(2,1),(3,0),(4,0),(5,0),(6,1),(7,1),(8,9),(9,0),(10,0)] | _ => none
theorem cEx : compileH Tryd.prog Tryd.f20.ntmps hEx (Tryd.f20.body.getD .skip) = some KEx.erase := by kernel_rfl
@[simp] theorem calEx : callable Tryd.prog 20 = true := by kernel_rfl
def EEx : Entry := ⟨KEx, [.cell 0 2 true], false⟩
theorem eokEx : EntryOk Tryd.prog 20 EEx := ⟨calEx, _, _, hEx, Tryd.func20, rfl, cEx, by kernel_rfl⟩

def expN (i : Int) (k n : Int) (r : Int) (kids : List Exp) : Exp := .mk ⟨0, 1, i⟩ k n (if r < 0 then Id.zero else ⟨0, 1, r⟩) Typ.zero kids []
def exF : Dfn := ⟨⟨0, 1, 1⟩, 2, ⟨0, 1, 0⟩, ⟨#[102]⟩, [⟨⟨0, 1, 2⟩, ⟨#[97]⟩, Typ.zero, 0, 0⟩], Typ.zero,
  expN 10 5 0 (-1) [expN 11 4 5 (-1) [expN 12 2 0 2 [], expN 13 0 3 (-1) []], expN 14 2 0 2 [], expN 15 3 0 3 [expN 16 2 0 2 []]], 0, []⟩
def exG (b : Exp) : Dfn := ⟨⟨0, 1, 3⟩, 2, ⟨0, 1, 0⟩, ⟨#[103]⟩, [⟨⟨0, 1, 4⟩, ⟨#[97]⟩, Typ.zero, 0, 0⟩], Typ.zero, b, 0, []⟩
def exM : Md := ⟨⟨0, 1, 0⟩, ⟨#[109]⟩, [], [⟨0, 1, 1⟩, ⟨0, 1, 3⟩]⟩
def exP : Prg := ⟨[exM], [exF, exG (expN 17 2 0 4 [])]⟩
def exQ : Prg := ⟨[exM], [exF, exG (expN 17 0 7 (-1) [])]⟩

end Go.Proofs.YthglhccibdlccaaDoor
