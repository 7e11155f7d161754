/-
  NARROWER THAN 'FOR EVERY INPUT', by the rows' own cells (each row's printed sentence says how): DomainValues: loops · DomainInputs: loops · DomainBefore: loops.
  DERIVED. THE GIVEN ROWS OF THIS SEAT. 5 by the template 'for every input the law returns true; each argument reads behind the call as it read before'; 0 by the template 'total and deterministic' (their statements: YtbkiphnlbadhcaaTotals.lean).
  GIVEN WITH THE SEED: the statements are not yours to turn. If you find one false, say at which input.
  Laid BY PROGRAM, IN A SANDBOX (cutbox-rows.mjs): the forced cells as the released guide's own fill.sh prints them over the translation 8b5f96f371347997… (all of the seat's roots in one cut). By AI agents, Wed Nov 11 2026. No macro, syntax, notation, axiom, sorry.
-/
import Derived.Test.YtbkiphnlbadhcaaChecked
import GoSem.Claim
import GoSem.ClaimJoined
import GoSem.ClaimMapViews
import Derived.JoinedTies
import Derived.KernelRfl
namespace Go.Proofs.Ytbkiphnlbadhcaa
/- THE CELL 'sum', in the pinned program and in every row, IS THE sha256 OF THE DUMP (.gsa) THAT YtbkiphnlbadhcaaProg.lean LOADS. Nothing in Lean hashes anything: it is a label: what it is worth is what the hold of that sum in a sandbox is worth. -/
noncomputable def Try.pinned : Pinned := { name := "ytbkiphnlbadhcaa", sum := "8b5f96f37134799782f1623f6486e208771b6d8215c1d85facb14ea3971104f8", checked := Try.checked }
namespace Rows
def none {H : Type} : Left H := { results := [], args := [] }

/-- 'splicerylaw13.DomainValues': WHATEVER THE INPUT: true; the input reads as it did. -/
def domainValuesSpec : ChangeSpec := { name := "domainValues", fn := fun _ => fun
  | [d1, d2, d3, d4, d5] => { results := [.lit (.bool true)], args := [d1, d2, d3, d4, d5] }
  | _ => none }
def domainValuesRow : OpenClaim := { program := "ytbkiphnlbadhcaa", sum := "8b5f96f37134799782f1623f6486e208771b6d8215c1d85facb14ea3971104f8", func := "splicery/splicerylaw13.DomainValues", spec := "domainValues", unfollowed := true, recurses := true, loops := true, apart := false }
def DomainValuesSaid : Prop := domainValuesRow.holds Try.pinned (OpenSpec.ofChange domainValuesSpec)

/-- ITS FALSE NEIGHBOUR: 'it returns false'. Refute it at one input. -/
def domainValuesWrong : ChangeSpec := { name := "domainValues", fn := fun _ => fun
  | [d1, d2, d3, d4, d5] => { results := [.lit (.bool false)], args := [d1, d2, d3, d4, d5] }
  | _ => none }
def DomainValuesWrongFalsely : Prop := domainValuesRow.holds Try.pinned (OpenSpec.ofChange domainValuesWrong)

/-- 'splicerylaw13.DomainInputs': WHATEVER THE INPUT: true; the input reads as it did. -/
def domainInputsSpec : ChangeSpec := { name := "domainInputs", fn := fun _ => fun
  | [d1, d2, d3, d4, d5] => { results := [.lit (.bool true)], args := [d1, d2, d3, d4, d5] }
  | _ => none }
def domainInputsRow : OpenClaim := { program := "ytbkiphnlbadhcaa", sum := "8b5f96f37134799782f1623f6486e208771b6d8215c1d85facb14ea3971104f8", func := "splicery/splicerylaw13.DomainInputs", spec := "domainInputs", unfollowed := true, recurses := true, loops := true, apart := false }
def DomainInputsSaid : Prop := domainInputsRow.holds Try.pinned (OpenSpec.ofChange domainInputsSpec)

/-- ITS FALSE NEIGHBOUR: 'it returns false'. Refute it at one input. -/
def domainInputsWrong : ChangeSpec := { name := "domainInputs", fn := fun _ => fun
  | [d1, d2, d3, d4, d5] => { results := [.lit (.bool false)], args := [d1, d2, d3, d4, d5] }
  | _ => none }
def DomainInputsWrongFalsely : Prop := domainInputsRow.holds Try.pinned (OpenSpec.ofChange domainInputsWrong)

/-- 'splicerylaw13.DomainBefore': WHATEVER THE INPUT: true; the input reads as it did. -/
def domainBeforeSpec : ChangeSpec := { name := "domainBefore", fn := fun _ => fun
  | [d1, d2, d3] => { results := [.lit (.bool true)], args := [d1, d2, d3] }
  | _ => none }
def domainBeforeRow : OpenClaim := { program := "ytbkiphnlbadhcaa", sum := "8b5f96f37134799782f1623f6486e208771b6d8215c1d85facb14ea3971104f8", func := "splicery/splicerylaw13.DomainBefore", spec := "domainBefore", unfollowed := true, recurses := true, loops := true, apart := false }
def DomainBeforeSaid : Prop := domainBeforeRow.holds Try.pinned (OpenSpec.ofChange domainBeforeSpec)

/-- ITS FALSE NEIGHBOUR: 'it returns false'. Refute it at one input. -/
def domainBeforeWrong : ChangeSpec := { name := "domainBefore", fn := fun _ => fun
  | [d1, d2, d3] => { results := [.lit (.bool false)], args := [d1, d2, d3] }
  | _ => none }
def DomainBeforeWrongFalsely : Prop := domainBeforeRow.holds Try.pinned (OpenSpec.ofChange domainBeforeWrong)

/-- 'splicerylaw13.DomainGrows': WHATEVER THE INPUT: true; the input reads as it did. -/
def domainGrowsSpec : ChangeSpec := { name := "domainGrows", fn := fun _ => fun
  | [d1, d2, d3] => { results := [.lit (.bool true)], args := [d1, d2, d3] }
  | _ => none }
def domainGrowsRow : OpenClaim := { program := "ytbkiphnlbadhcaa", sum := "8b5f96f37134799782f1623f6486e208771b6d8215c1d85facb14ea3971104f8", func := "splicery/splicerylaw13.DomainGrows", spec := "domainGrows", unfollowed := true, recurses := true, apart := false }
def DomainGrowsSaid : Prop := domainGrowsRow.holds Try.pinned (OpenSpec.ofChange domainGrowsSpec)

/-- ITS FALSE NEIGHBOUR: 'it returns false'. Refute it at one input. -/
def domainGrowsWrong : ChangeSpec := { name := "domainGrows", fn := fun _ => fun
  | [d1, d2, d3] => { results := [.lit (.bool false)], args := [d1, d2, d3] }
  | _ => none }
def DomainGrowsWrongFalsely : Prop := domainGrowsRow.holds Try.pinned (OpenSpec.ofChange domainGrowsWrong)

/-- 'splicerylaw13.DomainComplete': WHATEVER THE INPUT: true; the input reads as it did. -/
def domainCompleteSpec : ChangeSpec := { name := "domainComplete", fn := fun _ => fun
  | [d1, d2, d3, d4] => { results := [.lit (.bool true)], args := [d1, d2, d3, d4] }
  | _ => none }
def domainCompleteRow : OpenClaim := { program := "ytbkiphnlbadhcaa", sum := "8b5f96f37134799782f1623f6486e208771b6d8215c1d85facb14ea3971104f8", func := "splicery/splicerylaw13.DomainComplete", spec := "domainComplete", unfollowed := true, recurses := true, apart := false }
def DomainCompleteSaid : Prop := domainCompleteRow.holds Try.pinned (OpenSpec.ofChange domainCompleteSpec)

/-- ITS FALSE NEIGHBOUR: 'it returns false'. Refute it at one input. -/
def domainCompleteWrong : ChangeSpec := { name := "domainComplete", fn := fun _ => fun
  | [d1, d2, d3, d4] => { results := [.lit (.bool false)], args := [d1, d2, d3, d4] }
  | _ => none }
def DomainCompleteWrongFalsely : Prop := domainCompleteRow.holds Try.pinned (OpenSpec.ofChange domainCompleteWrong)

/- THE SECOND FORM. 'bulk': how many values and letters a reading holds, each counted each time it is reached (what is shared counts as often as it is met; a slice's spare places count too). A statement '..UptoSaid' is the law's where the arguments, and the package variables that the reading takes, are together of bulk at most 1048576: NARROWER than '..Said'. Prove '..Said' where nothing that the law and all that it calls make is longer than what came in: it says more and counts as full. Else prove '..UptoSaid'. A law counts once. -/
mutual
def uptoBulk {H : Type} : DataW H → Nat
  | .lit (.string bytes) => bytes.length + 1
  | .lit _ => 1
  | .nil => 1
  | .ptr d => uptoBulk d + 1
  | .slice elems spare => uptoBulkAll elems + uptoBulkAll spare + 1
  | .agg parts => uptoBulkAll parts + 1
  | .iface _ d => uptoBulk d + 1
  | .map entries => uptoBulkEntries entries + 1
  | .held _ => 1
def uptoBulkAll {H : Type} : List (DataW H) → Nat
  | [] => 0
  | d :: r => uptoBulk d + uptoBulkAll r
def uptoBulkEntries {H : Type} : List (Lit × DataW H) → Nat
  | [] => 0
  | x :: r => uptoBulkEntry x + uptoBulkEntries r
def uptoBulkEntry {H : Type} : Lit × DataW H → Nat
  | (.string bytes, d) => bytes.length + uptoBulk d + 1
  | (_, d) => uptoBulk d + 1
 end
def uptoSmall : (H : Type) → List (DataW H) → Bool := fun _ ds => decide (uptoBulkAll ds ≤ 1048576)
def OpenSpec.upto (s : _root_.Go.ChangeSpec) : _root_.Go.OpenSpec := { _root_.Go.OpenSpec.ofChange s with cond := some uptoSmall }

/-- 'splicerylaw13.DomainValues', WHERE WHAT IT READS IS OF BULK AT MOST 1048576: true; the input reads as it did. -/
def domainValuesUptoRow : OpenClaim := { program := "ytbkiphnlbadhcaa", sum := "8b5f96f37134799782f1623f6486e208771b6d8215c1d85facb14ea3971104f8", func := "splicery/splicerylaw13.DomainValues", spec := "domainValues", unfollowed := true, recurses := true, loops := true, apart := false, narrowed := true }
def DomainValuesUptoSaid : Prop := domainValuesUptoRow.holds Try.pinned (OpenSpec.upto domainValuesSpec)

/-- 'splicerylaw13.DomainInputs', WHERE WHAT IT READS IS OF BULK AT MOST 1048576: true; the input reads as it did. -/
def domainInputsUptoRow : OpenClaim := { program := "ytbkiphnlbadhcaa", sum := "8b5f96f37134799782f1623f6486e208771b6d8215c1d85facb14ea3971104f8", func := "splicery/splicerylaw13.DomainInputs", spec := "domainInputs", unfollowed := true, recurses := true, loops := true, apart := false, narrowed := true }
def DomainInputsUptoSaid : Prop := domainInputsUptoRow.holds Try.pinned (OpenSpec.upto domainInputsSpec)

/-- 'splicerylaw13.DomainBefore', WHERE WHAT IT READS IS OF BULK AT MOST 1048576: true; the input reads as it did. -/
def domainBeforeUptoRow : OpenClaim := { program := "ytbkiphnlbadhcaa", sum := "8b5f96f37134799782f1623f6486e208771b6d8215c1d85facb14ea3971104f8", func := "splicery/splicerylaw13.DomainBefore", spec := "domainBefore", unfollowed := true, recurses := true, loops := true, apart := false, narrowed := true }
def DomainBeforeUptoSaid : Prop := domainBeforeUptoRow.holds Try.pinned (OpenSpec.upto domainBeforeSpec)

/-- 'splicerylaw13.DomainGrows', WHERE WHAT IT READS IS OF BULK AT MOST 1048576: true; the input reads as it did. -/
def domainGrowsUptoRow : OpenClaim := { program := "ytbkiphnlbadhcaa", sum := "8b5f96f37134799782f1623f6486e208771b6d8215c1d85facb14ea3971104f8", func := "splicery/splicerylaw13.DomainGrows", spec := "domainGrows", unfollowed := true, recurses := true, apart := false, narrowed := true }
def DomainGrowsUptoSaid : Prop := domainGrowsUptoRow.holds Try.pinned (OpenSpec.upto domainGrowsSpec)

/-- 'splicerylaw13.DomainComplete', WHERE WHAT IT READS IS OF BULK AT MOST 1048576: true; the input reads as it did. -/
def domainCompleteUptoRow : OpenClaim := { program := "ytbkiphnlbadhcaa", sum := "8b5f96f37134799782f1623f6486e208771b6d8215c1d85facb14ea3971104f8", func := "splicery/splicerylaw13.DomainComplete", spec := "domainComplete", unfollowed := true, recurses := true, apart := false, narrowed := true }
def DomainCompleteUptoSaid : Prop := domainCompleteUptoRow.holds Try.pinned (OpenSpec.upto domainCompleteSpec)

end Rows
end Go.Proofs.Ytbkiphnlbadhcaa
