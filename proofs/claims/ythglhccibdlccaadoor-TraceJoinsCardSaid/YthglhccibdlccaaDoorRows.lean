/-
  NARROWER THAN 'FOR EVERY INPUT', by the rows' own cells (each row's printed sentence says how): TraceJoins: laid.
  DERIVED. THE GIVEN ROWS OF THIS SEAT. 1 by the template 'for every input the law returns true; each argument reads behind the call as it read before'; 0 by the template 'total and deterministic' (their statements: YthglhccibdlccaaDoorTotals.lean).
  GIVEN WITH THE SEED: the statements are not yours to turn. If you find one false, say at which input.
  Laid BY PROGRAM, IN A SANDBOX (cutbox-rows.mjs): the forced cells as the released guide's own fill.sh prints them over the translation bb1e609799d86db0… (all of the seat's roots in one cut). By AI agents, Wed Nov 11 2026. No macro, syntax, notation, axiom, sorry.
-/
import Derived.Test.YthglhccibdlccaaDoorChecked
import GoSem.Claim
import GoSem.ClaimJoined
import GoSem.ClaimMapViews
import Derived.JoinedTies
import Derived.KernelRfl
namespace Go.Proofs.YthglhccibdlccaaDoor
/- THE CELL 'sum', in the pinned program and in every row, IS THE sha256 OF THE DUMP (.gsa) THAT YthglhccibdlccaaDoorProg.lean LOADS. Nothing in Lean hashes anything: it is a label: what it is worth is what the hold of that sum in a sandbox is worth. -/
noncomputable def Tryd.pinned : Pinned := { name := "ythglhccibdlccaadoor", sum := "bb1e609799d86db0444466f5ee9e3cee7793648176940f91c1ad31bef2840e7c", checked := Tryd.checked }
namespace Rows
def none {H : Type} : Left H := { results := [], args := [] }

/- WHAT THE LISTED PACKAGE-LEVEL VARIABLES READ AS WHEN THE CALL BEGINS. Each datum BY PROGRAM (the guide's laid-datum.mjs) off the statement by which the dump's own 'gosem.cut.vars' lays the variable. In a bare row this is a premise. The card (YthglhccibdlccaaDoorCards.lean) ties it to the program's text. -/
def laid_splicery_eval_numbers {H : Type} : DataW H := .iface "func table" (.agg [.iface "func" (.lit (.string [115, 112, 108, 105, 99, 101, 114, 121, 47, 101, 118, 97, 108, 46, 110, 117, 109, 98, 101, 114, 115, 36, 49])), .iface "func" (.lit (.string [115, 112, 108, 105, 99, 101, 114, 121, 47, 101, 118, 97, 108, 46, 110, 117, 109, 98, 101, 114, 115, 36, 50])), .iface "func" (.lit (.string [115, 112, 108, 105, 99, 101, 114, 121, 47, 101, 118, 97, 108, 46, 116, 105, 109, 101, 115])), .iface "func" (.lit (.string [115, 112, 108, 105, 99, 101, 114, 121, 47, 101, 118, 97, 108, 46, 100, 105, 118, 105, 100, 101])), .iface "func" (.lit (.string [115, 112, 108, 105, 99, 101, 114, 121, 47, 101, 118, 97, 108, 46, 114, 101, 115, 116]))])

/-- 'splicerylaw12.TraceJoins': WHATEVER THE INPUT: true; the input reads as it did. -/
def traceJoinsSpec : ChangeSpec := { name := "traceJoins", fn := fun _ => fun
  | [d1, d2, d3, d4, d5] => { results := [.lit (.bool true)], args := [d1, d2, d3, d4, d5] }
  | _ => none }
def traceJoinsRow : OpenClaim := { program := "ythglhccibdlccaadoor", sum := "bb1e609799d86db0444466f5ee9e3cee7793648176940f91c1ad31bef2840e7c", func := "splicery/splicerylaw12.TraceJoins", spec := "traceJoins", unfollowed := true, recurses := true, named := ["splicery/eval.numbers"], plainKeys := false, apart := false, laid := [("splicery/eval.numbers", laid_splicery_eval_numbers)] }
def TraceJoinsSaid : Prop := traceJoinsRow.holds Tryd.pinned (OpenSpec.ofChange traceJoinsSpec)

/-- ITS FALSE NEIGHBOUR: 'it returns false'. Refute it at one input. -/
def traceJoinsWrong : ChangeSpec := { name := "traceJoins", fn := fun _ => fun
  | [d1, d2, d3, d4, d5] => { results := [.lit (.bool false)], args := [d1, d2, d3, d4, d5] }
  | _ => none }
def TraceJoinsWrongFalsely : Prop := traceJoinsRow.holds Tryd.pinned (OpenSpec.ofChange traceJoinsWrong)

/- THE SECOND FORM. 'bulk': how many values and letters a reading holds, each counted each time it is reached (what is shared counts as often as it is met; a slice's spare places count too). A statement '..UptoSaid' is the law's where the arguments, and the package variables that the reading takes, are together of bulk at most 1048576: NARROWER than '..Said'. Prove '..Said' where nothing that the law and all that it calls make is longer than what came in: it says more and counts as full. Else prove '..UptoSaid'. A law counts once. -/
mutual
def uptoBulk {H : Type} : DataW H → Nat
  | .lit (.string bytes) => bytes.length + 1
  | .lit _ => 1
  | .nil => 1
  | .ptr d => uptoBulk d + 1
  | .slice elems spare => uptoBulkAll elems + uptoBulkAll spare + 1
  | .agg parts => uptoBulkAll parts + 1
  | .iface _ d => uptoBulk d + 1
  | .map entries => uptoBulkEntries entries + 1
  | .held _ => 1
def uptoBulkAll {H : Type} : List (DataW H) → Nat
  | [] => 0
  | d :: r => uptoBulk d + uptoBulkAll r
def uptoBulkEntries {H : Type} : List (Lit × DataW H) → Nat
  | [] => 0
  | x :: r => uptoBulkEntry x + uptoBulkEntries r
def uptoBulkEntry {H : Type} : Lit × DataW H → Nat
  | (.string bytes, d) => bytes.length + uptoBulk d + 1
  | (_, d) => uptoBulk d + 1
 end
def uptoSmall : (H : Type) → List (DataW H) → Bool := fun _ ds => decide (uptoBulkAll ds ≤ 1048576)
def OpenSpec.upto (s : _root_.Go.ChangeSpec) : _root_.Go.OpenSpec := { _root_.Go.OpenSpec.ofChange s with cond := some uptoSmall }

/-- 'splicerylaw12.TraceJoins', WHERE WHAT IT READS IS OF BULK AT MOST 1048576: true; the input reads as it did. -/
def traceJoinsUptoRow : OpenClaim := { program := "ythglhccibdlccaadoor", sum := "bb1e609799d86db0444466f5ee9e3cee7793648176940f91c1ad31bef2840e7c", func := "splicery/splicerylaw12.TraceJoins", spec := "traceJoins", unfollowed := true, recurses := true, named := ["splicery/eval.numbers"], plainKeys := false, apart := false, laid := [("splicery/eval.numbers", laid_splicery_eval_numbers)], narrowed := true }
def TraceJoinsUptoSaid : Prop := traceJoinsUptoRow.holds Tryd.pinned (OpenSpec.upto traceJoinsSpec)

end Rows
end Go.Proofs.YthglhccibdlccaaDoor
