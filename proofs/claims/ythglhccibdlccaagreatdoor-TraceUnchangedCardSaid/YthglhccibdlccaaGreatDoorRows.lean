/-
  NARROWER THAN 'FOR EVERY INPUT', by the rows' own cells (each row's printed sentence says how): TraceCalls: laid · TraceChanges: laid · TraceNames: laid · TraceBodies: laid · TraceUnchanged: laid · TraceRuns: laid.
  DERIVED. THE GIVEN ROWS OF THIS SEAT. 6 by the template 'for every input the law returns true; each argument reads behind the call as it read before'; 0 by the template 'total and deterministic' (their statements: YthglhccibdlccaaGreatDoorTotals.lean).
  GIVEN WITH THE SEED: the statements are not yours to turn. If you find one false, say at which input.
  Laid BY PROGRAM, IN A SANDBOX (cutbox-rows.mjs): the forced cells as the released guide's own fill.sh prints them over the translation e42e4f2e05eb6dd7… (all of the seat's roots in one cut). By AI agents, Wed Nov 11 2026. No macro, syntax, notation, axiom, sorry.
-/
import Derived.Test.YthglhccibdlccaaGreatDoorChecked
import GoSem.Claim
import GoSem.ClaimJoined
import GoSem.ClaimMapViews
import Derived.JoinedTies
import Derived.KernelRfl
namespace Go.Proofs.YthglhccibdlccaaGreatDoor
/- THE CELL 'sum', in the pinned program and in every row, IS THE sha256 OF THE DUMP (.gsa) THAT YthglhccibdlccaaGreatDoorProg.lean LOADS. Nothing in Lean hashes anything: it is a label: what it is worth is what the hold of that sum in a sandbox is worth. -/
noncomputable def Tryz.pinned : Pinned := { name := "ythglhccibdlccaagreatdoor", sum := "e42e4f2e05eb6dd7db98db7da17f13a60d3357e6a7e615adfff1df3f8461e4b4", checked := Tryz.checked }
namespace Rows
def none {H : Type} : Left H := { results := [], args := [] }

/- WHAT THE LISTED PACKAGE-LEVEL VARIABLES READ AS WHEN THE CALL BEGINS. Each datum BY PROGRAM (the guide's laid-datum.mjs) off the statement by which the dump's own 'gosem.cut.vars' lays the variable. In a bare row this is a premise. The card (YthglhccibdlccaaGreatDoorCards.lean) ties it to the program's text. -/
def laid_splicery_eval_numbers {H : Type} : DataW H := .iface "func table" (.agg [.iface "func" (.lit (.string [115, 112, 108, 105, 99, 101, 114, 121, 47, 101, 118, 97, 108, 46, 110, 117, 109, 98, 101, 114, 115, 36, 49])), .iface "func" (.lit (.string [115, 112, 108, 105, 99, 101, 114, 121, 47, 101, 118, 97, 108, 46, 110, 117, 109, 98, 101, 114, 115, 36, 50])), .iface "func" (.lit (.string [115, 112, 108, 105, 99, 101, 114, 121, 47, 101, 118, 97, 108, 46, 116, 105, 109, 101, 115])), .iface "func" (.lit (.string [115, 112, 108, 105, 99, 101, 114, 121, 47, 101, 118, 97, 108, 46, 100, 105, 118, 105, 100, 101])), .iface "func" (.lit (.string [115, 112, 108, 105, 99, 101, 114, 121, 47, 101, 118, 97, 108, 46, 114, 101, 115, 116]))])

/-- 'splicerylaw12.TraceCalls': WHATEVER THE INPUT: true; the input reads as it did. -/
def traceCallsSpec : ChangeSpec := { name := "traceCalls", fn := fun _ => fun
  | [d1, d2, d3, d4, d5] => { results := [.lit (.bool true)], args := [d1, d2, d3, d4, d5] }
  | _ => none }
def traceCallsRow : OpenClaim := { program := "ythglhccibdlccaagreatdoor", sum := "e42e4f2e05eb6dd7db98db7da17f13a60d3357e6a7e615adfff1df3f8461e4b4", func := "splicery/splicerylaw12.TraceCalls", spec := "traceCalls", unfollowed := true, recurses := true, named := ["splicery/eval.numbers"], plainKeys := false, apart := false, laid := [("splicery/eval.numbers", laid_splicery_eval_numbers)] }
def TraceCallsSaid : Prop := traceCallsRow.holds Tryz.pinned (OpenSpec.ofChange traceCallsSpec)

/-- ITS FALSE NEIGHBOUR: 'it returns false'. Refute it at one input. -/
def traceCallsWrong : ChangeSpec := { name := "traceCalls", fn := fun _ => fun
  | [d1, d2, d3, d4, d5] => { results := [.lit (.bool false)], args := [d1, d2, d3, d4, d5] }
  | _ => none }
def TraceCallsWrongFalsely : Prop := traceCallsRow.holds Tryz.pinned (OpenSpec.ofChange traceCallsWrong)

/-- 'splicerylaw12.TraceChanges': WHATEVER THE INPUT: true; the input reads as it did. -/
def traceChangesSpec : ChangeSpec := { name := "traceChanges", fn := fun _ => fun
  | [d1, d2, d3, d4] => { results := [.lit (.bool true)], args := [d1, d2, d3, d4] }
  | _ => none }
def traceChangesRow : OpenClaim := { program := "ythglhccibdlccaagreatdoor", sum := "e42e4f2e05eb6dd7db98db7da17f13a60d3357e6a7e615adfff1df3f8461e4b4", func := "splicery/splicerylaw12.TraceChanges", spec := "traceChanges", unfollowed := true, recurses := true, named := ["splicery/eval.numbers"], plainKeys := false, apart := false, laid := [("splicery/eval.numbers", laid_splicery_eval_numbers)] }
def TraceChangesSaid : Prop := traceChangesRow.holds Tryz.pinned (OpenSpec.ofChange traceChangesSpec)

/-- ITS FALSE NEIGHBOUR: 'it returns false'. Refute it at one input. -/
def traceChangesWrong : ChangeSpec := { name := "traceChanges", fn := fun _ => fun
  | [d1, d2, d3, d4] => { results := [.lit (.bool false)], args := [d1, d2, d3, d4] }
  | _ => none }
def TraceChangesWrongFalsely : Prop := traceChangesRow.holds Tryz.pinned (OpenSpec.ofChange traceChangesWrong)

/-- 'splicerylaw12.TraceNames': WHATEVER THE INPUT: true; the input reads as it did. -/
def traceNamesSpec : ChangeSpec := { name := "traceNames", fn := fun _ => fun
  | [d1, d2, d3, d4, d5] => { results := [.lit (.bool true)], args := [d1, d2, d3, d4, d5] }
  | _ => none }
def traceNamesRow : OpenClaim := { program := "ythglhccibdlccaagreatdoor", sum := "e42e4f2e05eb6dd7db98db7da17f13a60d3357e6a7e615adfff1df3f8461e4b4", func := "splicery/splicerylaw12.TraceNames", spec := "traceNames", unfollowed := true, recurses := true, named := ["splicery/eval.numbers"], plainKeys := false, apart := false, laid := [("splicery/eval.numbers", laid_splicery_eval_numbers)] }
def TraceNamesSaid : Prop := traceNamesRow.holds Tryz.pinned (OpenSpec.ofChange traceNamesSpec)

/-- ITS FALSE NEIGHBOUR: 'it returns false'. Refute it at one input. -/
def traceNamesWrong : ChangeSpec := { name := "traceNames", fn := fun _ => fun
  | [d1, d2, d3, d4, d5] => { results := [.lit (.bool false)], args := [d1, d2, d3, d4, d5] }
  | _ => none }
def TraceNamesWrongFalsely : Prop := traceNamesRow.holds Tryz.pinned (OpenSpec.ofChange traceNamesWrong)

/-- 'splicerylaw12.TraceBodies': WHATEVER THE INPUT: true; the input reads as it did. -/
def traceBodiesSpec : ChangeSpec := { name := "traceBodies", fn := fun _ => fun
  | [d1, d2, d3] => { results := [.lit (.bool true)], args := [d1, d2, d3] }
  | _ => none }
def traceBodiesRow : OpenClaim := { program := "ythglhccibdlccaagreatdoor", sum := "e42e4f2e05eb6dd7db98db7da17f13a60d3357e6a7e615adfff1df3f8461e4b4", func := "splicery/splicerylaw12.TraceBodies", spec := "traceBodies", unfollowed := true, recurses := true, named := ["splicery/eval.numbers"], plainKeys := false, apart := false, laid := [("splicery/eval.numbers", laid_splicery_eval_numbers)] }
def TraceBodiesSaid : Prop := traceBodiesRow.holds Tryz.pinned (OpenSpec.ofChange traceBodiesSpec)

/-- ITS FALSE NEIGHBOUR: 'it returns false'. Refute it at one input. -/
def traceBodiesWrong : ChangeSpec := { name := "traceBodies", fn := fun _ => fun
  | [d1, d2, d3] => { results := [.lit (.bool false)], args := [d1, d2, d3] }
  | _ => none }
def TraceBodiesWrongFalsely : Prop := traceBodiesRow.holds Tryz.pinned (OpenSpec.ofChange traceBodiesWrong)

/-- 'splicerylaw12.TraceUnchanged': WHATEVER THE INPUT: true; the input reads as it did. -/
def traceUnchangedSpec : ChangeSpec := { name := "traceUnchanged", fn := fun _ => fun
  | [d1, d2, d3, d4, d5] => { results := [.lit (.bool true)], args := [d1, d2, d3, d4, d5] }
  | _ => none }
def traceUnchangedRow : OpenClaim := { program := "ythglhccibdlccaagreatdoor", sum := "e42e4f2e05eb6dd7db98db7da17f13a60d3357e6a7e615adfff1df3f8461e4b4", func := "splicery/splicerylaw12.TraceUnchanged", spec := "traceUnchanged", unfollowed := true, recurses := true, named := ["splicery/eval.numbers"], plainKeys := false, apart := false, laid := [("splicery/eval.numbers", laid_splicery_eval_numbers)] }
def TraceUnchangedSaid : Prop := traceUnchangedRow.holds Tryz.pinned (OpenSpec.ofChange traceUnchangedSpec)

/-- ITS FALSE NEIGHBOUR: 'it returns false'. Refute it at one input. -/
def traceUnchangedWrong : ChangeSpec := { name := "traceUnchanged", fn := fun _ => fun
  | [d1, d2, d3, d4, d5] => { results := [.lit (.bool false)], args := [d1, d2, d3, d4, d5] }
  | _ => none }
def TraceUnchangedWrongFalsely : Prop := traceUnchangedRow.holds Tryz.pinned (OpenSpec.ofChange traceUnchangedWrong)

/-- 'splicerylaw12.TraceRuns': WHATEVER THE INPUT: true; the input reads as it did. -/
def traceRunsSpec : ChangeSpec := { name := "traceRuns", fn := fun _ => fun
  | [d1, d2, d3, d4] => { results := [.lit (.bool true)], args := [d1, d2, d3, d4] }
  | _ => none }
def traceRunsRow : OpenClaim := { program := "ythglhccibdlccaagreatdoor", sum := "e42e4f2e05eb6dd7db98db7da17f13a60d3357e6a7e615adfff1df3f8461e4b4", func := "splicery/splicerylaw12.TraceRuns", spec := "traceRuns", unfollowed := true, recurses := true, named := ["splicery/eval.numbers"], plainKeys := false, apart := false, laid := [("splicery/eval.numbers", laid_splicery_eval_numbers)] }
def TraceRunsSaid : Prop := traceRunsRow.holds Tryz.pinned (OpenSpec.ofChange traceRunsSpec)

/-- ITS FALSE NEIGHBOUR: 'it returns false'. Refute it at one input. -/
def traceRunsWrong : ChangeSpec := { name := "traceRuns", fn := fun _ => fun
  | [d1, d2, d3, d4] => { results := [.lit (.bool false)], args := [d1, d2, d3, d4] }
  | _ => none }
def TraceRunsWrongFalsely : Prop := traceRunsRow.holds Tryz.pinned (OpenSpec.ofChange traceRunsWrong)

/- THE SECOND FORM. 'bulk': how many values and letters a reading holds, each counted each time it is reached (what is shared counts as often as it is met; a slice's spare places count too). A statement '..UptoSaid' is the law's where the arguments, and the package variables that the reading takes, are together of bulk at most 1048576: NARROWER than '..Said'. Prove '..Said' where nothing that the law and all that it calls make is longer than what came in: it says more and counts as full. Else prove '..UptoSaid'. A law counts once. -/
mutual
def uptoBulk {H : Type} : DataW H → Nat
  | .lit (.string bytes) => bytes.length + 1
  | .lit _ => 1
  | .nil => 1
  | .ptr d => uptoBulk d + 1
  | .slice elems spare => uptoBulkAll elems + uptoBulkAll spare + 1
  | .agg parts => uptoBulkAll parts + 1
  | .iface _ d => uptoBulk d + 1
  | .map entries => uptoBulkEntries entries + 1
  | .held _ => 1
def uptoBulkAll {H : Type} : List (DataW H) → Nat
  | [] => 0
  | d :: r => uptoBulk d + uptoBulkAll r
def uptoBulkEntries {H : Type} : List (Lit × DataW H) → Nat
  | [] => 0
  | x :: r => uptoBulkEntry x + uptoBulkEntries r
def uptoBulkEntry {H : Type} : Lit × DataW H → Nat
  | (.string bytes, d) => bytes.length + uptoBulk d + 1
  | (_, d) => uptoBulk d + 1
 end
def uptoSmall : (H : Type) → List (DataW H) → Bool := fun _ ds => decide (uptoBulkAll ds ≤ 1048576)
def OpenSpec.upto (s : _root_.Go.ChangeSpec) : _root_.Go.OpenSpec := { _root_.Go.OpenSpec.ofChange s with cond := some uptoSmall }

/-- 'splicerylaw12.TraceCalls', WHERE WHAT IT READS IS OF BULK AT MOST 1048576: true; the input reads as it did. -/
def traceCallsUptoRow : OpenClaim := { program := "ythglhccibdlccaagreatdoor", sum := "e42e4f2e05eb6dd7db98db7da17f13a60d3357e6a7e615adfff1df3f8461e4b4", func := "splicery/splicerylaw12.TraceCalls", spec := "traceCalls", unfollowed := true, recurses := true, named := ["splicery/eval.numbers"], plainKeys := false, apart := false, laid := [("splicery/eval.numbers", laid_splicery_eval_numbers)], narrowed := true }
def TraceCallsUptoSaid : Prop := traceCallsUptoRow.holds Tryz.pinned (OpenSpec.upto traceCallsSpec)

/-- 'splicerylaw12.TraceChanges', WHERE WHAT IT READS IS OF BULK AT MOST 1048576: true; the input reads as it did. -/
def traceChangesUptoRow : OpenClaim := { program := "ythglhccibdlccaagreatdoor", sum := "e42e4f2e05eb6dd7db98db7da17f13a60d3357e6a7e615adfff1df3f8461e4b4", func := "splicery/splicerylaw12.TraceChanges", spec := "traceChanges", unfollowed := true, recurses := true, named := ["splicery/eval.numbers"], plainKeys := false, apart := false, laid := [("splicery/eval.numbers", laid_splicery_eval_numbers)], narrowed := true }
def TraceChangesUptoSaid : Prop := traceChangesUptoRow.holds Tryz.pinned (OpenSpec.upto traceChangesSpec)

/-- 'splicerylaw12.TraceNames', WHERE WHAT IT READS IS OF BULK AT MOST 1048576: true; the input reads as it did. -/
def traceNamesUptoRow : OpenClaim := { program := "ythglhccibdlccaagreatdoor", sum := "e42e4f2e05eb6dd7db98db7da17f13a60d3357e6a7e615adfff1df3f8461e4b4", func := "splicery/splicerylaw12.TraceNames", spec := "traceNames", unfollowed := true, recurses := true, named := ["splicery/eval.numbers"], plainKeys := false, apart := false, laid := [("splicery/eval.numbers", laid_splicery_eval_numbers)], narrowed := true }
def TraceNamesUptoSaid : Prop := traceNamesUptoRow.holds Tryz.pinned (OpenSpec.upto traceNamesSpec)

/-- 'splicerylaw12.TraceBodies', WHERE WHAT IT READS IS OF BULK AT MOST 1048576: true; the input reads as it did. -/
def traceBodiesUptoRow : OpenClaim := { program := "ythglhccibdlccaagreatdoor", sum := "e42e4f2e05eb6dd7db98db7da17f13a60d3357e6a7e615adfff1df3f8461e4b4", func := "splicery/splicerylaw12.TraceBodies", spec := "traceBodies", unfollowed := true, recurses := true, named := ["splicery/eval.numbers"], plainKeys := false, apart := false, laid := [("splicery/eval.numbers", laid_splicery_eval_numbers)], narrowed := true }
def TraceBodiesUptoSaid : Prop := traceBodiesUptoRow.holds Tryz.pinned (OpenSpec.upto traceBodiesSpec)

/-- 'splicerylaw12.TraceUnchanged', WHERE WHAT IT READS IS OF BULK AT MOST 1048576: true; the input reads as it did. -/
def traceUnchangedUptoRow : OpenClaim := { program := "ythglhccibdlccaagreatdoor", sum := "e42e4f2e05eb6dd7db98db7da17f13a60d3357e6a7e615adfff1df3f8461e4b4", func := "splicery/splicerylaw12.TraceUnchanged", spec := "traceUnchanged", unfollowed := true, recurses := true, named := ["splicery/eval.numbers"], plainKeys := false, apart := false, laid := [("splicery/eval.numbers", laid_splicery_eval_numbers)], narrowed := true }
def TraceUnchangedUptoSaid : Prop := traceUnchangedUptoRow.holds Tryz.pinned (OpenSpec.upto traceUnchangedSpec)

/-- 'splicerylaw12.TraceRuns', WHERE WHAT IT READS IS OF BULK AT MOST 1048576: true; the input reads as it did. -/
def traceRunsUptoRow : OpenClaim := { program := "ythglhccibdlccaagreatdoor", sum := "e42e4f2e05eb6dd7db98db7da17f13a60d3357e6a7e615adfff1df3f8461e4b4", func := "splicery/splicerylaw12.TraceRuns", spec := "traceRuns", unfollowed := true, recurses := true, named := ["splicery/eval.numbers"], plainKeys := false, apart := false, laid := [("splicery/eval.numbers", laid_splicery_eval_numbers)], narrowed := true }
def TraceRunsUptoSaid : Prop := traceRunsUptoRow.holds Tryz.pinned (OpenSpec.upto traceRunsSpec)

end Rows
end Go.Proofs.YthglhccibdlccaaGreatDoor
