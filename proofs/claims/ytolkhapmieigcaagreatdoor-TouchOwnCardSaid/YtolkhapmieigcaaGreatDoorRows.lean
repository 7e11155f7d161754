/-
  NARROWER THAN 'FOR EVERY INPUT', by the rows' own cells (each row's printed sentence says how): TouchTraces: laid · TouchOf: laid · TouchAgain: laid · TouchSides: laid · TouchNames: laid · TouchOwn: laid · TouchUntouched: laid.
  DERIVED. THE GIVEN ROWS OF THIS SEAT. 7 by the template 'for every input the law returns true; each argument reads behind the call as it read before'; 0 by the template 'total and deterministic' (their statements: YtolkhapmieigcaaGreatDoorTotals.lean).
  GIVEN WITH THE SEED: the statements are not yours to turn. If you find one false, say at which input.
  Laid BY PROGRAM, IN A SANDBOX (cutbox-rows.mjs): the forced cells as the released guide's own fill.sh prints them over the translation 12f047c3098f73fd… (all of the seat's roots in one cut). By AI agents, Wed Nov 11 2026. No macro, syntax, notation, axiom, sorry.
-/
import Derived.Test.YtolkhapmieigcaaGreatDoorChecked
import GoSem.Claim
import GoSem.ClaimJoined
import GoSem.ClaimMapViews
import Derived.JoinedTies
import Derived.KernelRfl
namespace Go.Proofs.YtolkhapmieigcaaGreatDoor
/- THE CELL 'sum', in the pinned program and in every row, IS THE sha256 OF THE DUMP (.gsa) THAT YtolkhapmieigcaaGreatDoorProg.lean LOADS. Nothing in Lean hashes anything: it is a label: what it is worth is what the hold of that sum in a sandbox is worth. -/
noncomputable def Tryz.pinned : Pinned := { name := "ytolkhapmieigcaagreatdoor", sum := "12f047c3098f73fd77c2727bbef703df28561769c6a73776ee6e52b54cb9ddaa", checked := Tryz.checked }
namespace Rows
def none {H : Type} : Left H := { results := [], args := [] }

/- WHAT THE LISTED PACKAGE-LEVEL VARIABLES READ AS WHEN THE CALL BEGINS. Each datum BY PROGRAM (the guide's laid-datum.mjs) off the statement by which the dump's own 'gosem.cut.vars' lays the variable. In a bare row this is a premise. The card (YtolkhapmieigcaaGreatDoorCards.lean) ties it to the program's text. -/
def laid_splicery_eval_numbers {H : Type} : DataW H := .iface "func table" (.agg [.iface "func" (.lit (.string [115, 112, 108, 105, 99, 101, 114, 121, 47, 101, 118, 97, 108, 46, 110, 117, 109, 98, 101, 114, 115, 36, 49])), .iface "func" (.lit (.string [115, 112, 108, 105, 99, 101, 114, 121, 47, 101, 118, 97, 108, 46, 110, 117, 109, 98, 101, 114, 115, 36, 50])), .iface "func" (.lit (.string [115, 112, 108, 105, 99, 101, 114, 121, 47, 101, 118, 97, 108, 46, 116, 105, 109, 101, 115])), .iface "func" (.lit (.string [115, 112, 108, 105, 99, 101, 114, 121, 47, 101, 118, 97, 108, 46, 100, 105, 118, 105, 100, 101])), .iface "func" (.lit (.string [115, 112, 108, 105, 99, 101, 114, 121, 47, 101, 118, 97, 108, 46, 114, 101, 115, 116]))])

/-- 'splicerylaw24.TouchTraces': WHATEVER THE INPUT: true; the input reads as it did. -/
def touchTracesSpec : ChangeSpec := { name := "touchTraces", fn := fun _ => fun
  | [d1, d2, d3] => { results := [.lit (.bool true)], args := [d1, d2, d3] }
  | _ => none }
def touchTracesRow : OpenClaim := { program := "ytolkhapmieigcaagreatdoor", sum := "12f047c3098f73fd77c2727bbef703df28561769c6a73776ee6e52b54cb9ddaa", func := "splicery/splicerylaw24.TouchTraces", spec := "touchTraces", unfollowed := true, recurses := true, named := ["splicery/eval.numbers"], plainKeys := false, apart := false, laid := [("splicery/eval.numbers", laid_splicery_eval_numbers)] }
def TouchTracesSaid : Prop := touchTracesRow.holds Tryz.pinned (OpenSpec.ofChange touchTracesSpec)

/-- ITS FALSE NEIGHBOUR: 'it returns false'. Refute it at one input. -/
def touchTracesWrong : ChangeSpec := { name := "touchTraces", fn := fun _ => fun
  | [d1, d2, d3] => { results := [.lit (.bool false)], args := [d1, d2, d3] }
  | _ => none }
def TouchTracesWrongFalsely : Prop := touchTracesRow.holds Tryz.pinned (OpenSpec.ofChange touchTracesWrong)

/-- 'splicerylaw24.TouchOf': WHATEVER THE INPUT: true; the input reads as it did. -/
def touchOfSpec : ChangeSpec := { name := "touchOf", fn := fun _ => fun
  | [d1, d2, d3, d4, d5] => { results := [.lit (.bool true)], args := [d1, d2, d3, d4, d5] }
  | _ => none }
def touchOfRow : OpenClaim := { program := "ytolkhapmieigcaagreatdoor", sum := "12f047c3098f73fd77c2727bbef703df28561769c6a73776ee6e52b54cb9ddaa", func := "splicery/splicerylaw24.TouchOf", spec := "touchOf", unfollowed := true, recurses := true, named := ["splicery/eval.numbers"], plainKeys := false, apart := false, laid := [("splicery/eval.numbers", laid_splicery_eval_numbers)] }
def TouchOfSaid : Prop := touchOfRow.holds Tryz.pinned (OpenSpec.ofChange touchOfSpec)

/-- ITS FALSE NEIGHBOUR: 'it returns false'. Refute it at one input. -/
def touchOfWrong : ChangeSpec := { name := "touchOf", fn := fun _ => fun
  | [d1, d2, d3, d4, d5] => { results := [.lit (.bool false)], args := [d1, d2, d3, d4, d5] }
  | _ => none }
def TouchOfWrongFalsely : Prop := touchOfRow.holds Tryz.pinned (OpenSpec.ofChange touchOfWrong)

/-- 'splicerylaw24.TouchAgain': WHATEVER THE INPUT: true; the input reads as it did. -/
def touchAgainSpec : ChangeSpec := { name := "touchAgain", fn := fun _ => fun
  | [d1, d2, d3, d4, d5] => { results := [.lit (.bool true)], args := [d1, d2, d3, d4, d5] }
  | _ => none }
def touchAgainRow : OpenClaim := { program := "ytolkhapmieigcaagreatdoor", sum := "12f047c3098f73fd77c2727bbef703df28561769c6a73776ee6e52b54cb9ddaa", func := "splicery/splicerylaw24.TouchAgain", spec := "touchAgain", unfollowed := true, recurses := true, named := ["splicery/eval.numbers"], plainKeys := false, apart := false, laid := [("splicery/eval.numbers", laid_splicery_eval_numbers)] }
def TouchAgainSaid : Prop := touchAgainRow.holds Tryz.pinned (OpenSpec.ofChange touchAgainSpec)

/-- ITS FALSE NEIGHBOUR: 'it returns false'. Refute it at one input. -/
def touchAgainWrong : ChangeSpec := { name := "touchAgain", fn := fun _ => fun
  | [d1, d2, d3, d4, d5] => { results := [.lit (.bool false)], args := [d1, d2, d3, d4, d5] }
  | _ => none }
def TouchAgainWrongFalsely : Prop := touchAgainRow.holds Tryz.pinned (OpenSpec.ofChange touchAgainWrong)

/-- 'splicerylaw24.TouchSides': WHATEVER THE INPUT: true; the input reads as it did. -/
def touchSidesSpec : ChangeSpec := { name := "touchSides", fn := fun _ => fun
  | [d1, d2, d3, d4] => { results := [.lit (.bool true)], args := [d1, d2, d3, d4] }
  | _ => none }
def touchSidesRow : OpenClaim := { program := "ytolkhapmieigcaagreatdoor", sum := "12f047c3098f73fd77c2727bbef703df28561769c6a73776ee6e52b54cb9ddaa", func := "splicery/splicerylaw24.TouchSides", spec := "touchSides", unfollowed := true, recurses := true, named := ["splicery/eval.numbers"], plainKeys := false, apart := false, laid := [("splicery/eval.numbers", laid_splicery_eval_numbers)] }
def TouchSidesSaid : Prop := touchSidesRow.holds Tryz.pinned (OpenSpec.ofChange touchSidesSpec)

/-- ITS FALSE NEIGHBOUR: 'it returns false'. Refute it at one input. -/
def touchSidesWrong : ChangeSpec := { name := "touchSides", fn := fun _ => fun
  | [d1, d2, d3, d4] => { results := [.lit (.bool false)], args := [d1, d2, d3, d4] }
  | _ => none }
def TouchSidesWrongFalsely : Prop := touchSidesRow.holds Tryz.pinned (OpenSpec.ofChange touchSidesWrong)

/-- 'splicerylaw24.TouchNames': WHATEVER THE INPUT: true; the input reads as it did. -/
def touchNamesSpec : ChangeSpec := { name := "touchNames", fn := fun _ => fun
  | [d1, d2] => { results := [.lit (.bool true)], args := [d1, d2] }
  | _ => none }
def touchNamesRow : OpenClaim := { program := "ytolkhapmieigcaagreatdoor", sum := "12f047c3098f73fd77c2727bbef703df28561769c6a73776ee6e52b54cb9ddaa", func := "splicery/splicerylaw24.TouchNames", spec := "touchNames", unfollowed := true, recurses := true, named := ["splicery/eval.numbers"], plainKeys := false, apart := false, laid := [("splicery/eval.numbers", laid_splicery_eval_numbers)] }
def TouchNamesSaid : Prop := touchNamesRow.holds Tryz.pinned (OpenSpec.ofChange touchNamesSpec)

/-- ITS FALSE NEIGHBOUR: 'it returns false'. Refute it at one input. -/
def touchNamesWrong : ChangeSpec := { name := "touchNames", fn := fun _ => fun
  | [d1, d2] => { results := [.lit (.bool false)], args := [d1, d2] }
  | _ => none }
def TouchNamesWrongFalsely : Prop := touchNamesRow.holds Tryz.pinned (OpenSpec.ofChange touchNamesWrong)

/-- 'splicerylaw24.TouchOwn': WHATEVER THE INPUT: true; the input reads as it did. -/
def touchOwnSpec : ChangeSpec := { name := "touchOwn", fn := fun _ => fun
  | [d1, d2, d3] => { results := [.lit (.bool true)], args := [d1, d2, d3] }
  | _ => none }
def touchOwnRow : OpenClaim := { program := "ytolkhapmieigcaagreatdoor", sum := "12f047c3098f73fd77c2727bbef703df28561769c6a73776ee6e52b54cb9ddaa", func := "splicery/splicerylaw24.TouchOwn", spec := "touchOwn", unfollowed := true, recurses := true, named := ["splicery/eval.numbers"], plainKeys := false, apart := false, laid := [("splicery/eval.numbers", laid_splicery_eval_numbers)] }
def TouchOwnSaid : Prop := touchOwnRow.holds Tryz.pinned (OpenSpec.ofChange touchOwnSpec)

/-- ITS FALSE NEIGHBOUR: 'it returns false'. Refute it at one input. -/
def touchOwnWrong : ChangeSpec := { name := "touchOwn", fn := fun _ => fun
  | [d1, d2, d3] => { results := [.lit (.bool false)], args := [d1, d2, d3] }
  | _ => none }
def TouchOwnWrongFalsely : Prop := touchOwnRow.holds Tryz.pinned (OpenSpec.ofChange touchOwnWrong)

/-- 'splicerylaw24.TouchUntouched': WHATEVER THE INPUT: true; the input reads as it did. -/
def touchUntouchedSpec : ChangeSpec := { name := "touchUntouched", fn := fun _ => fun
  | [d1, d2, d3, d4] => { results := [.lit (.bool true)], args := [d1, d2, d3, d4] }
  | _ => none }
def touchUntouchedRow : OpenClaim := { program := "ytolkhapmieigcaagreatdoor", sum := "12f047c3098f73fd77c2727bbef703df28561769c6a73776ee6e52b54cb9ddaa", func := "splicery/splicerylaw24.TouchUntouched", spec := "touchUntouched", unfollowed := true, recurses := true, named := ["splicery/eval.numbers"], plainKeys := false, apart := false, laid := [("splicery/eval.numbers", laid_splicery_eval_numbers)] }
def TouchUntouchedSaid : Prop := touchUntouchedRow.holds Tryz.pinned (OpenSpec.ofChange touchUntouchedSpec)

/-- ITS FALSE NEIGHBOUR: 'it returns false'. Refute it at one input. -/
def touchUntouchedWrong : ChangeSpec := { name := "touchUntouched", fn := fun _ => fun
  | [d1, d2, d3, d4] => { results := [.lit (.bool false)], args := [d1, d2, d3, d4] }
  | _ => none }
def TouchUntouchedWrongFalsely : Prop := touchUntouchedRow.holds Tryz.pinned (OpenSpec.ofChange touchUntouchedWrong)

/- THE SECOND FORM. 'bulk': how many values and letters a reading holds, each counted each time it is reached (what is shared counts as often as it is met; a slice's spare places count too). A statement '..UptoSaid' is the law's where the arguments, and the package variables that the reading takes, are together of bulk at most 1048576: NARROWER than '..Said'. Prove '..Said' where nothing that the law and all that it calls make is longer than what came in: it says more and counts as full. Else prove '..UptoSaid'. A law counts once. -/
mutual
def uptoBulk {H : Type} : DataW H → Nat
  | .lit (.string bytes) => bytes.length + 1
  | .lit _ => 1
  | .nil => 1
  | .ptr d => uptoBulk d + 1
  | .slice elems spare => uptoBulkAll elems + uptoBulkAll spare + 1
  | .agg parts => uptoBulkAll parts + 1
  | .iface _ d => uptoBulk d + 1
  | .map entries => uptoBulkEntries entries + 1
  | .held _ => 1
def uptoBulkAll {H : Type} : List (DataW H) → Nat
  | [] => 0
  | d :: r => uptoBulk d + uptoBulkAll r
def uptoBulkEntries {H : Type} : List (Lit × DataW H) → Nat
  | [] => 0
  | x :: r => uptoBulkEntry x + uptoBulkEntries r
def uptoBulkEntry {H : Type} : Lit × DataW H → Nat
  | (.string bytes, d) => bytes.length + uptoBulk d + 1
  | (_, d) => uptoBulk d + 1
 end
def uptoSmall : (H : Type) → List (DataW H) → Bool := fun _ ds => decide (uptoBulkAll ds ≤ 1048576)
def OpenSpec.upto (s : _root_.Go.ChangeSpec) : _root_.Go.OpenSpec := { _root_.Go.OpenSpec.ofChange s with cond := some uptoSmall }

/-- 'splicerylaw24.TouchTraces', WHERE WHAT IT READS IS OF BULK AT MOST 1048576: true; the input reads as it did. -/
def touchTracesUptoRow : OpenClaim := { program := "ytolkhapmieigcaagreatdoor", sum := "12f047c3098f73fd77c2727bbef703df28561769c6a73776ee6e52b54cb9ddaa", func := "splicery/splicerylaw24.TouchTraces", spec := "touchTraces", unfollowed := true, recurses := true, named := ["splicery/eval.numbers"], plainKeys := false, apart := false, laid := [("splicery/eval.numbers", laid_splicery_eval_numbers)], narrowed := true }
def TouchTracesUptoSaid : Prop := touchTracesUptoRow.holds Tryz.pinned (OpenSpec.upto touchTracesSpec)

/-- 'splicerylaw24.TouchOf', WHERE WHAT IT READS IS OF BULK AT MOST 1048576: true; the input reads as it did. -/
def touchOfUptoRow : OpenClaim := { program := "ytolkhapmieigcaagreatdoor", sum := "12f047c3098f73fd77c2727bbef703df28561769c6a73776ee6e52b54cb9ddaa", func := "splicery/splicerylaw24.TouchOf", spec := "touchOf", unfollowed := true, recurses := true, named := ["splicery/eval.numbers"], plainKeys := false, apart := false, laid := [("splicery/eval.numbers", laid_splicery_eval_numbers)], narrowed := true }
def TouchOfUptoSaid : Prop := touchOfUptoRow.holds Tryz.pinned (OpenSpec.upto touchOfSpec)

/-- 'splicerylaw24.TouchAgain', WHERE WHAT IT READS IS OF BULK AT MOST 1048576: true; the input reads as it did. -/
def touchAgainUptoRow : OpenClaim := { program := "ytolkhapmieigcaagreatdoor", sum := "12f047c3098f73fd77c2727bbef703df28561769c6a73776ee6e52b54cb9ddaa", func := "splicery/splicerylaw24.TouchAgain", spec := "touchAgain", unfollowed := true, recurses := true, named := ["splicery/eval.numbers"], plainKeys := false, apart := false, laid := [("splicery/eval.numbers", laid_splicery_eval_numbers)], narrowed := true }
def TouchAgainUptoSaid : Prop := touchAgainUptoRow.holds Tryz.pinned (OpenSpec.upto touchAgainSpec)

/-- 'splicerylaw24.TouchSides', WHERE WHAT IT READS IS OF BULK AT MOST 1048576: true; the input reads as it did. -/
def touchSidesUptoRow : OpenClaim := { program := "ytolkhapmieigcaagreatdoor", sum := "12f047c3098f73fd77c2727bbef703df28561769c6a73776ee6e52b54cb9ddaa", func := "splicery/splicerylaw24.TouchSides", spec := "touchSides", unfollowed := true, recurses := true, named := ["splicery/eval.numbers"], plainKeys := false, apart := false, laid := [("splicery/eval.numbers", laid_splicery_eval_numbers)], narrowed := true }
def TouchSidesUptoSaid : Prop := touchSidesUptoRow.holds Tryz.pinned (OpenSpec.upto touchSidesSpec)

/-- 'splicerylaw24.TouchNames', WHERE WHAT IT READS IS OF BULK AT MOST 1048576: true; the input reads as it did. -/
def touchNamesUptoRow : OpenClaim := { program := "ytolkhapmieigcaagreatdoor", sum := "12f047c3098f73fd77c2727bbef703df28561769c6a73776ee6e52b54cb9ddaa", func := "splicery/splicerylaw24.TouchNames", spec := "touchNames", unfollowed := true, recurses := true, named := ["splicery/eval.numbers"], plainKeys := false, apart := false, laid := [("splicery/eval.numbers", laid_splicery_eval_numbers)], narrowed := true }
def TouchNamesUptoSaid : Prop := touchNamesUptoRow.holds Tryz.pinned (OpenSpec.upto touchNamesSpec)

/-- 'splicerylaw24.TouchOwn', WHERE WHAT IT READS IS OF BULK AT MOST 1048576: true; the input reads as it did. -/
def touchOwnUptoRow : OpenClaim := { program := "ytolkhapmieigcaagreatdoor", sum := "12f047c3098f73fd77c2727bbef703df28561769c6a73776ee6e52b54cb9ddaa", func := "splicery/splicerylaw24.TouchOwn", spec := "touchOwn", unfollowed := true, recurses := true, named := ["splicery/eval.numbers"], plainKeys := false, apart := false, laid := [("splicery/eval.numbers", laid_splicery_eval_numbers)], narrowed := true }
def TouchOwnUptoSaid : Prop := touchOwnUptoRow.holds Tryz.pinned (OpenSpec.upto touchOwnSpec)

/-- 'splicerylaw24.TouchUntouched', WHERE WHAT IT READS IS OF BULK AT MOST 1048576: true; the input reads as it did. -/
def touchUntouchedUptoRow : OpenClaim := { program := "ytolkhapmieigcaagreatdoor", sum := "12f047c3098f73fd77c2727bbef703df28561769c6a73776ee6e52b54cb9ddaa", func := "splicery/splicerylaw24.TouchUntouched", spec := "touchUntouched", unfollowed := true, recurses := true, named := ["splicery/eval.numbers"], plainKeys := false, apart := false, laid := [("splicery/eval.numbers", laid_splicery_eval_numbers)], narrowed := true }
def TouchUntouchedUptoSaid : Prop := touchUntouchedUptoRow.holds Tryz.pinned (OpenSpec.upto touchUntouchedSpec)

end Rows
end Go.Proofs.YtolkhapmieigcaaGreatDoor
