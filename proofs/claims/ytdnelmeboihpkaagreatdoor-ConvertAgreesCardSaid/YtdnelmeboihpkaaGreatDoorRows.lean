/-
  NARROWER THAN 'FOR EVERY INPUT', by the rows' own cells (each row's printed sentence says how): ConvertAlongs: laid · ConvertPaths: laid · ConvertAgrees: laid · ConvertComposes: laid · ConvertWays: laid · ConvertSure: laid · ConvertFields: laid.
  DERIVED. THE GIVEN ROWS OF THIS SEAT. 7 by the template 'for every input the law returns true; each argument reads behind the call as it read before'; 0 by the template 'total and deterministic' (their statements: YtdnelmeboihpkaaGreatDoorTotals.lean).
  GIVEN WITH THE SEED: the statements are not yours to turn. If you find one false, say at which input.
  Laid BY PROGRAM, IN A SANDBOX (cutbox-rows.mjs): the forced cells as the released guide's own fill.sh prints them over the translation bac18a3ea65d0cf9… (all of the seat's roots in one cut). By AI agents, Wed Nov 11 2026. No macro, syntax, notation, axiom, sorry.
-/
import Derived.Test.YtdnelmeboihpkaaGreatDoorChecked
import GoSem.Claim
import GoSem.ClaimJoined
import GoSem.ClaimMapViews
import Derived.JoinedTies
import Derived.KernelRfl
namespace Go.Proofs.YtdnelmeboihpkaaGreatDoor
/- THE CELL 'sum', in the pinned program and in every row, IS THE sha256 OF THE DUMP (.gsa) THAT YtdnelmeboihpkaaGreatDoorProg.lean LOADS. Nothing in Lean hashes anything: it is a label: what it is worth is what the hold of that sum in a sandbox is worth. -/
noncomputable def Tryz.pinned : Pinned := { name := "ytdnelmeboihpkaagreatdoor", sum := "bac18a3ea65d0cf95dc125505b47b96aa375cd96bdce6aab41ad3ceebbf71111", checked := Tryz.checked }
namespace Rows
def none {H : Type} : Left H := { results := [], args := [] }

/- WHAT THE LISTED PACKAGE-LEVEL VARIABLES READ AS WHEN THE CALL BEGINS. Each datum BY PROGRAM (the guide's laid-datum.mjs) off the statement by which the dump's own 'gosem.cut.vars' lays the variable. In a bare row this is a premise. The card (YtdnelmeboihpkaaGreatDoorCards.lean) ties it to the program's text. -/
def laid_splicery_eval_numbers {H : Type} : DataW H := .iface "func table" (.agg [.iface "func" (.lit (.string [115, 112, 108, 105, 99, 101, 114, 121, 47, 101, 118, 97, 108, 46, 110, 117, 109, 98, 101, 114, 115, 36, 49])), .iface "func" (.lit (.string [115, 112, 108, 105, 99, 101, 114, 121, 47, 101, 118, 97, 108, 46, 110, 117, 109, 98, 101, 114, 115, 36, 50])), .iface "func" (.lit (.string [115, 112, 108, 105, 99, 101, 114, 121, 47, 101, 118, 97, 108, 46, 116, 105, 109, 101, 115])), .iface "func" (.lit (.string [115, 112, 108, 105, 99, 101, 114, 121, 47, 101, 118, 97, 108, 46, 100, 105, 118, 105, 100, 101])), .iface "func" (.lit (.string [115, 112, 108, 105, 99, 101, 114, 121, 47, 101, 118, 97, 108, 46, 114, 101, 115, 116]))])

/-- 'splicerylaw28.ConvertAlongs': WHATEVER THE INPUT: true; the input reads as it did. -/
def convertAlongsSpec : ChangeSpec := { name := "convertAlongs", fn := fun _ => fun
  | [d1, d2, d3, d4, d5, d6] => { results := [.lit (.bool true)], args := [d1, d2, d3, d4, d5, d6] }
  | _ => none }
def convertAlongsRow : OpenClaim := { program := "ytdnelmeboihpkaagreatdoor", sum := "bac18a3ea65d0cf95dc125505b47b96aa375cd96bdce6aab41ad3ceebbf71111", func := "splicery/splicerylaw28.ConvertAlongs", spec := "convertAlongs", unfollowed := true, recurses := true, named := ["splicery/eval.numbers"], plainKeys := false, apart := false, laid := [("splicery/eval.numbers", laid_splicery_eval_numbers)] }
def ConvertAlongsSaid : Prop := convertAlongsRow.holds Tryz.pinned (OpenSpec.ofChange convertAlongsSpec)

/-- ITS FALSE NEIGHBOUR: 'it returns false'. Refute it at one input. -/
def convertAlongsWrong : ChangeSpec := { name := "convertAlongs", fn := fun _ => fun
  | [d1, d2, d3, d4, d5, d6] => { results := [.lit (.bool false)], args := [d1, d2, d3, d4, d5, d6] }
  | _ => none }
def ConvertAlongsWrongFalsely : Prop := convertAlongsRow.holds Tryz.pinned (OpenSpec.ofChange convertAlongsWrong)

/-- 'splicerylaw28.ConvertPaths': WHATEVER THE INPUT: true; the input reads as it did. -/
def convertPathsSpec : ChangeSpec := { name := "convertPaths", fn := fun _ => fun
  | [d1, d2, d3] => { results := [.lit (.bool true)], args := [d1, d2, d3] }
  | _ => none }
def convertPathsRow : OpenClaim := { program := "ytdnelmeboihpkaagreatdoor", sum := "bac18a3ea65d0cf95dc125505b47b96aa375cd96bdce6aab41ad3ceebbf71111", func := "splicery/splicerylaw28.ConvertPaths", spec := "convertPaths", unfollowed := true, recurses := true, named := ["splicery/eval.numbers"], plainKeys := false, apart := false, laid := [("splicery/eval.numbers", laid_splicery_eval_numbers)] }
def ConvertPathsSaid : Prop := convertPathsRow.holds Tryz.pinned (OpenSpec.ofChange convertPathsSpec)

/-- ITS FALSE NEIGHBOUR: 'it returns false'. Refute it at one input. -/
def convertPathsWrong : ChangeSpec := { name := "convertPaths", fn := fun _ => fun
  | [d1, d2, d3] => { results := [.lit (.bool false)], args := [d1, d2, d3] }
  | _ => none }
def ConvertPathsWrongFalsely : Prop := convertPathsRow.holds Tryz.pinned (OpenSpec.ofChange convertPathsWrong)

/-- 'splicerylaw28.ConvertAgrees': WHATEVER THE INPUT: true; the input reads as it did. -/
def convertAgreesSpec : ChangeSpec := { name := "convertAgrees", fn := fun _ => fun
  | [d1, d2, d3, d4, d5, d6] => { results := [.lit (.bool true)], args := [d1, d2, d3, d4, d5, d6] }
  | _ => none }
def convertAgreesRow : OpenClaim := { program := "ytdnelmeboihpkaagreatdoor", sum := "bac18a3ea65d0cf95dc125505b47b96aa375cd96bdce6aab41ad3ceebbf71111", func := "splicery/splicerylaw28.ConvertAgrees", spec := "convertAgrees", unfollowed := true, recurses := true, named := ["splicery/eval.numbers"], plainKeys := false, apart := false, laid := [("splicery/eval.numbers", laid_splicery_eval_numbers)] }
def ConvertAgreesSaid : Prop := convertAgreesRow.holds Tryz.pinned (OpenSpec.ofChange convertAgreesSpec)

/-- ITS FALSE NEIGHBOUR: 'it returns false'. Refute it at one input. -/
def convertAgreesWrong : ChangeSpec := { name := "convertAgrees", fn := fun _ => fun
  | [d1, d2, d3, d4, d5, d6] => { results := [.lit (.bool false)], args := [d1, d2, d3, d4, d5, d6] }
  | _ => none }
def ConvertAgreesWrongFalsely : Prop := convertAgreesRow.holds Tryz.pinned (OpenSpec.ofChange convertAgreesWrong)

/-- 'splicerylaw28.ConvertComposes': WHATEVER THE INPUT: true; the input reads as it did. -/
def convertComposesSpec : ChangeSpec := { name := "convertComposes", fn := fun _ => fun
  | [d1, d2, d3, d4] => { results := [.lit (.bool true)], args := [d1, d2, d3, d4] }
  | _ => none }
def convertComposesRow : OpenClaim := { program := "ytdnelmeboihpkaagreatdoor", sum := "bac18a3ea65d0cf95dc125505b47b96aa375cd96bdce6aab41ad3ceebbf71111", func := "splicery/splicerylaw28.ConvertComposes", spec := "convertComposes", unfollowed := true, recurses := true, named := ["splicery/eval.numbers"], plainKeys := false, apart := false, laid := [("splicery/eval.numbers", laid_splicery_eval_numbers)] }
def ConvertComposesSaid : Prop := convertComposesRow.holds Tryz.pinned (OpenSpec.ofChange convertComposesSpec)

/-- ITS FALSE NEIGHBOUR: 'it returns false'. Refute it at one input. -/
def convertComposesWrong : ChangeSpec := { name := "convertComposes", fn := fun _ => fun
  | [d1, d2, d3, d4] => { results := [.lit (.bool false)], args := [d1, d2, d3, d4] }
  | _ => none }
def ConvertComposesWrongFalsely : Prop := convertComposesRow.holds Tryz.pinned (OpenSpec.ofChange convertComposesWrong)

/-- 'splicerylaw28.ConvertWays': WHATEVER THE INPUT: true; the input reads as it did. -/
def convertWaysSpec : ChangeSpec := { name := "convertWays", fn := fun _ => fun
  | [d1, d2, d3, d4] => { results := [.lit (.bool true)], args := [d1, d2, d3, d4] }
  | _ => none }
def convertWaysRow : OpenClaim := { program := "ytdnelmeboihpkaagreatdoor", sum := "bac18a3ea65d0cf95dc125505b47b96aa375cd96bdce6aab41ad3ceebbf71111", func := "splicery/splicerylaw28.ConvertWays", spec := "convertWays", unfollowed := true, recurses := true, named := ["splicery/eval.numbers"], plainKeys := false, apart := false, laid := [("splicery/eval.numbers", laid_splicery_eval_numbers)] }
def ConvertWaysSaid : Prop := convertWaysRow.holds Tryz.pinned (OpenSpec.ofChange convertWaysSpec)

/-- ITS FALSE NEIGHBOUR: 'it returns false'. Refute it at one input. -/
def convertWaysWrong : ChangeSpec := { name := "convertWays", fn := fun _ => fun
  | [d1, d2, d3, d4] => { results := [.lit (.bool false)], args := [d1, d2, d3, d4] }
  | _ => none }
def ConvertWaysWrongFalsely : Prop := convertWaysRow.holds Tryz.pinned (OpenSpec.ofChange convertWaysWrong)

/-- 'splicerylaw28.ConvertSure': WHATEVER THE INPUT: true; the input reads as it did. -/
def convertSureSpec : ChangeSpec := { name := "convertSure", fn := fun _ => fun
  | [d1, d2, d3, d4, d5] => { results := [.lit (.bool true)], args := [d1, d2, d3, d4, d5] }
  | _ => none }
def convertSureRow : OpenClaim := { program := "ytdnelmeboihpkaagreatdoor", sum := "bac18a3ea65d0cf95dc125505b47b96aa375cd96bdce6aab41ad3ceebbf71111", func := "splicery/splicerylaw28.ConvertSure", spec := "convertSure", unfollowed := true, recurses := true, named := ["splicery/eval.numbers"], plainKeys := false, apart := false, laid := [("splicery/eval.numbers", laid_splicery_eval_numbers)] }
def ConvertSureSaid : Prop := convertSureRow.holds Tryz.pinned (OpenSpec.ofChange convertSureSpec)

/-- ITS FALSE NEIGHBOUR: 'it returns false'. Refute it at one input. -/
def convertSureWrong : ChangeSpec := { name := "convertSure", fn := fun _ => fun
  | [d1, d2, d3, d4, d5] => { results := [.lit (.bool false)], args := [d1, d2, d3, d4, d5] }
  | _ => none }
def ConvertSureWrongFalsely : Prop := convertSureRow.holds Tryz.pinned (OpenSpec.ofChange convertSureWrong)

/-- 'splicerylaw28.ConvertFields': WHATEVER THE INPUT: true; the input reads as it did. -/
def convertFieldsSpec : ChangeSpec := { name := "convertFields", fn := fun _ => fun
  | [d1, d2, d3] => { results := [.lit (.bool true)], args := [d1, d2, d3] }
  | _ => none }
def convertFieldsRow : OpenClaim := { program := "ytdnelmeboihpkaagreatdoor", sum := "bac18a3ea65d0cf95dc125505b47b96aa375cd96bdce6aab41ad3ceebbf71111", func := "splicery/splicerylaw28.ConvertFields", spec := "convertFields", unfollowed := true, recurses := true, named := ["splicery/eval.numbers"], plainKeys := false, apart := false, laid := [("splicery/eval.numbers", laid_splicery_eval_numbers)] }
def ConvertFieldsSaid : Prop := convertFieldsRow.holds Tryz.pinned (OpenSpec.ofChange convertFieldsSpec)

/-- ITS FALSE NEIGHBOUR: 'it returns false'. Refute it at one input. -/
def convertFieldsWrong : ChangeSpec := { name := "convertFields", fn := fun _ => fun
  | [d1, d2, d3] => { results := [.lit (.bool false)], args := [d1, d2, d3] }
  | _ => none }
def ConvertFieldsWrongFalsely : Prop := convertFieldsRow.holds Tryz.pinned (OpenSpec.ofChange convertFieldsWrong)

/- THE SECOND FORM. 'bulk': how many values and letters a reading holds, each counted each time it is reached (what is shared counts as often as it is met; a slice's spare places count too). A statement '..UptoSaid' is the law's where the arguments, and the package variables that the reading takes, are together of bulk at most 1048576: NARROWER than '..Said'. Prove '..Said' where nothing that the law and all that it calls make is longer than what came in: it says more and counts as full. Else prove '..UptoSaid'. A law counts once. -/
mutual
def uptoBulk {H : Type} : DataW H → Nat
  | .lit (.string bytes) => bytes.length + 1
  | .lit _ => 1
  | .nil => 1
  | .ptr d => uptoBulk d + 1
  | .slice elems spare => uptoBulkAll elems + uptoBulkAll spare + 1
  | .agg parts => uptoBulkAll parts + 1
  | .iface _ d => uptoBulk d + 1
  | .map entries => uptoBulkEntries entries + 1
  | .held _ => 1
def uptoBulkAll {H : Type} : List (DataW H) → Nat
  | [] => 0
  | d :: r => uptoBulk d + uptoBulkAll r
def uptoBulkEntries {H : Type} : List (Lit × DataW H) → Nat
  | [] => 0
  | x :: r => uptoBulkEntry x + uptoBulkEntries r
def uptoBulkEntry {H : Type} : Lit × DataW H → Nat
  | (.string bytes, d) => bytes.length + uptoBulk d + 1
  | (_, d) => uptoBulk d + 1
 end
def uptoSmall : (H : Type) → List (DataW H) → Bool := fun _ ds => decide (uptoBulkAll ds ≤ 1048576)
def OpenSpec.upto (s : _root_.Go.ChangeSpec) : _root_.Go.OpenSpec := { _root_.Go.OpenSpec.ofChange s with cond := some uptoSmall }

/-- 'splicerylaw28.ConvertAlongs', WHERE WHAT IT READS IS OF BULK AT MOST 1048576: true; the input reads as it did. -/
def convertAlongsUptoRow : OpenClaim := { program := "ytdnelmeboihpkaagreatdoor", sum := "bac18a3ea65d0cf95dc125505b47b96aa375cd96bdce6aab41ad3ceebbf71111", func := "splicery/splicerylaw28.ConvertAlongs", spec := "convertAlongs", unfollowed := true, recurses := true, named := ["splicery/eval.numbers"], plainKeys := false, apart := false, laid := [("splicery/eval.numbers", laid_splicery_eval_numbers)], narrowed := true }
def ConvertAlongsUptoSaid : Prop := convertAlongsUptoRow.holds Tryz.pinned (OpenSpec.upto convertAlongsSpec)

/-- 'splicerylaw28.ConvertPaths', WHERE WHAT IT READS IS OF BULK AT MOST 1048576: true; the input reads as it did. -/
def convertPathsUptoRow : OpenClaim := { program := "ytdnelmeboihpkaagreatdoor", sum := "bac18a3ea65d0cf95dc125505b47b96aa375cd96bdce6aab41ad3ceebbf71111", func := "splicery/splicerylaw28.ConvertPaths", spec := "convertPaths", unfollowed := true, recurses := true, named := ["splicery/eval.numbers"], plainKeys := false, apart := false, laid := [("splicery/eval.numbers", laid_splicery_eval_numbers)], narrowed := true }
def ConvertPathsUptoSaid : Prop := convertPathsUptoRow.holds Tryz.pinned (OpenSpec.upto convertPathsSpec)

/-- 'splicerylaw28.ConvertAgrees', WHERE WHAT IT READS IS OF BULK AT MOST 1048576: true; the input reads as it did. -/
def convertAgreesUptoRow : OpenClaim := { program := "ytdnelmeboihpkaagreatdoor", sum := "bac18a3ea65d0cf95dc125505b47b96aa375cd96bdce6aab41ad3ceebbf71111", func := "splicery/splicerylaw28.ConvertAgrees", spec := "convertAgrees", unfollowed := true, recurses := true, named := ["splicery/eval.numbers"], plainKeys := false, apart := false, laid := [("splicery/eval.numbers", laid_splicery_eval_numbers)], narrowed := true }
def ConvertAgreesUptoSaid : Prop := convertAgreesUptoRow.holds Tryz.pinned (OpenSpec.upto convertAgreesSpec)

/-- 'splicerylaw28.ConvertComposes', WHERE WHAT IT READS IS OF BULK AT MOST 1048576: true; the input reads as it did. -/
def convertComposesUptoRow : OpenClaim := { program := "ytdnelmeboihpkaagreatdoor", sum := "bac18a3ea65d0cf95dc125505b47b96aa375cd96bdce6aab41ad3ceebbf71111", func := "splicery/splicerylaw28.ConvertComposes", spec := "convertComposes", unfollowed := true, recurses := true, named := ["splicery/eval.numbers"], plainKeys := false, apart := false, laid := [("splicery/eval.numbers", laid_splicery_eval_numbers)], narrowed := true }
def ConvertComposesUptoSaid : Prop := convertComposesUptoRow.holds Tryz.pinned (OpenSpec.upto convertComposesSpec)

/-- 'splicerylaw28.ConvertWays', WHERE WHAT IT READS IS OF BULK AT MOST 1048576: true; the input reads as it did. -/
def convertWaysUptoRow : OpenClaim := { program := "ytdnelmeboihpkaagreatdoor", sum := "bac18a3ea65d0cf95dc125505b47b96aa375cd96bdce6aab41ad3ceebbf71111", func := "splicery/splicerylaw28.ConvertWays", spec := "convertWays", unfollowed := true, recurses := true, named := ["splicery/eval.numbers"], plainKeys := false, apart := false, laid := [("splicery/eval.numbers", laid_splicery_eval_numbers)], narrowed := true }
def ConvertWaysUptoSaid : Prop := convertWaysUptoRow.holds Tryz.pinned (OpenSpec.upto convertWaysSpec)

/-- 'splicerylaw28.ConvertSure', WHERE WHAT IT READS IS OF BULK AT MOST 1048576: true; the input reads as it did. -/
def convertSureUptoRow : OpenClaim := { program := "ytdnelmeboihpkaagreatdoor", sum := "bac18a3ea65d0cf95dc125505b47b96aa375cd96bdce6aab41ad3ceebbf71111", func := "splicery/splicerylaw28.ConvertSure", spec := "convertSure", unfollowed := true, recurses := true, named := ["splicery/eval.numbers"], plainKeys := false, apart := false, laid := [("splicery/eval.numbers", laid_splicery_eval_numbers)], narrowed := true }
def ConvertSureUptoSaid : Prop := convertSureUptoRow.holds Tryz.pinned (OpenSpec.upto convertSureSpec)

/-- 'splicerylaw28.ConvertFields', WHERE WHAT IT READS IS OF BULK AT MOST 1048576: true; the input reads as it did. -/
def convertFieldsUptoRow : OpenClaim := { program := "ytdnelmeboihpkaagreatdoor", sum := "bac18a3ea65d0cf95dc125505b47b96aa375cd96bdce6aab41ad3ceebbf71111", func := "splicery/splicerylaw28.ConvertFields", spec := "convertFields", unfollowed := true, recurses := true, named := ["splicery/eval.numbers"], plainKeys := false, apart := false, laid := [("splicery/eval.numbers", laid_splicery_eval_numbers)], narrowed := true }
def ConvertFieldsUptoSaid : Prop := convertFieldsUptoRow.holds Tryz.pinned (OpenSpec.upto convertFieldsSpec)

end Rows
end Go.Proofs.YtdnelmeboihpkaaGreatDoor
