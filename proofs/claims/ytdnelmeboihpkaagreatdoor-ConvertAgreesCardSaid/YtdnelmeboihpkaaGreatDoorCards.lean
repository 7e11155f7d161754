/-
  DERIVED. GIVEN WITH THE SEED: THE CARDS: each row of YtdnelmeboihpkaaGreatDoorRows.lean that lists a variable, with what it lists TIED to the program's text (the seventh form; the later family's looks); each row that meets fmt, with fmt's text TOLD by the authors' own Lean function (tested against real Go, not proved from fmt's source: count such statements apart). THE CARD IS WHAT COUNTS. Prove the row's statement (the work); the ties are given (YtdnelmeboihpkaaGreatDoorTie.lean); close each card by the builder's one call (the guide's Derived/Test/ToyasCard.lean, 'card_holds'). Laid BY PROGRAM, IN A SANDBOX (cutbox-door.mjs). By AI agents, Wed Nov 11 2026. No macro, syntax, notation, axiom, sorry.
-/
import Derived.Test.YtdnelmeboihpkaaGreatDoorRows
import GoSem.ClaimSeven
namespace Go.Proofs.YtdnelmeboihpkaaGreatDoor
namespace Rows

/-- THE TIED CARD OF 'splicerylaw28.ConvertAlongs'. -/
def convertAlongsCard : Claim7 := { stood := { row := convertAlongsRow, standIns := [], harness := (true, "640d00fee850941c98124fa9dec30265ac8f5269afdf773ec7a2a7e47d09e858"), looks := true }, kinds := [], alts := [], laidByText := true, laidKinds := [.funcs], laidTests := true, laidLooks := .later }
def ConvertAlongsCardSaid : Prop := Claim7.holds Tryz.pinned (.plain (OpenSpec.ofChange convertAlongsSpec)) convertAlongsCard

/-- THE TIED CARD OF 'splicerylaw28.ConvertPaths'. -/
def convertPathsCard : Claim7 := { stood := { row := convertPathsRow, standIns := [], harness := (true, "640d00fee850941c98124fa9dec30265ac8f5269afdf773ec7a2a7e47d09e858"), looks := true }, kinds := [], alts := [], laidByText := true, laidKinds := [.funcs], laidTests := true, laidLooks := .later }
def ConvertPathsCardSaid : Prop := Claim7.holds Tryz.pinned (.plain (OpenSpec.ofChange convertPathsSpec)) convertPathsCard

/-- THE TIED CARD OF 'splicerylaw28.ConvertAgrees'. -/
def convertAgreesCard : Claim7 := { stood := { row := convertAgreesRow, standIns := [], harness := (true, "640d00fee850941c98124fa9dec30265ac8f5269afdf773ec7a2a7e47d09e858"), looks := true }, kinds := [], alts := [], laidByText := true, laidKinds := [.funcs], laidTests := true, laidLooks := .later }
def ConvertAgreesCardSaid : Prop := Claim7.holds Tryz.pinned (.plain (OpenSpec.ofChange convertAgreesSpec)) convertAgreesCard

/-- THE TIED CARD OF 'splicerylaw28.ConvertComposes'. -/
def convertComposesCard : Claim7 := { stood := { row := convertComposesRow, standIns := [], harness := (true, "640d00fee850941c98124fa9dec30265ac8f5269afdf773ec7a2a7e47d09e858"), looks := true }, kinds := [], alts := [], laidByText := true, laidKinds := [.funcs], laidTests := true, laidLooks := .later }
def ConvertComposesCardSaid : Prop := Claim7.holds Tryz.pinned (.plain (OpenSpec.ofChange convertComposesSpec)) convertComposesCard

/-- THE TIED CARD OF 'splicerylaw28.ConvertWays'. -/
def convertWaysCard : Claim7 := { stood := { row := convertWaysRow, standIns := [], harness := (true, "640d00fee850941c98124fa9dec30265ac8f5269afdf773ec7a2a7e47d09e858"), looks := true }, kinds := [], alts := [], laidByText := true, laidKinds := [.funcs], laidTests := true, laidLooks := .later }
def ConvertWaysCardSaid : Prop := Claim7.holds Tryz.pinned (.plain (OpenSpec.ofChange convertWaysSpec)) convertWaysCard

/-- THE TIED CARD OF 'splicerylaw28.ConvertSure'. -/
def convertSureCard : Claim7 := { stood := { row := convertSureRow, standIns := [], harness := (true, "640d00fee850941c98124fa9dec30265ac8f5269afdf773ec7a2a7e47d09e858"), looks := true }, kinds := [], alts := [], laidByText := true, laidKinds := [.funcs], laidTests := true, laidLooks := .later }
def ConvertSureCardSaid : Prop := Claim7.holds Tryz.pinned (.plain (OpenSpec.ofChange convertSureSpec)) convertSureCard

/-- THE TIED CARD OF 'splicerylaw28.ConvertFields'. -/
def convertFieldsCard : Claim7 := { stood := { row := convertFieldsRow, standIns := [], harness := (true, "640d00fee850941c98124fa9dec30265ac8f5269afdf773ec7a2a7e47d09e858"), looks := true }, kinds := [], alts := [], laidByText := true, laidKinds := [.funcs], laidTests := true, laidLooks := .later }
def ConvertFieldsCardSaid : Prop := Claim7.holds Tryz.pinned (.plain (OpenSpec.ofChange convertFieldsSpec)) convertFieldsCard

/-- THE SECOND FORM's CARD OF 'splicerylaw28.ConvertAlongs'. -/
def convertAlongsUptoCard : Claim7 := { stood := { row := convertAlongsUptoRow, standIns := [], harness := (true, "640d00fee850941c98124fa9dec30265ac8f5269afdf773ec7a2a7e47d09e858"), looks := true }, kinds := [], alts := [], laidByText := true, laidKinds := [.funcs], laidTests := true, laidLooks := .later }
def ConvertAlongsUptoCardSaid : Prop := Claim7.holds Tryz.pinned (.plain (OpenSpec.upto convertAlongsSpec)) convertAlongsUptoCard

/-- THE SECOND FORM's CARD OF 'splicerylaw28.ConvertPaths'. -/
def convertPathsUptoCard : Claim7 := { stood := { row := convertPathsUptoRow, standIns := [], harness := (true, "640d00fee850941c98124fa9dec30265ac8f5269afdf773ec7a2a7e47d09e858"), looks := true }, kinds := [], alts := [], laidByText := true, laidKinds := [.funcs], laidTests := true, laidLooks := .later }
def ConvertPathsUptoCardSaid : Prop := Claim7.holds Tryz.pinned (.plain (OpenSpec.upto convertPathsSpec)) convertPathsUptoCard

/-- THE SECOND FORM's CARD OF 'splicerylaw28.ConvertAgrees'. -/
def convertAgreesUptoCard : Claim7 := { stood := { row := convertAgreesUptoRow, standIns := [], harness := (true, "640d00fee850941c98124fa9dec30265ac8f5269afdf773ec7a2a7e47d09e858"), looks := true }, kinds := [], alts := [], laidByText := true, laidKinds := [.funcs], laidTests := true, laidLooks := .later }
def ConvertAgreesUptoCardSaid : Prop := Claim7.holds Tryz.pinned (.plain (OpenSpec.upto convertAgreesSpec)) convertAgreesUptoCard

/-- THE SECOND FORM's CARD OF 'splicerylaw28.ConvertComposes'. -/
def convertComposesUptoCard : Claim7 := { stood := { row := convertComposesUptoRow, standIns := [], harness := (true, "640d00fee850941c98124fa9dec30265ac8f5269afdf773ec7a2a7e47d09e858"), looks := true }, kinds := [], alts := [], laidByText := true, laidKinds := [.funcs], laidTests := true, laidLooks := .later }
def ConvertComposesUptoCardSaid : Prop := Claim7.holds Tryz.pinned (.plain (OpenSpec.upto convertComposesSpec)) convertComposesUptoCard

/-- THE SECOND FORM's CARD OF 'splicerylaw28.ConvertWays'. -/
def convertWaysUptoCard : Claim7 := { stood := { row := convertWaysUptoRow, standIns := [], harness := (true, "640d00fee850941c98124fa9dec30265ac8f5269afdf773ec7a2a7e47d09e858"), looks := true }, kinds := [], alts := [], laidByText := true, laidKinds := [.funcs], laidTests := true, laidLooks := .later }
def ConvertWaysUptoCardSaid : Prop := Claim7.holds Tryz.pinned (.plain (OpenSpec.upto convertWaysSpec)) convertWaysUptoCard

/-- THE SECOND FORM's CARD OF 'splicerylaw28.ConvertSure'. -/
def convertSureUptoCard : Claim7 := { stood := { row := convertSureUptoRow, standIns := [], harness := (true, "640d00fee850941c98124fa9dec30265ac8f5269afdf773ec7a2a7e47d09e858"), looks := true }, kinds := [], alts := [], laidByText := true, laidKinds := [.funcs], laidTests := true, laidLooks := .later }
def ConvertSureUptoCardSaid : Prop := Claim7.holds Tryz.pinned (.plain (OpenSpec.upto convertSureSpec)) convertSureUptoCard

/-- THE SECOND FORM's CARD OF 'splicerylaw28.ConvertFields'. -/
def convertFieldsUptoCard : Claim7 := { stood := { row := convertFieldsUptoRow, standIns := [], harness := (true, "640d00fee850941c98124fa9dec30265ac8f5269afdf773ec7a2a7e47d09e858"), looks := true }, kinds := [], alts := [], laidByText := true, laidKinds := [.funcs], laidTests := true, laidLooks := .later }
def ConvertFieldsUptoCardSaid : Prop := Claim7.holds Tryz.pinned (.plain (OpenSpec.upto convertFieldsSpec)) convertFieldsUptoCard
end Rows
end Go.Proofs.YtdnelmeboihpkaaGreatDoor
