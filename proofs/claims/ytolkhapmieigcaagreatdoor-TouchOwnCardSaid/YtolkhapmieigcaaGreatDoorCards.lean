/-
  DERIVED. GIVEN WITH THE SEED: THE CARDS: each row of YtolkhapmieigcaaGreatDoorRows.lean that lists a variable, with what it lists TIED to the program's text (the seventh form; the later family's looks); each row that meets fmt, with fmt's text TOLD by the authors' own Lean function (tested against real Go, not proved from fmt's source: count such statements apart). THE CARD IS WHAT COUNTS. Prove the row's statement (the work); the ties are given (YtolkhapmieigcaaGreatDoorTie.lean); close each card by the builder's one call (the guide's Derived/Test/ToyasCard.lean, 'card_holds'). Laid BY PROGRAM, IN A SANDBOX (cutbox-door.mjs). By AI agents, Wed Nov 11 2026. No macro, syntax, notation, axiom, sorry.
-/
import Derived.Test.YtolkhapmieigcaaGreatDoorRows
import GoSem.ClaimSeven
namespace Go.Proofs.YtolkhapmieigcaaGreatDoor
namespace Rows

/-- THE TIED CARD OF 'splicerylaw24.TouchTraces'. -/
def touchTracesCard : Claim7 := { stood := { row := touchTracesRow, standIns := [], harness := (true, "8cd17d037ada91fc5b03bf4095d66d1d43775effa54caa6b510cab19ae1e0486"), looks := true }, kinds := [], alts := [], laidByText := true, laidKinds := [.funcs], laidTests := true, laidLooks := .later }
def TouchTracesCardSaid : Prop := Claim7.holds Tryz.pinned (.plain (OpenSpec.ofChange touchTracesSpec)) touchTracesCard

/-- THE TIED CARD OF 'splicerylaw24.TouchOf'. -/
def touchOfCard : Claim7 := { stood := { row := touchOfRow, standIns := [], harness := (true, "8cd17d037ada91fc5b03bf4095d66d1d43775effa54caa6b510cab19ae1e0486"), looks := true }, kinds := [], alts := [], laidByText := true, laidKinds := [.funcs], laidTests := true, laidLooks := .later }
def TouchOfCardSaid : Prop := Claim7.holds Tryz.pinned (.plain (OpenSpec.ofChange touchOfSpec)) touchOfCard

/-- THE TIED CARD OF 'splicerylaw24.TouchAgain'. -/
def touchAgainCard : Claim7 := { stood := { row := touchAgainRow, standIns := [], harness := (true, "8cd17d037ada91fc5b03bf4095d66d1d43775effa54caa6b510cab19ae1e0486"), looks := true }, kinds := [], alts := [], laidByText := true, laidKinds := [.funcs], laidTests := true, laidLooks := .later }
def TouchAgainCardSaid : Prop := Claim7.holds Tryz.pinned (.plain (OpenSpec.ofChange touchAgainSpec)) touchAgainCard

/-- THE TIED CARD OF 'splicerylaw24.TouchSides'. -/
def touchSidesCard : Claim7 := { stood := { row := touchSidesRow, standIns := [], harness := (true, "8cd17d037ada91fc5b03bf4095d66d1d43775effa54caa6b510cab19ae1e0486"), looks := true }, kinds := [], alts := [], laidByText := true, laidKinds := [.funcs], laidTests := true, laidLooks := .later }
def TouchSidesCardSaid : Prop := Claim7.holds Tryz.pinned (.plain (OpenSpec.ofChange touchSidesSpec)) touchSidesCard

/-- THE TIED CARD OF 'splicerylaw24.TouchNames'. -/
def touchNamesCard : Claim7 := { stood := { row := touchNamesRow, standIns := [], harness := (true, "8cd17d037ada91fc5b03bf4095d66d1d43775effa54caa6b510cab19ae1e0486"), looks := true }, kinds := [], alts := [], laidByText := true, laidKinds := [.funcs], laidTests := true, laidLooks := .later }
def TouchNamesCardSaid : Prop := Claim7.holds Tryz.pinned (.plain (OpenSpec.ofChange touchNamesSpec)) touchNamesCard

/-- THE TIED CARD OF 'splicerylaw24.TouchOwn'. -/
def touchOwnCard : Claim7 := { stood := { row := touchOwnRow, standIns := [], harness := (true, "8cd17d037ada91fc5b03bf4095d66d1d43775effa54caa6b510cab19ae1e0486"), looks := true }, kinds := [], alts := [], laidByText := true, laidKinds := [.funcs], laidTests := true, laidLooks := .later }
def TouchOwnCardSaid : Prop := Claim7.holds Tryz.pinned (.plain (OpenSpec.ofChange touchOwnSpec)) touchOwnCard

/-- THE TIED CARD OF 'splicerylaw24.TouchUntouched'. -/
def touchUntouchedCard : Claim7 := { stood := { row := touchUntouchedRow, standIns := [], harness := (true, "8cd17d037ada91fc5b03bf4095d66d1d43775effa54caa6b510cab19ae1e0486"), looks := true }, kinds := [], alts := [], laidByText := true, laidKinds := [.funcs], laidTests := true, laidLooks := .later }
def TouchUntouchedCardSaid : Prop := Claim7.holds Tryz.pinned (.plain (OpenSpec.ofChange touchUntouchedSpec)) touchUntouchedCard

/-- THE SECOND FORM's CARD OF 'splicerylaw24.TouchTraces'. -/
def touchTracesUptoCard : Claim7 := { stood := { row := touchTracesUptoRow, standIns := [], harness := (true, "8cd17d037ada91fc5b03bf4095d66d1d43775effa54caa6b510cab19ae1e0486"), looks := true }, kinds := [], alts := [], laidByText := true, laidKinds := [.funcs], laidTests := true, laidLooks := .later }
def TouchTracesUptoCardSaid : Prop := Claim7.holds Tryz.pinned (.plain (OpenSpec.upto touchTracesSpec)) touchTracesUptoCard

/-- THE SECOND FORM's CARD OF 'splicerylaw24.TouchOf'. -/
def touchOfUptoCard : Claim7 := { stood := { row := touchOfUptoRow, standIns := [], harness := (true, "8cd17d037ada91fc5b03bf4095d66d1d43775effa54caa6b510cab19ae1e0486"), looks := true }, kinds := [], alts := [], laidByText := true, laidKinds := [.funcs], laidTests := true, laidLooks := .later }
def TouchOfUptoCardSaid : Prop := Claim7.holds Tryz.pinned (.plain (OpenSpec.upto touchOfSpec)) touchOfUptoCard

/-- THE SECOND FORM's CARD OF 'splicerylaw24.TouchAgain'. -/
def touchAgainUptoCard : Claim7 := { stood := { row := touchAgainUptoRow, standIns := [], harness := (true, "8cd17d037ada91fc5b03bf4095d66d1d43775effa54caa6b510cab19ae1e0486"), looks := true }, kinds := [], alts := [], laidByText := true, laidKinds := [.funcs], laidTests := true, laidLooks := .later }
def TouchAgainUptoCardSaid : Prop := Claim7.holds Tryz.pinned (.plain (OpenSpec.upto touchAgainSpec)) touchAgainUptoCard

/-- THE SECOND FORM's CARD OF 'splicerylaw24.TouchSides'. -/
def touchSidesUptoCard : Claim7 := { stood := { row := touchSidesUptoRow, standIns := [], harness := (true, "8cd17d037ada91fc5b03bf4095d66d1d43775effa54caa6b510cab19ae1e0486"), looks := true }, kinds := [], alts := [], laidByText := true, laidKinds := [.funcs], laidTests := true, laidLooks := .later }
def TouchSidesUptoCardSaid : Prop := Claim7.holds Tryz.pinned (.plain (OpenSpec.upto touchSidesSpec)) touchSidesUptoCard

/-- THE SECOND FORM's CARD OF 'splicerylaw24.TouchNames'. -/
def touchNamesUptoCard : Claim7 := { stood := { row := touchNamesUptoRow, standIns := [], harness := (true, "8cd17d037ada91fc5b03bf4095d66d1d43775effa54caa6b510cab19ae1e0486"), looks := true }, kinds := [], alts := [], laidByText := true, laidKinds := [.funcs], laidTests := true, laidLooks := .later }
def TouchNamesUptoCardSaid : Prop := Claim7.holds Tryz.pinned (.plain (OpenSpec.upto touchNamesSpec)) touchNamesUptoCard

/-- THE SECOND FORM's CARD OF 'splicerylaw24.TouchOwn'. -/
def touchOwnUptoCard : Claim7 := { stood := { row := touchOwnUptoRow, standIns := [], harness := (true, "8cd17d037ada91fc5b03bf4095d66d1d43775effa54caa6b510cab19ae1e0486"), looks := true }, kinds := [], alts := [], laidByText := true, laidKinds := [.funcs], laidTests := true, laidLooks := .later }
def TouchOwnUptoCardSaid : Prop := Claim7.holds Tryz.pinned (.plain (OpenSpec.upto touchOwnSpec)) touchOwnUptoCard

/-- THE SECOND FORM's CARD OF 'splicerylaw24.TouchUntouched'. -/
def touchUntouchedUptoCard : Claim7 := { stood := { row := touchUntouchedUptoRow, standIns := [], harness := (true, "8cd17d037ada91fc5b03bf4095d66d1d43775effa54caa6b510cab19ae1e0486"), looks := true }, kinds := [], alts := [], laidByText := true, laidKinds := [.funcs], laidTests := true, laidLooks := .later }
def TouchUntouchedUptoCardSaid : Prop := Claim7.holds Tryz.pinned (.plain (OpenSpec.upto touchUntouchedSpec)) touchUntouchedUptoCard
end Rows
end Go.Proofs.YtolkhapmieigcaaGreatDoor
