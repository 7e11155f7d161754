/-
  DERIVED. GIVEN WITH THE SEED: THE CARDS: each row of YthglhccibdlccaaGreatDoorRows.lean that lists a variable, with what it lists TIED to the program's text (the seventh form; the later family's looks); each row that meets fmt, with fmt's text TOLD by the authors' own Lean function (tested against real Go, not proved from fmt's source: count such statements apart). THE CARD IS WHAT COUNTS. Prove the row's statement (the work); the ties are given (YthglhccibdlccaaGreatDoorTie.lean); close each card by the builder's one call (the guide's Derived/Test/ToyasCard.lean, 'card_holds'). Laid BY PROGRAM, IN A SANDBOX (cutbox-door.mjs). By AI agents, Wed Nov 11 2026. No macro, syntax, notation, axiom, sorry.
-/
import Derived.Test.YthglhccibdlccaaGreatDoorRows
import GoSem.ClaimSeven
namespace Go.Proofs.YthglhccibdlccaaGreatDoor
namespace Rows

/-- THE TIED CARD OF 'splicerylaw12.TraceCalls'. -/
def traceCallsCard : Claim7 := { stood := { row := traceCallsRow, standIns := [], harness := (true, "0f8f86e52460f9cbb5c2525cbbc8e6cf57731ee044485a2c95c8d8ca5c2a125c"), looks := true }, kinds := [], alts := [], laidByText := true, laidKinds := [.funcs], laidTests := true, laidLooks := .later }
def TraceCallsCardSaid : Prop := Claim7.holds Tryz.pinned (.plain (OpenSpec.ofChange traceCallsSpec)) traceCallsCard

/-- THE TIED CARD OF 'splicerylaw12.TraceChanges'. -/
def traceChangesCard : Claim7 := { stood := { row := traceChangesRow, standIns := [], harness := (true, "0f8f86e52460f9cbb5c2525cbbc8e6cf57731ee044485a2c95c8d8ca5c2a125c"), looks := true }, kinds := [], alts := [], laidByText := true, laidKinds := [.funcs], laidTests := true, laidLooks := .later }
def TraceChangesCardSaid : Prop := Claim7.holds Tryz.pinned (.plain (OpenSpec.ofChange traceChangesSpec)) traceChangesCard

/-- THE TIED CARD OF 'splicerylaw12.TraceNames'. -/
def traceNamesCard : Claim7 := { stood := { row := traceNamesRow, standIns := [], harness := (true, "0f8f86e52460f9cbb5c2525cbbc8e6cf57731ee044485a2c95c8d8ca5c2a125c"), looks := true }, kinds := [], alts := [], laidByText := true, laidKinds := [.funcs], laidTests := true, laidLooks := .later }
def TraceNamesCardSaid : Prop := Claim7.holds Tryz.pinned (.plain (OpenSpec.ofChange traceNamesSpec)) traceNamesCard

/-- THE TIED CARD OF 'splicerylaw12.TraceBodies'. -/
def traceBodiesCard : Claim7 := { stood := { row := traceBodiesRow, standIns := [], harness := (true, "0f8f86e52460f9cbb5c2525cbbc8e6cf57731ee044485a2c95c8d8ca5c2a125c"), looks := true }, kinds := [], alts := [], laidByText := true, laidKinds := [.funcs], laidTests := true, laidLooks := .later }
def TraceBodiesCardSaid : Prop := Claim7.holds Tryz.pinned (.plain (OpenSpec.ofChange traceBodiesSpec)) traceBodiesCard

/-- THE TIED CARD OF 'splicerylaw12.TraceUnchanged'. -/
def traceUnchangedCard : Claim7 := { stood := { row := traceUnchangedRow, standIns := [], harness := (true, "0f8f86e52460f9cbb5c2525cbbc8e6cf57731ee044485a2c95c8d8ca5c2a125c"), looks := true }, kinds := [], alts := [], laidByText := true, laidKinds := [.funcs], laidTests := true, laidLooks := .later }
def TraceUnchangedCardSaid : Prop := Claim7.holds Tryz.pinned (.plain (OpenSpec.ofChange traceUnchangedSpec)) traceUnchangedCard

/-- THE TIED CARD OF 'splicerylaw12.TraceRuns'. -/
def traceRunsCard : Claim7 := { stood := { row := traceRunsRow, standIns := [], harness := (true, "0f8f86e52460f9cbb5c2525cbbc8e6cf57731ee044485a2c95c8d8ca5c2a125c"), looks := true }, kinds := [], alts := [], laidByText := true, laidKinds := [.funcs], laidTests := true, laidLooks := .later }
def TraceRunsCardSaid : Prop := Claim7.holds Tryz.pinned (.plain (OpenSpec.ofChange traceRunsSpec)) traceRunsCard

/-- THE SECOND FORM's CARD OF 'splicerylaw12.TraceCalls'. -/
def traceCallsUptoCard : Claim7 := { stood := { row := traceCallsUptoRow, standIns := [], harness := (true, "0f8f86e52460f9cbb5c2525cbbc8e6cf57731ee044485a2c95c8d8ca5c2a125c"), looks := true }, kinds := [], alts := [], laidByText := true, laidKinds := [.funcs], laidTests := true, laidLooks := .later }
def TraceCallsUptoCardSaid : Prop := Claim7.holds Tryz.pinned (.plain (OpenSpec.upto traceCallsSpec)) traceCallsUptoCard

/-- THE SECOND FORM's CARD OF 'splicerylaw12.TraceChanges'. -/
def traceChangesUptoCard : Claim7 := { stood := { row := traceChangesUptoRow, standIns := [], harness := (true, "0f8f86e52460f9cbb5c2525cbbc8e6cf57731ee044485a2c95c8d8ca5c2a125c"), looks := true }, kinds := [], alts := [], laidByText := true, laidKinds := [.funcs], laidTests := true, laidLooks := .later }
def TraceChangesUptoCardSaid : Prop := Claim7.holds Tryz.pinned (.plain (OpenSpec.upto traceChangesSpec)) traceChangesUptoCard

/-- THE SECOND FORM's CARD OF 'splicerylaw12.TraceNames'. -/
def traceNamesUptoCard : Claim7 := { stood := { row := traceNamesUptoRow, standIns := [], harness := (true, "0f8f86e52460f9cbb5c2525cbbc8e6cf57731ee044485a2c95c8d8ca5c2a125c"), looks := true }, kinds := [], alts := [], laidByText := true, laidKinds := [.funcs], laidTests := true, laidLooks := .later }
def TraceNamesUptoCardSaid : Prop := Claim7.holds Tryz.pinned (.plain (OpenSpec.upto traceNamesSpec)) traceNamesUptoCard

/-- THE SECOND FORM's CARD OF 'splicerylaw12.TraceBodies'. -/
def traceBodiesUptoCard : Claim7 := { stood := { row := traceBodiesUptoRow, standIns := [], harness := (true, "0f8f86e52460f9cbb5c2525cbbc8e6cf57731ee044485a2c95c8d8ca5c2a125c"), looks := true }, kinds := [], alts := [], laidByText := true, laidKinds := [.funcs], laidTests := true, laidLooks := .later }
def TraceBodiesUptoCardSaid : Prop := Claim7.holds Tryz.pinned (.plain (OpenSpec.upto traceBodiesSpec)) traceBodiesUptoCard

/-- THE SECOND FORM's CARD OF 'splicerylaw12.TraceUnchanged'. -/
def traceUnchangedUptoCard : Claim7 := { stood := { row := traceUnchangedUptoRow, standIns := [], harness := (true, "0f8f86e52460f9cbb5c2525cbbc8e6cf57731ee044485a2c95c8d8ca5c2a125c"), looks := true }, kinds := [], alts := [], laidByText := true, laidKinds := [.funcs], laidTests := true, laidLooks := .later }
def TraceUnchangedUptoCardSaid : Prop := Claim7.holds Tryz.pinned (.plain (OpenSpec.upto traceUnchangedSpec)) traceUnchangedUptoCard

/-- THE SECOND FORM's CARD OF 'splicerylaw12.TraceRuns'. -/
def traceRunsUptoCard : Claim7 := { stood := { row := traceRunsUptoRow, standIns := [], harness := (true, "0f8f86e52460f9cbb5c2525cbbc8e6cf57731ee044485a2c95c8d8ca5c2a125c"), looks := true }, kinds := [], alts := [], laidByText := true, laidKinds := [.funcs], laidTests := true, laidLooks := .later }
def TraceRunsUptoCardSaid : Prop := Claim7.holds Tryz.pinned (.plain (OpenSpec.upto traceRunsSpec)) traceRunsUptoCard
end Rows
end Go.Proofs.YthglhccibdlccaaGreatDoor
