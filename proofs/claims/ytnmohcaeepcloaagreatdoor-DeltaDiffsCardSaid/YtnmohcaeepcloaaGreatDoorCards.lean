/-
  DERIVED. GIVEN WITH THE SEED: THE CARDS: each row of YtnmohcaeepcloaaGreatDoorRows.lean that lists a variable, with what it lists TIED to the program's text (the seventh form; the later family's looks); each row that meets fmt, with fmt's text TOLD by the authors' own Lean function (tested against real Go, not proved from fmt's source: count such statements apart). THE CARD IS WHAT COUNTS. Prove the row's statement (the work); the ties are given (YtnmohcaeepcloaaGreatDoorTie.lean); close each card by the builder's one call (the guide's Derived/Test/ToyasCard.lean, 'card_holds'). Laid BY PROGRAM, IN A SANDBOX (cutbox-door.mjs). By AI agents, Wed Nov 11 2026. No macro, syntax, notation, axiom, sorry.
-/
import Derived.Test.YtnmohcaeepcloaaGreatDoorRows
import GoSem.ClaimSeven
namespace Go.Proofs.YtnmohcaeepcloaaGreatDoor
namespace Rows

/-- THE TIED CARD OF 'ddilaw12.DeltaDiffs'. -/
def deltaDiffsCard : Claim7 := { stood := { row := deltaDiffsRow, standIns := [], harness := (true, "6ea562871079a03565b978c6eabf6986d9e05aa6371aec071ebd4c774fd9d160"), looks := false }, kinds := [], alts := [], laidByText := true, laidKinds := [.data, .pinned], laidTests := true, laidLooks := .later }
def DeltaDiffsCardSaid : Prop := Claim7.holds Tryz.pinned (.plain (OpenSpec.ofChange deltaDiffsSpec)) deltaDiffsCard

/-- THE TIED CARD OF 'ddilaw12.DeltaApplies'. -/
def deltaAppliesCard : Claim7 := { stood := { row := deltaAppliesRow, standIns := [], harness := (true, "6ea562871079a03565b978c6eabf6986d9e05aa6371aec071ebd4c774fd9d160"), looks := false }, kinds := [], alts := [], laidByText := true, laidKinds := [.data, .pinned], laidTests := true, laidLooks := .later }
def DeltaAppliesCardSaid : Prop := Claim7.holds Tryz.pinned (.plain (OpenSpec.ofChange deltaAppliesSpec)) deltaAppliesCard

/-- THE TIED CARD OF 'ddilaw12.DeltaMerges'. -/
def deltaMergesCard : Claim7 := { stood := { row := deltaMergesRow, standIns := [], harness := (true, "6ea562871079a03565b978c6eabf6986d9e05aa6371aec071ebd4c774fd9d160"), looks := false }, kinds := [], alts := [], laidByText := true, laidKinds := [.data, .pinned], laidTests := true, laidLooks := .later }
def DeltaMergesCardSaid : Prop := Claim7.holds Tryz.pinned (.plain (OpenSpec.ofChange deltaMergesSpec)) deltaMergesCard

/-- THE TIED CARD OF 'ddilaw12.DeltaBack'. -/
def deltaBackCard : Claim7 := { stood := { row := deltaBackRow, standIns := [], harness := (true, "6ea562871079a03565b978c6eabf6986d9e05aa6371aec071ebd4c774fd9d160"), looks := false }, kinds := [], alts := [], laidByText := true, laidKinds := [.data, .pinned], laidTests := true, laidLooks := .later }
def DeltaBackCardSaid : Prop := Claim7.holds Tryz.pinned (.plain (OpenSpec.ofChange deltaBackSpec)) deltaBackCard

/-- THE TIED CARD OF 'ddilaw12.DeltaUndone'. -/
def deltaUndoneCard : Claim7 := { stood := { row := deltaUndoneRow, standIns := [], harness := (true, "6ea562871079a03565b978c6eabf6986d9e05aa6371aec071ebd4c774fd9d160"), looks := false }, kinds := [], alts := [], laidByText := true, laidKinds := [.data, .pinned], laidTests := true, laidLooks := .later }
def DeltaUndoneCardSaid : Prop := Claim7.holds Tryz.pinned (.plain (OpenSpec.ofChange deltaUndoneSpec)) deltaUndoneCard

/-- THE TIED CARD OF 'ddilaw12.DeltaSteps'. -/
def deltaStepsCard : Claim7 := { stood := { row := deltaStepsRow, standIns := [], harness := (true, "6ea562871079a03565b978c6eabf6986d9e05aa6371aec071ebd4c774fd9d160"), looks := false }, kinds := [], alts := [], laidByText := true, laidKinds := [.data, .pinned], laidTests := true, laidLooks := .later }
def DeltaStepsCardSaid : Prop := Claim7.holds Tryz.pinned (.plain (OpenSpec.ofChange deltaStepsSpec)) deltaStepsCard

/-- THE TIED CARD OF 'ddilaw12.DeltaChecks'. -/
def deltaChecksCard : Claim7 := { stood := { row := deltaChecksRow, standIns := [], harness := (true, "6ea562871079a03565b978c6eabf6986d9e05aa6371aec071ebd4c774fd9d160"), looks := false }, kinds := [], alts := [], laidByText := true, laidKinds := [.data, .pinned], laidTests := true, laidLooks := .later }
def DeltaChecksCardSaid : Prop := Claim7.holds Tryz.pinned (.plain (OpenSpec.ofChange deltaChecksSpec)) deltaChecksCard

/-- THE TIED CARD OF 'ddilaw12.DeltaTurned'. -/
def deltaTurnedCard : Claim7 := { stood := { row := deltaTurnedRow, standIns := [], harness := (true, "6ea562871079a03565b978c6eabf6986d9e05aa6371aec071ebd4c774fd9d160"), looks := false }, kinds := [], alts := [], laidByText := true, laidKinds := [.data, .pinned], laidTests := true, laidLooks := .later }
def DeltaTurnedCardSaid : Prop := Claim7.holds Tryz.pinned (.plain (OpenSpec.ofChange deltaTurnedSpec)) deltaTurnedCard

/-- THE SECOND FORM's CARD OF 'ddilaw12.DeltaDiffs'. -/
def deltaDiffsUptoCard : Claim7 := { stood := { row := deltaDiffsUptoRow, standIns := [], harness := (true, "6ea562871079a03565b978c6eabf6986d9e05aa6371aec071ebd4c774fd9d160"), looks := false }, kinds := [], alts := [], laidByText := true, laidKinds := [.data, .pinned], laidTests := true, laidLooks := .later }
def DeltaDiffsUptoCardSaid : Prop := Claim7.holds Tryz.pinned (.plain (OpenSpec.upto deltaDiffsSpec)) deltaDiffsUptoCard

/-- THE SECOND FORM's CARD OF 'ddilaw12.DeltaApplies'. -/
def deltaAppliesUptoCard : Claim7 := { stood := { row := deltaAppliesUptoRow, standIns := [], harness := (true, "6ea562871079a03565b978c6eabf6986d9e05aa6371aec071ebd4c774fd9d160"), looks := false }, kinds := [], alts := [], laidByText := true, laidKinds := [.data, .pinned], laidTests := true, laidLooks := .later }
def DeltaAppliesUptoCardSaid : Prop := Claim7.holds Tryz.pinned (.plain (OpenSpec.upto deltaAppliesSpec)) deltaAppliesUptoCard

/-- THE SECOND FORM's CARD OF 'ddilaw12.DeltaMerges'. -/
def deltaMergesUptoCard : Claim7 := { stood := { row := deltaMergesUptoRow, standIns := [], harness := (true, "6ea562871079a03565b978c6eabf6986d9e05aa6371aec071ebd4c774fd9d160"), looks := false }, kinds := [], alts := [], laidByText := true, laidKinds := [.data, .pinned], laidTests := true, laidLooks := .later }
def DeltaMergesUptoCardSaid : Prop := Claim7.holds Tryz.pinned (.plain (OpenSpec.upto deltaMergesSpec)) deltaMergesUptoCard

/-- THE SECOND FORM's CARD OF 'ddilaw12.DeltaBack'. -/
def deltaBackUptoCard : Claim7 := { stood := { row := deltaBackUptoRow, standIns := [], harness := (true, "6ea562871079a03565b978c6eabf6986d9e05aa6371aec071ebd4c774fd9d160"), looks := false }, kinds := [], alts := [], laidByText := true, laidKinds := [.data, .pinned], laidTests := true, laidLooks := .later }
def DeltaBackUptoCardSaid : Prop := Claim7.holds Tryz.pinned (.plain (OpenSpec.upto deltaBackSpec)) deltaBackUptoCard

/-- THE SECOND FORM's CARD OF 'ddilaw12.DeltaUndone'. -/
def deltaUndoneUptoCard : Claim7 := { stood := { row := deltaUndoneUptoRow, standIns := [], harness := (true, "6ea562871079a03565b978c6eabf6986d9e05aa6371aec071ebd4c774fd9d160"), looks := false }, kinds := [], alts := [], laidByText := true, laidKinds := [.data, .pinned], laidTests := true, laidLooks := .later }
def DeltaUndoneUptoCardSaid : Prop := Claim7.holds Tryz.pinned (.plain (OpenSpec.upto deltaUndoneSpec)) deltaUndoneUptoCard

/-- THE SECOND FORM's CARD OF 'ddilaw12.DeltaSteps'. -/
def deltaStepsUptoCard : Claim7 := { stood := { row := deltaStepsUptoRow, standIns := [], harness := (true, "6ea562871079a03565b978c6eabf6986d9e05aa6371aec071ebd4c774fd9d160"), looks := false }, kinds := [], alts := [], laidByText := true, laidKinds := [.data, .pinned], laidTests := true, laidLooks := .later }
def DeltaStepsUptoCardSaid : Prop := Claim7.holds Tryz.pinned (.plain (OpenSpec.upto deltaStepsSpec)) deltaStepsUptoCard

/-- THE SECOND FORM's CARD OF 'ddilaw12.DeltaChecks'. -/
def deltaChecksUptoCard : Claim7 := { stood := { row := deltaChecksUptoRow, standIns := [], harness := (true, "6ea562871079a03565b978c6eabf6986d9e05aa6371aec071ebd4c774fd9d160"), looks := false }, kinds := [], alts := [], laidByText := true, laidKinds := [.data, .pinned], laidTests := true, laidLooks := .later }
def DeltaChecksUptoCardSaid : Prop := Claim7.holds Tryz.pinned (.plain (OpenSpec.upto deltaChecksSpec)) deltaChecksUptoCard

/-- THE SECOND FORM's CARD OF 'ddilaw12.DeltaTurned'. -/
def deltaTurnedUptoCard : Claim7 := { stood := { row := deltaTurnedUptoRow, standIns := [], harness := (true, "6ea562871079a03565b978c6eabf6986d9e05aa6371aec071ebd4c774fd9d160"), looks := false }, kinds := [], alts := [], laidByText := true, laidKinds := [.data, .pinned], laidTests := true, laidLooks := .later }
def DeltaTurnedUptoCardSaid : Prop := Claim7.holds Tryz.pinned (.plain (OpenSpec.upto deltaTurnedSpec)) deltaTurnedUptoCard
end Rows
end Go.Proofs.YtnmohcaeepcloaaGreatDoor
