/-
  DERIVED. GIVEN WITH THE SEED: THE CARDS: each row of YtfiflailjbmlpaaGreatDoorRows.lean that lists a variable, with what it lists TIED to the program's text (the seventh form; the later family's looks); each row that meets fmt, with fmt's text TOLD by the authors' own Lean function (tested against real Go, not proved from fmt's source: count such statements apart). THE CARD IS WHAT COUNTS. Prove the row's statement (the work); the ties are given (YtfiflailjbmlpaaGreatDoorTie.lean); close each card by the builder's one call (the guide's Derived/Test/ToyasCard.lean, 'card_holds'). Laid BY PROGRAM, IN A SANDBOX (cutbox-door.mjs). By AI agents, Wed Nov 11 2026. No macro, syntax, notation, axiom, sorry.
-/
import Derived.Test.YtfiflailjbmlpaaGreatDoorRows
import GoSem.ClaimSeven
namespace Go.Proofs.YtfiflailjbmlpaaGreatDoor
namespace Rows

/-- THE TIED CARD OF 'taplinelaw07.PatchSteps'. -/
def patchStepsCard : Claim7 := { stood := { row := patchStepsRow, standIns := [], harness := (true, "ea4cc0f2ded47b671e2122025cf082f487491e1966c9bc2ced630b359658aba1"), looks := true }, kinds := [], alts := [], laidByText := true, laidKinds := [.data], laidTests := true, laidLooks := .later }
def PatchStepsCardSaid : Prop := Claim7.holds Tryz.pinned (.plain (OpenSpec.ofChange patchStepsSpec)) patchStepsCard

/-- THE TIED CARD OF 'taplinelaw07.PatchDisplaces'. -/
def patchDisplacesCard : Claim7 := { stood := { row := patchDisplacesRow, standIns := [], harness := (true, "ea4cc0f2ded47b671e2122025cf082f487491e1966c9bc2ced630b359658aba1"), looks := true }, kinds := [], alts := [], laidByText := true, laidKinds := [.data], laidTests := true, laidLooks := .later }
def PatchDisplacesCardSaid : Prop := Claim7.holds Tryz.pinned (.plain (OpenSpec.ofChange patchDisplacesSpec)) patchDisplacesCard

/-- THE TIED CARD OF 'taplinelaw07.PatchInstalls'. -/
def patchInstallsCard : Claim7 := { stood := { row := patchInstallsRow, standIns := [], harness := (true, "ea4cc0f2ded47b671e2122025cf082f487491e1966c9bc2ced630b359658aba1"), looks := true }, kinds := [], alts := [], laidByText := true, laidKinds := [.data], laidTests := true, laidLooks := .later }
def PatchInstallsCardSaid : Prop := Claim7.holds Tryz.pinned (.plain (OpenSpec.ofChange patchInstallsSpec)) patchInstallsCard

/-- THE TIED CARD OF 'taplinelaw07.PatchBases'. -/
def patchBasesCard : Claim7 := { stood := { row := patchBasesRow, standIns := [], harness := (true, "ea4cc0f2ded47b671e2122025cf082f487491e1966c9bc2ced630b359658aba1"), looks := true }, kinds := [], alts := [], laidByText := true, laidKinds := [.data], laidTests := true, laidLooks := .later }
def PatchBasesCardSaid : Prop := Claim7.holds Tryz.pinned (.plain (OpenSpec.ofChange patchBasesSpec)) patchBasesCard

/-- THE TIED CARD OF 'taplinelaw07.PatchStores'. -/
def patchStoresCard : Claim7 := { stood := { row := patchStoresRow, standIns := [], harness := (true, "ea4cc0f2ded47b671e2122025cf082f487491e1966c9bc2ced630b359658aba1"), looks := true }, kinds := [], alts := [], laidByText := true, laidKinds := [.data], laidTests := true, laidLooks := .later }
def PatchStoresCardSaid : Prop := Claim7.holds Tryz.pinned (.plain (OpenSpec.ofChange patchStoresSpec)) patchStoresCard

/-- THE TIED CARD OF 'taplinelaw07.PatchRuns'. -/
def patchRunsCard : Claim7 := { stood := { row := patchRunsRow, standIns := [], harness := (true, "ea4cc0f2ded47b671e2122025cf082f487491e1966c9bc2ced630b359658aba1"), looks := true }, kinds := [], alts := [], laidByText := true, laidKinds := [.data], laidTests := true, laidLooks := .later }
def PatchRunsCardSaid : Prop := Claim7.holds Tryz.pinned (.plain (OpenSpec.ofChange patchRunsSpec)) patchRunsCard

/-- THE TIED CARD OF 'taplinelaw07.PatchMoves'. -/
def patchMovesCard : Claim7 := { stood := { row := patchMovesRow, standIns := [], harness := (true, "ea4cc0f2ded47b671e2122025cf082f487491e1966c9bc2ced630b359658aba1"), looks := true }, kinds := [], alts := [], laidByText := true, laidKinds := [.data], laidTests := true, laidLooks := .later }
def PatchMovesCardSaid : Prop := Claim7.holds Tryz.pinned (.plain (OpenSpec.ofChange patchMovesSpec)) patchMovesCard

/-- THE SECOND FORM's CARD OF 'taplinelaw07.PatchSteps'. -/
def patchStepsUptoCard : Claim7 := { stood := { row := patchStepsUptoRow, standIns := [], harness := (true, "ea4cc0f2ded47b671e2122025cf082f487491e1966c9bc2ced630b359658aba1"), looks := true }, kinds := [], alts := [], laidByText := true, laidKinds := [.data], laidTests := true, laidLooks := .later }
def PatchStepsUptoCardSaid : Prop := Claim7.holds Tryz.pinned (.plain (OpenSpec.upto patchStepsSpec)) patchStepsUptoCard

/-- THE SECOND FORM's CARD OF 'taplinelaw07.PatchDisplaces'. -/
def patchDisplacesUptoCard : Claim7 := { stood := { row := patchDisplacesUptoRow, standIns := [], harness := (true, "ea4cc0f2ded47b671e2122025cf082f487491e1966c9bc2ced630b359658aba1"), looks := true }, kinds := [], alts := [], laidByText := true, laidKinds := [.data], laidTests := true, laidLooks := .later }
def PatchDisplacesUptoCardSaid : Prop := Claim7.holds Tryz.pinned (.plain (OpenSpec.upto patchDisplacesSpec)) patchDisplacesUptoCard

/-- THE SECOND FORM's CARD OF 'taplinelaw07.PatchInstalls'. -/
def patchInstallsUptoCard : Claim7 := { stood := { row := patchInstallsUptoRow, standIns := [], harness := (true, "ea4cc0f2ded47b671e2122025cf082f487491e1966c9bc2ced630b359658aba1"), looks := true }, kinds := [], alts := [], laidByText := true, laidKinds := [.data], laidTests := true, laidLooks := .later }
def PatchInstallsUptoCardSaid : Prop := Claim7.holds Tryz.pinned (.plain (OpenSpec.upto patchInstallsSpec)) patchInstallsUptoCard

/-- THE SECOND FORM's CARD OF 'taplinelaw07.PatchBases'. -/
def patchBasesUptoCard : Claim7 := { stood := { row := patchBasesUptoRow, standIns := [], harness := (true, "ea4cc0f2ded47b671e2122025cf082f487491e1966c9bc2ced630b359658aba1"), looks := true }, kinds := [], alts := [], laidByText := true, laidKinds := [.data], laidTests := true, laidLooks := .later }
def PatchBasesUptoCardSaid : Prop := Claim7.holds Tryz.pinned (.plain (OpenSpec.upto patchBasesSpec)) patchBasesUptoCard

/-- THE SECOND FORM's CARD OF 'taplinelaw07.PatchStores'. -/
def patchStoresUptoCard : Claim7 := { stood := { row := patchStoresUptoRow, standIns := [], harness := (true, "ea4cc0f2ded47b671e2122025cf082f487491e1966c9bc2ced630b359658aba1"), looks := true }, kinds := [], alts := [], laidByText := true, laidKinds := [.data], laidTests := true, laidLooks := .later }
def PatchStoresUptoCardSaid : Prop := Claim7.holds Tryz.pinned (.plain (OpenSpec.upto patchStoresSpec)) patchStoresUptoCard

/-- THE SECOND FORM's CARD OF 'taplinelaw07.PatchRuns'. -/
def patchRunsUptoCard : Claim7 := { stood := { row := patchRunsUptoRow, standIns := [], harness := (true, "ea4cc0f2ded47b671e2122025cf082f487491e1966c9bc2ced630b359658aba1"), looks := true }, kinds := [], alts := [], laidByText := true, laidKinds := [.data], laidTests := true, laidLooks := .later }
def PatchRunsUptoCardSaid : Prop := Claim7.holds Tryz.pinned (.plain (OpenSpec.upto patchRunsSpec)) patchRunsUptoCard

/-- THE SECOND FORM's CARD OF 'taplinelaw07.PatchMoves'. -/
def patchMovesUptoCard : Claim7 := { stood := { row := patchMovesUptoRow, standIns := [], harness := (true, "ea4cc0f2ded47b671e2122025cf082f487491e1966c9bc2ced630b359658aba1"), looks := true }, kinds := [], alts := [], laidByText := true, laidKinds := [.data], laidTests := true, laidLooks := .later }
def PatchMovesUptoCardSaid : Prop := Claim7.holds Tryz.pinned (.plain (OpenSpec.upto patchMovesSpec)) patchMovesUptoCard
end Rows
end Go.Proofs.YtfiflailjbmlpaaGreatDoor
