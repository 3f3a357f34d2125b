/-
  DERIVED. GIVEN WITH THE SEED: THE CARDS: each row of YtfiflailjbmlpaaDoorRows.lean that lists a variable, with what it lists TIED to the program's text (the seventh form; the later family's looks); each row that meets fmt, with fmt's text TOLD by the authors' own Lean function (tested against real Go, not proved from fmt's source: count such statements apart). THE CARD IS WHAT COUNTS. Prove the row's statement (the work); the ties are given (YtfiflailjbmlpaaDoorTie.lean); close each card by the builder's one call (the guide's Derived/Test/ToyasCard.lean, 'card_holds'). Laid BY PROGRAM, IN A SANDBOX (cutbox-door.mjs). By AI agents, Wed Nov 11 2026. No macro, syntax, notation, axiom, sorry.
-/
import Derived.Test.YtfiflailjbmlpaaDoorRows
import GoSem.ClaimSeven
namespace Go.Proofs.YtfiflailjbmlpaaDoor
namespace Rows

/-- THE TIED CARD OF 'taplinelaw07.PatchPlaces'. -/
def patchPlacesCard : Claim7 := { stood := { row := patchPlacesRow, standIns := [], harness := (true, "2c726f383cc30c43ddb1f04427053069b3e5b520bce5a22d6b9a869f223802b3"), looks := true }, kinds := [], alts := [], laidByText := true, laidKinds := [.data], laidTests := true, laidLooks := .later }
def PatchPlacesCardSaid : Prop := Claim7.holds Tryd.pinned (.plain (OpenSpec.ofChange patchPlacesSpec)) patchPlacesCard

/-- THE TIED CARD OF 'taplinelaw07.PatchTransparent'. -/
def patchTransparentCard : Claim7 := { stood := { row := patchTransparentRow, standIns := [], harness := (true, "2c726f383cc30c43ddb1f04427053069b3e5b520bce5a22d6b9a869f223802b3"), looks := true }, kinds := [], alts := [], laidByText := true, laidKinds := [.data], laidTests := true, laidLooks := .later }
def PatchTransparentCardSaid : Prop := Claim7.holds Tryd.pinned (.plain (OpenSpec.ofChange patchTransparentSpec)) patchTransparentCard

/-- THE TIED CARD OF 'taplinelaw07.PatchUndone'. -/
def patchUndoneCard : Claim7 := { stood := { row := patchUndoneRow, standIns := [], harness := (true, "2c726f383cc30c43ddb1f04427053069b3e5b520bce5a22d6b9a869f223802b3"), looks := true }, kinds := [], alts := [], laidByText := true, laidKinds := [.data], laidTests := true, laidLooks := .later }
def PatchUndoneCardSaid : Prop := Claim7.holds Tryd.pinned (.plain (OpenSpec.ofChange patchUndoneSpec)) patchUndoneCard

/-- THE TIED CARD OF 'taplinelaw07.PatchOthers'. -/
def patchOthersCard : Claim7 := { stood := { row := patchOthersRow, standIns := [], harness := (true, "2c726f383cc30c43ddb1f04427053069b3e5b520bce5a22d6b9a869f223802b3"), looks := true }, kinds := [], alts := [], laidByText := true, laidKinds := [.data], laidTests := true, laidLooks := .later }
def PatchOthersCardSaid : Prop := Claim7.holds Tryd.pinned (.plain (OpenSpec.ofChange patchOthersSpec)) patchOthersCard

/-- THE SECOND FORM's CARD OF 'taplinelaw07.PatchPlaces'. -/
def patchPlacesUptoCard : Claim7 := { stood := { row := patchPlacesUptoRow, standIns := [], harness := (true, "2c726f383cc30c43ddb1f04427053069b3e5b520bce5a22d6b9a869f223802b3"), looks := true }, kinds := [], alts := [], laidByText := true, laidKinds := [.data], laidTests := true, laidLooks := .later }
def PatchPlacesUptoCardSaid : Prop := Claim7.holds Tryd.pinned (.plain (OpenSpec.upto patchPlacesSpec)) patchPlacesUptoCard

/-- THE SECOND FORM's CARD OF 'taplinelaw07.PatchTransparent'. -/
def patchTransparentUptoCard : Claim7 := { stood := { row := patchTransparentUptoRow, standIns := [], harness := (true, "2c726f383cc30c43ddb1f04427053069b3e5b520bce5a22d6b9a869f223802b3"), looks := true }, kinds := [], alts := [], laidByText := true, laidKinds := [.data], laidTests := true, laidLooks := .later }
def PatchTransparentUptoCardSaid : Prop := Claim7.holds Tryd.pinned (.plain (OpenSpec.upto patchTransparentSpec)) patchTransparentUptoCard

/-- THE SECOND FORM's CARD OF 'taplinelaw07.PatchUndone'. -/
def patchUndoneUptoCard : Claim7 := { stood := { row := patchUndoneUptoRow, standIns := [], harness := (true, "2c726f383cc30c43ddb1f04427053069b3e5b520bce5a22d6b9a869f223802b3"), looks := true }, kinds := [], alts := [], laidByText := true, laidKinds := [.data], laidTests := true, laidLooks := .later }
def PatchUndoneUptoCardSaid : Prop := Claim7.holds Tryd.pinned (.plain (OpenSpec.upto patchUndoneSpec)) patchUndoneUptoCard

/-- THE SECOND FORM's CARD OF 'taplinelaw07.PatchOthers'. -/
def patchOthersUptoCard : Claim7 := { stood := { row := patchOthersUptoRow, standIns := [], harness := (true, "2c726f383cc30c43ddb1f04427053069b3e5b520bce5a22d6b9a869f223802b3"), looks := true }, kinds := [], alts := [], laidByText := true, laidKinds := [.data], laidTests := true, laidLooks := .later }
def PatchOthersUptoCardSaid : Prop := Claim7.holds Tryd.pinned (.plain (OpenSpec.upto patchOthersSpec)) patchOthersUptoCard
end Rows
end Go.Proofs.YtfiflailjbmlpaaDoor
