/-
  DERIVED. GIVEN WITH THE SEED: THE CARDS: each row of YtojfnagfafoiaaaDoorRows.lean that lists a variable, with what it lists TIED to the program's text (the seventh form; the later family's looks); each row that meets fmt, with fmt's text TOLD by the authors' own Lean function (tested against real Go, not proved from fmt's source: count such statements apart). THE CARD IS WHAT COUNTS. Prove the row's statement (the work); the ties are given (YtojfnagfafoiaaaDoorTie.lean); close each card by the builder's one call (the guide's Derived/Test/ToyasCard.lean, 'card_holds'). Laid BY PROGRAM, IN A SANDBOX (cutbox-door.mjs). By AI agents, Wed Nov 11 2026. No macro, syntax, notation, axiom, sorry.
-/
import Derived.Test.YtojfnagfafoiaaaDoorRows
import GoSem.ClaimSeven
namespace Go.Proofs.YtojfnagfafoiaaaDoor
namespace Rows

/-- THE TIED CARD OF 'taplinelaw04.CpuExecs'. -/
def cpuExecsCard : Claim7 := { stood := { row := cpuExecsRow, standIns := [], harness := (true, "761dd2c4e361e325525882ee5ba11d7f08fc5ffec0876965a76a3878492cd312"), looks := true }, kinds := [], alts := [], laidByText := true, laidKinds := [.data], laidTests := true, laidLooks := .later }
def CpuExecsCardSaid : Prop := Claim7.holds Tryd.pinned (.plain (OpenSpec.ofChange cpuExecsSpec)) cpuExecsCard

/-- THE TIED CARD OF 'taplinelaw04.CpuBreaks'. -/
def cpuBreaksCard : Claim7 := { stood := { row := cpuBreaksRow, standIns := [], harness := (true, "761dd2c4e361e325525882ee5ba11d7f08fc5ffec0876965a76a3878492cd312"), looks := true }, kinds := [], alts := [], laidByText := true, laidKinds := [.data], laidTests := true, laidLooks := .later }
def CpuBreaksCardSaid : Prop := Claim7.holds Tryd.pinned (.plain (OpenSpec.ofChange cpuBreaksSpec)) cpuBreaksCard

/-- THE TIED CARD OF 'taplinelaw04.CpuDecodes'. -/
def cpuDecodesCard : Claim7 := { stood := { row := cpuDecodesRow, standIns := [], harness := (true, "761dd2c4e361e325525882ee5ba11d7f08fc5ffec0876965a76a3878492cd312"), looks := true }, kinds := [], alts := [], laidByText := true, laidKinds := [.data], laidTests := true, laidLooks := .later }
def CpuDecodesCardSaid : Prop := Claim7.holds Tryd.pinned (.plain (OpenSpec.ofChange cpuDecodesSpec)) cpuDecodesCard

/-- THE TIED CARD OF 'taplinelaw04.CpuAlus'. -/
def cpuAlusCard : Claim7 := { stood := { row := cpuAlusRow, standIns := [], harness := (true, "761dd2c4e361e325525882ee5ba11d7f08fc5ffec0876965a76a3878492cd312"), looks := true }, kinds := [], alts := [], laidByText := true, laidKinds := [.data], laidTests := true, laidLooks := .later }
def CpuAlusCardSaid : Prop := Claim7.holds Tryd.pinned (.plain (OpenSpec.ofChange cpuAlusSpec)) cpuAlusCard

/-- THE TIED CARD OF 'taplinelaw04.CpuMoved'. -/
def cpuMovedCard : Claim7 := { stood := { row := cpuMovedRow, standIns := [], harness := (true, "761dd2c4e361e325525882ee5ba11d7f08fc5ffec0876965a76a3878492cd312"), looks := true }, kinds := [], alts := [], laidByText := true, laidKinds := [.data], laidTests := true, laidLooks := .later }
def CpuMovedCardSaid : Prop := Claim7.holds Tryd.pinned (.plain (OpenSpec.ofChange cpuMovedSpec)) cpuMovedCard

/-- THE TIED CARD OF 'taplinelaw04.CpuBranches'. -/
def cpuBranchesCard : Claim7 := { stood := { row := cpuBranchesRow, standIns := [], harness := (true, "761dd2c4e361e325525882ee5ba11d7f08fc5ffec0876965a76a3878492cd312"), looks := true }, kinds := [], alts := [], laidByText := true, laidKinds := [.data], laidTests := true, laidLooks := .later }
def CpuBranchesCardSaid : Prop := Claim7.holds Tryd.pinned (.plain (OpenSpec.ofChange cpuBranchesSpec)) cpuBranchesCard

/-- THE TIED CARD OF 'taplinelaw04.CpuFrames'. -/
def cpuFramesCard : Claim7 := { stood := { row := cpuFramesRow, standIns := [], harness := (true, "761dd2c4e361e325525882ee5ba11d7f08fc5ffec0876965a76a3878492cd312"), looks := true }, kinds := [], alts := [], laidByText := true, laidKinds := [.data], laidTests := true, laidLooks := .later }
def CpuFramesCardSaid : Prop := Claim7.holds Tryd.pinned (.plain (OpenSpec.ofChange cpuFramesSpec)) cpuFramesCard

/-- THE TIED CARD OF 'taplinelaw04.CpuStores'. -/
def cpuStoresCard : Claim7 := { stood := { row := cpuStoresRow, standIns := [], harness := (true, "761dd2c4e361e325525882ee5ba11d7f08fc5ffec0876965a76a3878492cd312"), looks := true }, kinds := [], alts := [], laidByText := true, laidKinds := [.data], laidTests := true, laidLooks := .later }
def CpuStoresCardSaid : Prop := Claim7.holds Tryd.pinned (.plain (OpenSpec.ofChange cpuStoresSpec)) cpuStoresCard

/-- THE TIED CARD OF 'taplinelaw04.CpuDepends'. -/
def cpuDependsCard : Claim7 := { stood := { row := cpuDependsRow, standIns := [], harness := (true, "761dd2c4e361e325525882ee5ba11d7f08fc5ffec0876965a76a3878492cd312"), looks := true }, kinds := [], alts := [], laidByText := true, laidKinds := [.data], laidTests := true, laidLooks := .later }
def CpuDependsCardSaid : Prop := Claim7.holds Tryd.pinned (.plain (OpenSpec.ofChange cpuDependsSpec)) cpuDependsCard

/-- THE TIED CARD OF 'taplinelaw04.CpuApplies'. -/
def cpuAppliesCard : Claim7 := { stood := { row := cpuAppliesRow, standIns := [], harness := (true, "761dd2c4e361e325525882ee5ba11d7f08fc5ffec0876965a76a3878492cd312"), looks := true }, kinds := [], alts := [], laidByText := true, laidKinds := [.data], laidTests := true, laidLooks := .later }
def CpuAppliesCardSaid : Prop := Claim7.holds Tryd.pinned (.plain (OpenSpec.ofChange cpuAppliesSpec)) cpuAppliesCard

/-- THE TIED CARD OF 'taplinelaw04.CpuInverses'. -/
def cpuInversesCard : Claim7 := { stood := { row := cpuInversesRow, standIns := [], harness := (true, "761dd2c4e361e325525882ee5ba11d7f08fc5ffec0876965a76a3878492cd312"), looks := true }, kinds := [], alts := [], laidByText := true, laidKinds := [.data], laidTests := true, laidLooks := .later }
def CpuInversesCardSaid : Prop := Claim7.holds Tryd.pinned (.plain (OpenSpec.ofChange cpuInversesSpec)) cpuInversesCard

/-- THE TIED CARD OF 'taplinelaw04.CpuRuns'. -/
def cpuRunsCard : Claim7 := { stood := { row := cpuRunsRow, standIns := [], harness := (true, "761dd2c4e361e325525882ee5ba11d7f08fc5ffec0876965a76a3878492cd312"), looks := true }, kinds := [], alts := [], laidByText := true, laidKinds := [.data], laidTests := true, laidLooks := .later }
def CpuRunsCardSaid : Prop := Claim7.holds Tryd.pinned (.plain (OpenSpec.ofChange cpuRunsSpec)) cpuRunsCard

/-- THE TIED CARD OF 'taplinelaw04.CpuParts'. -/
def cpuPartsCard : Claim7 := { stood := { row := cpuPartsRow, standIns := [], harness := (true, "761dd2c4e361e325525882ee5ba11d7f08fc5ffec0876965a76a3878492cd312"), looks := true }, kinds := [], alts := [], laidByText := true, laidKinds := [.data], laidTests := true, laidLooks := .later }
def CpuPartsCardSaid : Prop := Claim7.holds Tryd.pinned (.plain (OpenSpec.ofChange cpuPartsSpec)) cpuPartsCard

/-- THE SECOND FORM's CARD OF 'taplinelaw04.CpuExecs'. -/
def cpuExecsUptoCard : Claim7 := { stood := { row := cpuExecsUptoRow, standIns := [], harness := (true, "761dd2c4e361e325525882ee5ba11d7f08fc5ffec0876965a76a3878492cd312"), looks := true }, kinds := [], alts := [], laidByText := true, laidKinds := [.data], laidTests := true, laidLooks := .later }
def CpuExecsUptoCardSaid : Prop := Claim7.holds Tryd.pinned (.plain (OpenSpec.upto cpuExecsSpec)) cpuExecsUptoCard

/-- THE SECOND FORM's CARD OF 'taplinelaw04.CpuBreaks'. -/
def cpuBreaksUptoCard : Claim7 := { stood := { row := cpuBreaksUptoRow, standIns := [], harness := (true, "761dd2c4e361e325525882ee5ba11d7f08fc5ffec0876965a76a3878492cd312"), looks := true }, kinds := [], alts := [], laidByText := true, laidKinds := [.data], laidTests := true, laidLooks := .later }
def CpuBreaksUptoCardSaid : Prop := Claim7.holds Tryd.pinned (.plain (OpenSpec.upto cpuBreaksSpec)) cpuBreaksUptoCard

/-- THE SECOND FORM's CARD OF 'taplinelaw04.CpuDecodes'. -/
def cpuDecodesUptoCard : Claim7 := { stood := { row := cpuDecodesUptoRow, standIns := [], harness := (true, "761dd2c4e361e325525882ee5ba11d7f08fc5ffec0876965a76a3878492cd312"), looks := true }, kinds := [], alts := [], laidByText := true, laidKinds := [.data], laidTests := true, laidLooks := .later }
def CpuDecodesUptoCardSaid : Prop := Claim7.holds Tryd.pinned (.plain (OpenSpec.upto cpuDecodesSpec)) cpuDecodesUptoCard

/-- THE SECOND FORM's CARD OF 'taplinelaw04.CpuAlus'. -/
def cpuAlusUptoCard : Claim7 := { stood := { row := cpuAlusUptoRow, standIns := [], harness := (true, "761dd2c4e361e325525882ee5ba11d7f08fc5ffec0876965a76a3878492cd312"), looks := true }, kinds := [], alts := [], laidByText := true, laidKinds := [.data], laidTests := true, laidLooks := .later }
def CpuAlusUptoCardSaid : Prop := Claim7.holds Tryd.pinned (.plain (OpenSpec.upto cpuAlusSpec)) cpuAlusUptoCard

/-- THE SECOND FORM's CARD OF 'taplinelaw04.CpuMoved'. -/
def cpuMovedUptoCard : Claim7 := { stood := { row := cpuMovedUptoRow, standIns := [], harness := (true, "761dd2c4e361e325525882ee5ba11d7f08fc5ffec0876965a76a3878492cd312"), looks := true }, kinds := [], alts := [], laidByText := true, laidKinds := [.data], laidTests := true, laidLooks := .later }
def CpuMovedUptoCardSaid : Prop := Claim7.holds Tryd.pinned (.plain (OpenSpec.upto cpuMovedSpec)) cpuMovedUptoCard

/-- THE SECOND FORM's CARD OF 'taplinelaw04.CpuBranches'. -/
def cpuBranchesUptoCard : Claim7 := { stood := { row := cpuBranchesUptoRow, standIns := [], harness := (true, "761dd2c4e361e325525882ee5ba11d7f08fc5ffec0876965a76a3878492cd312"), looks := true }, kinds := [], alts := [], laidByText := true, laidKinds := [.data], laidTests := true, laidLooks := .later }
def CpuBranchesUptoCardSaid : Prop := Claim7.holds Tryd.pinned (.plain (OpenSpec.upto cpuBranchesSpec)) cpuBranchesUptoCard

/-- THE SECOND FORM's CARD OF 'taplinelaw04.CpuFrames'. -/
def cpuFramesUptoCard : Claim7 := { stood := { row := cpuFramesUptoRow, standIns := [], harness := (true, "761dd2c4e361e325525882ee5ba11d7f08fc5ffec0876965a76a3878492cd312"), looks := true }, kinds := [], alts := [], laidByText := true, laidKinds := [.data], laidTests := true, laidLooks := .later }
def CpuFramesUptoCardSaid : Prop := Claim7.holds Tryd.pinned (.plain (OpenSpec.upto cpuFramesSpec)) cpuFramesUptoCard

/-- THE SECOND FORM's CARD OF 'taplinelaw04.CpuStores'. -/
def cpuStoresUptoCard : Claim7 := { stood := { row := cpuStoresUptoRow, standIns := [], harness := (true, "761dd2c4e361e325525882ee5ba11d7f08fc5ffec0876965a76a3878492cd312"), looks := true }, kinds := [], alts := [], laidByText := true, laidKinds := [.data], laidTests := true, laidLooks := .later }
def CpuStoresUptoCardSaid : Prop := Claim7.holds Tryd.pinned (.plain (OpenSpec.upto cpuStoresSpec)) cpuStoresUptoCard

/-- THE SECOND FORM's CARD OF 'taplinelaw04.CpuDepends'. -/
def cpuDependsUptoCard : Claim7 := { stood := { row := cpuDependsUptoRow, standIns := [], harness := (true, "761dd2c4e361e325525882ee5ba11d7f08fc5ffec0876965a76a3878492cd312"), looks := true }, kinds := [], alts := [], laidByText := true, laidKinds := [.data], laidTests := true, laidLooks := .later }
def CpuDependsUptoCardSaid : Prop := Claim7.holds Tryd.pinned (.plain (OpenSpec.upto cpuDependsSpec)) cpuDependsUptoCard

/-- THE SECOND FORM's CARD OF 'taplinelaw04.CpuApplies'. -/
def cpuAppliesUptoCard : Claim7 := { stood := { row := cpuAppliesUptoRow, standIns := [], harness := (true, "761dd2c4e361e325525882ee5ba11d7f08fc5ffec0876965a76a3878492cd312"), looks := true }, kinds := [], alts := [], laidByText := true, laidKinds := [.data], laidTests := true, laidLooks := .later }
def CpuAppliesUptoCardSaid : Prop := Claim7.holds Tryd.pinned (.plain (OpenSpec.upto cpuAppliesSpec)) cpuAppliesUptoCard

/-- THE SECOND FORM's CARD OF 'taplinelaw04.CpuInverses'. -/
def cpuInversesUptoCard : Claim7 := { stood := { row := cpuInversesUptoRow, standIns := [], harness := (true, "761dd2c4e361e325525882ee5ba11d7f08fc5ffec0876965a76a3878492cd312"), looks := true }, kinds := [], alts := [], laidByText := true, laidKinds := [.data], laidTests := true, laidLooks := .later }
def CpuInversesUptoCardSaid : Prop := Claim7.holds Tryd.pinned (.plain (OpenSpec.upto cpuInversesSpec)) cpuInversesUptoCard

/-- THE SECOND FORM's CARD OF 'taplinelaw04.CpuRuns'. -/
def cpuRunsUptoCard : Claim7 := { stood := { row := cpuRunsUptoRow, standIns := [], harness := (true, "761dd2c4e361e325525882ee5ba11d7f08fc5ffec0876965a76a3878492cd312"), looks := true }, kinds := [], alts := [], laidByText := true, laidKinds := [.data], laidTests := true, laidLooks := .later }
def CpuRunsUptoCardSaid : Prop := Claim7.holds Tryd.pinned (.plain (OpenSpec.upto cpuRunsSpec)) cpuRunsUptoCard

/-- THE SECOND FORM's CARD OF 'taplinelaw04.CpuParts'. -/
def cpuPartsUptoCard : Claim7 := { stood := { row := cpuPartsUptoRow, standIns := [], harness := (true, "761dd2c4e361e325525882ee5ba11d7f08fc5ffec0876965a76a3878492cd312"), looks := true }, kinds := [], alts := [], laidByText := true, laidKinds := [.data], laidTests := true, laidLooks := .later }
def CpuPartsUptoCardSaid : Prop := Claim7.holds Tryd.pinned (.plain (OpenSpec.upto cpuPartsSpec)) cpuPartsUptoCard
end Rows
end Go.Proofs.YtojfnagfafoiaaaDoor
