/-
  DERIVED. GIVEN WITH THE SEED: THE CARDS: each row of YtigmnlnomhjecaaGreatDoorRows.lean that lists a variable, with what it lists TIED to the program's text (the seventh form; the later family's looks); each row that meets fmt, with fmt's text TOLD by the authors' own Lean function (tested against real Go, not proved from fmt's source: count such statements apart). THE CARD IS WHAT COUNTS. Prove the row's statement (the work); the ties are given (YtigmnlnomhjecaaGreatDoorTie.lean); close each card by the builder's one call (the guide's Derived/Test/ToyasCard.lean, 'card_holds'). Laid BY PROGRAM, IN A SANDBOX (cutbox-door.mjs). By AI agents, Wed Nov 11 2026. No macro, syntax, notation, axiom, sorry.
-/
import Derived.Test.YtigmnlnomhjecaaGreatDoorRows
import GoSem.ClaimSeven
namespace Go.Proofs.YtigmnlnomhjecaaGreatDoor
namespace Rows

/-- THE TIED CARD OF 'taplinelaw10.ProbeGlobs'. -/
def probeGlobsCard : Claim7 := { stood := { row := probeGlobsRow, standIns := [], harness := (true, "fe7c66a646c23e65cb42711fe7e95bd8574403d3ad0aff96fd9e29440809e27f"), looks := true }, kinds := [], alts := [], laidByText := true, laidKinds := [.data, .data, .data, .data, .data, .data], laidTests := true, laidLooks := .later }
def ProbeGlobsCardSaid : Prop := Claim7.holds Tryz.pinned (.plain (OpenSpec.ofChange probeGlobsSpec)) probeGlobsCard

/-- THE TIED CARD OF 'taplinelaw10.ProbePlain'. -/
def probePlainCard : Claim7 := { stood := { row := probePlainRow, standIns := [], harness := (true, "fe7c66a646c23e65cb42711fe7e95bd8574403d3ad0aff96fd9e29440809e27f"), looks := true }, kinds := [], alts := [], laidByText := true, laidKinds := [.data, .data, .data, .data, .data, .data], laidTests := true, laidLooks := .later }
def ProbePlainCardSaid : Prop := Claim7.holds Tryz.pinned (.plain (OpenSpec.ofChange probePlainSpec)) probePlainCard

/-- THE TIED CARD OF 'taplinelaw10.ProbeStars'. -/
def probeStarsCard : Claim7 := { stood := { row := probeStarsRow, standIns := [], harness := (true, "fe7c66a646c23e65cb42711fe7e95bd8574403d3ad0aff96fd9e29440809e27f"), looks := true }, kinds := [], alts := [], laidByText := true, laidKinds := [.data, .data, .data, .data, .data, .data], laidTests := true, laidLooks := .later }
def ProbeStarsCardSaid : Prop := Claim7.holds Tryz.pinned (.plain (OpenSpec.ofChange probeStarsSpec)) probeStarsCard

/-- THE TIED CARD OF 'taplinelaw10.ProbeMeets'. -/
def probeMeetsCard : Claim7 := { stood := { row := probeMeetsRow, standIns := [], harness := (true, "fe7c66a646c23e65cb42711fe7e95bd8574403d3ad0aff96fd9e29440809e27f"), looks := true }, kinds := [], alts := [], laidByText := true, laidKinds := [.data, .data, .data, .data, .data, .data], laidTests := true, laidLooks := .later }
def ProbeMeetsCardSaid : Prop := Claim7.holds Tryz.pinned (.plain (OpenSpec.ofChange probeMeetsSpec)) probeMeetsCard

/-- THE TIED CARD OF 'taplinelaw10.ProbeSelects'. -/
def probeSelectsCard : Claim7 := { stood := { row := probeSelectsRow, standIns := [], harness := (true, "fe7c66a646c23e65cb42711fe7e95bd8574403d3ad0aff96fd9e29440809e27f"), looks := true }, kinds := [], alts := [], laidByText := true, laidKinds := [.data, .data, .data, .data, .data, .data], laidTests := true, laidLooks := .later }
def ProbeSelectsCardSaid : Prop := Claim7.holds Tryz.pinned (.plain (OpenSpec.ofChange probeSelectsSpec)) probeSelectsCard

/-- THE TIED CARD OF 'taplinelaw10.ProbeTexts'. -/
def probeTextsCard : Claim7 := { stood := { row := probeTextsRow, standIns := [], harness := (true, "fe7c66a646c23e65cb42711fe7e95bd8574403d3ad0aff96fd9e29440809e27f"), looks := true }, kinds := [], alts := [], laidByText := true, laidKinds := [.data, .data, .data, .data, .data, .data], laidTests := true, laidLooks := .later }
def ProbeTextsCardSaid : Prop := Claim7.holds Tryz.pinned (.plain (OpenSpec.ofChange probeTextsSpec)) probeTextsCard

/-- THE SECOND FORM's CARD OF 'taplinelaw10.ProbeGlobs'. -/
def probeGlobsUptoCard : Claim7 := { stood := { row := probeGlobsUptoRow, standIns := [], harness := (true, "fe7c66a646c23e65cb42711fe7e95bd8574403d3ad0aff96fd9e29440809e27f"), looks := true }, kinds := [], alts := [], laidByText := true, laidKinds := [.data, .data, .data, .data, .data, .data], laidTests := true, laidLooks := .later }
def ProbeGlobsUptoCardSaid : Prop := Claim7.holds Tryz.pinned (.plain (OpenSpec.upto probeGlobsSpec)) probeGlobsUptoCard

/-- THE SECOND FORM's CARD OF 'taplinelaw10.ProbePlain'. -/
def probePlainUptoCard : Claim7 := { stood := { row := probePlainUptoRow, standIns := [], harness := (true, "fe7c66a646c23e65cb42711fe7e95bd8574403d3ad0aff96fd9e29440809e27f"), looks := true }, kinds := [], alts := [], laidByText := true, laidKinds := [.data, .data, .data, .data, .data, .data], laidTests := true, laidLooks := .later }
def ProbePlainUptoCardSaid : Prop := Claim7.holds Tryz.pinned (.plain (OpenSpec.upto probePlainSpec)) probePlainUptoCard

/-- THE SECOND FORM's CARD OF 'taplinelaw10.ProbeStars'. -/
def probeStarsUptoCard : Claim7 := { stood := { row := probeStarsUptoRow, standIns := [], harness := (true, "fe7c66a646c23e65cb42711fe7e95bd8574403d3ad0aff96fd9e29440809e27f"), looks := true }, kinds := [], alts := [], laidByText := true, laidKinds := [.data, .data, .data, .data, .data, .data], laidTests := true, laidLooks := .later }
def ProbeStarsUptoCardSaid : Prop := Claim7.holds Tryz.pinned (.plain (OpenSpec.upto probeStarsSpec)) probeStarsUptoCard

/-- THE SECOND FORM's CARD OF 'taplinelaw10.ProbeMeets'. -/
def probeMeetsUptoCard : Claim7 := { stood := { row := probeMeetsUptoRow, standIns := [], harness := (true, "fe7c66a646c23e65cb42711fe7e95bd8574403d3ad0aff96fd9e29440809e27f"), looks := true }, kinds := [], alts := [], laidByText := true, laidKinds := [.data, .data, .data, .data, .data, .data], laidTests := true, laidLooks := .later }
def ProbeMeetsUptoCardSaid : Prop := Claim7.holds Tryz.pinned (.plain (OpenSpec.upto probeMeetsSpec)) probeMeetsUptoCard

/-- THE SECOND FORM's CARD OF 'taplinelaw10.ProbeSelects'. -/
def probeSelectsUptoCard : Claim7 := { stood := { row := probeSelectsUptoRow, standIns := [], harness := (true, "fe7c66a646c23e65cb42711fe7e95bd8574403d3ad0aff96fd9e29440809e27f"), looks := true }, kinds := [], alts := [], laidByText := true, laidKinds := [.data, .data, .data, .data, .data, .data], laidTests := true, laidLooks := .later }
def ProbeSelectsUptoCardSaid : Prop := Claim7.holds Tryz.pinned (.plain (OpenSpec.upto probeSelectsSpec)) probeSelectsUptoCard

/-- THE SECOND FORM's CARD OF 'taplinelaw10.ProbeTexts'. -/
def probeTextsUptoCard : Claim7 := { stood := { row := probeTextsUptoRow, standIns := [], harness := (true, "fe7c66a646c23e65cb42711fe7e95bd8574403d3ad0aff96fd9e29440809e27f"), looks := true }, kinds := [], alts := [], laidByText := true, laidKinds := [.data, .data, .data, .data, .data, .data], laidTests := true, laidLooks := .later }
def ProbeTextsUptoCardSaid : Prop := Claim7.holds Tryz.pinned (.plain (OpenSpec.upto probeTextsSpec)) probeTextsUptoCard
end Rows
end Go.Proofs.YtigmnlnomhjecaaGreatDoor
