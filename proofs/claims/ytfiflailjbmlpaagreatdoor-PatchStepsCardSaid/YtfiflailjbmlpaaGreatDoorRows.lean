/-
  NARROWER THAN 'FOR EVERY INPUT', by the rows' own cells (each row's printed sentence says how): PatchSteps: laid · PatchDisplaces: laid · PatchInstalls: laid · PatchBases: laid · PatchStores: laid · PatchRuns: laid · PatchMoves: laid.
  DERIVED. THE GIVEN ROWS OF THIS SEAT. 7 by the template 'for every input the law returns true; each argument reads behind the call as it read before'; 0 by the template 'total and deterministic' (their statements: YtfiflailjbmlpaaGreatDoorTotals.lean).
  GIVEN WITH THE SEED: the statements are not yours to turn. If you find one false, say at which input.
  Laid BY PROGRAM, IN A SANDBOX (cutbox-rows.mjs): the forced cells as the released guide's own fill.sh prints them over the translation 2c646197c2c774e5… (all of the seat's roots in one cut). By AI agents, Wed Nov 11 2026. No macro, syntax, notation, axiom, sorry.
-/
import Derived.Test.YtfiflailjbmlpaaGreatDoorChecked
import GoSem.Claim
import GoSem.ClaimJoined
import GoSem.ClaimMapViews
import Derived.JoinedTies
import Derived.KernelRfl
namespace Go.Proofs.YtfiflailjbmlpaaGreatDoor
/- THE CELL 'sum', in the pinned program and in every row, IS THE sha256 OF THE DUMP (.gsa) THAT YtfiflailjbmlpaaGreatDoorProg.lean LOADS. Nothing in Lean hashes anything: it is a label: what it is worth is what the hold of that sum in a sandbox is worth. -/
noncomputable def Tryz.pinned : Pinned := { name := "ytfiflailjbmlpaagreatdoor", sum := "2c646197c2c774e588a304842ab40040cdc47e41dfd5e6f2fe802d3389ad0b8c", checked := Tryz.checked }
namespace Rows
def none {H : Type} : Left H := { results := [], args := [] }

/- WHAT THE LISTED PACKAGE-LEVEL VARIABLES READ AS WHEN THE CALL BEGINS. Each datum BY PROGRAM (the guide's laid-datum.mjs) off the statement by which the dump's own 'gosem.cut.vars' lays the variable. In a bare row this is a premise. The card (YtfiflailjbmlpaaGreatDoorCards.lean) ties it to the program's text. -/
def laid_tapline_insn_kinds {H : Type} : DataW H := .agg [.agg [.lit (.string []), .lit (.int .i64 0)], .agg [.lit (.string [110, 111, 112]), .lit (.int .i64 0)], .agg [.lit (.string [109, 111, 118, 101]), .lit (.int .i64 1)], .agg [.lit (.string [115, 101, 116]), .lit (.int .i64 3)], .agg [.lit (.string [108, 105, 116]), .lit (.int .i64 4)], .agg [.lit (.string [97, 100, 100]), .lit (.int .i64 1)], .agg [.lit (.string [115, 117, 98]), .lit (.int .i64 1)], .agg [.lit (.string [109, 117, 108]), .lit (.int .i64 1)], .agg [.lit (.string [100, 105, 118]), .lit (.int .i64 1)], .agg [.lit (.string [109, 111, 100]), .lit (.int .i64 1)], .agg [.lit (.string [97, 110, 100]), .lit (.int .i64 1)], .agg [.lit (.string [111, 114]), .lit (.int .i64 1)], .agg [.lit (.string [120, 111, 114]), .lit (.int .i64 1)], .agg [.lit (.string [115, 104, 108]), .lit (.int .i64 1)], .agg [.lit (.string [115, 104, 114]), .lit (.int .i64 1)], .agg [.lit (.string [115, 97, 114]), .lit (.int .i64 1)], .agg [.lit (.string [105, 110, 99]), .lit (.int .i64 4)], .agg [.lit (.string [108, 111, 97, 100, 49]), .lit (.int .i64 5)], .agg [.lit (.string [108, 111, 97, 100, 56]), .lit (.int .i64 5)], .agg [.lit (.string [115, 116, 111, 114, 101, 49]), .lit (.int .i64 5)], .agg [.lit (.string [115, 116, 111, 114, 101, 56]), .lit (.int .i64 5)], .agg [.lit (.string [98, 101, 113]), .lit (.int .i64 5)], .agg [.lit (.string [98, 110, 101]), .lit (.int .i64 5)], .agg [.lit (.string [98, 108, 116]), .lit (.int .i64 5)], .agg [.lit (.string [98, 103, 101]), .lit (.int .i64 5)], .agg [.lit (.string [106, 117, 109, 112]), .lit (.int .i64 6)], .agg [.lit (.string [106, 117, 109, 112, 114]), .lit (.int .i64 2)], .agg [.lit (.string [99, 97, 108, 108]), .lit (.int .i64 6)], .agg [.lit (.string [99, 97, 108, 108, 114]), .lit (.int .i64 2)], .agg [.lit (.string [114, 101, 116]), .lit (.int .i64 0)], .agg [.lit (.string [112, 117, 115, 104]), .lit (.int .i64 2)], .agg [.lit (.string [112, 111, 112]), .lit (.int .i64 2)], .agg [.lit (.string [108, 101, 97]), .lit (.int .i64 7)], .agg [.lit (.string [115, 121, 115]), .lit (.int .i64 8)], .agg [.lit (.string [115, 119, 97, 112]), .lit (.int .i64 1)]]

/-- 'taplinelaw07.PatchSteps': WHATEVER THE INPUT: true; the input reads as it did. -/
def patchStepsSpec : ChangeSpec := { name := "patchSteps", fn := fun _ => fun
  | [d1, d2, d3] => { results := [.lit (.bool true)], args := [d1, d2, d3] }
  | _ => none }
def patchStepsRow : OpenClaim := { program := "ytfiflailjbmlpaagreatdoor", sum := "2c646197c2c774e588a304842ab40040cdc47e41dfd5e6f2fe802d3389ad0b8c", func := "tapline/taplinelaw07.PatchSteps", spec := "patchSteps", inPlace := ["slices.overlaps[tapline/api.Patch]"], unfollowed := true, recurses := true, named := ["tapline/insn.kinds"], apart := false, laid := [("tapline/insn.kinds", laid_tapline_insn_kinds)] }
def PatchStepsSaid : Prop := patchStepsRow.holds Tryz.pinned (OpenSpec.ofChange patchStepsSpec)

/-- ITS FALSE NEIGHBOUR: 'it returns false'. Refute it at one input. -/
def patchStepsWrong : ChangeSpec := { name := "patchSteps", fn := fun _ => fun
  | [d1, d2, d3] => { results := [.lit (.bool false)], args := [d1, d2, d3] }
  | _ => none }
def PatchStepsWrongFalsely : Prop := patchStepsRow.holds Tryz.pinned (OpenSpec.ofChange patchStepsWrong)

/-- 'taplinelaw07.PatchDisplaces': WHATEVER THE INPUT: true; the input reads as it did. -/
def patchDisplacesSpec : ChangeSpec := { name := "patchDisplaces", fn := fun _ => fun
  | [d1, d2, d3] => { results := [.lit (.bool true)], args := [d1, d2, d3] }
  | _ => none }
def patchDisplacesRow : OpenClaim := { program := "ytfiflailjbmlpaagreatdoor", sum := "2c646197c2c774e588a304842ab40040cdc47e41dfd5e6f2fe802d3389ad0b8c", func := "tapline/taplinelaw07.PatchDisplaces", spec := "patchDisplaces", inPlace := ["slices.overlaps[tapline/api.Patch]"], unfollowed := true, recurses := true, named := ["tapline/insn.kinds"], apart := false, laid := [("tapline/insn.kinds", laid_tapline_insn_kinds)] }
def PatchDisplacesSaid : Prop := patchDisplacesRow.holds Tryz.pinned (OpenSpec.ofChange patchDisplacesSpec)

/-- ITS FALSE NEIGHBOUR: 'it returns false'. Refute it at one input. -/
def patchDisplacesWrong : ChangeSpec := { name := "patchDisplaces", fn := fun _ => fun
  | [d1, d2, d3] => { results := [.lit (.bool false)], args := [d1, d2, d3] }
  | _ => none }
def PatchDisplacesWrongFalsely : Prop := patchDisplacesRow.holds Tryz.pinned (OpenSpec.ofChange patchDisplacesWrong)

/-- 'taplinelaw07.PatchInstalls': WHATEVER THE INPUT: true; the input reads as it did. -/
def patchInstallsSpec : ChangeSpec := { name := "patchInstalls", fn := fun _ => fun
  | [d1, d2] => { results := [.lit (.bool true)], args := [d1, d2] }
  | _ => none }
def patchInstallsRow : OpenClaim := { program := "ytfiflailjbmlpaagreatdoor", sum := "2c646197c2c774e588a304842ab40040cdc47e41dfd5e6f2fe802d3389ad0b8c", func := "tapline/taplinelaw07.PatchInstalls", spec := "patchInstalls", inPlace := ["slices.overlaps[tapline/api.Patch]"], unfollowed := true, recurses := true, named := ["tapline/insn.kinds"], apart := false, laid := [("tapline/insn.kinds", laid_tapline_insn_kinds)] }
def PatchInstallsSaid : Prop := patchInstallsRow.holds Tryz.pinned (OpenSpec.ofChange patchInstallsSpec)

/-- ITS FALSE NEIGHBOUR: 'it returns false'. Refute it at one input. -/
def patchInstallsWrong : ChangeSpec := { name := "patchInstalls", fn := fun _ => fun
  | [d1, d2] => { results := [.lit (.bool false)], args := [d1, d2] }
  | _ => none }
def PatchInstallsWrongFalsely : Prop := patchInstallsRow.holds Tryz.pinned (OpenSpec.ofChange patchInstallsWrong)

/-- 'taplinelaw07.PatchBases': WHATEVER THE INPUT: true; the input reads as it did. -/
def patchBasesSpec : ChangeSpec := { name := "patchBases", fn := fun _ => fun
  | [d1, d2] => { results := [.lit (.bool true)], args := [d1, d2] }
  | _ => none }
def patchBasesRow : OpenClaim := { program := "ytfiflailjbmlpaagreatdoor", sum := "2c646197c2c774e588a304842ab40040cdc47e41dfd5e6f2fe802d3389ad0b8c", func := "tapline/taplinelaw07.PatchBases", spec := "patchBases", inPlace := ["slices.overlaps[tapline/api.Patch]"], unfollowed := true, recurses := true, named := ["tapline/insn.kinds"], apart := false, laid := [("tapline/insn.kinds", laid_tapline_insn_kinds)] }
def PatchBasesSaid : Prop := patchBasesRow.holds Tryz.pinned (OpenSpec.ofChange patchBasesSpec)

/-- ITS FALSE NEIGHBOUR: 'it returns false'. Refute it at one input. -/
def patchBasesWrong : ChangeSpec := { name := "patchBases", fn := fun _ => fun
  | [d1, d2] => { results := [.lit (.bool false)], args := [d1, d2] }
  | _ => none }
def PatchBasesWrongFalsely : Prop := patchBasesRow.holds Tryz.pinned (OpenSpec.ofChange patchBasesWrong)

/-- 'taplinelaw07.PatchStores': WHATEVER THE INPUT: true; the input reads as it did. -/
def patchStoresSpec : ChangeSpec := { name := "patchStores", fn := fun _ => fun
  | [d1, d2] => { results := [.lit (.bool true)], args := [d1, d2] }
  | _ => none }
def patchStoresRow : OpenClaim := { program := "ytfiflailjbmlpaagreatdoor", sum := "2c646197c2c774e588a304842ab40040cdc47e41dfd5e6f2fe802d3389ad0b8c", func := "tapline/taplinelaw07.PatchStores", spec := "patchStores", inPlace := ["slices.overlaps[tapline/api.Patch]"], unfollowed := true, recurses := true, named := ["tapline/insn.kinds"], apart := false, laid := [("tapline/insn.kinds", laid_tapline_insn_kinds)] }
def PatchStoresSaid : Prop := patchStoresRow.holds Tryz.pinned (OpenSpec.ofChange patchStoresSpec)

/-- ITS FALSE NEIGHBOUR: 'it returns false'. Refute it at one input. -/
def patchStoresWrong : ChangeSpec := { name := "patchStores", fn := fun _ => fun
  | [d1, d2] => { results := [.lit (.bool false)], args := [d1, d2] }
  | _ => none }
def PatchStoresWrongFalsely : Prop := patchStoresRow.holds Tryz.pinned (OpenSpec.ofChange patchStoresWrong)

/-- 'taplinelaw07.PatchRuns': WHATEVER THE INPUT: true; the input reads as it did. -/
def patchRunsSpec : ChangeSpec := { name := "patchRuns", fn := fun _ => fun
  | [d1, d2, d3] => { results := [.lit (.bool true)], args := [d1, d2, d3] }
  | _ => none }
def patchRunsRow : OpenClaim := { program := "ytfiflailjbmlpaagreatdoor", sum := "2c646197c2c774e588a304842ab40040cdc47e41dfd5e6f2fe802d3389ad0b8c", func := "tapline/taplinelaw07.PatchRuns", spec := "patchRuns", inPlace := ["slices.overlaps[tapline/api.Patch]"], unfollowed := true, recurses := true, named := ["tapline/insn.kinds"], apart := false, laid := [("tapline/insn.kinds", laid_tapline_insn_kinds)] }
def PatchRunsSaid : Prop := patchRunsRow.holds Tryz.pinned (OpenSpec.ofChange patchRunsSpec)

/-- ITS FALSE NEIGHBOUR: 'it returns false'. Refute it at one input. -/
def patchRunsWrong : ChangeSpec := { name := "patchRuns", fn := fun _ => fun
  | [d1, d2, d3] => { results := [.lit (.bool false)], args := [d1, d2, d3] }
  | _ => none }
def PatchRunsWrongFalsely : Prop := patchRunsRow.holds Tryz.pinned (OpenSpec.ofChange patchRunsWrong)

/-- 'taplinelaw07.PatchMoves': WHATEVER THE INPUT: true; the input reads as it did. -/
def patchMovesSpec : ChangeSpec := { name := "patchMoves", fn := fun _ => fun
  | [d1, d2, d3] => { results := [.lit (.bool true)], args := [d1, d2, d3] }
  | _ => none }
def patchMovesRow : OpenClaim := { program := "ytfiflailjbmlpaagreatdoor", sum := "2c646197c2c774e588a304842ab40040cdc47e41dfd5e6f2fe802d3389ad0b8c", func := "tapline/taplinelaw07.PatchMoves", spec := "patchMoves", inPlace := ["slices.overlaps[tapline/api.Patch]"], unfollowed := true, recurses := true, named := ["tapline/insn.kinds"], apart := false, laid := [("tapline/insn.kinds", laid_tapline_insn_kinds)] }
def PatchMovesSaid : Prop := patchMovesRow.holds Tryz.pinned (OpenSpec.ofChange patchMovesSpec)

/-- ITS FALSE NEIGHBOUR: 'it returns false'. Refute it at one input. -/
def patchMovesWrong : ChangeSpec := { name := "patchMoves", fn := fun _ => fun
  | [d1, d2, d3] => { results := [.lit (.bool false)], args := [d1, d2, d3] }
  | _ => none }
def PatchMovesWrongFalsely : Prop := patchMovesRow.holds Tryz.pinned (OpenSpec.ofChange patchMovesWrong)

/- THE SECOND FORM. 'bulk': how many values and letters a reading holds, each counted each time it is reached (what is shared counts as often as it is met; a slice's spare places count too). A statement '..UptoSaid' is the law's where the arguments, and the package variables that the reading takes, are together of bulk at most 1048576: NARROWER than '..Said'. Prove '..Said' where nothing that the law and all that it calls make is longer than what came in: it says more and counts as full. Else prove '..UptoSaid'. A law counts once. -/
mutual
def uptoBulk {H : Type} : DataW H → Nat
  | .lit (.string bytes) => bytes.length + 1
  | .lit _ => 1
  | .nil => 1
  | .ptr d => uptoBulk d + 1
  | .slice elems spare => uptoBulkAll elems + uptoBulkAll spare + 1
  | .agg parts => uptoBulkAll parts + 1
  | .iface _ d => uptoBulk d + 1
  | .map entries => uptoBulkEntries entries + 1
  | .held _ => 1
def uptoBulkAll {H : Type} : List (DataW H) → Nat
  | [] => 0
  | d :: r => uptoBulk d + uptoBulkAll r
def uptoBulkEntries {H : Type} : List (Lit × DataW H) → Nat
  | [] => 0
  | x :: r => uptoBulkEntry x + uptoBulkEntries r
def uptoBulkEntry {H : Type} : Lit × DataW H → Nat
  | (.string bytes, d) => bytes.length + uptoBulk d + 1
  | (_, d) => uptoBulk d + 1
 end
def uptoSmall : (H : Type) → List (DataW H) → Bool := fun _ ds => decide (uptoBulkAll ds ≤ 1048576)
def OpenSpec.upto (s : _root_.Go.ChangeSpec) : _root_.Go.OpenSpec := { _root_.Go.OpenSpec.ofChange s with cond := some uptoSmall }

/-- 'taplinelaw07.PatchSteps', WHERE WHAT IT READS IS OF BULK AT MOST 1048576: true; the input reads as it did. -/
def patchStepsUptoRow : OpenClaim := { program := "ytfiflailjbmlpaagreatdoor", sum := "2c646197c2c774e588a304842ab40040cdc47e41dfd5e6f2fe802d3389ad0b8c", func := "tapline/taplinelaw07.PatchSteps", spec := "patchSteps", inPlace := ["slices.overlaps[tapline/api.Patch]"], unfollowed := true, recurses := true, named := ["tapline/insn.kinds"], apart := false, laid := [("tapline/insn.kinds", laid_tapline_insn_kinds)], narrowed := true }
def PatchStepsUptoSaid : Prop := patchStepsUptoRow.holds Tryz.pinned (OpenSpec.upto patchStepsSpec)

/-- 'taplinelaw07.PatchDisplaces', WHERE WHAT IT READS IS OF BULK AT MOST 1048576: true; the input reads as it did. -/
def patchDisplacesUptoRow : OpenClaim := { program := "ytfiflailjbmlpaagreatdoor", sum := "2c646197c2c774e588a304842ab40040cdc47e41dfd5e6f2fe802d3389ad0b8c", func := "tapline/taplinelaw07.PatchDisplaces", spec := "patchDisplaces", inPlace := ["slices.overlaps[tapline/api.Patch]"], unfollowed := true, recurses := true, named := ["tapline/insn.kinds"], apart := false, laid := [("tapline/insn.kinds", laid_tapline_insn_kinds)], narrowed := true }
def PatchDisplacesUptoSaid : Prop := patchDisplacesUptoRow.holds Tryz.pinned (OpenSpec.upto patchDisplacesSpec)

/-- 'taplinelaw07.PatchInstalls', WHERE WHAT IT READS IS OF BULK AT MOST 1048576: true; the input reads as it did. -/
def patchInstallsUptoRow : OpenClaim := { program := "ytfiflailjbmlpaagreatdoor", sum := "2c646197c2c774e588a304842ab40040cdc47e41dfd5e6f2fe802d3389ad0b8c", func := "tapline/taplinelaw07.PatchInstalls", spec := "patchInstalls", inPlace := ["slices.overlaps[tapline/api.Patch]"], unfollowed := true, recurses := true, named := ["tapline/insn.kinds"], apart := false, laid := [("tapline/insn.kinds", laid_tapline_insn_kinds)], narrowed := true }
def PatchInstallsUptoSaid : Prop := patchInstallsUptoRow.holds Tryz.pinned (OpenSpec.upto patchInstallsSpec)

/-- 'taplinelaw07.PatchBases', WHERE WHAT IT READS IS OF BULK AT MOST 1048576: true; the input reads as it did. -/
def patchBasesUptoRow : OpenClaim := { program := "ytfiflailjbmlpaagreatdoor", sum := "2c646197c2c774e588a304842ab40040cdc47e41dfd5e6f2fe802d3389ad0b8c", func := "tapline/taplinelaw07.PatchBases", spec := "patchBases", inPlace := ["slices.overlaps[tapline/api.Patch]"], unfollowed := true, recurses := true, named := ["tapline/insn.kinds"], apart := false, laid := [("tapline/insn.kinds", laid_tapline_insn_kinds)], narrowed := true }
def PatchBasesUptoSaid : Prop := patchBasesUptoRow.holds Tryz.pinned (OpenSpec.upto patchBasesSpec)

/-- 'taplinelaw07.PatchStores', WHERE WHAT IT READS IS OF BULK AT MOST 1048576: true; the input reads as it did. -/
def patchStoresUptoRow : OpenClaim := { program := "ytfiflailjbmlpaagreatdoor", sum := "2c646197c2c774e588a304842ab40040cdc47e41dfd5e6f2fe802d3389ad0b8c", func := "tapline/taplinelaw07.PatchStores", spec := "patchStores", inPlace := ["slices.overlaps[tapline/api.Patch]"], unfollowed := true, recurses := true, named := ["tapline/insn.kinds"], apart := false, laid := [("tapline/insn.kinds", laid_tapline_insn_kinds)], narrowed := true }
def PatchStoresUptoSaid : Prop := patchStoresUptoRow.holds Tryz.pinned (OpenSpec.upto patchStoresSpec)

/-- 'taplinelaw07.PatchRuns', WHERE WHAT IT READS IS OF BULK AT MOST 1048576: true; the input reads as it did. -/
def patchRunsUptoRow : OpenClaim := { program := "ytfiflailjbmlpaagreatdoor", sum := "2c646197c2c774e588a304842ab40040cdc47e41dfd5e6f2fe802d3389ad0b8c", func := "tapline/taplinelaw07.PatchRuns", spec := "patchRuns", inPlace := ["slices.overlaps[tapline/api.Patch]"], unfollowed := true, recurses := true, named := ["tapline/insn.kinds"], apart := false, laid := [("tapline/insn.kinds", laid_tapline_insn_kinds)], narrowed := true }
def PatchRunsUptoSaid : Prop := patchRunsUptoRow.holds Tryz.pinned (OpenSpec.upto patchRunsSpec)

/-- 'taplinelaw07.PatchMoves', WHERE WHAT IT READS IS OF BULK AT MOST 1048576: true; the input reads as it did. -/
def patchMovesUptoRow : OpenClaim := { program := "ytfiflailjbmlpaagreatdoor", sum := "2c646197c2c774e588a304842ab40040cdc47e41dfd5e6f2fe802d3389ad0b8c", func := "tapline/taplinelaw07.PatchMoves", spec := "patchMoves", inPlace := ["slices.overlaps[tapline/api.Patch]"], unfollowed := true, recurses := true, named := ["tapline/insn.kinds"], apart := false, laid := [("tapline/insn.kinds", laid_tapline_insn_kinds)], narrowed := true }
def PatchMovesUptoSaid : Prop := patchMovesUptoRow.holds Tryz.pinned (OpenSpec.upto patchMovesSpec)

end Rows
end Go.Proofs.YtfiflailjbmlpaaGreatDoor
