/-
  NARROWER THAN 'FOR EVERY INPUT', by the rows' own cells (each row's printed sentence says how): PatchPlaces: laid · PatchTransparent: laid · PatchUndone: laid · PatchOthers: laid.
  DERIVED. THE GIVEN ROWS OF THIS SEAT. 4 by the template 'for every input the law returns true; each argument reads behind the call as it read before'; 0 by the template 'total and deterministic' (their statements: YtfiflailjbmlpaaDoorTotals.lean).
  GIVEN WITH THE SEED: the statements are not yours to turn. If you find one false, say at which input.
  Laid BY PROGRAM, IN A SANDBOX (cutbox-rows.mjs): the forced cells as the released guide's own fill.sh prints them over the translation 8c962c33b2ba02e2… (all of the seat's roots in one cut). By AI agents, Wed Nov 11 2026. No macro, syntax, notation, axiom, sorry.
-/
import Derived.Test.YtfiflailjbmlpaaDoorChecked
import GoSem.Claim
import GoSem.ClaimJoined
import GoSem.ClaimMapViews
import Derived.JoinedTies
import Derived.KernelRfl
namespace Go.Proofs.YtfiflailjbmlpaaDoor
/- THE CELL 'sum', in the pinned program and in every row, IS THE sha256 OF THE DUMP (.gsa) THAT YtfiflailjbmlpaaDoorProg.lean LOADS. Nothing in Lean hashes anything: it is a label: what it is worth is what the hold of that sum in a sandbox is worth. -/
noncomputable def Tryd.pinned : Pinned := { name := "ytfiflailjbmlpaadoor", sum := "8c962c33b2ba02e2b6196a82da20392ffa7a4af8b834591f797dd63db0b3ce7c", checked := Tryd.checked }
namespace Rows
def none {H : Type} : Left H := { results := [], args := [] }

/- WHAT THE LISTED PACKAGE-LEVEL VARIABLES READ AS WHEN THE CALL BEGINS. Each datum BY PROGRAM (the guide's laid-datum.mjs) off the statement by which the dump's own 'gosem.cut.vars' lays the variable. In a bare row this is a premise. The card (YtfiflailjbmlpaaDoorCards.lean) ties it to the program's text. -/
def laid_tapline_insn_kinds {H : Type} : DataW H := .agg [.agg [.lit (.string []), .lit (.int .i64 0)], .agg [.lit (.string [110, 111, 112]), .lit (.int .i64 0)], .agg [.lit (.string [109, 111, 118, 101]), .lit (.int .i64 1)], .agg [.lit (.string [115, 101, 116]), .lit (.int .i64 3)], .agg [.lit (.string [108, 105, 116]), .lit (.int .i64 4)], .agg [.lit (.string [97, 100, 100]), .lit (.int .i64 1)], .agg [.lit (.string [115, 117, 98]), .lit (.int .i64 1)], .agg [.lit (.string [109, 117, 108]), .lit (.int .i64 1)], .agg [.lit (.string [100, 105, 118]), .lit (.int .i64 1)], .agg [.lit (.string [109, 111, 100]), .lit (.int .i64 1)], .agg [.lit (.string [97, 110, 100]), .lit (.int .i64 1)], .agg [.lit (.string [111, 114]), .lit (.int .i64 1)], .agg [.lit (.string [120, 111, 114]), .lit (.int .i64 1)], .agg [.lit (.string [115, 104, 108]), .lit (.int .i64 1)], .agg [.lit (.string [115, 104, 114]), .lit (.int .i64 1)], .agg [.lit (.string [115, 97, 114]), .lit (.int .i64 1)], .agg [.lit (.string [105, 110, 99]), .lit (.int .i64 4)], .agg [.lit (.string [108, 111, 97, 100, 49]), .lit (.int .i64 5)], .agg [.lit (.string [108, 111, 97, 100, 56]), .lit (.int .i64 5)], .agg [.lit (.string [115, 116, 111, 114, 101, 49]), .lit (.int .i64 5)], .agg [.lit (.string [115, 116, 111, 114, 101, 56]), .lit (.int .i64 5)], .agg [.lit (.string [98, 101, 113]), .lit (.int .i64 5)], .agg [.lit (.string [98, 110, 101]), .lit (.int .i64 5)], .agg [.lit (.string [98, 108, 116]), .lit (.int .i64 5)], .agg [.lit (.string [98, 103, 101]), .lit (.int .i64 5)], .agg [.lit (.string [106, 117, 109, 112]), .lit (.int .i64 6)], .agg [.lit (.string [106, 117, 109, 112, 114]), .lit (.int .i64 2)], .agg [.lit (.string [99, 97, 108, 108]), .lit (.int .i64 6)], .agg [.lit (.string [99, 97, 108, 108, 114]), .lit (.int .i64 2)], .agg [.lit (.string [114, 101, 116]), .lit (.int .i64 0)], .agg [.lit (.string [112, 117, 115, 104]), .lit (.int .i64 2)], .agg [.lit (.string [112, 111, 112]), .lit (.int .i64 2)], .agg [.lit (.string [108, 101, 97]), .lit (.int .i64 7)], .agg [.lit (.string [115, 121, 115]), .lit (.int .i64 8)], .agg [.lit (.string [115, 119, 97, 112]), .lit (.int .i64 1)]]

/-- 'taplinelaw07.PatchPlaces': WHATEVER THE INPUT: true; the input reads as it did. -/
def patchPlacesSpec : ChangeSpec := { name := "patchPlaces", fn := fun _ => fun
  | [d1, d2, d3] => { results := [.lit (.bool true)], args := [d1, d2, d3] }
  | _ => none }
def patchPlacesRow : OpenClaim := { program := "ytfiflailjbmlpaadoor", sum := "8c962c33b2ba02e2b6196a82da20392ffa7a4af8b834591f797dd63db0b3ce7c", func := "tapline/taplinelaw07.PatchPlaces", spec := "patchPlaces", inPlace := ["slices.overlaps[tapline/api.Patch]"], unfollowed := true, recurses := true, named := ["tapline/insn.kinds"], apart := false, laid := [("tapline/insn.kinds", laid_tapline_insn_kinds)] }
def PatchPlacesSaid : Prop := patchPlacesRow.holds Tryd.pinned (OpenSpec.ofChange patchPlacesSpec)

/-- ITS FALSE NEIGHBOUR: 'it returns false'. Refute it at one input. -/
def patchPlacesWrong : ChangeSpec := { name := "patchPlaces", fn := fun _ => fun
  | [d1, d2, d3] => { results := [.lit (.bool false)], args := [d1, d2, d3] }
  | _ => none }
def PatchPlacesWrongFalsely : Prop := patchPlacesRow.holds Tryd.pinned (OpenSpec.ofChange patchPlacesWrong)

/-- 'taplinelaw07.PatchTransparent': WHATEVER THE INPUT: true; the input reads as it did. -/
def patchTransparentSpec : ChangeSpec := { name := "patchTransparent", fn := fun _ => fun
  | [d1, d2, d3] => { results := [.lit (.bool true)], args := [d1, d2, d3] }
  | _ => none }
def patchTransparentRow : OpenClaim := { program := "ytfiflailjbmlpaadoor", sum := "8c962c33b2ba02e2b6196a82da20392ffa7a4af8b834591f797dd63db0b3ce7c", func := "tapline/taplinelaw07.PatchTransparent", spec := "patchTransparent", inPlace := ["slices.overlaps[tapline/api.Patch]"], unfollowed := true, recurses := true, named := ["tapline/insn.kinds"], apart := false, laid := [("tapline/insn.kinds", laid_tapline_insn_kinds)] }
def PatchTransparentSaid : Prop := patchTransparentRow.holds Tryd.pinned (OpenSpec.ofChange patchTransparentSpec)

/-- ITS FALSE NEIGHBOUR: 'it returns false'. Refute it at one input. -/
def patchTransparentWrong : ChangeSpec := { name := "patchTransparent", fn := fun _ => fun
  | [d1, d2, d3] => { results := [.lit (.bool false)], args := [d1, d2, d3] }
  | _ => none }
def PatchTransparentWrongFalsely : Prop := patchTransparentRow.holds Tryd.pinned (OpenSpec.ofChange patchTransparentWrong)

/-- 'taplinelaw07.PatchUndone': WHATEVER THE INPUT: true; the input reads as it did. -/
def patchUndoneSpec : ChangeSpec := { name := "patchUndone", fn := fun _ => fun
  | [d1, d2] => { results := [.lit (.bool true)], args := [d1, d2] }
  | _ => none }
def patchUndoneRow : OpenClaim := { program := "ytfiflailjbmlpaadoor", sum := "8c962c33b2ba02e2b6196a82da20392ffa7a4af8b834591f797dd63db0b3ce7c", func := "tapline/taplinelaw07.PatchUndone", spec := "patchUndone", inPlace := ["slices.overlaps[tapline/api.Patch]"], unfollowed := true, recurses := true, named := ["tapline/insn.kinds"], apart := false, laid := [("tapline/insn.kinds", laid_tapline_insn_kinds)] }
def PatchUndoneSaid : Prop := patchUndoneRow.holds Tryd.pinned (OpenSpec.ofChange patchUndoneSpec)

/-- ITS FALSE NEIGHBOUR: 'it returns false'. Refute it at one input. -/
def patchUndoneWrong : ChangeSpec := { name := "patchUndone", fn := fun _ => fun
  | [d1, d2] => { results := [.lit (.bool false)], args := [d1, d2] }
  | _ => none }
def PatchUndoneWrongFalsely : Prop := patchUndoneRow.holds Tryd.pinned (OpenSpec.ofChange patchUndoneWrong)

/-- 'taplinelaw07.PatchOthers': WHATEVER THE INPUT: true; the input reads as it did. -/
def patchOthersSpec : ChangeSpec := { name := "patchOthers", fn := fun _ => fun
  | [d1, d2] => { results := [.lit (.bool true)], args := [d1, d2] }
  | _ => none }
def patchOthersRow : OpenClaim := { program := "ytfiflailjbmlpaadoor", sum := "8c962c33b2ba02e2b6196a82da20392ffa7a4af8b834591f797dd63db0b3ce7c", func := "tapline/taplinelaw07.PatchOthers", spec := "patchOthers", inPlace := ["slices.overlaps[tapline/api.Patch]"], unfollowed := true, recurses := true, named := ["tapline/insn.kinds"], apart := false, laid := [("tapline/insn.kinds", laid_tapline_insn_kinds)] }
def PatchOthersSaid : Prop := patchOthersRow.holds Tryd.pinned (OpenSpec.ofChange patchOthersSpec)

/-- ITS FALSE NEIGHBOUR: 'it returns false'. Refute it at one input. -/
def patchOthersWrong : ChangeSpec := { name := "patchOthers", fn := fun _ => fun
  | [d1, d2] => { results := [.lit (.bool false)], args := [d1, d2] }
  | _ => none }
def PatchOthersWrongFalsely : Prop := patchOthersRow.holds Tryd.pinned (OpenSpec.ofChange patchOthersWrong)

/- THE SECOND FORM. 'bulk': how many values and letters a reading holds, each counted each time it is reached (what is shared counts as often as it is met; a slice's spare places count too). A statement '..UptoSaid' is the law's where the arguments, and the package variables that the reading takes, are together of bulk at most 1048576: NARROWER than '..Said'. Prove '..Said' where nothing that the law and all that it calls make is longer than what came in: it says more and counts as full. Else prove '..UptoSaid'. A law counts once. -/
mutual
def uptoBulk {H : Type} : DataW H → Nat
  | .lit (.string bytes) => bytes.length + 1
  | .lit _ => 1
  | .nil => 1
  | .ptr d => uptoBulk d + 1
  | .slice elems spare => uptoBulkAll elems + uptoBulkAll spare + 1
  | .agg parts => uptoBulkAll parts + 1
  | .iface _ d => uptoBulk d + 1
  | .map entries => uptoBulkEntries entries + 1
  | .held _ => 1
def uptoBulkAll {H : Type} : List (DataW H) → Nat
  | [] => 0
  | d :: r => uptoBulk d + uptoBulkAll r
def uptoBulkEntries {H : Type} : List (Lit × DataW H) → Nat
  | [] => 0
  | x :: r => uptoBulkEntry x + uptoBulkEntries r
def uptoBulkEntry {H : Type} : Lit × DataW H → Nat
  | (.string bytes, d) => bytes.length + uptoBulk d + 1
  | (_, d) => uptoBulk d + 1
 end
def uptoSmall : (H : Type) → List (DataW H) → Bool := fun _ ds => decide (uptoBulkAll ds ≤ 1048576)
def OpenSpec.upto (s : _root_.Go.ChangeSpec) : _root_.Go.OpenSpec := { _root_.Go.OpenSpec.ofChange s with cond := some uptoSmall }

/-- 'taplinelaw07.PatchPlaces', WHERE WHAT IT READS IS OF BULK AT MOST 1048576: true; the input reads as it did. -/
def patchPlacesUptoRow : OpenClaim := { program := "ytfiflailjbmlpaadoor", sum := "8c962c33b2ba02e2b6196a82da20392ffa7a4af8b834591f797dd63db0b3ce7c", func := "tapline/taplinelaw07.PatchPlaces", spec := "patchPlaces", inPlace := ["slices.overlaps[tapline/api.Patch]"], unfollowed := true, recurses := true, named := ["tapline/insn.kinds"], apart := false, laid := [("tapline/insn.kinds", laid_tapline_insn_kinds)], narrowed := true }
def PatchPlacesUptoSaid : Prop := patchPlacesUptoRow.holds Tryd.pinned (OpenSpec.upto patchPlacesSpec)

/-- 'taplinelaw07.PatchTransparent', WHERE WHAT IT READS IS OF BULK AT MOST 1048576: true; the input reads as it did. -/
def patchTransparentUptoRow : OpenClaim := { program := "ytfiflailjbmlpaadoor", sum := "8c962c33b2ba02e2b6196a82da20392ffa7a4af8b834591f797dd63db0b3ce7c", func := "tapline/taplinelaw07.PatchTransparent", spec := "patchTransparent", inPlace := ["slices.overlaps[tapline/api.Patch]"], unfollowed := true, recurses := true, named := ["tapline/insn.kinds"], apart := false, laid := [("tapline/insn.kinds", laid_tapline_insn_kinds)], narrowed := true }
def PatchTransparentUptoSaid : Prop := patchTransparentUptoRow.holds Tryd.pinned (OpenSpec.upto patchTransparentSpec)

/-- 'taplinelaw07.PatchUndone', WHERE WHAT IT READS IS OF BULK AT MOST 1048576: true; the input reads as it did. -/
def patchUndoneUptoRow : OpenClaim := { program := "ytfiflailjbmlpaadoor", sum := "8c962c33b2ba02e2b6196a82da20392ffa7a4af8b834591f797dd63db0b3ce7c", func := "tapline/taplinelaw07.PatchUndone", spec := "patchUndone", inPlace := ["slices.overlaps[tapline/api.Patch]"], unfollowed := true, recurses := true, named := ["tapline/insn.kinds"], apart := false, laid := [("tapline/insn.kinds", laid_tapline_insn_kinds)], narrowed := true }
def PatchUndoneUptoSaid : Prop := patchUndoneUptoRow.holds Tryd.pinned (OpenSpec.upto patchUndoneSpec)

/-- 'taplinelaw07.PatchOthers', WHERE WHAT IT READS IS OF BULK AT MOST 1048576: true; the input reads as it did. -/
def patchOthersUptoRow : OpenClaim := { program := "ytfiflailjbmlpaadoor", sum := "8c962c33b2ba02e2b6196a82da20392ffa7a4af8b834591f797dd63db0b3ce7c", func := "tapline/taplinelaw07.PatchOthers", spec := "patchOthers", inPlace := ["slices.overlaps[tapline/api.Patch]"], unfollowed := true, recurses := true, named := ["tapline/insn.kinds"], apart := false, laid := [("tapline/insn.kinds", laid_tapline_insn_kinds)], narrowed := true }
def PatchOthersUptoSaid : Prop := patchOthersUptoRow.holds Tryd.pinned (OpenSpec.upto patchOthersSpec)

end Rows
end Go.Proofs.YtfiflailjbmlpaaDoor
