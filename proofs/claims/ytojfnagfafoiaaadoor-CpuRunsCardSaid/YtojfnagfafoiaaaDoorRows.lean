/-
  NARROWER THAN 'FOR EVERY INPUT', by the rows' own cells (each row's printed sentence says how): CpuExecs: laid · CpuBreaks: laid · CpuDecodes: laid · CpuAlus: laid · CpuMoved: laid · CpuBranches: laid · CpuFrames: laid · CpuStores: laid · CpuDepends: laid · CpuApplies: laid · CpuInverses: laid · CpuRuns: laid · CpuParts: laid.
  DERIVED. THE GIVEN ROWS OF THIS SEAT. 13 by the template 'for every input the law returns true; each argument reads behind the call as it read before'; 0 by the template 'total and deterministic' (their statements: YtojfnagfafoiaaaDoorTotals.lean).
  GIVEN WITH THE SEED: the statements are not yours to turn. If you find one false, say at which input.
  Laid BY PROGRAM, IN A SANDBOX (cutbox-rows.mjs): the forced cells as the released guide's own fill.sh prints them over the translation b9e459ea6ce8e045… (all of the seat's roots in one cut). By AI agents, Wed Nov 11 2026. No macro, syntax, notation, axiom, sorry.
-/
import Derived.Test.YtojfnagfafoiaaaDoorChecked
import GoSem.Claim
import GoSem.ClaimJoined
import GoSem.ClaimMapViews
import Derived.JoinedTies
import Derived.KernelRfl
namespace Go.Proofs.YtojfnagfafoiaaaDoor
/- THE CELL 'sum', in the pinned program and in every row, IS THE sha256 OF THE DUMP (.gsa) THAT YtojfnagfafoiaaaDoorProg.lean LOADS. Nothing in Lean hashes anything: it is a label: what it is worth is what the hold of that sum in a sandbox is worth. -/
noncomputable def Tryd.pinned : Pinned := { name := "ytojfnagfafoiaaadoor", sum := "b9e459ea6ce8e045bac85260b656c391a8049b676c36616403223acb83189c68", checked := Tryd.checked }
namespace Rows
def none {H : Type} : Left H := { results := [], args := [] }

/- WHAT THE LISTED PACKAGE-LEVEL VARIABLES READ AS WHEN THE CALL BEGINS. Each datum BY PROGRAM (the guide's laid-datum.mjs) off the statement by which the dump's own 'gosem.cut.vars' lays the variable. In a bare row this is a premise. The card (YtojfnagfafoiaaaDoorCards.lean) ties it to the program's text. -/
def laid_tapline_insn_kinds {H : Type} : DataW H := .agg [.agg [.lit (.string []), .lit (.int .i64 0)], .agg [.lit (.string [110, 111, 112]), .lit (.int .i64 0)], .agg [.lit (.string [109, 111, 118, 101]), .lit (.int .i64 1)], .agg [.lit (.string [115, 101, 116]), .lit (.int .i64 3)], .agg [.lit (.string [108, 105, 116]), .lit (.int .i64 4)], .agg [.lit (.string [97, 100, 100]), .lit (.int .i64 1)], .agg [.lit (.string [115, 117, 98]), .lit (.int .i64 1)], .agg [.lit (.string [109, 117, 108]), .lit (.int .i64 1)], .agg [.lit (.string [100, 105, 118]), .lit (.int .i64 1)], .agg [.lit (.string [109, 111, 100]), .lit (.int .i64 1)], .agg [.lit (.string [97, 110, 100]), .lit (.int .i64 1)], .agg [.lit (.string [111, 114]), .lit (.int .i64 1)], .agg [.lit (.string [120, 111, 114]), .lit (.int .i64 1)], .agg [.lit (.string [115, 104, 108]), .lit (.int .i64 1)], .agg [.lit (.string [115, 104, 114]), .lit (.int .i64 1)], .agg [.lit (.string [115, 97, 114]), .lit (.int .i64 1)], .agg [.lit (.string [105, 110, 99]), .lit (.int .i64 4)], .agg [.lit (.string [108, 111, 97, 100, 49]), .lit (.int .i64 5)], .agg [.lit (.string [108, 111, 97, 100, 56]), .lit (.int .i64 5)], .agg [.lit (.string [115, 116, 111, 114, 101, 49]), .lit (.int .i64 5)], .agg [.lit (.string [115, 116, 111, 114, 101, 56]), .lit (.int .i64 5)], .agg [.lit (.string [98, 101, 113]), .lit (.int .i64 5)], .agg [.lit (.string [98, 110, 101]), .lit (.int .i64 5)], .agg [.lit (.string [98, 108, 116]), .lit (.int .i64 5)], .agg [.lit (.string [98, 103, 101]), .lit (.int .i64 5)], .agg [.lit (.string [106, 117, 109, 112]), .lit (.int .i64 6)], .agg [.lit (.string [106, 117, 109, 112, 114]), .lit (.int .i64 2)], .agg [.lit (.string [99, 97, 108, 108]), .lit (.int .i64 6)], .agg [.lit (.string [99, 97, 108, 108, 114]), .lit (.int .i64 2)], .agg [.lit (.string [114, 101, 116]), .lit (.int .i64 0)], .agg [.lit (.string [112, 117, 115, 104]), .lit (.int .i64 2)], .agg [.lit (.string [112, 111, 112]), .lit (.int .i64 2)], .agg [.lit (.string [108, 101, 97]), .lit (.int .i64 7)], .agg [.lit (.string [115, 121, 115]), .lit (.int .i64 8)], .agg [.lit (.string [115, 119, 97, 112]), .lit (.int .i64 1)]]

/-- 'taplinelaw04.CpuExecs': WHATEVER THE INPUT: true; the input reads as it did. -/
def cpuExecsSpec : ChangeSpec := { name := "cpuExecs", fn := fun _ => fun
  | [d1, d2, d3] => { results := [.lit (.bool true)], args := [d1, d2, d3] }
  | _ => none }
def cpuExecsRow : OpenClaim := { program := "ytojfnagfafoiaaadoor", sum := "b9e459ea6ce8e045bac85260b656c391a8049b676c36616403223acb83189c68", func := "tapline/taplinelaw04.CpuExecs", spec := "cpuExecs", unfollowed := true, recurses := true, named := ["tapline/insn.kinds"], apart := false, laid := [("tapline/insn.kinds", laid_tapline_insn_kinds)] }
def CpuExecsSaid : Prop := cpuExecsRow.holds Tryd.pinned (OpenSpec.ofChange cpuExecsSpec)

/-- ITS FALSE NEIGHBOUR: 'it returns false'. Refute it at one input. -/
def cpuExecsWrong : ChangeSpec := { name := "cpuExecs", fn := fun _ => fun
  | [d1, d2, d3] => { results := [.lit (.bool false)], args := [d1, d2, d3] }
  | _ => none }
def CpuExecsWrongFalsely : Prop := cpuExecsRow.holds Tryd.pinned (OpenSpec.ofChange cpuExecsWrong)

/-- 'taplinelaw04.CpuBreaks': WHATEVER THE INPUT: true; the input reads as it did. -/
def cpuBreaksSpec : ChangeSpec := { name := "cpuBreaks", fn := fun _ => fun
  | [d1, d2] => { results := [.lit (.bool true)], args := [d1, d2] }
  | _ => none }
def cpuBreaksRow : OpenClaim := { program := "ytojfnagfafoiaaadoor", sum := "b9e459ea6ce8e045bac85260b656c391a8049b676c36616403223acb83189c68", func := "tapline/taplinelaw04.CpuBreaks", spec := "cpuBreaks", unfollowed := true, recurses := true, named := ["tapline/insn.kinds"], apart := false, laid := [("tapline/insn.kinds", laid_tapline_insn_kinds)] }
def CpuBreaksSaid : Prop := cpuBreaksRow.holds Tryd.pinned (OpenSpec.ofChange cpuBreaksSpec)

/-- ITS FALSE NEIGHBOUR: 'it returns false'. Refute it at one input. -/
def cpuBreaksWrong : ChangeSpec := { name := "cpuBreaks", fn := fun _ => fun
  | [d1, d2] => { results := [.lit (.bool false)], args := [d1, d2] }
  | _ => none }
def CpuBreaksWrongFalsely : Prop := cpuBreaksRow.holds Tryd.pinned (OpenSpec.ofChange cpuBreaksWrong)

/-- 'taplinelaw04.CpuDecodes': WHATEVER THE INPUT: true; the input reads as it did. -/
def cpuDecodesSpec : ChangeSpec := { name := "cpuDecodes", fn := fun _ => fun
  | [d] => { results := [.lit (.bool true)], args := [d] }
  | _ => none }
def cpuDecodesRow : OpenClaim := { program := "ytojfnagfafoiaaadoor", sum := "b9e459ea6ce8e045bac85260b656c391a8049b676c36616403223acb83189c68", func := "tapline/taplinelaw04.CpuDecodes", spec := "cpuDecodes", unfollowed := true, recurses := true, named := ["tapline/insn.kinds"], apart := false, laid := [("tapline/insn.kinds", laid_tapline_insn_kinds)] }
def CpuDecodesSaid : Prop := cpuDecodesRow.holds Tryd.pinned (OpenSpec.ofChange cpuDecodesSpec)

/-- ITS FALSE NEIGHBOUR: 'it returns false'. Refute it at one input. -/
def cpuDecodesWrong : ChangeSpec := { name := "cpuDecodes", fn := fun _ => fun
  | [d] => { results := [.lit (.bool false)], args := [d] }
  | _ => none }
def CpuDecodesWrongFalsely : Prop := cpuDecodesRow.holds Tryd.pinned (OpenSpec.ofChange cpuDecodesWrong)

/-- 'taplinelaw04.CpuAlus': WHATEVER THE INPUT: true; the input reads as it did. -/
def cpuAlusSpec : ChangeSpec := { name := "cpuAlus", fn := fun _ => fun
  | [d1, d2, d3] => { results := [.lit (.bool true)], args := [d1, d2, d3] }
  | _ => none }
def cpuAlusRow : OpenClaim := { program := "ytojfnagfafoiaaadoor", sum := "b9e459ea6ce8e045bac85260b656c391a8049b676c36616403223acb83189c68", func := "tapline/taplinelaw04.CpuAlus", spec := "cpuAlus", unfollowed := true, recurses := true, named := ["tapline/insn.kinds"], apart := false, laid := [("tapline/insn.kinds", laid_tapline_insn_kinds)] }
def CpuAlusSaid : Prop := cpuAlusRow.holds Tryd.pinned (OpenSpec.ofChange cpuAlusSpec)

/-- ITS FALSE NEIGHBOUR: 'it returns false'. Refute it at one input. -/
def cpuAlusWrong : ChangeSpec := { name := "cpuAlus", fn := fun _ => fun
  | [d1, d2, d3] => { results := [.lit (.bool false)], args := [d1, d2, d3] }
  | _ => none }
def CpuAlusWrongFalsely : Prop := cpuAlusRow.holds Tryd.pinned (OpenSpec.ofChange cpuAlusWrong)

/-- 'taplinelaw04.CpuMoved': WHATEVER THE INPUT: true; the input reads as it did. -/
def cpuMovedSpec : ChangeSpec := { name := "cpuMoved", fn := fun _ => fun
  | [d1, d2, d3] => { results := [.lit (.bool true)], args := [d1, d2, d3] }
  | _ => none }
def cpuMovedRow : OpenClaim := { program := "ytojfnagfafoiaaadoor", sum := "b9e459ea6ce8e045bac85260b656c391a8049b676c36616403223acb83189c68", func := "tapline/taplinelaw04.CpuMoved", spec := "cpuMoved", unfollowed := true, recurses := true, named := ["tapline/insn.kinds"], apart := false, laid := [("tapline/insn.kinds", laid_tapline_insn_kinds)] }
def CpuMovedSaid : Prop := cpuMovedRow.holds Tryd.pinned (OpenSpec.ofChange cpuMovedSpec)

/-- ITS FALSE NEIGHBOUR: 'it returns false'. Refute it at one input. -/
def cpuMovedWrong : ChangeSpec := { name := "cpuMoved", fn := fun _ => fun
  | [d1, d2, d3] => { results := [.lit (.bool false)], args := [d1, d2, d3] }
  | _ => none }
def CpuMovedWrongFalsely : Prop := cpuMovedRow.holds Tryd.pinned (OpenSpec.ofChange cpuMovedWrong)

/-- 'taplinelaw04.CpuBranches': WHATEVER THE INPUT: true; the input reads as it did. -/
def cpuBranchesSpec : ChangeSpec := { name := "cpuBranches", fn := fun _ => fun
  | [d1, d2] => { results := [.lit (.bool true)], args := [d1, d2] }
  | _ => none }
def cpuBranchesRow : OpenClaim := { program := "ytojfnagfafoiaaadoor", sum := "b9e459ea6ce8e045bac85260b656c391a8049b676c36616403223acb83189c68", func := "tapline/taplinelaw04.CpuBranches", spec := "cpuBranches", unfollowed := true, recurses := true, named := ["tapline/insn.kinds"], apart := false, laid := [("tapline/insn.kinds", laid_tapline_insn_kinds)] }
def CpuBranchesSaid : Prop := cpuBranchesRow.holds Tryd.pinned (OpenSpec.ofChange cpuBranchesSpec)

/-- ITS FALSE NEIGHBOUR: 'it returns false'. Refute it at one input. -/
def cpuBranchesWrong : ChangeSpec := { name := "cpuBranches", fn := fun _ => fun
  | [d1, d2] => { results := [.lit (.bool false)], args := [d1, d2] }
  | _ => none }
def CpuBranchesWrongFalsely : Prop := cpuBranchesRow.holds Tryd.pinned (OpenSpec.ofChange cpuBranchesWrong)

/-- 'taplinelaw04.CpuFrames': WHATEVER THE INPUT: true; the input reads as it did. -/
def cpuFramesSpec : ChangeSpec := { name := "cpuFrames", fn := fun _ => fun
  | [d1, d2, d3] => { results := [.lit (.bool true)], args := [d1, d2, d3] }
  | _ => none }
def cpuFramesRow : OpenClaim := { program := "ytojfnagfafoiaaadoor", sum := "b9e459ea6ce8e045bac85260b656c391a8049b676c36616403223acb83189c68", func := "tapline/taplinelaw04.CpuFrames", spec := "cpuFrames", unfollowed := true, recurses := true, named := ["tapline/insn.kinds"], apart := false, laid := [("tapline/insn.kinds", laid_tapline_insn_kinds)] }
def CpuFramesSaid : Prop := cpuFramesRow.holds Tryd.pinned (OpenSpec.ofChange cpuFramesSpec)

/-- ITS FALSE NEIGHBOUR: 'it returns false'. Refute it at one input. -/
def cpuFramesWrong : ChangeSpec := { name := "cpuFrames", fn := fun _ => fun
  | [d1, d2, d3] => { results := [.lit (.bool false)], args := [d1, d2, d3] }
  | _ => none }
def CpuFramesWrongFalsely : Prop := cpuFramesRow.holds Tryd.pinned (OpenSpec.ofChange cpuFramesWrong)

/-- 'taplinelaw04.CpuStores': WHATEVER THE INPUT: true; the input reads as it did. -/
def cpuStoresSpec : ChangeSpec := { name := "cpuStores", fn := fun _ => fun
  | [d1, d2] => { results := [.lit (.bool true)], args := [d1, d2] }
  | _ => none }
def cpuStoresRow : OpenClaim := { program := "ytojfnagfafoiaaadoor", sum := "b9e459ea6ce8e045bac85260b656c391a8049b676c36616403223acb83189c68", func := "tapline/taplinelaw04.CpuStores", spec := "cpuStores", unfollowed := true, recurses := true, named := ["tapline/insn.kinds"], apart := false, laid := [("tapline/insn.kinds", laid_tapline_insn_kinds)] }
def CpuStoresSaid : Prop := cpuStoresRow.holds Tryd.pinned (OpenSpec.ofChange cpuStoresSpec)

/-- ITS FALSE NEIGHBOUR: 'it returns false'. Refute it at one input. -/
def cpuStoresWrong : ChangeSpec := { name := "cpuStores", fn := fun _ => fun
  | [d1, d2] => { results := [.lit (.bool false)], args := [d1, d2] }
  | _ => none }
def CpuStoresWrongFalsely : Prop := cpuStoresRow.holds Tryd.pinned (OpenSpec.ofChange cpuStoresWrong)

/-- 'taplinelaw04.CpuDepends': WHATEVER THE INPUT: true; the input reads as it did. -/
def cpuDependsSpec : ChangeSpec := { name := "cpuDepends", fn := fun _ => fun
  | [d1, d2, d3] => { results := [.lit (.bool true)], args := [d1, d2, d3] }
  | _ => none }
def cpuDependsRow : OpenClaim := { program := "ytojfnagfafoiaaadoor", sum := "b9e459ea6ce8e045bac85260b656c391a8049b676c36616403223acb83189c68", func := "tapline/taplinelaw04.CpuDepends", spec := "cpuDepends", unfollowed := true, recurses := true, named := ["tapline/insn.kinds"], apart := false, laid := [("tapline/insn.kinds", laid_tapline_insn_kinds)] }
def CpuDependsSaid : Prop := cpuDependsRow.holds Tryd.pinned (OpenSpec.ofChange cpuDependsSpec)

/-- ITS FALSE NEIGHBOUR: 'it returns false'. Refute it at one input. -/
def cpuDependsWrong : ChangeSpec := { name := "cpuDepends", fn := fun _ => fun
  | [d1, d2, d3] => { results := [.lit (.bool false)], args := [d1, d2, d3] }
  | _ => none }
def CpuDependsWrongFalsely : Prop := cpuDependsRow.holds Tryd.pinned (OpenSpec.ofChange cpuDependsWrong)

/-- 'taplinelaw04.CpuApplies': WHATEVER THE INPUT: true; the input reads as it did. -/
def cpuAppliesSpec : ChangeSpec := { name := "cpuApplies", fn := fun _ => fun
  | [d1, d2, d3] => { results := [.lit (.bool true)], args := [d1, d2, d3] }
  | _ => none }
def cpuAppliesRow : OpenClaim := { program := "ytojfnagfafoiaaadoor", sum := "b9e459ea6ce8e045bac85260b656c391a8049b676c36616403223acb83189c68", func := "tapline/taplinelaw04.CpuApplies", spec := "cpuApplies", unfollowed := true, recurses := true, named := ["tapline/insn.kinds"], apart := false, laid := [("tapline/insn.kinds", laid_tapline_insn_kinds)] }
def CpuAppliesSaid : Prop := cpuAppliesRow.holds Tryd.pinned (OpenSpec.ofChange cpuAppliesSpec)

/-- ITS FALSE NEIGHBOUR: 'it returns false'. Refute it at one input. -/
def cpuAppliesWrong : ChangeSpec := { name := "cpuApplies", fn := fun _ => fun
  | [d1, d2, d3] => { results := [.lit (.bool false)], args := [d1, d2, d3] }
  | _ => none }
def CpuAppliesWrongFalsely : Prop := cpuAppliesRow.holds Tryd.pinned (OpenSpec.ofChange cpuAppliesWrong)

/-- 'taplinelaw04.CpuInverses': WHATEVER THE INPUT: true; the input reads as it did. -/
def cpuInversesSpec : ChangeSpec := { name := "cpuInverses", fn := fun _ => fun
  | [d1, d2, d3] => { results := [.lit (.bool true)], args := [d1, d2, d3] }
  | _ => none }
def cpuInversesRow : OpenClaim := { program := "ytojfnagfafoiaaadoor", sum := "b9e459ea6ce8e045bac85260b656c391a8049b676c36616403223acb83189c68", func := "tapline/taplinelaw04.CpuInverses", spec := "cpuInverses", unfollowed := true, recurses := true, named := ["tapline/insn.kinds"], apart := false, laid := [("tapline/insn.kinds", laid_tapline_insn_kinds)] }
def CpuInversesSaid : Prop := cpuInversesRow.holds Tryd.pinned (OpenSpec.ofChange cpuInversesSpec)

/-- ITS FALSE NEIGHBOUR: 'it returns false'. Refute it at one input. -/
def cpuInversesWrong : ChangeSpec := { name := "cpuInverses", fn := fun _ => fun
  | [d1, d2, d3] => { results := [.lit (.bool false)], args := [d1, d2, d3] }
  | _ => none }
def CpuInversesWrongFalsely : Prop := cpuInversesRow.holds Tryd.pinned (OpenSpec.ofChange cpuInversesWrong)

/-- 'taplinelaw04.CpuRuns': WHATEVER THE INPUT: true; the input reads as it did. -/
def cpuRunsSpec : ChangeSpec := { name := "cpuRuns", fn := fun _ => fun
  | [d1, d2, d3] => { results := [.lit (.bool true)], args := [d1, d2, d3] }
  | _ => none }
def cpuRunsRow : OpenClaim := { program := "ytojfnagfafoiaaadoor", sum := "b9e459ea6ce8e045bac85260b656c391a8049b676c36616403223acb83189c68", func := "tapline/taplinelaw04.CpuRuns", spec := "cpuRuns", unfollowed := true, recurses := true, named := ["tapline/insn.kinds"], apart := false, laid := [("tapline/insn.kinds", laid_tapline_insn_kinds)] }
def CpuRunsSaid : Prop := cpuRunsRow.holds Tryd.pinned (OpenSpec.ofChange cpuRunsSpec)

/-- ITS FALSE NEIGHBOUR: 'it returns false'. Refute it at one input. -/
def cpuRunsWrong : ChangeSpec := { name := "cpuRuns", fn := fun _ => fun
  | [d1, d2, d3] => { results := [.lit (.bool false)], args := [d1, d2, d3] }
  | _ => none }
def CpuRunsWrongFalsely : Prop := cpuRunsRow.holds Tryd.pinned (OpenSpec.ofChange cpuRunsWrong)

/-- 'taplinelaw04.CpuParts': WHATEVER THE INPUT: true; the input reads as it did. -/
def cpuPartsSpec : ChangeSpec := { name := "cpuParts", fn := fun _ => fun
  | [d1, d2] => { results := [.lit (.bool true)], args := [d1, d2] }
  | _ => none }
def cpuPartsRow : OpenClaim := { program := "ytojfnagfafoiaaadoor", sum := "b9e459ea6ce8e045bac85260b656c391a8049b676c36616403223acb83189c68", func := "tapline/taplinelaw04.CpuParts", spec := "cpuParts", unfollowed := true, recurses := true, named := ["tapline/insn.kinds"], apart := false, laid := [("tapline/insn.kinds", laid_tapline_insn_kinds)] }
def CpuPartsSaid : Prop := cpuPartsRow.holds Tryd.pinned (OpenSpec.ofChange cpuPartsSpec)

/-- ITS FALSE NEIGHBOUR: 'it returns false'. Refute it at one input. -/
def cpuPartsWrong : ChangeSpec := { name := "cpuParts", fn := fun _ => fun
  | [d1, d2] => { results := [.lit (.bool false)], args := [d1, d2] }
  | _ => none }
def CpuPartsWrongFalsely : Prop := cpuPartsRow.holds Tryd.pinned (OpenSpec.ofChange cpuPartsWrong)

/- THE SECOND FORM. 'bulk': how many values and letters a reading holds, each counted each time it is reached (what is shared counts as often as it is met; a slice's spare places count too). A statement '..UptoSaid' is the law's where the arguments, and the package variables that the reading takes, are together of bulk at most 1048576: NARROWER than '..Said'. Prove '..Said' where nothing that the law and all that it calls make is longer than what came in: it says more and counts as full. Else prove '..UptoSaid'. A law counts once. -/
mutual
def uptoBulk {H : Type} : DataW H → Nat
  | .lit (.string bytes) => bytes.length + 1
  | .lit _ => 1
  | .nil => 1
  | .ptr d => uptoBulk d + 1
  | .slice elems spare => uptoBulkAll elems + uptoBulkAll spare + 1
  | .agg parts => uptoBulkAll parts + 1
  | .iface _ d => uptoBulk d + 1
  | .map entries => uptoBulkEntries entries + 1
  | .held _ => 1
def uptoBulkAll {H : Type} : List (DataW H) → Nat
  | [] => 0
  | d :: r => uptoBulk d + uptoBulkAll r
def uptoBulkEntries {H : Type} : List (Lit × DataW H) → Nat
  | [] => 0
  | x :: r => uptoBulkEntry x + uptoBulkEntries r
def uptoBulkEntry {H : Type} : Lit × DataW H → Nat
  | (.string bytes, d) => bytes.length + uptoBulk d + 1
  | (_, d) => uptoBulk d + 1
 end
def uptoSmall : (H : Type) → List (DataW H) → Bool := fun _ ds => decide (uptoBulkAll ds ≤ 1048576)
def OpenSpec.upto (s : _root_.Go.ChangeSpec) : _root_.Go.OpenSpec := { _root_.Go.OpenSpec.ofChange s with cond := some uptoSmall }

/-- 'taplinelaw04.CpuExecs', WHERE WHAT IT READS IS OF BULK AT MOST 1048576: true; the input reads as it did. -/
def cpuExecsUptoRow : OpenClaim := { program := "ytojfnagfafoiaaadoor", sum := "b9e459ea6ce8e045bac85260b656c391a8049b676c36616403223acb83189c68", func := "tapline/taplinelaw04.CpuExecs", spec := "cpuExecs", unfollowed := true, recurses := true, named := ["tapline/insn.kinds"], apart := false, laid := [("tapline/insn.kinds", laid_tapline_insn_kinds)], narrowed := true }
def CpuExecsUptoSaid : Prop := cpuExecsUptoRow.holds Tryd.pinned (OpenSpec.upto cpuExecsSpec)

/-- 'taplinelaw04.CpuBreaks', WHERE WHAT IT READS IS OF BULK AT MOST 1048576: true; the input reads as it did. -/
def cpuBreaksUptoRow : OpenClaim := { program := "ytojfnagfafoiaaadoor", sum := "b9e459ea6ce8e045bac85260b656c391a8049b676c36616403223acb83189c68", func := "tapline/taplinelaw04.CpuBreaks", spec := "cpuBreaks", unfollowed := true, recurses := true, named := ["tapline/insn.kinds"], apart := false, laid := [("tapline/insn.kinds", laid_tapline_insn_kinds)], narrowed := true }
def CpuBreaksUptoSaid : Prop := cpuBreaksUptoRow.holds Tryd.pinned (OpenSpec.upto cpuBreaksSpec)

/-- 'taplinelaw04.CpuDecodes', WHERE WHAT IT READS IS OF BULK AT MOST 1048576: true; the input reads as it did. -/
def cpuDecodesUptoRow : OpenClaim := { program := "ytojfnagfafoiaaadoor", sum := "b9e459ea6ce8e045bac85260b656c391a8049b676c36616403223acb83189c68", func := "tapline/taplinelaw04.CpuDecodes", spec := "cpuDecodes", unfollowed := true, recurses := true, named := ["tapline/insn.kinds"], apart := false, laid := [("tapline/insn.kinds", laid_tapline_insn_kinds)], narrowed := true }
def CpuDecodesUptoSaid : Prop := cpuDecodesUptoRow.holds Tryd.pinned (OpenSpec.upto cpuDecodesSpec)

/-- 'taplinelaw04.CpuAlus', WHERE WHAT IT READS IS OF BULK AT MOST 1048576: true; the input reads as it did. -/
def cpuAlusUptoRow : OpenClaim := { program := "ytojfnagfafoiaaadoor", sum := "b9e459ea6ce8e045bac85260b656c391a8049b676c36616403223acb83189c68", func := "tapline/taplinelaw04.CpuAlus", spec := "cpuAlus", unfollowed := true, recurses := true, named := ["tapline/insn.kinds"], apart := false, laid := [("tapline/insn.kinds", laid_tapline_insn_kinds)], narrowed := true }
def CpuAlusUptoSaid : Prop := cpuAlusUptoRow.holds Tryd.pinned (OpenSpec.upto cpuAlusSpec)

/-- 'taplinelaw04.CpuMoved', WHERE WHAT IT READS IS OF BULK AT MOST 1048576: true; the input reads as it did. -/
def cpuMovedUptoRow : OpenClaim := { program := "ytojfnagfafoiaaadoor", sum := "b9e459ea6ce8e045bac85260b656c391a8049b676c36616403223acb83189c68", func := "tapline/taplinelaw04.CpuMoved", spec := "cpuMoved", unfollowed := true, recurses := true, named := ["tapline/insn.kinds"], apart := false, laid := [("tapline/insn.kinds", laid_tapline_insn_kinds)], narrowed := true }
def CpuMovedUptoSaid : Prop := cpuMovedUptoRow.holds Tryd.pinned (OpenSpec.upto cpuMovedSpec)

/-- 'taplinelaw04.CpuBranches', WHERE WHAT IT READS IS OF BULK AT MOST 1048576: true; the input reads as it did. -/
def cpuBranchesUptoRow : OpenClaim := { program := "ytojfnagfafoiaaadoor", sum := "b9e459ea6ce8e045bac85260b656c391a8049b676c36616403223acb83189c68", func := "tapline/taplinelaw04.CpuBranches", spec := "cpuBranches", unfollowed := true, recurses := true, named := ["tapline/insn.kinds"], apart := false, laid := [("tapline/insn.kinds", laid_tapline_insn_kinds)], narrowed := true }
def CpuBranchesUptoSaid : Prop := cpuBranchesUptoRow.holds Tryd.pinned (OpenSpec.upto cpuBranchesSpec)

/-- 'taplinelaw04.CpuFrames', WHERE WHAT IT READS IS OF BULK AT MOST 1048576: true; the input reads as it did. -/
def cpuFramesUptoRow : OpenClaim := { program := "ytojfnagfafoiaaadoor", sum := "b9e459ea6ce8e045bac85260b656c391a8049b676c36616403223acb83189c68", func := "tapline/taplinelaw04.CpuFrames", spec := "cpuFrames", unfollowed := true, recurses := true, named := ["tapline/insn.kinds"], apart := false, laid := [("tapline/insn.kinds", laid_tapline_insn_kinds)], narrowed := true }
def CpuFramesUptoSaid : Prop := cpuFramesUptoRow.holds Tryd.pinned (OpenSpec.upto cpuFramesSpec)

/-- 'taplinelaw04.CpuStores', WHERE WHAT IT READS IS OF BULK AT MOST 1048576: true; the input reads as it did. -/
def cpuStoresUptoRow : OpenClaim := { program := "ytojfnagfafoiaaadoor", sum := "b9e459ea6ce8e045bac85260b656c391a8049b676c36616403223acb83189c68", func := "tapline/taplinelaw04.CpuStores", spec := "cpuStores", unfollowed := true, recurses := true, named := ["tapline/insn.kinds"], apart := false, laid := [("tapline/insn.kinds", laid_tapline_insn_kinds)], narrowed := true }
def CpuStoresUptoSaid : Prop := cpuStoresUptoRow.holds Tryd.pinned (OpenSpec.upto cpuStoresSpec)

/-- 'taplinelaw04.CpuDepends', WHERE WHAT IT READS IS OF BULK AT MOST 1048576: true; the input reads as it did. -/
def cpuDependsUptoRow : OpenClaim := { program := "ytojfnagfafoiaaadoor", sum := "b9e459ea6ce8e045bac85260b656c391a8049b676c36616403223acb83189c68", func := "tapline/taplinelaw04.CpuDepends", spec := "cpuDepends", unfollowed := true, recurses := true, named := ["tapline/insn.kinds"], apart := false, laid := [("tapline/insn.kinds", laid_tapline_insn_kinds)], narrowed := true }
def CpuDependsUptoSaid : Prop := cpuDependsUptoRow.holds Tryd.pinned (OpenSpec.upto cpuDependsSpec)

/-- 'taplinelaw04.CpuApplies', WHERE WHAT IT READS IS OF BULK AT MOST 1048576: true; the input reads as it did. -/
def cpuAppliesUptoRow : OpenClaim := { program := "ytojfnagfafoiaaadoor", sum := "b9e459ea6ce8e045bac85260b656c391a8049b676c36616403223acb83189c68", func := "tapline/taplinelaw04.CpuApplies", spec := "cpuApplies", unfollowed := true, recurses := true, named := ["tapline/insn.kinds"], apart := false, laid := [("tapline/insn.kinds", laid_tapline_insn_kinds)], narrowed := true }
def CpuAppliesUptoSaid : Prop := cpuAppliesUptoRow.holds Tryd.pinned (OpenSpec.upto cpuAppliesSpec)

/-- 'taplinelaw04.CpuInverses', WHERE WHAT IT READS IS OF BULK AT MOST 1048576: true; the input reads as it did. -/
def cpuInversesUptoRow : OpenClaim := { program := "ytojfnagfafoiaaadoor", sum := "b9e459ea6ce8e045bac85260b656c391a8049b676c36616403223acb83189c68", func := "tapline/taplinelaw04.CpuInverses", spec := "cpuInverses", unfollowed := true, recurses := true, named := ["tapline/insn.kinds"], apart := false, laid := [("tapline/insn.kinds", laid_tapline_insn_kinds)], narrowed := true }
def CpuInversesUptoSaid : Prop := cpuInversesUptoRow.holds Tryd.pinned (OpenSpec.upto cpuInversesSpec)

/-- 'taplinelaw04.CpuRuns', WHERE WHAT IT READS IS OF BULK AT MOST 1048576: true; the input reads as it did. -/
def cpuRunsUptoRow : OpenClaim := { program := "ytojfnagfafoiaaadoor", sum := "b9e459ea6ce8e045bac85260b656c391a8049b676c36616403223acb83189c68", func := "tapline/taplinelaw04.CpuRuns", spec := "cpuRuns", unfollowed := true, recurses := true, named := ["tapline/insn.kinds"], apart := false, laid := [("tapline/insn.kinds", laid_tapline_insn_kinds)], narrowed := true }
def CpuRunsUptoSaid : Prop := cpuRunsUptoRow.holds Tryd.pinned (OpenSpec.upto cpuRunsSpec)

/-- 'taplinelaw04.CpuParts', WHERE WHAT IT READS IS OF BULK AT MOST 1048576: true; the input reads as it did. -/
def cpuPartsUptoRow : OpenClaim := { program := "ytojfnagfafoiaaadoor", sum := "b9e459ea6ce8e045bac85260b656c391a8049b676c36616403223acb83189c68", func := "tapline/taplinelaw04.CpuParts", spec := "cpuParts", unfollowed := true, recurses := true, named := ["tapline/insn.kinds"], apart := false, laid := [("tapline/insn.kinds", laid_tapline_insn_kinds)], narrowed := true }
def CpuPartsUptoSaid : Prop := cpuPartsUptoRow.holds Tryd.pinned (OpenSpec.upto cpuPartsSpec)

end Rows
end Go.Proofs.YtojfnagfafoiaaaDoor
