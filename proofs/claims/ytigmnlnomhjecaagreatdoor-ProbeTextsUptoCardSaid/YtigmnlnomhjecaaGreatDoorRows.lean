/-
  NARROWER THAN 'FOR EVERY INPUT', by the rows' own cells (each row's printed sentence says how): ProbeGlobs: laid · ProbePlain: laid · ProbeStars: laid · ProbeMeets: laid · ProbeSelects: laid · ProbeTexts: laid.
  DERIVED. THE GIVEN ROWS OF THIS SEAT. 6 by the template 'for every input the law returns true; each argument reads behind the call as it read before'; 0 by the template 'total and deterministic' (their statements: YtigmnlnomhjecaaGreatDoorTotals.lean).
  GIVEN WITH THE SEED: the statements are not yours to turn. If you find one false, say at which input.
  Laid BY PROGRAM, IN A SANDBOX (cutbox-rows.mjs): the forced cells as the released guide's own fill.sh prints them over the translation f926513f897fc467… (all of the seat's roots in one cut). By AI agents, Wed Nov 11 2026. No macro, syntax, notation, axiom, sorry.
-/
import Derived.Test.YtigmnlnomhjecaaGreatDoorChecked
import GoSem.Claim
import GoSem.ClaimJoined
import GoSem.ClaimMapViews
import Derived.JoinedTies
import Derived.KernelRfl
namespace Go.Proofs.YtigmnlnomhjecaaGreatDoor
/- THE CELL 'sum', in the pinned program and in every row, IS THE sha256 OF THE DUMP (.gsa) THAT YtigmnlnomhjecaaGreatDoorProg.lean LOADS. Nothing in Lean hashes anything: it is a label: what it is worth is what the hold of that sum in a sandbox is worth. -/
noncomputable def Tryz.pinned : Pinned := { name := "ytigmnlnomhjecaagreatdoor", sum := "f926513f897fc467d825d6d20a04e91165fe77d37591fd447e6dea0186c25cdf", checked := Tryz.checked }
namespace Rows
def none {H : Type} : Left H := { results := [], args := [] }

/- WHAT THE LISTED PACKAGE-LEVEL VARIABLES READ AS WHEN THE CALL BEGINS. Each datum BY PROGRAM (the guide's laid-datum.mjs) off the statement by which the dump's own 'gosem.cut.vars' lays the variable. In a bare row this is a premise. The card (YtigmnlnomhjecaaGreatDoorCards.lean) ties it to the program's text. -/
def laid_math_bits_deBruijn32tab {H : Type} : DataW H := .agg [.lit (.int .u8 0), .lit (.int .u8 1), .lit (.int .u8 28), .lit (.int .u8 2), .lit (.int .u8 29), .lit (.int .u8 14), .lit (.int .u8 24), .lit (.int .u8 3), .lit (.int .u8 30), .lit (.int .u8 22), .lit (.int .u8 20), .lit (.int .u8 15), .lit (.int .u8 25), .lit (.int .u8 17), .lit (.int .u8 4), .lit (.int .u8 8), .lit (.int .u8 31), .lit (.int .u8 27), .lit (.int .u8 13), .lit (.int .u8 23), .lit (.int .u8 21), .lit (.int .u8 19), .lit (.int .u8 16), .lit (.int .u8 7), .lit (.int .u8 26), .lit (.int .u8 12), .lit (.int .u8 18), .lit (.int .u8 6), .lit (.int .u8 11), .lit (.int .u8 5), .lit (.int .u8 10), .lit (.int .u8 9)]
def laid_math_bits_deBruijn64tab {H : Type} : DataW H := .agg [.lit (.int .u8 0), .lit (.int .u8 1), .lit (.int .u8 56), .lit (.int .u8 2), .lit (.int .u8 57), .lit (.int .u8 49), .lit (.int .u8 28), .lit (.int .u8 3), .lit (.int .u8 61), .lit (.int .u8 58), .lit (.int .u8 42), .lit (.int .u8 50), .lit (.int .u8 38), .lit (.int .u8 29), .lit (.int .u8 17), .lit (.int .u8 4), .lit (.int .u8 62), .lit (.int .u8 47), .lit (.int .u8 59), .lit (.int .u8 36), .lit (.int .u8 45), .lit (.int .u8 43), .lit (.int .u8 51), .lit (.int .u8 22), .lit (.int .u8 53), .lit (.int .u8 39), .lit (.int .u8 33), .lit (.int .u8 30), .lit (.int .u8 24), .lit (.int .u8 18), .lit (.int .u8 12), .lit (.int .u8 5), .lit (.int .u8 63), .lit (.int .u8 55), .lit (.int .u8 48), .lit (.int .u8 27), .lit (.int .u8 60), .lit (.int .u8 41), .lit (.int .u8 37), .lit (.int .u8 16), .lit (.int .u8 46), .lit (.int .u8 35), .lit (.int .u8 44), .lit (.int .u8 21), .lit (.int .u8 52), .lit (.int .u8 32), .lit (.int .u8 23), .lit (.int .u8 11), .lit (.int .u8 54), .lit (.int .u8 26), .lit (.int .u8 40), .lit (.int .u8 15), .lit (.int .u8 34), .lit (.int .u8 20), .lit (.int .u8 31), .lit (.int .u8 10), .lit (.int .u8 25), .lit (.int .u8 14), .lit (.int .u8 19), .lit (.int .u8 9), .lit (.int .u8 13), .lit (.int .u8 8), .lit (.int .u8 7), .lit (.int .u8 6)]
def laid_internal_strconv_uint64pow10 {H : Type} : DataW H := .agg [.lit (.int .u64 1), .lit (.int .u64 10), .lit (.int .u64 100), .lit (.int .u64 1000), .lit (.int .u64 10000), .lit (.int .u64 100000), .lit (.int .u64 1000000), .lit (.int .u64 10000000), .lit (.int .u64 100000000), .lit (.int .u64 1000000000), .lit (.int .u64 10000000000), .lit (.int .u64 100000000000), .lit (.int .u64 1000000000000), .lit (.int .u64 10000000000000), .lit (.int .u64 100000000000000), .lit (.int .u64 1000000000000000), .lit (.int .u64 10000000000000000), .lit (.int .u64 100000000000000000), .lit (.int .u64 1000000000000000000), .lit (.int .u64 10000000000000000000)]
def laid_tapline_insn_kinds {H : Type} : DataW H := .agg [.agg [.lit (.string []), .lit (.int .i64 0)], .agg [.lit (.string [110, 111, 112]), .lit (.int .i64 0)], .agg [.lit (.string [109, 111, 118, 101]), .lit (.int .i64 1)], .agg [.lit (.string [115, 101, 116]), .lit (.int .i64 3)], .agg [.lit (.string [108, 105, 116]), .lit (.int .i64 4)], .agg [.lit (.string [97, 100, 100]), .lit (.int .i64 1)], .agg [.lit (.string [115, 117, 98]), .lit (.int .i64 1)], .agg [.lit (.string [109, 117, 108]), .lit (.int .i64 1)], .agg [.lit (.string [100, 105, 118]), .lit (.int .i64 1)], .agg [.lit (.string [109, 111, 100]), .lit (.int .i64 1)], .agg [.lit (.string [97, 110, 100]), .lit (.int .i64 1)], .agg [.lit (.string [111, 114]), .lit (.int .i64 1)], .agg [.lit (.string [120, 111, 114]), .lit (.int .i64 1)], .agg [.lit (.string [115, 104, 108]), .lit (.int .i64 1)], .agg [.lit (.string [115, 104, 114]), .lit (.int .i64 1)], .agg [.lit (.string [115, 97, 114]), .lit (.int .i64 1)], .agg [.lit (.string [105, 110, 99]), .lit (.int .i64 4)], .agg [.lit (.string [108, 111, 97, 100, 49]), .lit (.int .i64 5)], .agg [.lit (.string [108, 111, 97, 100, 56]), .lit (.int .i64 5)], .agg [.lit (.string [115, 116, 111, 114, 101, 49]), .lit (.int .i64 5)], .agg [.lit (.string [115, 116, 111, 114, 101, 56]), .lit (.int .i64 5)], .agg [.lit (.string [98, 101, 113]), .lit (.int .i64 5)], .agg [.lit (.string [98, 110, 101]), .lit (.int .i64 5)], .agg [.lit (.string [98, 108, 116]), .lit (.int .i64 5)], .agg [.lit (.string [98, 103, 101]), .lit (.int .i64 5)], .agg [.lit (.string [106, 117, 109, 112]), .lit (.int .i64 6)], .agg [.lit (.string [106, 117, 109, 112, 114]), .lit (.int .i64 2)], .agg [.lit (.string [99, 97, 108, 108]), .lit (.int .i64 6)], .agg [.lit (.string [99, 97, 108, 108, 114]), .lit (.int .i64 2)], .agg [.lit (.string [114, 101, 116]), .lit (.int .i64 0)], .agg [.lit (.string [112, 117, 115, 104]), .lit (.int .i64 2)], .agg [.lit (.string [112, 111, 112]), .lit (.int .i64 2)], .agg [.lit (.string [108, 101, 97]), .lit (.int .i64 7)], .agg [.lit (.string [115, 121, 115]), .lit (.int .i64 8)], .agg [.lit (.string [115, 119, 97, 112]), .lit (.int .i64 1)]]
def laid_tapline_probe_calls {H : Type} : DataW H := .agg [.lit (.string [101, 120, 105, 116]), .lit (.string [112, 105, 100]), .lit (.string [116, 105, 100]), .lit (.string [121, 105, 101, 108, 100]), .lit (.string [115, 112, 97, 119, 110]), .lit (.string [112, 114, 105]), .lit (.string [115, 108, 101, 101, 112]), .lit (.string [119, 97, 107, 101]), .lit (.string [114, 101, 97, 100]), .lit (.string [119, 114, 105, 116, 101]), .lit (.string [116, 105, 109, 101]), .lit (.string [112, 114, 111, 116, 101, 99, 116]), .lit (.string [107, 105, 108, 108])]
def laid_tapline_probe_others {H : Type} : DataW H := .agg [.agg [.lit (.string [115, 99, 104, 101, 100]), .lit (.string [111, 110, 45, 99, 112, 117]), .lit (.int .i64 4)], .agg [.lit (.string [115, 99, 104, 101, 100]), .lit (.string [111, 102, 102, 45, 99, 112, 117]), .lit (.int .i64 5)], .agg [.lit (.string [115, 99, 104, 101, 100]), .lit (.string [101, 110, 113, 117, 101, 117, 101]), .lit (.int .i64 6)], .agg [.lit (.string [115, 99, 104, 101, 100]), .lit (.string [119, 97, 107, 101, 117, 112]), .lit (.int .i64 7)], .agg [.lit (.string [105, 111]), .lit (.string [115, 116, 97, 114, 116]), .lit (.int .i64 8)], .agg [.lit (.string [105, 111]), .lit (.string [100, 111, 110, 101]), .lit (.int .i64 9)], .agg [.lit (.string [112, 114, 111, 99]), .lit (.string [115, 112, 97, 119, 110]), .lit (.int .i64 11)], .agg [.lit (.string [112, 114, 111, 99]), .lit (.string [101, 120, 105, 116]), .lit (.int .i64 12)], .agg [.lit (.string [112, 114, 111, 99]), .lit (.string [102, 97, 117, 108, 116]), .lit (.int .i64 13)]]

/-- 'taplinelaw10.ProbeGlobs': WHATEVER THE INPUT: true; the input reads as it did. -/
def probeGlobsSpec : ChangeSpec := { name := "probeGlobs", fn := fun _ => fun
  | [d1, d2, d3] => { results := [.lit (.bool true)], args := [d1, d2, d3] }
  | _ => none }
def probeGlobsRow : OpenClaim := { program := "ytigmnlnomhjecaagreatdoor", sum := "f926513f897fc467d825d6d20a04e91165fe77d37591fd447e6dea0186c25cdf", func := "tapline/taplinelaw10.ProbeGlobs", spec := "probeGlobs", inPlace := ["internal/bytealg.IndexByteString"], unfollowed := true, recurses := true, named := ["tapline/probe.calls", "tapline/probe.others", "internal/strconv.uint64pow10", "math/bits.deBruijn32tab", "math/bits.deBruijn64tab", "tapline/insn.kinds"], apart := false, laid := [("math/bits.deBruijn32tab", laid_math_bits_deBruijn32tab), ("math/bits.deBruijn64tab", laid_math_bits_deBruijn64tab), ("internal/strconv.uint64pow10", laid_internal_strconv_uint64pow10), ("tapline/insn.kinds", laid_tapline_insn_kinds), ("tapline/probe.calls", laid_tapline_probe_calls), ("tapline/probe.others", laid_tapline_probe_others)] }
def ProbeGlobsSaid : Prop := probeGlobsRow.holds Tryz.pinned (OpenSpec.ofChange probeGlobsSpec)

/-- ITS FALSE NEIGHBOUR: 'it returns false'. Refute it at one input. -/
def probeGlobsWrong : ChangeSpec := { name := "probeGlobs", fn := fun _ => fun
  | [d1, d2, d3] => { results := [.lit (.bool false)], args := [d1, d2, d3] }
  | _ => none }
def ProbeGlobsWrongFalsely : Prop := probeGlobsRow.holds Tryz.pinned (OpenSpec.ofChange probeGlobsWrong)

/-- 'taplinelaw10.ProbePlain': WHATEVER THE INPUT: true; the input reads as it did. -/
def probePlainSpec : ChangeSpec := { name := "probePlain", fn := fun _ => fun
  | [d1, d2, d3] => { results := [.lit (.bool true)], args := [d1, d2, d3] }
  | _ => none }
def probePlainRow : OpenClaim := { program := "ytigmnlnomhjecaagreatdoor", sum := "f926513f897fc467d825d6d20a04e91165fe77d37591fd447e6dea0186c25cdf", func := "tapline/taplinelaw10.ProbePlain", spec := "probePlain", inPlace := ["internal/bytealg.IndexByteString"], unfollowed := true, recurses := true, named := ["tapline/probe.calls", "tapline/probe.others", "internal/strconv.uint64pow10", "math/bits.deBruijn32tab", "math/bits.deBruijn64tab", "tapline/insn.kinds"], apart := false, laid := [("math/bits.deBruijn32tab", laid_math_bits_deBruijn32tab), ("math/bits.deBruijn64tab", laid_math_bits_deBruijn64tab), ("internal/strconv.uint64pow10", laid_internal_strconv_uint64pow10), ("tapline/insn.kinds", laid_tapline_insn_kinds), ("tapline/probe.calls", laid_tapline_probe_calls), ("tapline/probe.others", laid_tapline_probe_others)] }
def ProbePlainSaid : Prop := probePlainRow.holds Tryz.pinned (OpenSpec.ofChange probePlainSpec)

/-- ITS FALSE NEIGHBOUR: 'it returns false'. Refute it at one input. -/
def probePlainWrong : ChangeSpec := { name := "probePlain", fn := fun _ => fun
  | [d1, d2, d3] => { results := [.lit (.bool false)], args := [d1, d2, d3] }
  | _ => none }
def ProbePlainWrongFalsely : Prop := probePlainRow.holds Tryz.pinned (OpenSpec.ofChange probePlainWrong)

/-- 'taplinelaw10.ProbeStars': WHATEVER THE INPUT: true; the input reads as it did. -/
def probeStarsSpec : ChangeSpec := { name := "probeStars", fn := fun _ => fun
  | [d1, d2, d3] => { results := [.lit (.bool true)], args := [d1, d2, d3] }
  | _ => none }
def probeStarsRow : OpenClaim := { program := "ytigmnlnomhjecaagreatdoor", sum := "f926513f897fc467d825d6d20a04e91165fe77d37591fd447e6dea0186c25cdf", func := "tapline/taplinelaw10.ProbeStars", spec := "probeStars", inPlace := ["internal/bytealg.IndexByteString"], unfollowed := true, recurses := true, named := ["tapline/probe.calls", "tapline/probe.others", "internal/strconv.uint64pow10", "math/bits.deBruijn32tab", "math/bits.deBruijn64tab", "tapline/insn.kinds"], apart := false, laid := [("math/bits.deBruijn32tab", laid_math_bits_deBruijn32tab), ("math/bits.deBruijn64tab", laid_math_bits_deBruijn64tab), ("internal/strconv.uint64pow10", laid_internal_strconv_uint64pow10), ("tapline/insn.kinds", laid_tapline_insn_kinds), ("tapline/probe.calls", laid_tapline_probe_calls), ("tapline/probe.others", laid_tapline_probe_others)] }
def ProbeStarsSaid : Prop := probeStarsRow.holds Tryz.pinned (OpenSpec.ofChange probeStarsSpec)

/-- ITS FALSE NEIGHBOUR: 'it returns false'. Refute it at one input. -/
def probeStarsWrong : ChangeSpec := { name := "probeStars", fn := fun _ => fun
  | [d1, d2, d3] => { results := [.lit (.bool false)], args := [d1, d2, d3] }
  | _ => none }
def ProbeStarsWrongFalsely : Prop := probeStarsRow.holds Tryz.pinned (OpenSpec.ofChange probeStarsWrong)

/-- 'taplinelaw10.ProbeMeets': WHATEVER THE INPUT: true; the input reads as it did. -/
def probeMeetsSpec : ChangeSpec := { name := "probeMeets", fn := fun _ => fun
  | [d1, d2, d3] => { results := [.lit (.bool true)], args := [d1, d2, d3] }
  | _ => none }
def probeMeetsRow : OpenClaim := { program := "ytigmnlnomhjecaagreatdoor", sum := "f926513f897fc467d825d6d20a04e91165fe77d37591fd447e6dea0186c25cdf", func := "tapline/taplinelaw10.ProbeMeets", spec := "probeMeets", inPlace := ["internal/bytealg.IndexByteString"], unfollowed := true, recurses := true, named := ["tapline/probe.calls", "tapline/probe.others", "internal/strconv.uint64pow10", "math/bits.deBruijn32tab", "math/bits.deBruijn64tab", "tapline/insn.kinds"], apart := false, laid := [("math/bits.deBruijn32tab", laid_math_bits_deBruijn32tab), ("math/bits.deBruijn64tab", laid_math_bits_deBruijn64tab), ("internal/strconv.uint64pow10", laid_internal_strconv_uint64pow10), ("tapline/insn.kinds", laid_tapline_insn_kinds), ("tapline/probe.calls", laid_tapline_probe_calls), ("tapline/probe.others", laid_tapline_probe_others)] }
def ProbeMeetsSaid : Prop := probeMeetsRow.holds Tryz.pinned (OpenSpec.ofChange probeMeetsSpec)

/-- ITS FALSE NEIGHBOUR: 'it returns false'. Refute it at one input. -/
def probeMeetsWrong : ChangeSpec := { name := "probeMeets", fn := fun _ => fun
  | [d1, d2, d3] => { results := [.lit (.bool false)], args := [d1, d2, d3] }
  | _ => none }
def ProbeMeetsWrongFalsely : Prop := probeMeetsRow.holds Tryz.pinned (OpenSpec.ofChange probeMeetsWrong)

/-- 'taplinelaw10.ProbeSelects': WHATEVER THE INPUT: true; the input reads as it did. -/
def probeSelectsSpec : ChangeSpec := { name := "probeSelects", fn := fun _ => fun
  | [d1, d2, d3] => { results := [.lit (.bool true)], args := [d1, d2, d3] }
  | _ => none }
def probeSelectsRow : OpenClaim := { program := "ytigmnlnomhjecaagreatdoor", sum := "f926513f897fc467d825d6d20a04e91165fe77d37591fd447e6dea0186c25cdf", func := "tapline/taplinelaw10.ProbeSelects", spec := "probeSelects", inPlace := ["internal/bytealg.IndexByteString"], unfollowed := true, recurses := true, named := ["tapline/probe.calls", "tapline/probe.others", "internal/strconv.uint64pow10", "math/bits.deBruijn32tab", "math/bits.deBruijn64tab", "tapline/insn.kinds"], apart := false, laid := [("math/bits.deBruijn32tab", laid_math_bits_deBruijn32tab), ("math/bits.deBruijn64tab", laid_math_bits_deBruijn64tab), ("internal/strconv.uint64pow10", laid_internal_strconv_uint64pow10), ("tapline/insn.kinds", laid_tapline_insn_kinds), ("tapline/probe.calls", laid_tapline_probe_calls), ("tapline/probe.others", laid_tapline_probe_others)] }
def ProbeSelectsSaid : Prop := probeSelectsRow.holds Tryz.pinned (OpenSpec.ofChange probeSelectsSpec)

/-- ITS FALSE NEIGHBOUR: 'it returns false'. Refute it at one input. -/
def probeSelectsWrong : ChangeSpec := { name := "probeSelects", fn := fun _ => fun
  | [d1, d2, d3] => { results := [.lit (.bool false)], args := [d1, d2, d3] }
  | _ => none }
def ProbeSelectsWrongFalsely : Prop := probeSelectsRow.holds Tryz.pinned (OpenSpec.ofChange probeSelectsWrong)

/-- 'taplinelaw10.ProbeTexts': WHATEVER THE INPUT: true; the input reads as it did. -/
def probeTextsSpec : ChangeSpec := { name := "probeTexts", fn := fun _ => fun
  | [d1, d2] => { results := [.lit (.bool true)], args := [d1, d2] }
  | _ => none }
def probeTextsRow : OpenClaim := { program := "ytigmnlnomhjecaagreatdoor", sum := "f926513f897fc467d825d6d20a04e91165fe77d37591fd447e6dea0186c25cdf", func := "tapline/taplinelaw10.ProbeTexts", spec := "probeTexts", inPlace := ["internal/bytealg.IndexByteString", "internal/abi.NoEscape", "internal/bytealg.MakeNoZero"], unfollowed := true, recurses := true, named := ["tapline/probe.calls", "tapline/probe.others", "internal/strconv.uint64pow10", "math/bits.deBruijn32tab", "math/bits.deBruijn64tab", "tapline/insn.kinds"], apart := false, laid := [("math/bits.deBruijn32tab", laid_math_bits_deBruijn32tab), ("math/bits.deBruijn64tab", laid_math_bits_deBruijn64tab), ("internal/strconv.uint64pow10", laid_internal_strconv_uint64pow10), ("tapline/insn.kinds", laid_tapline_insn_kinds), ("tapline/probe.calls", laid_tapline_probe_calls), ("tapline/probe.others", laid_tapline_probe_others)] }
def ProbeTextsSaid : Prop := probeTextsRow.holds Tryz.pinned (OpenSpec.ofChange probeTextsSpec)

/-- ITS FALSE NEIGHBOUR: 'it returns false'. Refute it at one input. -/
def probeTextsWrong : ChangeSpec := { name := "probeTexts", fn := fun _ => fun
  | [d1, d2] => { results := [.lit (.bool false)], args := [d1, d2] }
  | _ => none }
def ProbeTextsWrongFalsely : Prop := probeTextsRow.holds Tryz.pinned (OpenSpec.ofChange probeTextsWrong)

/- THE SECOND FORM. 'bulk': how many values and letters a reading holds, each counted each time it is reached (what is shared counts as often as it is met; a slice's spare places count too). A statement '..UptoSaid' is the law's where the arguments, and the package variables that the reading takes, are together of bulk at most 1048576: NARROWER than '..Said'. Prove '..Said' where nothing that the law and all that it calls make is longer than what came in: it says more and counts as full. Else prove '..UptoSaid'. A law counts once. -/
mutual
def uptoBulk {H : Type} : DataW H → Nat
  | .lit (.string bytes) => bytes.length + 1
  | .lit _ => 1
  | .nil => 1
  | .ptr d => uptoBulk d + 1
  | .slice elems spare => uptoBulkAll elems + uptoBulkAll spare + 1
  | .agg parts => uptoBulkAll parts + 1
  | .iface _ d => uptoBulk d + 1
  | .map entries => uptoBulkEntries entries + 1
  | .held _ => 1
def uptoBulkAll {H : Type} : List (DataW H) → Nat
  | [] => 0
  | d :: r => uptoBulk d + uptoBulkAll r
def uptoBulkEntries {H : Type} : List (Lit × DataW H) → Nat
  | [] => 0
  | x :: r => uptoBulkEntry x + uptoBulkEntries r
def uptoBulkEntry {H : Type} : Lit × DataW H → Nat
  | (.string bytes, d) => bytes.length + uptoBulk d + 1
  | (_, d) => uptoBulk d + 1
 end
def uptoSmall : (H : Type) → List (DataW H) → Bool := fun _ ds => decide (uptoBulkAll ds ≤ 1048576)
def OpenSpec.upto (s : _root_.Go.ChangeSpec) : _root_.Go.OpenSpec := { _root_.Go.OpenSpec.ofChange s with cond := some uptoSmall }

/-- 'taplinelaw10.ProbeGlobs', WHERE WHAT IT READS IS OF BULK AT MOST 1048576: true; the input reads as it did. -/
def probeGlobsUptoRow : OpenClaim := { program := "ytigmnlnomhjecaagreatdoor", sum := "f926513f897fc467d825d6d20a04e91165fe77d37591fd447e6dea0186c25cdf", func := "tapline/taplinelaw10.ProbeGlobs", spec := "probeGlobs", inPlace := ["internal/bytealg.IndexByteString"], unfollowed := true, recurses := true, named := ["tapline/probe.calls", "tapline/probe.others", "internal/strconv.uint64pow10", "math/bits.deBruijn32tab", "math/bits.deBruijn64tab", "tapline/insn.kinds"], apart := false, laid := [("math/bits.deBruijn32tab", laid_math_bits_deBruijn32tab), ("math/bits.deBruijn64tab", laid_math_bits_deBruijn64tab), ("internal/strconv.uint64pow10", laid_internal_strconv_uint64pow10), ("tapline/insn.kinds", laid_tapline_insn_kinds), ("tapline/probe.calls", laid_tapline_probe_calls), ("tapline/probe.others", laid_tapline_probe_others)], narrowed := true }
def ProbeGlobsUptoSaid : Prop := probeGlobsUptoRow.holds Tryz.pinned (OpenSpec.upto probeGlobsSpec)

/-- 'taplinelaw10.ProbePlain', WHERE WHAT IT READS IS OF BULK AT MOST 1048576: true; the input reads as it did. -/
def probePlainUptoRow : OpenClaim := { program := "ytigmnlnomhjecaagreatdoor", sum := "f926513f897fc467d825d6d20a04e91165fe77d37591fd447e6dea0186c25cdf", func := "tapline/taplinelaw10.ProbePlain", spec := "probePlain", inPlace := ["internal/bytealg.IndexByteString"], unfollowed := true, recurses := true, named := ["tapline/probe.calls", "tapline/probe.others", "internal/strconv.uint64pow10", "math/bits.deBruijn32tab", "math/bits.deBruijn64tab", "tapline/insn.kinds"], apart := false, laid := [("math/bits.deBruijn32tab", laid_math_bits_deBruijn32tab), ("math/bits.deBruijn64tab", laid_math_bits_deBruijn64tab), ("internal/strconv.uint64pow10", laid_internal_strconv_uint64pow10), ("tapline/insn.kinds", laid_tapline_insn_kinds), ("tapline/probe.calls", laid_tapline_probe_calls), ("tapline/probe.others", laid_tapline_probe_others)], narrowed := true }
def ProbePlainUptoSaid : Prop := probePlainUptoRow.holds Tryz.pinned (OpenSpec.upto probePlainSpec)

/-- 'taplinelaw10.ProbeStars', WHERE WHAT IT READS IS OF BULK AT MOST 1048576: true; the input reads as it did. -/
def probeStarsUptoRow : OpenClaim := { program := "ytigmnlnomhjecaagreatdoor", sum := "f926513f897fc467d825d6d20a04e91165fe77d37591fd447e6dea0186c25cdf", func := "tapline/taplinelaw10.ProbeStars", spec := "probeStars", inPlace := ["internal/bytealg.IndexByteString"], unfollowed := true, recurses := true, named := ["tapline/probe.calls", "tapline/probe.others", "internal/strconv.uint64pow10", "math/bits.deBruijn32tab", "math/bits.deBruijn64tab", "tapline/insn.kinds"], apart := false, laid := [("math/bits.deBruijn32tab", laid_math_bits_deBruijn32tab), ("math/bits.deBruijn64tab", laid_math_bits_deBruijn64tab), ("internal/strconv.uint64pow10", laid_internal_strconv_uint64pow10), ("tapline/insn.kinds", laid_tapline_insn_kinds), ("tapline/probe.calls", laid_tapline_probe_calls), ("tapline/probe.others", laid_tapline_probe_others)], narrowed := true }
def ProbeStarsUptoSaid : Prop := probeStarsUptoRow.holds Tryz.pinned (OpenSpec.upto probeStarsSpec)

/-- 'taplinelaw10.ProbeMeets', WHERE WHAT IT READS IS OF BULK AT MOST 1048576: true; the input reads as it did. -/
def probeMeetsUptoRow : OpenClaim := { program := "ytigmnlnomhjecaagreatdoor", sum := "f926513f897fc467d825d6d20a04e91165fe77d37591fd447e6dea0186c25cdf", func := "tapline/taplinelaw10.ProbeMeets", spec := "probeMeets", inPlace := ["internal/bytealg.IndexByteString"], unfollowed := true, recurses := true, named := ["tapline/probe.calls", "tapline/probe.others", "internal/strconv.uint64pow10", "math/bits.deBruijn32tab", "math/bits.deBruijn64tab", "tapline/insn.kinds"], apart := false, laid := [("math/bits.deBruijn32tab", laid_math_bits_deBruijn32tab), ("math/bits.deBruijn64tab", laid_math_bits_deBruijn64tab), ("internal/strconv.uint64pow10", laid_internal_strconv_uint64pow10), ("tapline/insn.kinds", laid_tapline_insn_kinds), ("tapline/probe.calls", laid_tapline_probe_calls), ("tapline/probe.others", laid_tapline_probe_others)], narrowed := true }
def ProbeMeetsUptoSaid : Prop := probeMeetsUptoRow.holds Tryz.pinned (OpenSpec.upto probeMeetsSpec)

/-- 'taplinelaw10.ProbeSelects', WHERE WHAT IT READS IS OF BULK AT MOST 1048576: true; the input reads as it did. -/
def probeSelectsUptoRow : OpenClaim := { program := "ytigmnlnomhjecaagreatdoor", sum := "f926513f897fc467d825d6d20a04e91165fe77d37591fd447e6dea0186c25cdf", func := "tapline/taplinelaw10.ProbeSelects", spec := "probeSelects", inPlace := ["internal/bytealg.IndexByteString"], unfollowed := true, recurses := true, named := ["tapline/probe.calls", "tapline/probe.others", "internal/strconv.uint64pow10", "math/bits.deBruijn32tab", "math/bits.deBruijn64tab", "tapline/insn.kinds"], apart := false, laid := [("math/bits.deBruijn32tab", laid_math_bits_deBruijn32tab), ("math/bits.deBruijn64tab", laid_math_bits_deBruijn64tab), ("internal/strconv.uint64pow10", laid_internal_strconv_uint64pow10), ("tapline/insn.kinds", laid_tapline_insn_kinds), ("tapline/probe.calls", laid_tapline_probe_calls), ("tapline/probe.others", laid_tapline_probe_others)], narrowed := true }
def ProbeSelectsUptoSaid : Prop := probeSelectsUptoRow.holds Tryz.pinned (OpenSpec.upto probeSelectsSpec)

/-- 'taplinelaw10.ProbeTexts', WHERE WHAT IT READS IS OF BULK AT MOST 1048576: true; the input reads as it did. -/
def probeTextsUptoRow : OpenClaim := { program := "ytigmnlnomhjecaagreatdoor", sum := "f926513f897fc467d825d6d20a04e91165fe77d37591fd447e6dea0186c25cdf", func := "tapline/taplinelaw10.ProbeTexts", spec := "probeTexts", inPlace := ["internal/bytealg.IndexByteString", "internal/abi.NoEscape", "internal/bytealg.MakeNoZero"], unfollowed := true, recurses := true, named := ["tapline/probe.calls", "tapline/probe.others", "internal/strconv.uint64pow10", "math/bits.deBruijn32tab", "math/bits.deBruijn64tab", "tapline/insn.kinds"], apart := false, laid := [("math/bits.deBruijn32tab", laid_math_bits_deBruijn32tab), ("math/bits.deBruijn64tab", laid_math_bits_deBruijn64tab), ("internal/strconv.uint64pow10", laid_internal_strconv_uint64pow10), ("tapline/insn.kinds", laid_tapline_insn_kinds), ("tapline/probe.calls", laid_tapline_probe_calls), ("tapline/probe.others", laid_tapline_probe_others)], narrowed := true }
def ProbeTextsUptoSaid : Prop := probeTextsUptoRow.holds Tryz.pinned (OpenSpec.upto probeTextsSpec)

end Rows
end Go.Proofs.YtigmnlnomhjecaaGreatDoor
