/-
  No cell of these rows narrows 'for every input' (looked for: loops, veiled, ifaces, maps, wideKeys, modest, calm, conditions, laid).
  DERIVED. THE GIVEN ROWS OF THIS SEAT. 10 by the template 'for every input the law returns true; each argument reads behind the call as it read before'; 0 by the template 'total and deterministic' (their statements: YtljepmbikbdicaaTotals.lean).
  GIVEN WITH THE SEED: the statements are not yours to turn. If you find one false, say at which input.
  Laid BY PROGRAM, IN A SANDBOX (cutbox-rows.mjs): the forced cells as the released guide's own fill.sh prints them over the translation e43d83e5e9145a7a… (all of the seat's roots in one cut). By AI agents, Wed Nov 11 2026. No macro, syntax, notation, axiom, sorry.
-/
import Derived.Test.YtljepmbikbdicaaChecked
import GoSem.Claim
import GoSem.ClaimJoined
import GoSem.ClaimMapViews
import Derived.JoinedTies
import Derived.KernelRfl
namespace Go.Proofs.Ytljepmbikbdicaa
/- THE CELL 'sum', in the pinned program and in every row, IS THE sha256 OF THE DUMP (.gsa) THAT YtljepmbikbdicaaProg.lean LOADS. Nothing in Lean hashes anything: it is a label: what it is worth is what the hold of that sum in a sandbox is worth. -/
noncomputable def Try.pinned : Pinned := { name := "ytljepmbikbdicaa", sum := "e43d83e5e9145a7a8f6d679a5ca748e278331488640a4053305183d44db4ee23", checked := Try.checked }
namespace Rows
def none {H : Type} : Left H := { results := [], args := [] }

/-- 'taplinelaw05.SchedHighest': WHATEVER THE INPUT: true; the input reads as it did. -/
def schedHighestSpec : ChangeSpec := { name := "schedHighest", fn := fun _ => fun
  | [d1, d2] => { results := [.lit (.bool true)], args := [d1, d2] }
  | _ => none }
def schedHighestRow : OpenClaim := { program := "ytljepmbikbdicaa", sum := "e43d83e5e9145a7a8f6d679a5ca748e278331488640a4053305183d44db4ee23", func := "tapline/taplinelaw05.SchedHighest", spec := "schedHighest", unfollowed := true, recurses := true, apart := false }
def SchedHighestSaid : Prop := schedHighestRow.holds Try.pinned (OpenSpec.ofChange schedHighestSpec)

/-- ITS FALSE NEIGHBOUR: 'it returns false'. Refute it at one input. -/
def schedHighestWrong : ChangeSpec := { name := "schedHighest", fn := fun _ => fun
  | [d1, d2] => { results := [.lit (.bool false)], args := [d1, d2] }
  | _ => none }
def SchedHighestWrongFalsely : Prop := schedHighestRow.holds Try.pinned (OpenSpec.ofChange schedHighestWrong)

/-- 'taplinelaw05.SchedWaits': WHATEVER THE INPUT: true; the input reads as it did. -/
def schedWaitsSpec : ChangeSpec := { name := "schedWaits", fn := fun _ => fun
  | [d1, d2, d3] => { results := [.lit (.bool true)], args := [d1, d2, d3] }
  | _ => none }
def schedWaitsRow : OpenClaim := { program := "ytljepmbikbdicaa", sum := "e43d83e5e9145a7a8f6d679a5ca748e278331488640a4053305183d44db4ee23", func := "tapline/taplinelaw05.SchedWaits", spec := "schedWaits", unfollowed := true, recurses := true, apart := false }
def SchedWaitsSaid : Prop := schedWaitsRow.holds Try.pinned (OpenSpec.ofChange schedWaitsSpec)

/-- ITS FALSE NEIGHBOUR: 'it returns false'. Refute it at one input. -/
def schedWaitsWrong : ChangeSpec := { name := "schedWaits", fn := fun _ => fun
  | [d1, d2, d3] => { results := [.lit (.bool false)], args := [d1, d2, d3] }
  | _ => none }
def SchedWaitsWrongFalsely : Prop := schedWaitsRow.holds Try.pinned (OpenSpec.ofChange schedWaitsWrong)

/-- 'taplinelaw05.SchedPreempts': WHATEVER THE INPUT: true; the input reads as it did. -/
def schedPreemptsSpec : ChangeSpec := { name := "schedPreempts", fn := fun _ => fun
  | [d1, d2] => { results := [.lit (.bool true)], args := [d1, d2] }
  | _ => none }
def schedPreemptsRow : OpenClaim := { program := "ytljepmbikbdicaa", sum := "e43d83e5e9145a7a8f6d679a5ca748e278331488640a4053305183d44db4ee23", func := "tapline/taplinelaw05.SchedPreempts", spec := "schedPreempts", unfollowed := true, recurses := true, apart := false }
def SchedPreemptsSaid : Prop := schedPreemptsRow.holds Try.pinned (OpenSpec.ofChange schedPreemptsSpec)

/-- ITS FALSE NEIGHBOUR: 'it returns false'. Refute it at one input. -/
def schedPreemptsWrong : ChangeSpec := { name := "schedPreempts", fn := fun _ => fun
  | [d1, d2] => { results := [.lit (.bool false)], args := [d1, d2] }
  | _ => none }
def SchedPreemptsWrongFalsely : Prop := schedPreemptsRow.holds Try.pinned (OpenSpec.ofChange schedPreemptsWrong)

/-- 'taplinelaw05.SchedThreads': WHATEVER THE INPUT: true; the input reads as it did. -/
def schedThreadsSpec : ChangeSpec := { name := "schedThreads", fn := fun _ => fun
  | [d1, d2, d3] => { results := [.lit (.bool true)], args := [d1, d2, d3] }
  | _ => none }
def schedThreadsRow : OpenClaim := { program := "ytljepmbikbdicaa", sum := "e43d83e5e9145a7a8f6d679a5ca748e278331488640a4053305183d44db4ee23", func := "tapline/taplinelaw05.SchedThreads", spec := "schedThreads", unfollowed := true, recurses := true, apart := false }
def SchedThreadsSaid : Prop := schedThreadsRow.holds Try.pinned (OpenSpec.ofChange schedThreadsSpec)

/-- ITS FALSE NEIGHBOUR: 'it returns false'. Refute it at one input. -/
def schedThreadsWrong : ChangeSpec := { name := "schedThreads", fn := fun _ => fun
  | [d1, d2, d3] => { results := [.lit (.bool false)], args := [d1, d2, d3] }
  | _ => none }
def SchedThreadsWrongFalsely : Prop := schedThreadsRow.holds Try.pinned (OpenSpec.ofChange schedThreadsWrong)

/-- 'taplinelaw05.SchedStates': WHATEVER THE INPUT: true; the input reads as it did. -/
def schedStatesSpec : ChangeSpec := { name := "schedStates", fn := fun _ => fun
  | [d1, d2, d3] => { results := [.lit (.bool true)], args := [d1, d2, d3] }
  | _ => none }
def schedStatesRow : OpenClaim := { program := "ytljepmbikbdicaa", sum := "e43d83e5e9145a7a8f6d679a5ca748e278331488640a4053305183d44db4ee23", func := "tapline/taplinelaw05.SchedStates", spec := "schedStates", unfollowed := true, recurses := true, apart := false }
def SchedStatesSaid : Prop := schedStatesRow.holds Try.pinned (OpenSpec.ofChange schedStatesSpec)

/-- ITS FALSE NEIGHBOUR: 'it returns false'. Refute it at one input. -/
def schedStatesWrong : ChangeSpec := { name := "schedStates", fn := fun _ => fun
  | [d1, d2, d3] => { results := [.lit (.bool false)], args := [d1, d2, d3] }
  | _ => none }
def SchedStatesWrongFalsely : Prop := schedStatesRow.holds Try.pinned (OpenSpec.ofChange schedStatesWrong)

/-- 'taplinelaw05.SchedSwitches': WHATEVER THE INPUT: true; the input reads as it did. -/
def schedSwitchesSpec : ChangeSpec := { name := "schedSwitches", fn := fun _ => fun
  | [d1, d2] => { results := [.lit (.bool true)], args := [d1, d2] }
  | _ => none }
def schedSwitchesRow : OpenClaim := { program := "ytljepmbikbdicaa", sum := "e43d83e5e9145a7a8f6d679a5ca748e278331488640a4053305183d44db4ee23", func := "tapline/taplinelaw05.SchedSwitches", spec := "schedSwitches", unfollowed := true, recurses := true, apart := false }
def SchedSwitchesSaid : Prop := schedSwitchesRow.holds Try.pinned (OpenSpec.ofChange schedSwitchesSpec)

/-- ITS FALSE NEIGHBOUR: 'it returns false'. Refute it at one input. -/
def schedSwitchesWrong : ChangeSpec := { name := "schedSwitches", fn := fun _ => fun
  | [d1, d2] => { results := [.lit (.bool false)], args := [d1, d2] }
  | _ => none }
def SchedSwitchesWrongFalsely : Prop := schedSwitchesRow.holds Try.pinned (OpenSpec.ofChange schedSwitchesWrong)

/-- 'taplinelaw05.SchedQueues': WHATEVER THE INPUT: true; the input reads as it did. -/
def schedQueuesSpec : ChangeSpec := { name := "schedQueues", fn := fun _ => fun
  | [d1, d2] => { results := [.lit (.bool true)], args := [d1, d2] }
  | _ => none }
def schedQueuesRow : OpenClaim := { program := "ytljepmbikbdicaa", sum := "e43d83e5e9145a7a8f6d679a5ca748e278331488640a4053305183d44db4ee23", func := "tapline/taplinelaw05.SchedQueues", spec := "schedQueues", unfollowed := true, recurses := true, apart := false }
def SchedQueuesSaid : Prop := schedQueuesRow.holds Try.pinned (OpenSpec.ofChange schedQueuesSpec)

/-- ITS FALSE NEIGHBOUR: 'it returns false'. Refute it at one input. -/
def schedQueuesWrong : ChangeSpec := { name := "schedQueues", fn := fun _ => fun
  | [d1, d2] => { results := [.lit (.bool false)], args := [d1, d2] }
  | _ => none }
def SchedQueuesWrongFalsely : Prop := schedQueuesRow.holds Try.pinned (OpenSpec.ofChange schedQueuesWrong)

/-- 'taplinelaw05.SchedPlaces': WHATEVER THE INPUT: true; the input reads as it did. -/
def schedPlacesSpec : ChangeSpec := { name := "schedPlaces", fn := fun _ => fun
  | [d1, d2] => { results := [.lit (.bool true)], args := [d1, d2] }
  | _ => none }
def schedPlacesRow : OpenClaim := { program := "ytljepmbikbdicaa", sum := "e43d83e5e9145a7a8f6d679a5ca748e278331488640a4053305183d44db4ee23", func := "tapline/taplinelaw05.SchedPlaces", spec := "schedPlaces", unfollowed := true, recurses := true, apart := false }
def SchedPlacesSaid : Prop := schedPlacesRow.holds Try.pinned (OpenSpec.ofChange schedPlacesSpec)

/-- ITS FALSE NEIGHBOUR: 'it returns false'. Refute it at one input. -/
def schedPlacesWrong : ChangeSpec := { name := "schedPlaces", fn := fun _ => fun
  | [d1, d2] => { results := [.lit (.bool false)], args := [d1, d2] }
  | _ => none }
def SchedPlacesWrongFalsely : Prop := schedPlacesRow.holds Try.pinned (OpenSpec.ofChange schedPlacesWrong)

/-- 'taplinelaw05.SchedWorks': WHATEVER THE INPUT: true; the input reads as it did. -/
def schedWorksSpec : ChangeSpec := { name := "schedWorks", fn := fun _ => fun
  | [d] => { results := [.lit (.bool true)], args := [d] }
  | _ => none }
def schedWorksRow : OpenClaim := { program := "ytljepmbikbdicaa", sum := "e43d83e5e9145a7a8f6d679a5ca748e278331488640a4053305183d44db4ee23", func := "tapline/taplinelaw05.SchedWorks", spec := "schedWorks", unfollowed := true, recurses := true, apart := false }
def SchedWorksSaid : Prop := schedWorksRow.holds Try.pinned (OpenSpec.ofChange schedWorksSpec)

/-- ITS FALSE NEIGHBOUR: 'it returns false'. Refute it at one input. -/
def schedWorksWrong : ChangeSpec := { name := "schedWorks", fn := fun _ => fun
  | [d] => { results := [.lit (.bool false)], args := [d] }
  | _ => none }
def SchedWorksWrongFalsely : Prop := schedWorksRow.holds Try.pinned (OpenSpec.ofChange schedWorksWrong)

/-- 'taplinelaw05.SchedApart': WHATEVER THE INPUT: true; the input reads as it did. -/
def schedApartSpec : ChangeSpec := { name := "schedApart", fn := fun _ => fun
  | [d1, d2, d3] => { results := [.lit (.bool true)], args := [d1, d2, d3] }
  | _ => none }
def schedApartRow : OpenClaim := { program := "ytljepmbikbdicaa", sum := "e43d83e5e9145a7a8f6d679a5ca748e278331488640a4053305183d44db4ee23", func := "tapline/taplinelaw05.SchedApart", spec := "schedApart", unfollowed := true, recurses := true, apart := false }
def SchedApartSaid : Prop := schedApartRow.holds Try.pinned (OpenSpec.ofChange schedApartSpec)

/-- ITS FALSE NEIGHBOUR: 'it returns false'. Refute it at one input. -/
def schedApartWrong : ChangeSpec := { name := "schedApart", fn := fun _ => fun
  | [d1, d2, d3] => { results := [.lit (.bool false)], args := [d1, d2, d3] }
  | _ => none }
def SchedApartWrongFalsely : Prop := schedApartRow.holds Try.pinned (OpenSpec.ofChange schedApartWrong)

/- THE SECOND FORM. 'bulk': how many values and letters a reading holds, each counted each time it is reached (what is shared counts as often as it is met; a slice's spare places count too). A statement '..UptoSaid' is the law's where the arguments, and the package variables that the reading takes, are together of bulk at most 1048576: NARROWER than '..Said'. Prove '..Said' where nothing that the law and all that it calls make is longer than what came in: it says more and counts as full. Else prove '..UptoSaid'. A law counts once. -/
mutual
def uptoBulk {H : Type} : DataW H → Nat
  | .lit (.string bytes) => bytes.length + 1
  | .lit _ => 1
  | .nil => 1
  | .ptr d => uptoBulk d + 1
  | .slice elems spare => uptoBulkAll elems + uptoBulkAll spare + 1
  | .agg parts => uptoBulkAll parts + 1
  | .iface _ d => uptoBulk d + 1
  | .map entries => uptoBulkEntries entries + 1
  | .held _ => 1
def uptoBulkAll {H : Type} : List (DataW H) → Nat
  | [] => 0
  | d :: r => uptoBulk d + uptoBulkAll r
def uptoBulkEntries {H : Type} : List (Lit × DataW H) → Nat
  | [] => 0
  | x :: r => uptoBulkEntry x + uptoBulkEntries r
def uptoBulkEntry {H : Type} : Lit × DataW H → Nat
  | (.string bytes, d) => bytes.length + uptoBulk d + 1
  | (_, d) => uptoBulk d + 1
 end
def uptoSmall : (H : Type) → List (DataW H) → Bool := fun _ ds => decide (uptoBulkAll ds ≤ 1048576)
def OpenSpec.upto (s : _root_.Go.ChangeSpec) : _root_.Go.OpenSpec := { _root_.Go.OpenSpec.ofChange s with cond := some uptoSmall }

/-- 'taplinelaw05.SchedHighest', WHERE WHAT IT READS IS OF BULK AT MOST 1048576: true; the input reads as it did. -/
def schedHighestUptoRow : OpenClaim := { program := "ytljepmbikbdicaa", sum := "e43d83e5e9145a7a8f6d679a5ca748e278331488640a4053305183d44db4ee23", func := "tapline/taplinelaw05.SchedHighest", spec := "schedHighest", unfollowed := true, recurses := true, apart := false, narrowed := true }
def SchedHighestUptoSaid : Prop := schedHighestUptoRow.holds Try.pinned (OpenSpec.upto schedHighestSpec)

/-- 'taplinelaw05.SchedWaits', WHERE WHAT IT READS IS OF BULK AT MOST 1048576: true; the input reads as it did. -/
def schedWaitsUptoRow : OpenClaim := { program := "ytljepmbikbdicaa", sum := "e43d83e5e9145a7a8f6d679a5ca748e278331488640a4053305183d44db4ee23", func := "tapline/taplinelaw05.SchedWaits", spec := "schedWaits", unfollowed := true, recurses := true, apart := false, narrowed := true }
def SchedWaitsUptoSaid : Prop := schedWaitsUptoRow.holds Try.pinned (OpenSpec.upto schedWaitsSpec)

/-- 'taplinelaw05.SchedPreempts', WHERE WHAT IT READS IS OF BULK AT MOST 1048576: true; the input reads as it did. -/
def schedPreemptsUptoRow : OpenClaim := { program := "ytljepmbikbdicaa", sum := "e43d83e5e9145a7a8f6d679a5ca748e278331488640a4053305183d44db4ee23", func := "tapline/taplinelaw05.SchedPreempts", spec := "schedPreempts", unfollowed := true, recurses := true, apart := false, narrowed := true }
def SchedPreemptsUptoSaid : Prop := schedPreemptsUptoRow.holds Try.pinned (OpenSpec.upto schedPreemptsSpec)

/-- 'taplinelaw05.SchedThreads', WHERE WHAT IT READS IS OF BULK AT MOST 1048576: true; the input reads as it did. -/
def schedThreadsUptoRow : OpenClaim := { program := "ytljepmbikbdicaa", sum := "e43d83e5e9145a7a8f6d679a5ca748e278331488640a4053305183d44db4ee23", func := "tapline/taplinelaw05.SchedThreads", spec := "schedThreads", unfollowed := true, recurses := true, apart := false, narrowed := true }
def SchedThreadsUptoSaid : Prop := schedThreadsUptoRow.holds Try.pinned (OpenSpec.upto schedThreadsSpec)

/-- 'taplinelaw05.SchedStates', WHERE WHAT IT READS IS OF BULK AT MOST 1048576: true; the input reads as it did. -/
def schedStatesUptoRow : OpenClaim := { program := "ytljepmbikbdicaa", sum := "e43d83e5e9145a7a8f6d679a5ca748e278331488640a4053305183d44db4ee23", func := "tapline/taplinelaw05.SchedStates", spec := "schedStates", unfollowed := true, recurses := true, apart := false, narrowed := true }
def SchedStatesUptoSaid : Prop := schedStatesUptoRow.holds Try.pinned (OpenSpec.upto schedStatesSpec)

/-- 'taplinelaw05.SchedSwitches', WHERE WHAT IT READS IS OF BULK AT MOST 1048576: true; the input reads as it did. -/
def schedSwitchesUptoRow : OpenClaim := { program := "ytljepmbikbdicaa", sum := "e43d83e5e9145a7a8f6d679a5ca748e278331488640a4053305183d44db4ee23", func := "tapline/taplinelaw05.SchedSwitches", spec := "schedSwitches", unfollowed := true, recurses := true, apart := false, narrowed := true }
def SchedSwitchesUptoSaid : Prop := schedSwitchesUptoRow.holds Try.pinned (OpenSpec.upto schedSwitchesSpec)

/-- 'taplinelaw05.SchedQueues', WHERE WHAT IT READS IS OF BULK AT MOST 1048576: true; the input reads as it did. -/
def schedQueuesUptoRow : OpenClaim := { program := "ytljepmbikbdicaa", sum := "e43d83e5e9145a7a8f6d679a5ca748e278331488640a4053305183d44db4ee23", func := "tapline/taplinelaw05.SchedQueues", spec := "schedQueues", unfollowed := true, recurses := true, apart := false, narrowed := true }
def SchedQueuesUptoSaid : Prop := schedQueuesUptoRow.holds Try.pinned (OpenSpec.upto schedQueuesSpec)

/-- 'taplinelaw05.SchedPlaces', WHERE WHAT IT READS IS OF BULK AT MOST 1048576: true; the input reads as it did. -/
def schedPlacesUptoRow : OpenClaim := { program := "ytljepmbikbdicaa", sum := "e43d83e5e9145a7a8f6d679a5ca748e278331488640a4053305183d44db4ee23", func := "tapline/taplinelaw05.SchedPlaces", spec := "schedPlaces", unfollowed := true, recurses := true, apart := false, narrowed := true }
def SchedPlacesUptoSaid : Prop := schedPlacesUptoRow.holds Try.pinned (OpenSpec.upto schedPlacesSpec)

/-- 'taplinelaw05.SchedWorks', WHERE WHAT IT READS IS OF BULK AT MOST 1048576: true; the input reads as it did. -/
def schedWorksUptoRow : OpenClaim := { program := "ytljepmbikbdicaa", sum := "e43d83e5e9145a7a8f6d679a5ca748e278331488640a4053305183d44db4ee23", func := "tapline/taplinelaw05.SchedWorks", spec := "schedWorks", unfollowed := true, recurses := true, apart := false, narrowed := true }
def SchedWorksUptoSaid : Prop := schedWorksUptoRow.holds Try.pinned (OpenSpec.upto schedWorksSpec)

/-- 'taplinelaw05.SchedApart', WHERE WHAT IT READS IS OF BULK AT MOST 1048576: true; the input reads as it did. -/
def schedApartUptoRow : OpenClaim := { program := "ytljepmbikbdicaa", sum := "e43d83e5e9145a7a8f6d679a5ca748e278331488640a4053305183d44db4ee23", func := "tapline/taplinelaw05.SchedApart", spec := "schedApart", unfollowed := true, recurses := true, apart := false, narrowed := true }
def SchedApartUptoSaid : Prop := schedApartUptoRow.holds Try.pinned (OpenSpec.upto schedApartSpec)

end Rows
end Go.Proofs.Ytljepmbikbdicaa
