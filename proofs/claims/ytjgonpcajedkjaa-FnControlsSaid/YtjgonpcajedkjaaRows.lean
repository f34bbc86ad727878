/-
  No cell of these rows narrows 'for every input' (looked for: loops, veiled, ifaces, maps, wideKeys, modest, calm, conditions, laid).
  DERIVED. THE GIVEN ROWS OF THIS SEAT. 7 by the template 'for every input the law returns true; each argument reads behind the call as it read before'; 0 by the template 'total and deterministic' (their statements: YtjgonpcajedkjaaTotals.lean).
  GIVEN WITH THE SEED: the statements are not yours to turn. If you find one false, say at which input.
  Laid BY PROGRAM, IN A SANDBOX (cutbox-rows.mjs): the forced cells as the released guide's own fill.sh prints them over the translation 340c6f010d91700b… (all of the seat's roots in one cut). By AI agents, Wed Nov 11 2026. No macro, syntax, notation, axiom, sorry.
-/
import Derived.Test.YtjgonpcajedkjaaChecked
import GoSem.Claim
import GoSem.ClaimJoined
import GoSem.ClaimMapViews
import Derived.JoinedTies
import Derived.KernelRfl
namespace Go.Proofs.Ytjgonpcajedkjaa
/- THE CELL 'sum', in the pinned program and in every row, IS THE sha256 OF THE DUMP (.gsa) THAT YtjgonpcajedkjaaProg.lean LOADS. Nothing in Lean hashes anything: it is a label: what it is worth is what the hold of that sum in a sandbox is worth. -/
noncomputable def Try.pinned : Pinned := { name := "ytjgonpcajedkjaa", sum := "340c6f010d91700b8ce9b26019e684032c5cb4d9f712c9edc6c5045546d774c8", checked := Try.checked }
namespace Rows
def none {H : Type} : Left H := { results := [], args := [] }

/-- 'laws.FnServed': WHATEVER THE INPUT: true; the input reads as it did. -/
def fnServedSpec : ChangeSpec := { name := "fnServed", fn := fun _ => fun
  | [d] => { results := [.lit (.bool true)], args := [d] }
  | _ => none }
def fnServedRow : OpenClaim := { program := "ytjgonpcajedkjaa", sum := "340c6f010d91700b8ce9b26019e684032c5cb4d9f712c9edc6c5045546d774c8", func := "loop.example/g03006/laws.FnServed", spec := "fnServed", unfollowed := true, recurses := true, apart := false }
def FnServedSaid : Prop := fnServedRow.holds Try.pinned (OpenSpec.ofChange fnServedSpec)

/-- ITS FALSE NEIGHBOUR: 'it returns false'. Refute it at one input. -/
def fnServedWrong : ChangeSpec := { name := "fnServed", fn := fun _ => fun
  | [d] => { results := [.lit (.bool false)], args := [d] }
  | _ => none }
def FnServedWrongFalsely : Prop := fnServedRow.holds Try.pinned (OpenSpec.ofChange fnServedWrong)

/-- 'laws.FnDemand': WHATEVER THE INPUT: true; the input reads as it did. -/
def fnDemandSpec : ChangeSpec := { name := "fnDemand", fn := fun _ => fun
  | [d] => { results := [.lit (.bool true)], args := [d] }
  | _ => none }
def fnDemandRow : OpenClaim := { program := "ytjgonpcajedkjaa", sum := "340c6f010d91700b8ce9b26019e684032c5cb4d9f712c9edc6c5045546d774c8", func := "loop.example/g03006/laws.FnDemand", spec := "fnDemand", unfollowed := true, recurses := true, apart := false }
def FnDemandSaid : Prop := fnDemandRow.holds Try.pinned (OpenSpec.ofChange fnDemandSpec)

/-- ITS FALSE NEIGHBOUR: 'it returns false'. Refute it at one input. -/
def fnDemandWrong : ChangeSpec := { name := "fnDemand", fn := fun _ => fun
  | [d] => { results := [.lit (.bool false)], args := [d] }
  | _ => none }
def FnDemandWrongFalsely : Prop := fnDemandRow.holds Try.pinned (OpenSpec.ofChange fnDemandWrong)

/-- 'laws.FnQueues': WHATEVER THE INPUT: true; the input reads as it did. -/
def fnQueuesSpec : ChangeSpec := { name := "fnQueues", fn := fun _ => fun
  | [d] => { results := [.lit (.bool true)], args := [d] }
  | _ => none }
def fnQueuesRow : OpenClaim := { program := "ytjgonpcajedkjaa", sum := "340c6f010d91700b8ce9b26019e684032c5cb4d9f712c9edc6c5045546d774c8", func := "loop.example/g03006/laws.FnQueues", spec := "fnQueues", unfollowed := true, recurses := true, apart := false }
def FnQueuesSaid : Prop := fnQueuesRow.holds Try.pinned (OpenSpec.ofChange fnQueuesSpec)

/-- ITS FALSE NEIGHBOUR: 'it returns false'. Refute it at one input. -/
def fnQueuesWrong : ChangeSpec := { name := "fnQueues", fn := fun _ => fun
  | [d] => { results := [.lit (.bool false)], args := [d] }
  | _ => none }
def FnQueuesWrongFalsely : Prop := fnQueuesRow.holds Try.pinned (OpenSpec.ofChange fnQueuesWrong)

/-- 'laws.FnControls': WHATEVER THE INPUT: true; the input reads as it did. -/
def fnControlsSpec : ChangeSpec := { name := "fnControls", fn := fun _ => fun
  | [d] => { results := [.lit (.bool true)], args := [d] }
  | _ => none }
def fnControlsRow : OpenClaim := { program := "ytjgonpcajedkjaa", sum := "340c6f010d91700b8ce9b26019e684032c5cb4d9f712c9edc6c5045546d774c8", func := "loop.example/g03006/laws.FnControls", spec := "fnControls", unfollowed := true, recurses := true, apart := false }
def FnControlsSaid : Prop := fnControlsRow.holds Try.pinned (OpenSpec.ofChange fnControlsSpec)

/-- ITS FALSE NEIGHBOUR: 'it returns false'. Refute it at one input. -/
def fnControlsWrong : ChangeSpec := { name := "fnControls", fn := fun _ => fun
  | [d] => { results := [.lit (.bool false)], args := [d] }
  | _ => none }
def FnControlsWrongFalsely : Prop := fnControlsRow.holds Try.pinned (OpenSpec.ofChange fnControlsWrong)

/-- 'laws.FnShared': WHATEVER THE INPUT: true; the input reads as it did. -/
def fnSharedSpec : ChangeSpec := { name := "fnShared", fn := fun _ => fun
  | [d] => { results := [.lit (.bool true)], args := [d] }
  | _ => none }
def fnSharedRow : OpenClaim := { program := "ytjgonpcajedkjaa", sum := "340c6f010d91700b8ce9b26019e684032c5cb4d9f712c9edc6c5045546d774c8", func := "loop.example/g03006/laws.FnShared", spec := "fnShared", unfollowed := true, recurses := true, apart := false }
def FnSharedSaid : Prop := fnSharedRow.holds Try.pinned (OpenSpec.ofChange fnSharedSpec)

/-- ITS FALSE NEIGHBOUR: 'it returns false'. Refute it at one input. -/
def fnSharedWrong : ChangeSpec := { name := "fnShared", fn := fun _ => fun
  | [d] => { results := [.lit (.bool false)], args := [d] }
  | _ => none }
def FnSharedWrongFalsely : Prop := fnSharedRow.holds Try.pinned (OpenSpec.ofChange fnSharedWrong)

/-- 'laws.FnLights': WHATEVER THE INPUT: true; the input reads as it did. -/
def fnLightsSpec : ChangeSpec := { name := "fnLights", fn := fun _ => fun
  | [d] => { results := [.lit (.bool true)], args := [d] }
  | _ => none }
def fnLightsRow : OpenClaim := { program := "ytjgonpcajedkjaa", sum := "340c6f010d91700b8ce9b26019e684032c5cb4d9f712c9edc6c5045546d774c8", func := "loop.example/g03006/laws.FnLights", spec := "fnLights", unfollowed := true, recurses := true, apart := false }
def FnLightsSaid : Prop := fnLightsRow.holds Try.pinned (OpenSpec.ofChange fnLightsSpec)

/-- ITS FALSE NEIGHBOUR: 'it returns false'. Refute it at one input. -/
def fnLightsWrong : ChangeSpec := { name := "fnLights", fn := fun _ => fun
  | [d] => { results := [.lit (.bool false)], args := [d] }
  | _ => none }
def FnLightsWrongFalsely : Prop := fnLightsRow.holds Try.pinned (OpenSpec.ofChange fnLightsWrong)

/-- 'laws.FnPlans': WHATEVER THE INPUT: true; the input reads as it did. -/
def fnPlansSpec : ChangeSpec := { name := "fnPlans", fn := fun _ => fun
  | [d] => { results := [.lit (.bool true)], args := [d] }
  | _ => none }
def fnPlansRow : OpenClaim := { program := "ytjgonpcajedkjaa", sum := "340c6f010d91700b8ce9b26019e684032c5cb4d9f712c9edc6c5045546d774c8", func := "loop.example/g03006/laws.FnPlans", spec := "fnPlans", inPlace := ["slices.overlaps[int]"], unfollowed := true, recurses := true, apart := false }
def FnPlansSaid : Prop := fnPlansRow.holds Try.pinned (OpenSpec.ofChange fnPlansSpec)

/-- ITS FALSE NEIGHBOUR: 'it returns false'. Refute it at one input. -/
def fnPlansWrong : ChangeSpec := { name := "fnPlans", fn := fun _ => fun
  | [d] => { results := [.lit (.bool false)], args := [d] }
  | _ => none }
def FnPlansWrongFalsely : Prop := fnPlansRow.holds Try.pinned (OpenSpec.ofChange fnPlansWrong)

/- THE SECOND FORM. 'bulk': how many values and letters a reading holds, each counted each time it is reached (what is shared counts as often as it is met; a slice's spare places count too). A statement '..UptoSaid' is the law's where the arguments, and the package variables that the reading takes, are together of bulk at most 1048576: NARROWER than '..Said'. Prove '..Said' where nothing that the law and all that it calls make is longer than what came in: it says more and counts as full. Else prove '..UptoSaid'. A law counts once. -/
mutual
def uptoBulk {H : Type} : DataW H → Nat
  | .lit (.string bytes) => bytes.length + 1
  | .lit _ => 1
  | .nil => 1
  | .ptr d => uptoBulk d + 1
  | .slice elems spare => uptoBulkAll elems + uptoBulkAll spare + 1
  | .agg parts => uptoBulkAll parts + 1
  | .iface _ d => uptoBulk d + 1
  | .map entries => uptoBulkEntries entries + 1
  | .held _ => 1
def uptoBulkAll {H : Type} : List (DataW H) → Nat
  | [] => 0
  | d :: r => uptoBulk d + uptoBulkAll r
def uptoBulkEntries {H : Type} : List (Lit × DataW H) → Nat
  | [] => 0
  | x :: r => uptoBulkEntry x + uptoBulkEntries r
def uptoBulkEntry {H : Type} : Lit × DataW H → Nat
  | (.string bytes, d) => bytes.length + uptoBulk d + 1
  | (_, d) => uptoBulk d + 1
 end
def uptoSmall : (H : Type) → List (DataW H) → Bool := fun _ ds => decide (uptoBulkAll ds ≤ 1048576)
def OpenSpec.upto (s : _root_.Go.ChangeSpec) : _root_.Go.OpenSpec := { _root_.Go.OpenSpec.ofChange s with cond := some uptoSmall }

/-- 'laws.FnServed', WHERE WHAT IT READS IS OF BULK AT MOST 1048576: true; the input reads as it did. -/
def fnServedUptoRow : OpenClaim := { program := "ytjgonpcajedkjaa", sum := "340c6f010d91700b8ce9b26019e684032c5cb4d9f712c9edc6c5045546d774c8", func := "loop.example/g03006/laws.FnServed", spec := "fnServed", unfollowed := true, recurses := true, apart := false, narrowed := true }
def FnServedUptoSaid : Prop := fnServedUptoRow.holds Try.pinned (OpenSpec.upto fnServedSpec)

/-- 'laws.FnDemand', WHERE WHAT IT READS IS OF BULK AT MOST 1048576: true; the input reads as it did. -/
def fnDemandUptoRow : OpenClaim := { program := "ytjgonpcajedkjaa", sum := "340c6f010d91700b8ce9b26019e684032c5cb4d9f712c9edc6c5045546d774c8", func := "loop.example/g03006/laws.FnDemand", spec := "fnDemand", unfollowed := true, recurses := true, apart := false, narrowed := true }
def FnDemandUptoSaid : Prop := fnDemandUptoRow.holds Try.pinned (OpenSpec.upto fnDemandSpec)

/-- 'laws.FnQueues', WHERE WHAT IT READS IS OF BULK AT MOST 1048576: true; the input reads as it did. -/
def fnQueuesUptoRow : OpenClaim := { program := "ytjgonpcajedkjaa", sum := "340c6f010d91700b8ce9b26019e684032c5cb4d9f712c9edc6c5045546d774c8", func := "loop.example/g03006/laws.FnQueues", spec := "fnQueues", unfollowed := true, recurses := true, apart := false, narrowed := true }
def FnQueuesUptoSaid : Prop := fnQueuesUptoRow.holds Try.pinned (OpenSpec.upto fnQueuesSpec)

/-- 'laws.FnControls', WHERE WHAT IT READS IS OF BULK AT MOST 1048576: true; the input reads as it did. -/
def fnControlsUptoRow : OpenClaim := { program := "ytjgonpcajedkjaa", sum := "340c6f010d91700b8ce9b26019e684032c5cb4d9f712c9edc6c5045546d774c8", func := "loop.example/g03006/laws.FnControls", spec := "fnControls", unfollowed := true, recurses := true, apart := false, narrowed := true }
def FnControlsUptoSaid : Prop := fnControlsUptoRow.holds Try.pinned (OpenSpec.upto fnControlsSpec)

/-- 'laws.FnShared', WHERE WHAT IT READS IS OF BULK AT MOST 1048576: true; the input reads as it did. -/
def fnSharedUptoRow : OpenClaim := { program := "ytjgonpcajedkjaa", sum := "340c6f010d91700b8ce9b26019e684032c5cb4d9f712c9edc6c5045546d774c8", func := "loop.example/g03006/laws.FnShared", spec := "fnShared", unfollowed := true, recurses := true, apart := false, narrowed := true }
def FnSharedUptoSaid : Prop := fnSharedUptoRow.holds Try.pinned (OpenSpec.upto fnSharedSpec)

/-- 'laws.FnLights', WHERE WHAT IT READS IS OF BULK AT MOST 1048576: true; the input reads as it did. -/
def fnLightsUptoRow : OpenClaim := { program := "ytjgonpcajedkjaa", sum := "340c6f010d91700b8ce9b26019e684032c5cb4d9f712c9edc6c5045546d774c8", func := "loop.example/g03006/laws.FnLights", spec := "fnLights", unfollowed := true, recurses := true, apart := false, narrowed := true }
def FnLightsUptoSaid : Prop := fnLightsUptoRow.holds Try.pinned (OpenSpec.upto fnLightsSpec)

/-- 'laws.FnPlans', WHERE WHAT IT READS IS OF BULK AT MOST 1048576: true; the input reads as it did. -/
def fnPlansUptoRow : OpenClaim := { program := "ytjgonpcajedkjaa", sum := "340c6f010d91700b8ce9b26019e684032c5cb4d9f712c9edc6c5045546d774c8", func := "loop.example/g03006/laws.FnPlans", spec := "fnPlans", inPlace := ["slices.overlaps[int]"], unfollowed := true, recurses := true, apart := false, narrowed := true }
def FnPlansUptoSaid : Prop := fnPlansUptoRow.holds Try.pinned (OpenSpec.upto fnPlansSpec)

end Rows
end Go.Proofs.Ytjgonpcajedkjaa
