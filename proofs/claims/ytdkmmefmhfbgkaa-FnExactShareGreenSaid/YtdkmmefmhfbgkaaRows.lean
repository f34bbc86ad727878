/-
  No cell of these rows narrows 'for every input' (looked for: loops, veiled, ifaces, maps, wideKeys, modest, calm, conditions, laid).
  DERIVED. THE GIVEN ROWS OF THIS SEAT. 8 by the template 'for every input the law returns true; each argument reads behind the call as it read before'; 0 by the template 'total and deterministic' (their statements: YtdkmmefmhfbgkaaTotals.lean).
  GIVEN WITH THE SEED: the statements are not yours to turn. If you find one false, say at which input.
  Laid BY PROGRAM, IN A SANDBOX (cutbox-rows.mjs): the forced cells as the released guide's own fill.sh prints them over the translation fea2937edf9ac624… (all of the seat's roots in one cut). By AI agents, Wed Nov 11 2026. No macro, syntax, notation, axiom, sorry.
-/
import Derived.Test.YtdkmmefmhfbgkaaChecked
import GoSem.Claim
import GoSem.ClaimJoined
import GoSem.ClaimMapViews
import Derived.JoinedTies
import Derived.KernelRfl
namespace Go.Proofs.Ytdkmmefmhfbgkaa
/- THE CELL 'sum', in the pinned program and in every row, IS THE sha256 OF THE DUMP (.gsa) THAT YtdkmmefmhfbgkaaProg.lean LOADS. Nothing in Lean hashes anything: it is a label: what it is worth is what the hold of that sum in a sandbox is worth. -/
noncomputable def Try.pinned : Pinned := { name := "ytdkmmefmhfbgkaa", sum := "fea2937edf9ac6246f0294678d668967c32e1414d5f38f42a0262cce4d9d3ea2", checked := Try.checked }
namespace Rows
def none {H : Type} : Left H := { results := [], args := [] }

/-- 'laws.FnExactOpenIn': WHATEVER THE INPUT: true; the input reads as it did. -/
def fnExactOpenInSpec : ChangeSpec := { name := "fnExactOpenIn", fn := fun _ => fun
  | [d1, d2, d3, d4, d5] => { results := [.lit (.bool true)], args := [d1, d2, d3, d4, d5] }
  | _ => none }
def fnExactOpenInRow : OpenClaim := { program := "ytdkmmefmhfbgkaa", sum := "fea2937edf9ac6246f0294678d668967c32e1414d5f38f42a0262cce4d9d3ea2", func := "loop.example/g03006/laws.FnExactOpenIn", spec := "fnExactOpenIn", unfollowed := true, recurses := true, apart := false }
def FnExactOpenInSaid : Prop := fnExactOpenInRow.holds Try.pinned (OpenSpec.ofChange fnExactOpenInSpec)

/-- ITS FALSE NEIGHBOUR: 'it returns false'. Refute it at one input. -/
def fnExactOpenInWrong : ChangeSpec := { name := "fnExactOpenIn", fn := fun _ => fun
  | [d1, d2, d3, d4, d5] => { results := [.lit (.bool false)], args := [d1, d2, d3, d4, d5] }
  | _ => none }
def FnExactOpenInWrongFalsely : Prop := fnExactOpenInRow.holds Try.pinned (OpenSpec.ofChange fnExactOpenInWrong)

/-- 'laws.FnExactServedAt': WHATEVER THE INPUT: true; the input reads as it did. -/
def fnExactServedAtSpec : ChangeSpec := { name := "fnExactServedAt", fn := fun _ => fun
  | [d1, d2, d3] => { results := [.lit (.bool true)], args := [d1, d2, d3] }
  | _ => none }
def fnExactServedAtRow : OpenClaim := { program := "ytdkmmefmhfbgkaa", sum := "fea2937edf9ac6246f0294678d668967c32e1414d5f38f42a0262cce4d9d3ea2", func := "loop.example/g03006/laws.FnExactServedAt", spec := "fnExactServedAt", unfollowed := true, recurses := true, apart := false }
def FnExactServedAtSaid : Prop := fnExactServedAtRow.holds Try.pinned (OpenSpec.ofChange fnExactServedAtSpec)

/-- ITS FALSE NEIGHBOUR: 'it returns false'. Refute it at one input. -/
def fnExactServedAtWrong : ChangeSpec := { name := "fnExactServedAt", fn := fun _ => fun
  | [d1, d2, d3] => { results := [.lit (.bool false)], args := [d1, d2, d3] }
  | _ => none }
def FnExactServedAtWrongFalsely : Prop := fnExactServedAtRow.holds Try.pinned (OpenSpec.ofChange fnExactServedAtWrong)

/-- 'laws.FnExactIsWithin': WHATEVER THE INPUT: true; the input reads as it did. -/
def fnExactIsWithinSpec : ChangeSpec := { name := "fnExactIsWithin", fn := fun _ => fun
  | [d1, d2, d3, d4] => { results := [.lit (.bool true)], args := [d1, d2, d3, d4] }
  | _ => none }
def fnExactIsWithinRow : OpenClaim := { program := "ytdkmmefmhfbgkaa", sum := "fea2937edf9ac6246f0294678d668967c32e1414d5f38f42a0262cce4d9d3ea2", func := "loop.example/g03006/laws.FnExactIsWithin", spec := "fnExactIsWithin", unfollowed := true, recurses := true, apart := false }
def FnExactIsWithinSaid : Prop := fnExactIsWithinRow.holds Try.pinned (OpenSpec.ofChange fnExactIsWithinSpec)

/-- ITS FALSE NEIGHBOUR: 'it returns false'. Refute it at one input. -/
def fnExactIsWithinWrong : ChangeSpec := { name := "fnExactIsWithin", fn := fun _ => fun
  | [d1, d2, d3, d4] => { results := [.lit (.bool false)], args := [d1, d2, d3, d4] }
  | _ => none }
def FnExactIsWithinWrongFalsely : Prop := fnExactIsWithinRow.holds Try.pinned (OpenSpec.ofChange fnExactIsWithinWrong)

/-- 'laws.FnExactPlanFor': WHATEVER THE INPUT: true; the input reads as it did. -/
def fnExactPlanForSpec : ChangeSpec := { name := "fnExactPlanFor", fn := fun _ => fun
  | [d] => { results := [.lit (.bool true)], args := [d] }
  | _ => none }
def fnExactPlanForRow : OpenClaim := { program := "ytdkmmefmhfbgkaa", sum := "fea2937edf9ac6246f0294678d668967c32e1414d5f38f42a0262cce4d9d3ea2", func := "loop.example/g03006/laws.FnExactPlanFor", spec := "fnExactPlanFor", inPlace := ["slices.overlaps[int]"], unfollowed := true, recurses := true, apart := false }
def FnExactPlanForSaid : Prop := fnExactPlanForRow.holds Try.pinned (OpenSpec.ofChange fnExactPlanForSpec)

/-- ITS FALSE NEIGHBOUR: 'it returns false'. Refute it at one input. -/
def fnExactPlanForWrong : ChangeSpec := { name := "fnExactPlanFor", fn := fun _ => fun
  | [d] => { results := [.lit (.bool false)], args := [d] }
  | _ => none }
def FnExactPlanForWrongFalsely : Prop := fnExactPlanForRow.holds Try.pinned (OpenSpec.ofChange fnExactPlanForWrong)

/-- 'laws.FnExactAskStage': WHATEVER THE INPUT: true; the input reads as it did. -/
def fnExactAskStageSpec : ChangeSpec := { name := "fnExactAskStage", fn := fun _ => fun
  | [d1, d2, d3] => { results := [.lit (.bool true)], args := [d1, d2, d3] }
  | _ => none }
def fnExactAskStageRow : OpenClaim := { program := "ytdkmmefmhfbgkaa", sum := "fea2937edf9ac6246f0294678d668967c32e1414d5f38f42a0262cce4d9d3ea2", func := "loop.example/g03006/laws.FnExactAskStage", spec := "fnExactAskStage", unfollowed := true, recurses := true, apart := false }
def FnExactAskStageSaid : Prop := fnExactAskStageRow.holds Try.pinned (OpenSpec.ofChange fnExactAskStageSpec)

/-- ITS FALSE NEIGHBOUR: 'it returns false'. Refute it at one input. -/
def fnExactAskStageWrong : ChangeSpec := { name := "fnExactAskStage", fn := fun _ => fun
  | [d1, d2, d3] => { results := [.lit (.bool false)], args := [d1, d2, d3] }
  | _ => none }
def FnExactAskStageWrongFalsely : Prop := fnExactAskStageRow.holds Try.pinned (OpenSpec.ofChange fnExactAskStageWrong)

/-- 'laws.FnExactNextStage': WHATEVER THE INPUT: true; the input reads as it did. -/
def fnExactNextStageSpec : ChangeSpec := { name := "fnExactNextStage", fn := fun _ => fun
  | [d1, d2, d3] => { results := [.lit (.bool true)], args := [d1, d2, d3] }
  | _ => none }
def fnExactNextStageRow : OpenClaim := { program := "ytdkmmefmhfbgkaa", sum := "fea2937edf9ac6246f0294678d668967c32e1414d5f38f42a0262cce4d9d3ea2", func := "loop.example/g03006/laws.FnExactNextStage", spec := "fnExactNextStage", inPlace := ["slices.overlaps[int]"], unfollowed := true, recurses := true, apart := false }
def FnExactNextStageSaid : Prop := fnExactNextStageRow.holds Try.pinned (OpenSpec.ofChange fnExactNextStageSpec)

/-- ITS FALSE NEIGHBOUR: 'it returns false'. Refute it at one input. -/
def fnExactNextStageWrong : ChangeSpec := { name := "fnExactNextStage", fn := fun _ => fun
  | [d1, d2, d3] => { results := [.lit (.bool false)], args := [d1, d2, d3] }
  | _ => none }
def FnExactNextStageWrongFalsely : Prop := fnExactNextStageRow.holds Try.pinned (OpenSpec.ofChange fnExactNextStageWrong)

/-- 'laws.FnExactMustChange': WHATEVER THE INPUT: true; the input reads as it did. -/
def fnExactMustChangeSpec : ChangeSpec := { name := "fnExactMustChange", fn := fun _ => fun
  | [d1, d2, d3] => { results := [.lit (.bool true)], args := [d1, d2, d3] }
  | _ => none }
def fnExactMustChangeRow : OpenClaim := { program := "ytdkmmefmhfbgkaa", sum := "fea2937edf9ac6246f0294678d668967c32e1414d5f38f42a0262cce4d9d3ea2", func := "loop.example/g03006/laws.FnExactMustChange", spec := "fnExactMustChange", inPlace := ["slices.overlaps[int]"], unfollowed := true, recurses := true, apart := false }
def FnExactMustChangeSaid : Prop := fnExactMustChangeRow.holds Try.pinned (OpenSpec.ofChange fnExactMustChangeSpec)

/-- ITS FALSE NEIGHBOUR: 'it returns false'. Refute it at one input. -/
def fnExactMustChangeWrong : ChangeSpec := { name := "fnExactMustChange", fn := fun _ => fun
  | [d1, d2, d3] => { results := [.lit (.bool false)], args := [d1, d2, d3] }
  | _ => none }
def FnExactMustChangeWrongFalsely : Prop := fnExactMustChangeRow.holds Try.pinned (OpenSpec.ofChange fnExactMustChangeWrong)

/-- 'laws.FnExactShareGreen': WHATEVER THE INPUT: true; the input reads as it did. -/
def fnExactShareGreenSpec : ChangeSpec := { name := "fnExactShareGreen", fn := fun _ => fun
  | [d1, d2, d3, d4] => { results := [.lit (.bool true)], args := [d1, d2, d3, d4] }
  | _ => none }
def fnExactShareGreenRow : OpenClaim := { program := "ytdkmmefmhfbgkaa", sum := "fea2937edf9ac6246f0294678d668967c32e1414d5f38f42a0262cce4d9d3ea2", func := "loop.example/g03006/laws.FnExactShareGreen", spec := "fnExactShareGreen", unfollowed := true, recurses := true, apart := false }
def FnExactShareGreenSaid : Prop := fnExactShareGreenRow.holds Try.pinned (OpenSpec.ofChange fnExactShareGreenSpec)

/-- ITS FALSE NEIGHBOUR: 'it returns false'. Refute it at one input. -/
def fnExactShareGreenWrong : ChangeSpec := { name := "fnExactShareGreen", fn := fun _ => fun
  | [d1, d2, d3, d4] => { results := [.lit (.bool false)], args := [d1, d2, d3, d4] }
  | _ => none }
def FnExactShareGreenWrongFalsely : Prop := fnExactShareGreenRow.holds Try.pinned (OpenSpec.ofChange fnExactShareGreenWrong)

/- THE SECOND FORM. 'bulk': how many values and letters a reading holds, each counted each time it is reached (what is shared counts as often as it is met; a slice's spare places count too). A statement '..UptoSaid' is the law's where the arguments, and the package variables that the reading takes, are together of bulk at most 1048576: NARROWER than '..Said'. Prove '..Said' where nothing that the law and all that it calls make is longer than what came in: it says more and counts as full. Else prove '..UptoSaid'. A law counts once. -/
mutual
def uptoBulk {H : Type} : DataW H → Nat
  | .lit (.string bytes) => bytes.length + 1
  | .lit _ => 1
  | .nil => 1
  | .ptr d => uptoBulk d + 1
  | .slice elems spare => uptoBulkAll elems + uptoBulkAll spare + 1
  | .agg parts => uptoBulkAll parts + 1
  | .iface _ d => uptoBulk d + 1
  | .map entries => uptoBulkEntries entries + 1
  | .held _ => 1
def uptoBulkAll {H : Type} : List (DataW H) → Nat
  | [] => 0
  | d :: r => uptoBulk d + uptoBulkAll r
def uptoBulkEntries {H : Type} : List (Lit × DataW H) → Nat
  | [] => 0
  | x :: r => uptoBulkEntry x + uptoBulkEntries r
def uptoBulkEntry {H : Type} : Lit × DataW H → Nat
  | (.string bytes, d) => bytes.length + uptoBulk d + 1
  | (_, d) => uptoBulk d + 1
 end
def uptoSmall : (H : Type) → List (DataW H) → Bool := fun _ ds => decide (uptoBulkAll ds ≤ 1048576)
def OpenSpec.upto (s : _root_.Go.ChangeSpec) : _root_.Go.OpenSpec := { _root_.Go.OpenSpec.ofChange s with cond := some uptoSmall }

/-- 'laws.FnExactOpenIn', WHERE WHAT IT READS IS OF BULK AT MOST 1048576: true; the input reads as it did. -/
def fnExactOpenInUptoRow : OpenClaim := { program := "ytdkmmefmhfbgkaa", sum := "fea2937edf9ac6246f0294678d668967c32e1414d5f38f42a0262cce4d9d3ea2", func := "loop.example/g03006/laws.FnExactOpenIn", spec := "fnExactOpenIn", unfollowed := true, recurses := true, apart := false, narrowed := true }
def FnExactOpenInUptoSaid : Prop := fnExactOpenInUptoRow.holds Try.pinned (OpenSpec.upto fnExactOpenInSpec)

/-- 'laws.FnExactServedAt', WHERE WHAT IT READS IS OF BULK AT MOST 1048576: true; the input reads as it did. -/
def fnExactServedAtUptoRow : OpenClaim := { program := "ytdkmmefmhfbgkaa", sum := "fea2937edf9ac6246f0294678d668967c32e1414d5f38f42a0262cce4d9d3ea2", func := "loop.example/g03006/laws.FnExactServedAt", spec := "fnExactServedAt", unfollowed := true, recurses := true, apart := false, narrowed := true }
def FnExactServedAtUptoSaid : Prop := fnExactServedAtUptoRow.holds Try.pinned (OpenSpec.upto fnExactServedAtSpec)

/-- 'laws.FnExactIsWithin', WHERE WHAT IT READS IS OF BULK AT MOST 1048576: true; the input reads as it did. -/
def fnExactIsWithinUptoRow : OpenClaim := { program := "ytdkmmefmhfbgkaa", sum := "fea2937edf9ac6246f0294678d668967c32e1414d5f38f42a0262cce4d9d3ea2", func := "loop.example/g03006/laws.FnExactIsWithin", spec := "fnExactIsWithin", unfollowed := true, recurses := true, apart := false, narrowed := true }
def FnExactIsWithinUptoSaid : Prop := fnExactIsWithinUptoRow.holds Try.pinned (OpenSpec.upto fnExactIsWithinSpec)

/-- 'laws.FnExactPlanFor', WHERE WHAT IT READS IS OF BULK AT MOST 1048576: true; the input reads as it did. -/
def fnExactPlanForUptoRow : OpenClaim := { program := "ytdkmmefmhfbgkaa", sum := "fea2937edf9ac6246f0294678d668967c32e1414d5f38f42a0262cce4d9d3ea2", func := "loop.example/g03006/laws.FnExactPlanFor", spec := "fnExactPlanFor", inPlace := ["slices.overlaps[int]"], unfollowed := true, recurses := true, apart := false, narrowed := true }
def FnExactPlanForUptoSaid : Prop := fnExactPlanForUptoRow.holds Try.pinned (OpenSpec.upto fnExactPlanForSpec)

/-- 'laws.FnExactAskStage', WHERE WHAT IT READS IS OF BULK AT MOST 1048576: true; the input reads as it did. -/
def fnExactAskStageUptoRow : OpenClaim := { program := "ytdkmmefmhfbgkaa", sum := "fea2937edf9ac6246f0294678d668967c32e1414d5f38f42a0262cce4d9d3ea2", func := "loop.example/g03006/laws.FnExactAskStage", spec := "fnExactAskStage", unfollowed := true, recurses := true, apart := false, narrowed := true }
def FnExactAskStageUptoSaid : Prop := fnExactAskStageUptoRow.holds Try.pinned (OpenSpec.upto fnExactAskStageSpec)

/-- 'laws.FnExactNextStage', WHERE WHAT IT READS IS OF BULK AT MOST 1048576: true; the input reads as it did. -/
def fnExactNextStageUptoRow : OpenClaim := { program := "ytdkmmefmhfbgkaa", sum := "fea2937edf9ac6246f0294678d668967c32e1414d5f38f42a0262cce4d9d3ea2", func := "loop.example/g03006/laws.FnExactNextStage", spec := "fnExactNextStage", inPlace := ["slices.overlaps[int]"], unfollowed := true, recurses := true, apart := false, narrowed := true }
def FnExactNextStageUptoSaid : Prop := fnExactNextStageUptoRow.holds Try.pinned (OpenSpec.upto fnExactNextStageSpec)

/-- 'laws.FnExactMustChange', WHERE WHAT IT READS IS OF BULK AT MOST 1048576: true; the input reads as it did. -/
def fnExactMustChangeUptoRow : OpenClaim := { program := "ytdkmmefmhfbgkaa", sum := "fea2937edf9ac6246f0294678d668967c32e1414d5f38f42a0262cce4d9d3ea2", func := "loop.example/g03006/laws.FnExactMustChange", spec := "fnExactMustChange", inPlace := ["slices.overlaps[int]"], unfollowed := true, recurses := true, apart := false, narrowed := true }
def FnExactMustChangeUptoSaid : Prop := fnExactMustChangeUptoRow.holds Try.pinned (OpenSpec.upto fnExactMustChangeSpec)

/-- 'laws.FnExactShareGreen', WHERE WHAT IT READS IS OF BULK AT MOST 1048576: true; the input reads as it did. -/
def fnExactShareGreenUptoRow : OpenClaim := { program := "ytdkmmefmhfbgkaa", sum := "fea2937edf9ac6246f0294678d668967c32e1414d5f38f42a0262cce4d9d3ea2", func := "loop.example/g03006/laws.FnExactShareGreen", spec := "fnExactShareGreen", unfollowed := true, recurses := true, apart := false, narrowed := true }
def FnExactShareGreenUptoSaid : Prop := fnExactShareGreenUptoRow.holds Try.pinned (OpenSpec.upto fnExactShareGreenSpec)

end Rows
end Go.Proofs.Ytdkmmefmhfbgkaa
