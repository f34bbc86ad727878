/-
  No cell of these rows narrows 'for every input' (looked for: loops, veiled, ifaces, maps, wideKeys, modest, calm, conditions, laid).
  DERIVED. THE GIVEN ROWS OF THIS SEAT. 12 by the template 'for every input the law returns true; each argument reads behind the call as it read before'; 0 by the template 'total and deterministic' (their statements: YtimmadeghcghoaaTotals.lean).
  GIVEN WITH THE SEED: the statements are not yours to turn. If you find one false, say at which input.
  Laid BY PROGRAM, IN A SANDBOX (cutbox-rows.mjs): the forced cells as the released guide's own fill.sh prints them over the translation 0cbf42153bb54664… (all of the seat's roots in one cut). By AI agents, Wed Nov 11 2026. No macro, syntax, notation, axiom, sorry.
-/
import Derived.Test.YtimmadeghcghoaaChecked
import GoSem.Claim
import GoSem.ClaimJoined
import GoSem.ClaimMapViews
import Derived.JoinedTies
import Derived.KernelRfl
namespace Go.Proofs.Ytimmadeghcghoaa
/- THE CELL 'sum', in the pinned program and in every row, IS THE sha256 OF THE DUMP (.gsa) THAT YtimmadeghcghoaaProg.lean LOADS. Nothing in Lean hashes anything: it is a label: what it is worth is what the hold of that sum in a sandbox is worth. -/
noncomputable def Try.pinned : Pinned := { name := "ytimmadeghcghoaa", sum := "0cbf42153bb5466435a1a4f875769ccd77e69f4b4d2006407cd3523e67f6a8ed", checked := Try.checked }
namespace Rows
def none {H : Type} : Left H := { results := [], args := [] }

/-- 'laws.FnExactQueueRun': WHATEVER THE INPUT: true; the input reads as it did. -/
def fnExactQueueRunSpec : ChangeSpec := { name := "fnExactQueueRun", fn := fun _ => fun
  | [d1, d2] => { results := [.lit (.bool true)], args := [d1, d2] }
  | _ => none }
def fnExactQueueRunRow : OpenClaim := { program := "ytimmadeghcghoaa", sum := "0cbf42153bb5466435a1a4f875769ccd77e69f4b4d2006407cd3523e67f6a8ed", func := "loop.example/g03006/laws.FnExactQueueRun", spec := "fnExactQueueRun", apart := false }
def FnExactQueueRunSaid : Prop := fnExactQueueRunRow.holds Try.pinned (OpenSpec.ofChange fnExactQueueRunSpec)

/-- ITS FALSE NEIGHBOUR: 'it returns false'. Refute it at one input. -/
def fnExactQueueRunWrong : ChangeSpec := { name := "fnExactQueueRun", fn := fun _ => fun
  | [d1, d2] => { results := [.lit (.bool false)], args := [d1, d2] }
  | _ => none }
def FnExactQueueRunWrongFalsely : Prop := fnExactQueueRunRow.holds Try.pinned (OpenSpec.ofChange fnExactQueueRunWrong)

/-- 'laws.FnExactEqualPlans': WHATEVER THE INPUT: true; the input reads as it did. -/
def fnExactEqualPlansSpec : ChangeSpec := { name := "fnExactEqualPlans", fn := fun _ => fun
  | [d1, d2] => { results := [.lit (.bool true)], args := [d1, d2] }
  | _ => none }
def fnExactEqualPlansRow : OpenClaim := { program := "ytimmadeghcghoaa", sum := "0cbf42153bb5466435a1a4f875769ccd77e69f4b4d2006407cd3523e67f6a8ed", func := "loop.example/g03006/laws.FnExactEqualPlans", spec := "fnExactEqualPlans", unfollowed := true, recurses := true, apart := false }
def FnExactEqualPlansSaid : Prop := fnExactEqualPlansRow.holds Try.pinned (OpenSpec.ofChange fnExactEqualPlansSpec)

/-- ITS FALSE NEIGHBOUR: 'it returns false'. Refute it at one input. -/
def fnExactEqualPlansWrong : ChangeSpec := { name := "fnExactEqualPlans", fn := fun _ => fun
  | [d1, d2] => { results := [.lit (.bool false)], args := [d1, d2] }
  | _ => none }
def FnExactEqualPlansWrongFalsely : Prop := fnExactEqualPlansRow.holds Try.pinned (OpenSpec.ofChange fnExactEqualPlansWrong)

/-- 'laws.FnExactSameStages': WHATEVER THE INPUT: true; the input reads as it did. -/
def fnExactSameStagesSpec : ChangeSpec := { name := "fnExactSameStages", fn := fun _ => fun
  | [d1, d2] => { results := [.lit (.bool true)], args := [d1, d2] }
  | _ => none }
def fnExactSameStagesRow : OpenClaim := { program := "ytimmadeghcghoaa", sum := "0cbf42153bb5466435a1a4f875769ccd77e69f4b4d2006407cd3523e67f6a8ed", func := "loop.example/g03006/laws.FnExactSameStages", spec := "fnExactSameStages", unfollowed := true, recurses := true, apart := false }
def FnExactSameStagesSaid : Prop := fnExactSameStagesRow.holds Try.pinned (OpenSpec.ofChange fnExactSameStagesSpec)

/-- ITS FALSE NEIGHBOUR: 'it returns false'. Refute it at one input. -/
def fnExactSameStagesWrong : ChangeSpec := { name := "fnExactSameStages", fn := fun _ => fun
  | [d1, d2] => { results := [.lit (.bool false)], args := [d1, d2] }
  | _ => none }
def FnExactSameStagesWrongFalsely : Prop := fnExactSameStagesRow.holds Try.pinned (OpenSpec.ofChange fnExactSameStagesWrong)

/-- 'laws.FnExactAreWants': WHATEVER THE INPUT: true; the input reads as it did. -/
def fnExactAreWantsSpec : ChangeSpec := { name := "fnExactAreWants", fn := fun _ => fun
  | [d1, d2] => { results := [.lit (.bool true)], args := [d1, d2] }
  | _ => none }
def fnExactAreWantsRow : OpenClaim := { program := "ytimmadeghcghoaa", sum := "0cbf42153bb5466435a1a4f875769ccd77e69f4b4d2006407cd3523e67f6a8ed", func := "loop.example/g03006/laws.FnExactAreWants", spec := "fnExactAreWants", unfollowed := true, recurses := true, apart := false }
def FnExactAreWantsSaid : Prop := fnExactAreWantsRow.holds Try.pinned (OpenSpec.ofChange fnExactAreWantsSpec)

/-- ITS FALSE NEIGHBOUR: 'it returns false'. Refute it at one input. -/
def fnExactAreWantsWrong : ChangeSpec := { name := "fnExactAreWants", fn := fun _ => fun
  | [d1, d2] => { results := [.lit (.bool false)], args := [d1, d2] }
  | _ => none }
def FnExactAreWantsWrongFalsely : Prop := fnExactAreWantsRow.holds Try.pinned (OpenSpec.ofChange fnExactAreWantsWrong)

/-- 'laws.FnExactAreDetectors': WHATEVER THE INPUT: true; the input reads as it did. -/
def fnExactAreDetectorsSpec : ChangeSpec := { name := "fnExactAreDetectors", fn := fun _ => fun
  | [d1, d2] => { results := [.lit (.bool true)], args := [d1, d2] }
  | _ => none }
def fnExactAreDetectorsRow : OpenClaim := { program := "ytimmadeghcghoaa", sum := "0cbf42153bb5466435a1a4f875769ccd77e69f4b4d2006407cd3523e67f6a8ed", func := "loop.example/g03006/laws.FnExactAreDetectors", spec := "fnExactAreDetectors", unfollowed := true, recurses := true, apart := false }
def FnExactAreDetectorsSaid : Prop := fnExactAreDetectorsRow.holds Try.pinned (OpenSpec.ofChange fnExactAreDetectorsSpec)

/-- ITS FALSE NEIGHBOUR: 'it returns false'. Refute it at one input. -/
def fnExactAreDetectorsWrong : ChangeSpec := { name := "fnExactAreDetectors", fn := fun _ => fun
  | [d1, d2] => { results := [.lit (.bool false)], args := [d1, d2] }
  | _ => none }
def FnExactAreDetectorsWrongFalsely : Prop := fnExactAreDetectorsRow.holds Try.pinned (OpenSpec.ofChange fnExactAreDetectorsWrong)

/-- 'laws.FnExactBlindPaths': WHATEVER THE INPUT: true; the input reads as it did. -/
def fnExactBlindPathsSpec : ChangeSpec := { name := "fnExactBlindPaths", fn := fun _ => fun
  | [d1, d2] => { results := [.lit (.bool true)], args := [d1, d2] }
  | _ => none }
def fnExactBlindPathsRow : OpenClaim := { program := "ytimmadeghcghoaa", sum := "0cbf42153bb5466435a1a4f875769ccd77e69f4b4d2006407cd3523e67f6a8ed", func := "loop.example/g03006/laws.FnExactBlindPaths", spec := "fnExactBlindPaths", unfollowed := true, recurses := true, apart := false }
def FnExactBlindPathsSaid : Prop := fnExactBlindPathsRow.holds Try.pinned (OpenSpec.ofChange fnExactBlindPathsSpec)

/-- ITS FALSE NEIGHBOUR: 'it returns false'. Refute it at one input. -/
def fnExactBlindPathsWrong : ChangeSpec := { name := "fnExactBlindPaths", fn := fun _ => fun
  | [d1, d2] => { results := [.lit (.bool false)], args := [d1, d2] }
  | _ => none }
def FnExactBlindPathsWrongFalsely : Prop := fnExactBlindPathsRow.holds Try.pinned (OpenSpec.ofChange fnExactBlindPathsWrong)

/-- 'laws.FnExactIsSafeLights': WHATEVER THE INPUT: true; the input reads as it did. -/
def fnExactIsSafeLightsSpec : ChangeSpec := { name := "fnExactIsSafeLights", fn := fun _ => fun
  | [d1, d2] => { results := [.lit (.bool true)], args := [d1, d2] }
  | _ => none }
def fnExactIsSafeLightsRow : OpenClaim := { program := "ytimmadeghcghoaa", sum := "0cbf42153bb5466435a1a4f875769ccd77e69f4b4d2006407cd3523e67f6a8ed", func := "loop.example/g03006/laws.FnExactIsSafeLights", spec := "fnExactIsSafeLights", apart := false }
def FnExactIsSafeLightsSaid : Prop := fnExactIsSafeLightsRow.holds Try.pinned (OpenSpec.ofChange fnExactIsSafeLightsSpec)

/-- ITS FALSE NEIGHBOUR: 'it returns false'. Refute it at one input. -/
def fnExactIsSafeLightsWrong : ChangeSpec := { name := "fnExactIsSafeLights", fn := fun _ => fun
  | [d1, d2] => { results := [.lit (.bool false)], args := [d1, d2] }
  | _ => none }
def FnExactIsSafeLightsWrongFalsely : Prop := fnExactIsSafeLightsRow.holds Try.pinned (OpenSpec.ofChange fnExactIsSafeLightsWrong)

/-- 'laws.FnExactAddWant': WHATEVER THE INPUT: true; the input reads as it did. -/
def fnExactAddWantSpec : ChangeSpec := { name := "fnExactAddWant", fn := fun _ => fun
  | [d1, d2, d3] => { results := [.lit (.bool true)], args := [d1, d2, d3] }
  | _ => none }
def fnExactAddWantRow : OpenClaim := { program := "ytimmadeghcghoaa", sum := "0cbf42153bb5466435a1a4f875769ccd77e69f4b4d2006407cd3523e67f6a8ed", func := "loop.example/g03006/laws.FnExactAddWant", spec := "fnExactAddWant", inPlace := ["slices.overlaps[loop.example/g03006/impl.Want]"], unfollowed := true, recurses := true, apart := false }
def FnExactAddWantSaid : Prop := fnExactAddWantRow.holds Try.pinned (OpenSpec.ofChange fnExactAddWantSpec)

/-- ITS FALSE NEIGHBOUR: 'it returns false'. Refute it at one input. -/
def fnExactAddWantWrong : ChangeSpec := { name := "fnExactAddWant", fn := fun _ => fun
  | [d1, d2, d3] => { results := [.lit (.bool false)], args := [d1, d2, d3] }
  | _ => none }
def FnExactAddWantWrongFalsely : Prop := fnExactAddWantRow.holds Try.pinned (OpenSpec.ofChange fnExactAddWantWrong)

/-- 'laws.FnExactIsControl': WHATEVER THE INPUT: true; the input reads as it did. -/
def fnExactIsControlSpec : ChangeSpec := { name := "fnExactIsControl", fn := fun _ => fun
  | [d1, d2] => { results := [.lit (.bool true)], args := [d1, d2] }
  | _ => none }
def fnExactIsControlRow : OpenClaim := { program := "ytimmadeghcghoaa", sum := "0cbf42153bb5466435a1a4f875769ccd77e69f4b4d2006407cd3523e67f6a8ed", func := "loop.example/g03006/laws.FnExactIsControl", spec := "fnExactIsControl", unfollowed := true, recurses := true, apart := false }
def FnExactIsControlSaid : Prop := fnExactIsControlRow.holds Try.pinned (OpenSpec.ofChange fnExactIsControlSpec)

/-- ITS FALSE NEIGHBOUR: 'it returns false'. Refute it at one input. -/
def fnExactIsControlWrong : ChangeSpec := { name := "fnExactIsControl", fn := fun _ => fun
  | [d1, d2] => { results := [.lit (.bool false)], args := [d1, d2] }
  | _ => none }
def FnExactIsControlWrongFalsely : Prop := fnExactIsControlRow.holds Try.pinned (OpenSpec.ofChange fnExactIsControlWrong)

/-- 'laws.FnExactCanEnd': WHATEVER THE INPUT: true; the input reads as it did. -/
def fnExactCanEndSpec : ChangeSpec := { name := "fnExactCanEnd", fn := fun _ => fun
  | [d1, d2] => { results := [.lit (.bool true)], args := [d1, d2] }
  | _ => none }
def fnExactCanEndRow : OpenClaim := { program := "ytimmadeghcghoaa", sum := "0cbf42153bb5466435a1a4f875769ccd77e69f4b4d2006407cd3523e67f6a8ed", func := "loop.example/g03006/laws.FnExactCanEnd", spec := "fnExactCanEnd", unfollowed := true, recurses := true, apart := false }
def FnExactCanEndSaid : Prop := fnExactCanEndRow.holds Try.pinned (OpenSpec.ofChange fnExactCanEndSpec)

/-- ITS FALSE NEIGHBOUR: 'it returns false'. Refute it at one input. -/
def fnExactCanEndWrong : ChangeSpec := { name := "fnExactCanEnd", fn := fun _ => fun
  | [d1, d2] => { results := [.lit (.bool false)], args := [d1, d2] }
  | _ => none }
def FnExactCanEndWrongFalsely : Prop := fnExactCanEndRow.holds Try.pinned (OpenSpec.ofChange fnExactCanEndWrong)

/-- 'laws.FnExactLightsOf': WHATEVER THE INPUT: true; the input reads as it did. -/
def fnExactLightsOfSpec : ChangeSpec := { name := "fnExactLightsOf", fn := fun _ => fun
  | [d1, d2] => { results := [.lit (.bool true)], args := [d1, d2] }
  | _ => none }
def fnExactLightsOfRow : OpenClaim := { program := "ytimmadeghcghoaa", sum := "0cbf42153bb5466435a1a4f875769ccd77e69f4b4d2006407cd3523e67f6a8ed", func := "loop.example/g03006/laws.FnExactLightsOf", spec := "fnExactLightsOf", unfollowed := true, recurses := true, apart := false }
def FnExactLightsOfSaid : Prop := fnExactLightsOfRow.holds Try.pinned (OpenSpec.ofChange fnExactLightsOfSpec)

/-- ITS FALSE NEIGHBOUR: 'it returns false'. Refute it at one input. -/
def fnExactLightsOfWrong : ChangeSpec := { name := "fnExactLightsOf", fn := fun _ => fun
  | [d1, d2] => { results := [.lit (.bool false)], args := [d1, d2] }
  | _ => none }
def FnExactLightsOfWrongFalsely : Prop := fnExactLightsOfRow.holds Try.pinned (OpenSpec.ofChange fnExactLightsOfWrong)

/-- 'laws.FnExactTickControl': WHATEVER THE INPUT: true; the input reads as it did. -/
def fnExactTickControlSpec : ChangeSpec := { name := "fnExactTickControl", fn := fun _ => fun
  | [d1, d2] => { results := [.lit (.bool true)], args := [d1, d2] }
  | _ => none }
def fnExactTickControlRow : OpenClaim := { program := "ytimmadeghcghoaa", sum := "0cbf42153bb5466435a1a4f875769ccd77e69f4b4d2006407cd3523e67f6a8ed", func := "loop.example/g03006/laws.FnExactTickControl", spec := "fnExactTickControl", unfollowed := true, recurses := true, apart := false }
def FnExactTickControlSaid : Prop := fnExactTickControlRow.holds Try.pinned (OpenSpec.ofChange fnExactTickControlSpec)

/-- ITS FALSE NEIGHBOUR: 'it returns false'. Refute it at one input. -/
def fnExactTickControlWrong : ChangeSpec := { name := "fnExactTickControl", fn := fun _ => fun
  | [d1, d2] => { results := [.lit (.bool false)], args := [d1, d2] }
  | _ => none }
def FnExactTickControlWrongFalsely : Prop := fnExactTickControlRow.holds Try.pinned (OpenSpec.ofChange fnExactTickControlWrong)

/- THE SECOND FORM. 'bulk': how many values and letters a reading holds, each counted each time it is reached (what is shared counts as often as it is met; a slice's spare places count too). A statement '..UptoSaid' is the law's where the arguments, and the package variables that the reading takes, are together of bulk at most 1048576: NARROWER than '..Said'. Prove '..Said' where nothing that the law and all that it calls make is longer than what came in: it says more and counts as full. Else prove '..UptoSaid'. A law counts once. -/
mutual
def uptoBulk {H : Type} : DataW H → Nat
  | .lit (.string bytes) => bytes.length + 1
  | .lit _ => 1
  | .nil => 1
  | .ptr d => uptoBulk d + 1
  | .slice elems spare => uptoBulkAll elems + uptoBulkAll spare + 1
  | .agg parts => uptoBulkAll parts + 1
  | .iface _ d => uptoBulk d + 1
  | .map entries => uptoBulkEntries entries + 1
  | .held _ => 1
def uptoBulkAll {H : Type} : List (DataW H) → Nat
  | [] => 0
  | d :: r => uptoBulk d + uptoBulkAll r
def uptoBulkEntries {H : Type} : List (Lit × DataW H) → Nat
  | [] => 0
  | x :: r => uptoBulkEntry x + uptoBulkEntries r
def uptoBulkEntry {H : Type} : Lit × DataW H → Nat
  | (.string bytes, d) => bytes.length + uptoBulk d + 1
  | (_, d) => uptoBulk d + 1
 end
def uptoSmall : (H : Type) → List (DataW H) → Bool := fun _ ds => decide (uptoBulkAll ds ≤ 1048576)
def OpenSpec.upto (s : _root_.Go.ChangeSpec) : _root_.Go.OpenSpec := { _root_.Go.OpenSpec.ofChange s with cond := some uptoSmall }

/-- 'laws.FnExactQueueRun', WHERE WHAT IT READS IS OF BULK AT MOST 1048576: true; the input reads as it did. -/
def fnExactQueueRunUptoRow : OpenClaim := { program := "ytimmadeghcghoaa", sum := "0cbf42153bb5466435a1a4f875769ccd77e69f4b4d2006407cd3523e67f6a8ed", func := "loop.example/g03006/laws.FnExactQueueRun", spec := "fnExactQueueRun", apart := false, narrowed := true }
def FnExactQueueRunUptoSaid : Prop := fnExactQueueRunUptoRow.holds Try.pinned (OpenSpec.upto fnExactQueueRunSpec)

/-- 'laws.FnExactEqualPlans', WHERE WHAT IT READS IS OF BULK AT MOST 1048576: true; the input reads as it did. -/
def fnExactEqualPlansUptoRow : OpenClaim := { program := "ytimmadeghcghoaa", sum := "0cbf42153bb5466435a1a4f875769ccd77e69f4b4d2006407cd3523e67f6a8ed", func := "loop.example/g03006/laws.FnExactEqualPlans", spec := "fnExactEqualPlans", unfollowed := true, recurses := true, apart := false, narrowed := true }
def FnExactEqualPlansUptoSaid : Prop := fnExactEqualPlansUptoRow.holds Try.pinned (OpenSpec.upto fnExactEqualPlansSpec)

/-- 'laws.FnExactSameStages', WHERE WHAT IT READS IS OF BULK AT MOST 1048576: true; the input reads as it did. -/
def fnExactSameStagesUptoRow : OpenClaim := { program := "ytimmadeghcghoaa", sum := "0cbf42153bb5466435a1a4f875769ccd77e69f4b4d2006407cd3523e67f6a8ed", func := "loop.example/g03006/laws.FnExactSameStages", spec := "fnExactSameStages", unfollowed := true, recurses := true, apart := false, narrowed := true }
def FnExactSameStagesUptoSaid : Prop := fnExactSameStagesUptoRow.holds Try.pinned (OpenSpec.upto fnExactSameStagesSpec)

/-- 'laws.FnExactAreWants', WHERE WHAT IT READS IS OF BULK AT MOST 1048576: true; the input reads as it did. -/
def fnExactAreWantsUptoRow : OpenClaim := { program := "ytimmadeghcghoaa", sum := "0cbf42153bb5466435a1a4f875769ccd77e69f4b4d2006407cd3523e67f6a8ed", func := "loop.example/g03006/laws.FnExactAreWants", spec := "fnExactAreWants", unfollowed := true, recurses := true, apart := false, narrowed := true }
def FnExactAreWantsUptoSaid : Prop := fnExactAreWantsUptoRow.holds Try.pinned (OpenSpec.upto fnExactAreWantsSpec)

/-- 'laws.FnExactAreDetectors', WHERE WHAT IT READS IS OF BULK AT MOST 1048576: true; the input reads as it did. -/
def fnExactAreDetectorsUptoRow : OpenClaim := { program := "ytimmadeghcghoaa", sum := "0cbf42153bb5466435a1a4f875769ccd77e69f4b4d2006407cd3523e67f6a8ed", func := "loop.example/g03006/laws.FnExactAreDetectors", spec := "fnExactAreDetectors", unfollowed := true, recurses := true, apart := false, narrowed := true }
def FnExactAreDetectorsUptoSaid : Prop := fnExactAreDetectorsUptoRow.holds Try.pinned (OpenSpec.upto fnExactAreDetectorsSpec)

/-- 'laws.FnExactBlindPaths', WHERE WHAT IT READS IS OF BULK AT MOST 1048576: true; the input reads as it did. -/
def fnExactBlindPathsUptoRow : OpenClaim := { program := "ytimmadeghcghoaa", sum := "0cbf42153bb5466435a1a4f875769ccd77e69f4b4d2006407cd3523e67f6a8ed", func := "loop.example/g03006/laws.FnExactBlindPaths", spec := "fnExactBlindPaths", unfollowed := true, recurses := true, apart := false, narrowed := true }
def FnExactBlindPathsUptoSaid : Prop := fnExactBlindPathsUptoRow.holds Try.pinned (OpenSpec.upto fnExactBlindPathsSpec)

/-- 'laws.FnExactIsSafeLights', WHERE WHAT IT READS IS OF BULK AT MOST 1048576: true; the input reads as it did. -/
def fnExactIsSafeLightsUptoRow : OpenClaim := { program := "ytimmadeghcghoaa", sum := "0cbf42153bb5466435a1a4f875769ccd77e69f4b4d2006407cd3523e67f6a8ed", func := "loop.example/g03006/laws.FnExactIsSafeLights", spec := "fnExactIsSafeLights", apart := false, narrowed := true }
def FnExactIsSafeLightsUptoSaid : Prop := fnExactIsSafeLightsUptoRow.holds Try.pinned (OpenSpec.upto fnExactIsSafeLightsSpec)

/-- 'laws.FnExactAddWant', WHERE WHAT IT READS IS OF BULK AT MOST 1048576: true; the input reads as it did. -/
def fnExactAddWantUptoRow : OpenClaim := { program := "ytimmadeghcghoaa", sum := "0cbf42153bb5466435a1a4f875769ccd77e69f4b4d2006407cd3523e67f6a8ed", func := "loop.example/g03006/laws.FnExactAddWant", spec := "fnExactAddWant", inPlace := ["slices.overlaps[loop.example/g03006/impl.Want]"], unfollowed := true, recurses := true, apart := false, narrowed := true }
def FnExactAddWantUptoSaid : Prop := fnExactAddWantUptoRow.holds Try.pinned (OpenSpec.upto fnExactAddWantSpec)

/-- 'laws.FnExactIsControl', WHERE WHAT IT READS IS OF BULK AT MOST 1048576: true; the input reads as it did. -/
def fnExactIsControlUptoRow : OpenClaim := { program := "ytimmadeghcghoaa", sum := "0cbf42153bb5466435a1a4f875769ccd77e69f4b4d2006407cd3523e67f6a8ed", func := "loop.example/g03006/laws.FnExactIsControl", spec := "fnExactIsControl", unfollowed := true, recurses := true, apart := false, narrowed := true }
def FnExactIsControlUptoSaid : Prop := fnExactIsControlUptoRow.holds Try.pinned (OpenSpec.upto fnExactIsControlSpec)

/-- 'laws.FnExactCanEnd', WHERE WHAT IT READS IS OF BULK AT MOST 1048576: true; the input reads as it did. -/
def fnExactCanEndUptoRow : OpenClaim := { program := "ytimmadeghcghoaa", sum := "0cbf42153bb5466435a1a4f875769ccd77e69f4b4d2006407cd3523e67f6a8ed", func := "loop.example/g03006/laws.FnExactCanEnd", spec := "fnExactCanEnd", unfollowed := true, recurses := true, apart := false, narrowed := true }
def FnExactCanEndUptoSaid : Prop := fnExactCanEndUptoRow.holds Try.pinned (OpenSpec.upto fnExactCanEndSpec)

/-- 'laws.FnExactLightsOf', WHERE WHAT IT READS IS OF BULK AT MOST 1048576: true; the input reads as it did. -/
def fnExactLightsOfUptoRow : OpenClaim := { program := "ytimmadeghcghoaa", sum := "0cbf42153bb5466435a1a4f875769ccd77e69f4b4d2006407cd3523e67f6a8ed", func := "loop.example/g03006/laws.FnExactLightsOf", spec := "fnExactLightsOf", unfollowed := true, recurses := true, apart := false, narrowed := true }
def FnExactLightsOfUptoSaid : Prop := fnExactLightsOfUptoRow.holds Try.pinned (OpenSpec.upto fnExactLightsOfSpec)

/-- 'laws.FnExactTickControl', WHERE WHAT IT READS IS OF BULK AT MOST 1048576: true; the input reads as it did. -/
def fnExactTickControlUptoRow : OpenClaim := { program := "ytimmadeghcghoaa", sum := "0cbf42153bb5466435a1a4f875769ccd77e69f4b4d2006407cd3523e67f6a8ed", func := "loop.example/g03006/laws.FnExactTickControl", spec := "fnExactTickControl", unfollowed := true, recurses := true, apart := false, narrowed := true }
def FnExactTickControlUptoSaid : Prop := fnExactTickControlUptoRow.holds Try.pinned (OpenSpec.upto fnExactTickControlSpec)

end Rows
end Go.Proofs.Ytimmadeghcghoaa
