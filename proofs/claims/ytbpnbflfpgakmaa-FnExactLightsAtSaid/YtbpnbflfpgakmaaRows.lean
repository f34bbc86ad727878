/-
  No cell of these rows narrows 'for every input' (looked for: loops, veiled, ifaces, maps, wideKeys, modest, calm, conditions, laid).
  DERIVED. THE GIVEN ROWS OF THIS SEAT. 12 by the template 'for every input the law returns true; each argument reads behind the call as it read before'; 0 by the template 'total and deterministic' (their statements: YtbpnbflfpgakmaaTotals.lean).
  GIVEN WITH THE SEED: the statements are not yours to turn. If you find one false, say at which input.
  Laid BY PROGRAM, IN A SANDBOX (cutbox-rows.mjs): the forced cells as the released guide's own fill.sh prints them over the translation 692f9a6d54c2d3f6… (all of the seat's roots in one cut). By AI agents, Wed Nov 11 2026. No macro, syntax, notation, axiom, sorry.
-/
import Derived.Test.YtbpnbflfpgakmaaChecked
import GoSem.Claim
import GoSem.ClaimJoined
import GoSem.ClaimMapViews
import Derived.JoinedTies
import Derived.KernelRfl
namespace Go.Proofs.Ytbpnbflfpgakmaa
/- THE CELL 'sum', in the pinned program and in every row, IS THE sha256 OF THE DUMP (.gsa) THAT YtbpnbflfpgakmaaProg.lean LOADS. Nothing in Lean hashes anything: it is a label: what it is worth is what the hold of that sum in a sandbox is worth. -/
noncomputable def Try.pinned : Pinned := { name := "ytbpnbflfpgakmaa", sum := "692f9a6d54c2d3f6e13b38db7f5cc91f6a5ec5826bb25a0fb52464c5a5780a85", checked := Try.checked }
namespace Rows
def none {H : Type} : Left H := { results := [], args := [] }

/-- 'laws.FnExactIsPlan': WHATEVER THE INPUT: true; the input reads as it did. -/
def fnExactIsPlanSpec : ChangeSpec := { name := "fnExactIsPlan", fn := fun _ => fun
  | [d1, d2] => { results := [.lit (.bool true)], args := [d1, d2] }
  | _ => none }
def fnExactIsPlanRow : OpenClaim := { program := "ytbpnbflfpgakmaa", sum := "692f9a6d54c2d3f6e13b38db7f5cc91f6a5ec5826bb25a0fb52464c5a5780a85", func := "loop.example/g03006/laws.FnExactIsPlan", spec := "fnExactIsPlan", unfollowed := true, recurses := true, apart := false }
def FnExactIsPlanSaid : Prop := fnExactIsPlanRow.holds Try.pinned (OpenSpec.ofChange fnExactIsPlanSpec)

/-- ITS FALSE NEIGHBOUR: 'it returns false'. Refute it at one input. -/
def fnExactIsPlanWrong : ChangeSpec := { name := "fnExactIsPlan", fn := fun _ => fun
  | [d1, d2] => { results := [.lit (.bool false)], args := [d1, d2] }
  | _ => none }
def FnExactIsPlanWrongFalsely : Prop := fnExactIsPlanRow.holds Try.pinned (OpenSpec.ofChange fnExactIsPlanWrong)

/-- 'laws.FnExactCycle': WHATEVER THE INPUT: true; the input reads as it did. -/
def fnExactCycleSpec : ChangeSpec := { name := "fnExactCycle", fn := fun _ => fun
  | [d1, d2] => { results := [.lit (.bool true)], args := [d1, d2] }
  | _ => none }
def fnExactCycleRow : OpenClaim := { program := "ytbpnbflfpgakmaa", sum := "692f9a6d54c2d3f6e13b38db7f5cc91f6a5ec5826bb25a0fb52464c5a5780a85", func := "loop.example/g03006/laws.FnExactCycle", spec := "fnExactCycle", unfollowed := true, recurses := true, apart := false }
def FnExactCycleSaid : Prop := fnExactCycleRow.holds Try.pinned (OpenSpec.ofChange fnExactCycleSpec)

/-- ITS FALSE NEIGHBOUR: 'it returns false'. Refute it at one input. -/
def fnExactCycleWrong : ChangeSpec := { name := "fnExactCycle", fn := fun _ => fun
  | [d1, d2] => { results := [.lit (.bool false)], args := [d1, d2] }
  | _ => none }
def FnExactCycleWrongFalsely : Prop := fnExactCycleRow.holds Try.pinned (OpenSpec.ofChange fnExactCycleWrong)

/-- 'laws.FnExactStartOf': WHATEVER THE INPUT: true; the input reads as it did. -/
def fnExactStartOfSpec : ChangeSpec := { name := "fnExactStartOf", fn := fun _ => fun
  | [d1, d2, d3] => { results := [.lit (.bool true)], args := [d1, d2, d3] }
  | _ => none }
def fnExactStartOfRow : OpenClaim := { program := "ytbpnbflfpgakmaa", sum := "692f9a6d54c2d3f6e13b38db7f5cc91f6a5ec5826bb25a0fb52464c5a5780a85", func := "loop.example/g03006/laws.FnExactStartOf", spec := "fnExactStartOf", unfollowed := true, recurses := true, apart := false }
def FnExactStartOfSaid : Prop := fnExactStartOfRow.holds Try.pinned (OpenSpec.ofChange fnExactStartOfSpec)

/-- ITS FALSE NEIGHBOUR: 'it returns false'. Refute it at one input. -/
def fnExactStartOfWrong : ChangeSpec := { name := "fnExactStartOf", fn := fun _ => fun
  | [d1, d2, d3] => { results := [.lit (.bool false)], args := [d1, d2, d3] }
  | _ => none }
def FnExactStartOfWrongFalsely : Prop := fnExactStartOfRow.holds Try.pinned (OpenSpec.ofChange fnExactStartOfWrong)

/-- 'laws.FnExactGreenShare': WHATEVER THE INPUT: true; the input reads as it did. -/
def fnExactGreenShareSpec : ChangeSpec := { name := "fnExactGreenShare", fn := fun _ => fun
  | [d1, d2, d3] => { results := [.lit (.bool true)], args := [d1, d2, d3] }
  | _ => none }
def fnExactGreenShareRow : OpenClaim := { program := "ytbpnbflfpgakmaa", sum := "692f9a6d54c2d3f6e13b38db7f5cc91f6a5ec5826bb25a0fb52464c5a5780a85", func := "loop.example/g03006/laws.FnExactGreenShare", spec := "fnExactGreenShare", unfollowed := true, recurses := true, apart := false }
def FnExactGreenShareSaid : Prop := fnExactGreenShareRow.holds Try.pinned (OpenSpec.ofChange fnExactGreenShareSpec)

/-- ITS FALSE NEIGHBOUR: 'it returns false'. Refute it at one input. -/
def fnExactGreenShareWrong : ChangeSpec := { name := "fnExactGreenShare", fn := fun _ => fun
  | [d1, d2, d3] => { results := [.lit (.bool false)], args := [d1, d2, d3] }
  | _ => none }
def FnExactGreenShareWrongFalsely : Prop := fnExactGreenShareRow.holds Try.pinned (OpenSpec.ofChange fnExactGreenShareWrong)

/-- 'laws.FnExactSpareGreen': WHATEVER THE INPUT: true; the input reads as it did. -/
def fnExactSpareGreenSpec : ChangeSpec := { name := "fnExactSpareGreen", fn := fun _ => fun
  | [d1, d2, d3] => { results := [.lit (.bool true)], args := [d1, d2, d3] }
  | _ => none }
def fnExactSpareGreenRow : OpenClaim := { program := "ytbpnbflfpgakmaa", sum := "692f9a6d54c2d3f6e13b38db7f5cc91f6a5ec5826bb25a0fb52464c5a5780a85", func := "loop.example/g03006/laws.FnExactSpareGreen", spec := "fnExactSpareGreen", unfollowed := true, recurses := true, apart := false }
def FnExactSpareGreenSaid : Prop := fnExactSpareGreenRow.holds Try.pinned (OpenSpec.ofChange fnExactSpareGreenSpec)

/-- ITS FALSE NEIGHBOUR: 'it returns false'. Refute it at one input. -/
def fnExactSpareGreenWrong : ChangeSpec := { name := "fnExactSpareGreen", fn := fun _ => fun
  | [d1, d2, d3] => { results := [.lit (.bool false)], args := [d1, d2, d3] }
  | _ => none }
def FnExactSpareGreenWrongFalsely : Prop := fnExactSpareGreenRow.holds Try.pinned (OpenSpec.ofChange fnExactSpareGreenWrong)

/-- 'laws.FnExactPartAt': WHATEVER THE INPUT: true; the input reads as it did. -/
def fnExactPartAtSpec : ChangeSpec := { name := "fnExactPartAt", fn := fun _ => fun
  | [d1, d2, d3] => { results := [.lit (.bool true)], args := [d1, d2, d3] }
  | _ => none }
def fnExactPartAtRow : OpenClaim := { program := "ytbpnbflfpgakmaa", sum := "692f9a6d54c2d3f6e13b38db7f5cc91f6a5ec5826bb25a0fb52464c5a5780a85", func := "loop.example/g03006/laws.FnExactPartAt", spec := "fnExactPartAt", unfollowed := true, recurses := true, apart := false }
def FnExactPartAtSaid : Prop := fnExactPartAtRow.holds Try.pinned (OpenSpec.ofChange fnExactPartAtSpec)

/-- ITS FALSE NEIGHBOUR: 'it returns false'. Refute it at one input. -/
def fnExactPartAtWrong : ChangeSpec := { name := "fnExactPartAt", fn := fun _ => fun
  | [d1, d2, d3] => { results := [.lit (.bool false)], args := [d1, d2, d3] }
  | _ => none }
def FnExactPartAtWrongFalsely : Prop := fnExactPartAtRow.holds Try.pinned (OpenSpec.ofChange fnExactPartAtWrong)

/-- 'laws.FnExactLightAt': WHATEVER THE INPUT: true; the input reads as it did. -/
def fnExactLightAtSpec : ChangeSpec := { name := "fnExactLightAt", fn := fun _ => fun
  | [d1, d2, d3, d4] => { results := [.lit (.bool true)], args := [d1, d2, d3, d4] }
  | _ => none }
def fnExactLightAtRow : OpenClaim := { program := "ytbpnbflfpgakmaa", sum := "692f9a6d54c2d3f6e13b38db7f5cc91f6a5ec5826bb25a0fb52464c5a5780a85", func := "loop.example/g03006/laws.FnExactLightAt", spec := "fnExactLightAt", unfollowed := true, recurses := true, apart := false }
def FnExactLightAtSaid : Prop := fnExactLightAtRow.holds Try.pinned (OpenSpec.ofChange fnExactLightAtSpec)

/-- ITS FALSE NEIGHBOUR: 'it returns false'. Refute it at one input. -/
def fnExactLightAtWrong : ChangeSpec := { name := "fnExactLightAt", fn := fun _ => fun
  | [d1, d2, d3, d4] => { results := [.lit (.bool false)], args := [d1, d2, d3, d4] }
  | _ => none }
def FnExactLightAtWrongFalsely : Prop := fnExactLightAtRow.holds Try.pinned (OpenSpec.ofChange fnExactLightAtWrong)

/-- 'laws.FnExactLightsAt': WHATEVER THE INPUT: true; the input reads as it did. -/
def fnExactLightsAtSpec : ChangeSpec := { name := "fnExactLightsAt", fn := fun _ => fun
  | [d1, d2, d3] => { results := [.lit (.bool true)], args := [d1, d2, d3] }
  | _ => none }
def fnExactLightsAtRow : OpenClaim := { program := "ytbpnbflfpgakmaa", sum := "692f9a6d54c2d3f6e13b38db7f5cc91f6a5ec5826bb25a0fb52464c5a5780a85", func := "loop.example/g03006/laws.FnExactLightsAt", spec := "fnExactLightsAt", unfollowed := true, recurses := true, apart := false }
def FnExactLightsAtSaid : Prop := fnExactLightsAtRow.holds Try.pinned (OpenSpec.ofChange fnExactLightsAtSpec)

/-- ITS FALSE NEIGHBOUR: 'it returns false'. Refute it at one input. -/
def fnExactLightsAtWrong : ChangeSpec := { name := "fnExactLightsAt", fn := fun _ => fun
  | [d1, d2, d3] => { results := [.lit (.bool false)], args := [d1, d2, d3] }
  | _ => none }
def FnExactLightsAtWrongFalsely : Prop := fnExactLightsAtRow.holds Try.pinned (OpenSpec.ofChange fnExactLightsAtWrong)

/-- 'laws.FnExactGreenOf': WHATEVER THE INPUT: true; the input reads as it did. -/
def fnExactGreenOfSpec : ChangeSpec := { name := "fnExactGreenOf", fn := fun _ => fun
  | [d1, d2, d3] => { results := [.lit (.bool true)], args := [d1, d2, d3] }
  | _ => none }
def fnExactGreenOfRow : OpenClaim := { program := "ytbpnbflfpgakmaa", sum := "692f9a6d54c2d3f6e13b38db7f5cc91f6a5ec5826bb25a0fb52464c5a5780a85", func := "loop.example/g03006/laws.FnExactGreenOf", spec := "fnExactGreenOf", unfollowed := true, recurses := true, apart := false }
def FnExactGreenOfSaid : Prop := fnExactGreenOfRow.holds Try.pinned (OpenSpec.ofChange fnExactGreenOfSpec)

/-- ITS FALSE NEIGHBOUR: 'it returns false'. Refute it at one input. -/
def fnExactGreenOfWrong : ChangeSpec := { name := "fnExactGreenOf", fn := fun _ => fun
  | [d1, d2, d3] => { results := [.lit (.bool false)], args := [d1, d2, d3] }
  | _ => none }
def FnExactGreenOfWrongFalsely : Prop := fnExactGreenOfRow.holds Try.pinned (OpenSpec.ofChange fnExactGreenOfWrong)

/-- 'laws.FnExactWaitOf': WHATEVER THE INPUT: true; the input reads as it did. -/
def fnExactWaitOfSpec : ChangeSpec := { name := "fnExactWaitOf", fn := fun _ => fun
  | [d1, d2, d3] => { results := [.lit (.bool true)], args := [d1, d2, d3] }
  | _ => none }
def fnExactWaitOfRow : OpenClaim := { program := "ytbpnbflfpgakmaa", sum := "692f9a6d54c2d3f6e13b38db7f5cc91f6a5ec5826bb25a0fb52464c5a5780a85", func := "loop.example/g03006/laws.FnExactWaitOf", spec := "fnExactWaitOf", unfollowed := true, recurses := true, apart := false }
def FnExactWaitOfSaid : Prop := fnExactWaitOfRow.holds Try.pinned (OpenSpec.ofChange fnExactWaitOfSpec)

/-- ITS FALSE NEIGHBOUR: 'it returns false'. Refute it at one input. -/
def fnExactWaitOfWrong : ChangeSpec := { name := "fnExactWaitOf", fn := fun _ => fun
  | [d1, d2, d3] => { results := [.lit (.bool false)], args := [d1, d2, d3] }
  | _ => none }
def FnExactWaitOfWrongFalsely : Prop := fnExactWaitOfRow.holds Try.pinned (OpenSpec.ofChange fnExactWaitOfWrong)

/-- 'laws.FnExactNextGreen': WHATEVER THE INPUT: true; the input reads as it did. -/
def fnExactNextGreenSpec : ChangeSpec := { name := "fnExactNextGreen", fn := fun _ => fun
  | [d1, d2, d3, d4] => { results := [.lit (.bool true)], args := [d1, d2, d3, d4] }
  | _ => none }
def fnExactNextGreenRow : OpenClaim := { program := "ytbpnbflfpgakmaa", sum := "692f9a6d54c2d3f6e13b38db7f5cc91f6a5ec5826bb25a0fb52464c5a5780a85", func := "loop.example/g03006/laws.FnExactNextGreen", spec := "fnExactNextGreen", unfollowed := true, recurses := true, apart := false }
def FnExactNextGreenSaid : Prop := fnExactNextGreenRow.holds Try.pinned (OpenSpec.ofChange fnExactNextGreenSpec)

/-- ITS FALSE NEIGHBOUR: 'it returns false'. Refute it at one input. -/
def fnExactNextGreenWrong : ChangeSpec := { name := "fnExactNextGreen", fn := fun _ => fun
  | [d1, d2, d3, d4] => { results := [.lit (.bool false)], args := [d1, d2, d3, d4] }
  | _ => none }
def FnExactNextGreenWrongFalsely : Prop := fnExactNextGreenRow.holds Try.pinned (OpenSpec.ofChange fnExactNextGreenWrong)

/-- 'laws.FnExactWorstWait': WHATEVER THE INPUT: true; the input reads as it did. -/
def fnExactWorstWaitSpec : ChangeSpec := { name := "fnExactWorstWait", fn := fun _ => fun
  | [d1, d2] => { results := [.lit (.bool true)], args := [d1, d2] }
  | _ => none }
def fnExactWorstWaitRow : OpenClaim := { program := "ytbpnbflfpgakmaa", sum := "692f9a6d54c2d3f6e13b38db7f5cc91f6a5ec5826bb25a0fb52464c5a5780a85", func := "loop.example/g03006/laws.FnExactWorstWait", spec := "fnExactWorstWait", unfollowed := true, recurses := true, apart := false }
def FnExactWorstWaitSaid : Prop := fnExactWorstWaitRow.holds Try.pinned (OpenSpec.ofChange fnExactWorstWaitSpec)

/-- ITS FALSE NEIGHBOUR: 'it returns false'. Refute it at one input. -/
def fnExactWorstWaitWrong : ChangeSpec := { name := "fnExactWorstWait", fn := fun _ => fun
  | [d1, d2] => { results := [.lit (.bool false)], args := [d1, d2] }
  | _ => none }
def FnExactWorstWaitWrongFalsely : Prop := fnExactWorstWaitRow.holds Try.pinned (OpenSpec.ofChange fnExactWorstWaitWrong)

/- THE SECOND FORM. 'bulk': how many values and letters a reading holds, each counted each time it is reached (what is shared counts as often as it is met; a slice's spare places count too). A statement '..UptoSaid' is the law's where the arguments, and the package variables that the reading takes, are together of bulk at most 1048576: NARROWER than '..Said'. Prove '..Said' where nothing that the law and all that it calls make is longer than what came in: it says more and counts as full. Else prove '..UptoSaid'. A law counts once. -/
mutual
def uptoBulk {H : Type} : DataW H → Nat
  | .lit (.string bytes) => bytes.length + 1
  | .lit _ => 1
  | .nil => 1
  | .ptr d => uptoBulk d + 1
  | .slice elems spare => uptoBulkAll elems + uptoBulkAll spare + 1
  | .agg parts => uptoBulkAll parts + 1
  | .iface _ d => uptoBulk d + 1
  | .map entries => uptoBulkEntries entries + 1
  | .held _ => 1
def uptoBulkAll {H : Type} : List (DataW H) → Nat
  | [] => 0
  | d :: r => uptoBulk d + uptoBulkAll r
def uptoBulkEntries {H : Type} : List (Lit × DataW H) → Nat
  | [] => 0
  | x :: r => uptoBulkEntry x + uptoBulkEntries r
def uptoBulkEntry {H : Type} : Lit × DataW H → Nat
  | (.string bytes, d) => bytes.length + uptoBulk d + 1
  | (_, d) => uptoBulk d + 1
 end
def uptoSmall : (H : Type) → List (DataW H) → Bool := fun _ ds => decide (uptoBulkAll ds ≤ 1048576)
def OpenSpec.upto (s : _root_.Go.ChangeSpec) : _root_.Go.OpenSpec := { _root_.Go.OpenSpec.ofChange s with cond := some uptoSmall }

/-- 'laws.FnExactIsPlan', WHERE WHAT IT READS IS OF BULK AT MOST 1048576: true; the input reads as it did. -/
def fnExactIsPlanUptoRow : OpenClaim := { program := "ytbpnbflfpgakmaa", sum := "692f9a6d54c2d3f6e13b38db7f5cc91f6a5ec5826bb25a0fb52464c5a5780a85", func := "loop.example/g03006/laws.FnExactIsPlan", spec := "fnExactIsPlan", unfollowed := true, recurses := true, apart := false, narrowed := true }
def FnExactIsPlanUptoSaid : Prop := fnExactIsPlanUptoRow.holds Try.pinned (OpenSpec.upto fnExactIsPlanSpec)

/-- 'laws.FnExactCycle', WHERE WHAT IT READS IS OF BULK AT MOST 1048576: true; the input reads as it did. -/
def fnExactCycleUptoRow : OpenClaim := { program := "ytbpnbflfpgakmaa", sum := "692f9a6d54c2d3f6e13b38db7f5cc91f6a5ec5826bb25a0fb52464c5a5780a85", func := "loop.example/g03006/laws.FnExactCycle", spec := "fnExactCycle", unfollowed := true, recurses := true, apart := false, narrowed := true }
def FnExactCycleUptoSaid : Prop := fnExactCycleUptoRow.holds Try.pinned (OpenSpec.upto fnExactCycleSpec)

/-- 'laws.FnExactStartOf', WHERE WHAT IT READS IS OF BULK AT MOST 1048576: true; the input reads as it did. -/
def fnExactStartOfUptoRow : OpenClaim := { program := "ytbpnbflfpgakmaa", sum := "692f9a6d54c2d3f6e13b38db7f5cc91f6a5ec5826bb25a0fb52464c5a5780a85", func := "loop.example/g03006/laws.FnExactStartOf", spec := "fnExactStartOf", unfollowed := true, recurses := true, apart := false, narrowed := true }
def FnExactStartOfUptoSaid : Prop := fnExactStartOfUptoRow.holds Try.pinned (OpenSpec.upto fnExactStartOfSpec)

/-- 'laws.FnExactGreenShare', WHERE WHAT IT READS IS OF BULK AT MOST 1048576: true; the input reads as it did. -/
def fnExactGreenShareUptoRow : OpenClaim := { program := "ytbpnbflfpgakmaa", sum := "692f9a6d54c2d3f6e13b38db7f5cc91f6a5ec5826bb25a0fb52464c5a5780a85", func := "loop.example/g03006/laws.FnExactGreenShare", spec := "fnExactGreenShare", unfollowed := true, recurses := true, apart := false, narrowed := true }
def FnExactGreenShareUptoSaid : Prop := fnExactGreenShareUptoRow.holds Try.pinned (OpenSpec.upto fnExactGreenShareSpec)

/-- 'laws.FnExactSpareGreen', WHERE WHAT IT READS IS OF BULK AT MOST 1048576: true; the input reads as it did. -/
def fnExactSpareGreenUptoRow : OpenClaim := { program := "ytbpnbflfpgakmaa", sum := "692f9a6d54c2d3f6e13b38db7f5cc91f6a5ec5826bb25a0fb52464c5a5780a85", func := "loop.example/g03006/laws.FnExactSpareGreen", spec := "fnExactSpareGreen", unfollowed := true, recurses := true, apart := false, narrowed := true }
def FnExactSpareGreenUptoSaid : Prop := fnExactSpareGreenUptoRow.holds Try.pinned (OpenSpec.upto fnExactSpareGreenSpec)

/-- 'laws.FnExactPartAt', WHERE WHAT IT READS IS OF BULK AT MOST 1048576: true; the input reads as it did. -/
def fnExactPartAtUptoRow : OpenClaim := { program := "ytbpnbflfpgakmaa", sum := "692f9a6d54c2d3f6e13b38db7f5cc91f6a5ec5826bb25a0fb52464c5a5780a85", func := "loop.example/g03006/laws.FnExactPartAt", spec := "fnExactPartAt", unfollowed := true, recurses := true, apart := false, narrowed := true }
def FnExactPartAtUptoSaid : Prop := fnExactPartAtUptoRow.holds Try.pinned (OpenSpec.upto fnExactPartAtSpec)

/-- 'laws.FnExactLightAt', WHERE WHAT IT READS IS OF BULK AT MOST 1048576: true; the input reads as it did. -/
def fnExactLightAtUptoRow : OpenClaim := { program := "ytbpnbflfpgakmaa", sum := "692f9a6d54c2d3f6e13b38db7f5cc91f6a5ec5826bb25a0fb52464c5a5780a85", func := "loop.example/g03006/laws.FnExactLightAt", spec := "fnExactLightAt", unfollowed := true, recurses := true, apart := false, narrowed := true }
def FnExactLightAtUptoSaid : Prop := fnExactLightAtUptoRow.holds Try.pinned (OpenSpec.upto fnExactLightAtSpec)

/-- 'laws.FnExactLightsAt', WHERE WHAT IT READS IS OF BULK AT MOST 1048576: true; the input reads as it did. -/
def fnExactLightsAtUptoRow : OpenClaim := { program := "ytbpnbflfpgakmaa", sum := "692f9a6d54c2d3f6e13b38db7f5cc91f6a5ec5826bb25a0fb52464c5a5780a85", func := "loop.example/g03006/laws.FnExactLightsAt", spec := "fnExactLightsAt", unfollowed := true, recurses := true, apart := false, narrowed := true }
def FnExactLightsAtUptoSaid : Prop := fnExactLightsAtUptoRow.holds Try.pinned (OpenSpec.upto fnExactLightsAtSpec)

/-- 'laws.FnExactGreenOf', WHERE WHAT IT READS IS OF BULK AT MOST 1048576: true; the input reads as it did. -/
def fnExactGreenOfUptoRow : OpenClaim := { program := "ytbpnbflfpgakmaa", sum := "692f9a6d54c2d3f6e13b38db7f5cc91f6a5ec5826bb25a0fb52464c5a5780a85", func := "loop.example/g03006/laws.FnExactGreenOf", spec := "fnExactGreenOf", unfollowed := true, recurses := true, apart := false, narrowed := true }
def FnExactGreenOfUptoSaid : Prop := fnExactGreenOfUptoRow.holds Try.pinned (OpenSpec.upto fnExactGreenOfSpec)

/-- 'laws.FnExactWaitOf', WHERE WHAT IT READS IS OF BULK AT MOST 1048576: true; the input reads as it did. -/
def fnExactWaitOfUptoRow : OpenClaim := { program := "ytbpnbflfpgakmaa", sum := "692f9a6d54c2d3f6e13b38db7f5cc91f6a5ec5826bb25a0fb52464c5a5780a85", func := "loop.example/g03006/laws.FnExactWaitOf", spec := "fnExactWaitOf", unfollowed := true, recurses := true, apart := false, narrowed := true }
def FnExactWaitOfUptoSaid : Prop := fnExactWaitOfUptoRow.holds Try.pinned (OpenSpec.upto fnExactWaitOfSpec)

/-- 'laws.FnExactNextGreen', WHERE WHAT IT READS IS OF BULK AT MOST 1048576: true; the input reads as it did. -/
def fnExactNextGreenUptoRow : OpenClaim := { program := "ytbpnbflfpgakmaa", sum := "692f9a6d54c2d3f6e13b38db7f5cc91f6a5ec5826bb25a0fb52464c5a5780a85", func := "loop.example/g03006/laws.FnExactNextGreen", spec := "fnExactNextGreen", unfollowed := true, recurses := true, apart := false, narrowed := true }
def FnExactNextGreenUptoSaid : Prop := fnExactNextGreenUptoRow.holds Try.pinned (OpenSpec.upto fnExactNextGreenSpec)

/-- 'laws.FnExactWorstWait', WHERE WHAT IT READS IS OF BULK AT MOST 1048576: true; the input reads as it did. -/
def fnExactWorstWaitUptoRow : OpenClaim := { program := "ytbpnbflfpgakmaa", sum := "692f9a6d54c2d3f6e13b38db7f5cc91f6a5ec5826bb25a0fb52464c5a5780a85", func := "loop.example/g03006/laws.FnExactWorstWait", spec := "fnExactWorstWait", unfollowed := true, recurses := true, apart := false, narrowed := true }
def FnExactWorstWaitUptoSaid : Prop := fnExactWorstWaitUptoRow.holds Try.pinned (OpenSpec.upto fnExactWorstWaitSpec)

end Rows
end Go.Proofs.Ytbpnbflfpgakmaa
