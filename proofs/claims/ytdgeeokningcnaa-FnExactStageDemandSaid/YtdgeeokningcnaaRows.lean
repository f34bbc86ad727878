/-
  No cell of these rows narrows 'for every input' (looked for: loops, veiled, ifaces, maps, wideKeys, modest, calm, conditions, laid).
  DERIVED. THE GIVEN ROWS OF THIS SEAT. 12 by the template 'for every input the law returns true; each argument reads behind the call as it read before'; 0 by the template 'total and deterministic' (their statements: YtdgeeokningcnaaTotals.lean).
  GIVEN WITH THE SEED: the statements are not yours to turn. If you find one false, say at which input.
  Laid BY PROGRAM, IN A SANDBOX (cutbox-rows.mjs): the forced cells as the released guide's own fill.sh prints them over the translation 6ab1002df117b0dd… (all of the seat's roots in one cut). By AI agents, Wed Nov 11 2026. No macro, syntax, notation, axiom, sorry.
-/
import Derived.Test.YtdgeeokningcnaaChecked
import GoSem.Claim
import GoSem.ClaimJoined
import GoSem.ClaimMapViews
import Derived.JoinedTies
import Derived.KernelRfl
namespace Go.Proofs.Ytdgeeokningcnaa
/- THE CELL 'sum', in the pinned program and in every row, IS THE sha256 OF THE DUMP (.gsa) THAT YtdgeeokningcnaaProg.lean LOADS. Nothing in Lean hashes anything: it is a label: what it is worth is what the hold of that sum in a sandbox is worth. -/
noncomputable def Try.pinned : Pinned := { name := "ytdgeeokningcnaa", sum := "6ab1002df117b0ddcbb7e7510cbd9c1215de618b9ec5c1af9e205134cd3f8031", checked := Try.checked }
namespace Rows
def none {H : Type} : Left H := { results := [], args := [] }

/-- 'laws.FnExactIsTrusted': WHATEVER THE INPUT: true; the input reads as it did. -/
def fnExactIsTrustedSpec : ChangeSpec := { name := "fnExactIsTrusted", fn := fun _ => fun
  | [d] => { results := [.lit (.bool true)], args := [d] }
  | _ => none }
def fnExactIsTrustedRow : OpenClaim := { program := "ytdgeeokningcnaa", sum := "6ab1002df117b0ddcbb7e7510cbd9c1215de618b9ec5c1af9e205134cd3f8031", func := "loop.example/g03006/laws.FnExactIsTrusted", spec := "fnExactIsTrusted", apart := false }
def FnExactIsTrustedSaid : Prop := fnExactIsTrustedRow.holds Try.pinned (OpenSpec.ofChange fnExactIsTrustedSpec)

/-- ITS FALSE NEIGHBOUR: 'it returns false'. Refute it at one input. -/
def fnExactIsTrustedWrong : ChangeSpec := { name := "fnExactIsTrusted", fn := fun _ => fun
  | [d] => { results := [.lit (.bool false)], args := [d] }
  | _ => none }
def FnExactIsTrustedWrongFalsely : Prop := fnExactIsTrustedRow.holds Try.pinned (OpenSpec.ofChange fnExactIsTrustedWrong)

/-- 'laws.FnExactPrioEnds': WHATEVER THE INPUT: true; the input reads as it did. -/
def fnExactPrioEndsSpec : ChangeSpec := { name := "fnExactPrioEnds", fn := fun _ => fun
  | [d] => { results := [.lit (.bool true)], args := [d] }
  | _ => none }
def fnExactPrioEndsRow : OpenClaim := { program := "ytdgeeokningcnaa", sum := "6ab1002df117b0ddcbb7e7510cbd9c1215de618b9ec5c1af9e205134cd3f8031", func := "loop.example/g03006/laws.FnExactPrioEnds", spec := "fnExactPrioEnds", apart := false }
def FnExactPrioEndsSaid : Prop := fnExactPrioEndsRow.holds Try.pinned (OpenSpec.ofChange fnExactPrioEndsSpec)

/-- ITS FALSE NEIGHBOUR: 'it returns false'. Refute it at one input. -/
def fnExactPrioEndsWrong : ChangeSpec := { name := "fnExactPrioEnds", fn := fun _ => fun
  | [d] => { results := [.lit (.bool false)], args := [d] }
  | _ => none }
def FnExactPrioEndsWrongFalsely : Prop := fnExactPrioEndsRow.holds Try.pinned (OpenSpec.ofChange fnExactPrioEndsWrong)

/-- 'laws.FnExactIsServed': WHATEVER THE INPUT: true; the input reads as it did. -/
def fnExactIsServedSpec : ChangeSpec := { name := "fnExactIsServed", fn := fun _ => fun
  | [d] => { results := [.lit (.bool true)], args := [d] }
  | _ => none }
def fnExactIsServedRow : OpenClaim := { program := "ytdgeeokningcnaa", sum := "6ab1002df117b0ddcbb7e7510cbd9c1215de618b9ec5c1af9e205134cd3f8031", func := "loop.example/g03006/laws.FnExactIsServed", spec := "fnExactIsServed", apart := false }
def FnExactIsServedSaid : Prop := fnExactIsServedRow.holds Try.pinned (OpenSpec.ofChange fnExactIsServedSpec)

/-- ITS FALSE NEIGHBOUR: 'it returns false'. Refute it at one input. -/
def fnExactIsServedWrong : ChangeSpec := { name := "fnExactIsServed", fn := fun _ => fun
  | [d] => { results := [.lit (.bool false)], args := [d] }
  | _ => none }
def FnExactIsServedWrongFalsely : Prop := fnExactIsServedRow.holds Try.pinned (OpenSpec.ofChange fnExactIsServedWrong)

/-- 'laws.FnExactQueueStep': WHATEVER THE INPUT: true; the input reads as it did. -/
def fnExactQueueStepSpec : ChangeSpec := { name := "fnExactQueueStep", fn := fun _ => fun
  | [d1, d2, d3] => { results := [.lit (.bool true)], args := [d1, d2, d3] }
  | _ => none }
def fnExactQueueStepRow : OpenClaim := { program := "ytdgeeokningcnaa", sum := "6ab1002df117b0ddcbb7e7510cbd9c1215de618b9ec5c1af9e205134cd3f8031", func := "loop.example/g03006/laws.FnExactQueueStep", spec := "fnExactQueueStep", apart := false }
def FnExactQueueStepSaid : Prop := fnExactQueueStepRow.holds Try.pinned (OpenSpec.ofChange fnExactQueueStepSpec)

/-- ITS FALSE NEIGHBOUR: 'it returns false'. Refute it at one input. -/
def fnExactQueueStepWrong : ChangeSpec := { name := "fnExactQueueStep", fn := fun _ => fun
  | [d1, d2, d3] => { results := [.lit (.bool false)], args := [d1, d2, d3] }
  | _ => none }
def FnExactQueueStepWrongFalsely : Prop := fnExactQueueStepRow.holds Try.pinned (OpenSpec.ofChange fnExactQueueStepWrong)

/-- 'laws.FnExactTotalWait': WHATEVER THE INPUT: true; the input reads as it did. -/
def fnExactTotalWaitSpec : ChangeSpec := { name := "fnExactTotalWait", fn := fun _ => fun
  | [d] => { results := [.lit (.bool true)], args := [d] }
  | _ => none }
def fnExactTotalWaitRow : OpenClaim := { program := "ytdgeeokningcnaa", sum := "6ab1002df117b0ddcbb7e7510cbd9c1215de618b9ec5c1af9e205134cd3f8031", func := "loop.example/g03006/laws.FnExactTotalWait", spec := "fnExactTotalWait", apart := false }
def FnExactTotalWaitSaid : Prop := fnExactTotalWaitRow.holds Try.pinned (OpenSpec.ofChange fnExactTotalWaitSpec)

/-- ITS FALSE NEIGHBOUR: 'it returns false'. Refute it at one input. -/
def fnExactTotalWaitWrong : ChangeSpec := { name := "fnExactTotalWait", fn := fun _ => fun
  | [d] => { results := [.lit (.bool false)], args := [d] }
  | _ => none }
def FnExactTotalWaitWrongFalsely : Prop := fnExactTotalWaitRow.holds Try.pinned (OpenSpec.ofChange fnExactTotalWaitWrong)

/-- 'laws.FnExactLowDemand': WHATEVER THE INPUT: true; the input reads as it did. -/
def fnExactLowDemandSpec : ChangeSpec := { name := "fnExactLowDemand", fn := fun _ => fun
  | [d1, d2] => { results := [.lit (.bool true)], args := [d1, d2] }
  | _ => none }
def fnExactLowDemandRow : OpenClaim := { program := "ytdgeeokningcnaa", sum := "6ab1002df117b0ddcbb7e7510cbd9c1215de618b9ec5c1af9e205134cd3f8031", func := "loop.example/g03006/laws.FnExactLowDemand", spec := "fnExactLowDemand", unfollowed := true, recurses := true, apart := false }
def FnExactLowDemandSaid : Prop := fnExactLowDemandRow.holds Try.pinned (OpenSpec.ofChange fnExactLowDemandSpec)

/-- ITS FALSE NEIGHBOUR: 'it returns false'. Refute it at one input. -/
def fnExactLowDemandWrong : ChangeSpec := { name := "fnExactLowDemand", fn := fun _ => fun
  | [d1, d2] => { results := [.lit (.bool false)], args := [d1, d2] }
  | _ => none }
def FnExactLowDemandWrongFalsely : Prop := fnExactLowDemandRow.holds Try.pinned (OpenSpec.ofChange fnExactLowDemandWrong)

/-- 'laws.FnExactHighDemand': WHATEVER THE INPUT: true; the input reads as it did. -/
def fnExactHighDemandSpec : ChangeSpec := { name := "fnExactHighDemand", fn := fun _ => fun
  | [d1, d2] => { results := [.lit (.bool true)], args := [d1, d2] }
  | _ => none }
def fnExactHighDemandRow : OpenClaim := { program := "ytdgeeokningcnaa", sum := "6ab1002df117b0ddcbb7e7510cbd9c1215de618b9ec5c1af9e205134cd3f8031", func := "loop.example/g03006/laws.FnExactHighDemand", spec := "fnExactHighDemand", unfollowed := true, recurses := true, apart := false }
def FnExactHighDemandSaid : Prop := fnExactHighDemandRow.holds Try.pinned (OpenSpec.ofChange fnExactHighDemandSpec)

/-- ITS FALSE NEIGHBOUR: 'it returns false'. Refute it at one input. -/
def fnExactHighDemandWrong : ChangeSpec := { name := "fnExactHighDemand", fn := fun _ => fun
  | [d1, d2] => { results := [.lit (.bool false)], args := [d1, d2] }
  | _ => none }
def FnExactHighDemandWrongFalsely : Prop := fnExactHighDemandRow.holds Try.pinned (OpenSpec.ofChange fnExactHighDemandWrong)

/-- 'laws.FnExactEqualControls': WHATEVER THE INPUT: true; the input reads as it did. -/
def fnExactEqualControlsSpec : ChangeSpec := { name := "fnExactEqualControls", fn := fun _ => fun
  | [d1, d2] => { results := [.lit (.bool true)], args := [d1, d2] }
  | _ => none }
def fnExactEqualControlsRow : OpenClaim := { program := "ytdgeeokningcnaa", sum := "6ab1002df117b0ddcbb7e7510cbd9c1215de618b9ec5c1af9e205134cd3f8031", func := "loop.example/g03006/laws.FnExactEqualControls", spec := "fnExactEqualControls", apart := false }
def FnExactEqualControlsSaid : Prop := fnExactEqualControlsRow.holds Try.pinned (OpenSpec.ofChange fnExactEqualControlsSpec)

/-- ITS FALSE NEIGHBOUR: 'it returns false'. Refute it at one input. -/
def fnExactEqualControlsWrong : ChangeSpec := { name := "fnExactEqualControls", fn := fun _ => fun
  | [d1, d2] => { results := [.lit (.bool false)], args := [d1, d2] }
  | _ => none }
def FnExactEqualControlsWrongFalsely : Prop := fnExactEqualControlsRow.holds Try.pinned (OpenSpec.ofChange fnExactEqualControlsWrong)

/-- 'laws.FnExactLongestWant': WHATEVER THE INPUT: true; the input reads as it did. -/
def fnExactLongestWantSpec : ChangeSpec := { name := "fnExactLongestWant", fn := fun _ => fun
  | [d1, d2] => { results := [.lit (.bool true)], args := [d1, d2] }
  | _ => none }
def fnExactLongestWantRow : OpenClaim := { program := "ytdgeeokningcnaa", sum := "6ab1002df117b0ddcbb7e7510cbd9c1215de618b9ec5c1af9e205134cd3f8031", func := "loop.example/g03006/laws.FnExactLongestWant", spec := "fnExactLongestWant", apart := false }
def FnExactLongestWantSaid : Prop := fnExactLongestWantRow.holds Try.pinned (OpenSpec.ofChange fnExactLongestWantSpec)

/-- ITS FALSE NEIGHBOUR: 'it returns false'. Refute it at one input. -/
def fnExactLongestWantWrong : ChangeSpec := { name := "fnExactLongestWant", fn := fun _ => fun
  | [d1, d2] => { results := [.lit (.bool false)], args := [d1, d2] }
  | _ => none }
def FnExactLongestWantWrongFalsely : Prop := fnExactLongestWantRow.holds Try.pinned (OpenSpec.ofChange fnExactLongestWantWrong)

/-- 'laws.FnExactLeastGreen': WHATEVER THE INPUT: true; the input reads as it did. -/
def fnExactLeastGreenSpec : ChangeSpec := { name := "fnExactLeastGreen", fn := fun _ => fun
  | [d1, d2] => { results := [.lit (.bool true)], args := [d1, d2] }
  | _ => none }
def fnExactLeastGreenRow : OpenClaim := { program := "ytdgeeokningcnaa", sum := "6ab1002df117b0ddcbb7e7510cbd9c1215de618b9ec5c1af9e205134cd3f8031", func := "loop.example/g03006/laws.FnExactLeastGreen", spec := "fnExactLeastGreen", unfollowed := true, recurses := true, apart := false }
def FnExactLeastGreenSaid : Prop := fnExactLeastGreenRow.holds Try.pinned (OpenSpec.ofChange fnExactLeastGreenSpec)

/-- ITS FALSE NEIGHBOUR: 'it returns false'. Refute it at one input. -/
def fnExactLeastGreenWrong : ChangeSpec := { name := "fnExactLeastGreen", fn := fun _ => fun
  | [d1, d2] => { results := [.lit (.bool false)], args := [d1, d2] }
  | _ => none }
def FnExactLeastGreenWrongFalsely : Prop := fnExactLeastGreenRow.holds Try.pinned (OpenSpec.ofChange fnExactLeastGreenWrong)

/-- 'laws.FnExactTotalGreen': WHATEVER THE INPUT: true; the input reads as it did. -/
def fnExactTotalGreenSpec : ChangeSpec := { name := "fnExactTotalGreen", fn := fun _ => fun
  | [d] => { results := [.lit (.bool true)], args := [d] }
  | _ => none }
def fnExactTotalGreenRow : OpenClaim := { program := "ytdgeeokningcnaa", sum := "6ab1002df117b0ddcbb7e7510cbd9c1215de618b9ec5c1af9e205134cd3f8031", func := "loop.example/g03006/laws.FnExactTotalGreen", spec := "fnExactTotalGreen", apart := false }
def FnExactTotalGreenSaid : Prop := fnExactTotalGreenRow.holds Try.pinned (OpenSpec.ofChange fnExactTotalGreenSpec)

/-- ITS FALSE NEIGHBOUR: 'it returns false'. Refute it at one input. -/
def fnExactTotalGreenWrong : ChangeSpec := { name := "fnExactTotalGreen", fn := fun _ => fun
  | [d] => { results := [.lit (.bool false)], args := [d] }
  | _ => none }
def FnExactTotalGreenWrongFalsely : Prop := fnExactTotalGreenRow.holds Try.pinned (OpenSpec.ofChange fnExactTotalGreenWrong)

/-- 'laws.FnExactStageDemand': WHATEVER THE INPUT: true; the input reads as it did. -/
def fnExactStageDemandSpec : ChangeSpec := { name := "fnExactStageDemand", fn := fun _ => fun
  | [d1, d2] => { results := [.lit (.bool true)], args := [d1, d2] }
  | _ => none }
def fnExactStageDemandRow : OpenClaim := { program := "ytdgeeokningcnaa", sum := "6ab1002df117b0ddcbb7e7510cbd9c1215de618b9ec5c1af9e205134cd3f8031", func := "loop.example/g03006/laws.FnExactStageDemand", spec := "fnExactStageDemand", unfollowed := true, recurses := true, apart := false }
def FnExactStageDemandSaid : Prop := fnExactStageDemandRow.holds Try.pinned (OpenSpec.ofChange fnExactStageDemandSpec)

/-- ITS FALSE NEIGHBOUR: 'it returns false'. Refute it at one input. -/
def fnExactStageDemandWrong : ChangeSpec := { name := "fnExactStageDemand", fn := fun _ => fun
  | [d1, d2] => { results := [.lit (.bool false)], args := [d1, d2] }
  | _ => none }
def FnExactStageDemandWrongFalsely : Prop := fnExactStageDemandRow.holds Try.pinned (OpenSpec.ofChange fnExactStageDemandWrong)

/- THE SECOND FORM. 'bulk': how many values and letters a reading holds, each counted each time it is reached (what is shared counts as often as it is met; a slice's spare places count too). A statement '..UptoSaid' is the law's where the arguments, and the package variables that the reading takes, are together of bulk at most 1048576: NARROWER than '..Said'. Prove '..Said' where nothing that the law and all that it calls make is longer than what came in: it says more and counts as full. Else prove '..UptoSaid'. A law counts once. -/
mutual
def uptoBulk {H : Type} : DataW H → Nat
  | .lit (.string bytes) => bytes.length + 1
  | .lit _ => 1
  | .nil => 1
  | .ptr d => uptoBulk d + 1
  | .slice elems spare => uptoBulkAll elems + uptoBulkAll spare + 1
  | .agg parts => uptoBulkAll parts + 1
  | .iface _ d => uptoBulk d + 1
  | .map entries => uptoBulkEntries entries + 1
  | .held _ => 1
def uptoBulkAll {H : Type} : List (DataW H) → Nat
  | [] => 0
  | d :: r => uptoBulk d + uptoBulkAll r
def uptoBulkEntries {H : Type} : List (Lit × DataW H) → Nat
  | [] => 0
  | x :: r => uptoBulkEntry x + uptoBulkEntries r
def uptoBulkEntry {H : Type} : Lit × DataW H → Nat
  | (.string bytes, d) => bytes.length + uptoBulk d + 1
  | (_, d) => uptoBulk d + 1
 end
def uptoSmall : (H : Type) → List (DataW H) → Bool := fun _ ds => decide (uptoBulkAll ds ≤ 1048576)
def OpenSpec.upto (s : _root_.Go.ChangeSpec) : _root_.Go.OpenSpec := { _root_.Go.OpenSpec.ofChange s with cond := some uptoSmall }

/-- 'laws.FnExactIsTrusted', WHERE WHAT IT READS IS OF BULK AT MOST 1048576: true; the input reads as it did. -/
def fnExactIsTrustedUptoRow : OpenClaim := { program := "ytdgeeokningcnaa", sum := "6ab1002df117b0ddcbb7e7510cbd9c1215de618b9ec5c1af9e205134cd3f8031", func := "loop.example/g03006/laws.FnExactIsTrusted", spec := "fnExactIsTrusted", apart := false, narrowed := true }
def FnExactIsTrustedUptoSaid : Prop := fnExactIsTrustedUptoRow.holds Try.pinned (OpenSpec.upto fnExactIsTrustedSpec)

/-- 'laws.FnExactPrioEnds', WHERE WHAT IT READS IS OF BULK AT MOST 1048576: true; the input reads as it did. -/
def fnExactPrioEndsUptoRow : OpenClaim := { program := "ytdgeeokningcnaa", sum := "6ab1002df117b0ddcbb7e7510cbd9c1215de618b9ec5c1af9e205134cd3f8031", func := "loop.example/g03006/laws.FnExactPrioEnds", spec := "fnExactPrioEnds", apart := false, narrowed := true }
def FnExactPrioEndsUptoSaid : Prop := fnExactPrioEndsUptoRow.holds Try.pinned (OpenSpec.upto fnExactPrioEndsSpec)

/-- 'laws.FnExactIsServed', WHERE WHAT IT READS IS OF BULK AT MOST 1048576: true; the input reads as it did. -/
def fnExactIsServedUptoRow : OpenClaim := { program := "ytdgeeokningcnaa", sum := "6ab1002df117b0ddcbb7e7510cbd9c1215de618b9ec5c1af9e205134cd3f8031", func := "loop.example/g03006/laws.FnExactIsServed", spec := "fnExactIsServed", apart := false, narrowed := true }
def FnExactIsServedUptoSaid : Prop := fnExactIsServedUptoRow.holds Try.pinned (OpenSpec.upto fnExactIsServedSpec)

/-- 'laws.FnExactQueueStep', WHERE WHAT IT READS IS OF BULK AT MOST 1048576: true; the input reads as it did. -/
def fnExactQueueStepUptoRow : OpenClaim := { program := "ytdgeeokningcnaa", sum := "6ab1002df117b0ddcbb7e7510cbd9c1215de618b9ec5c1af9e205134cd3f8031", func := "loop.example/g03006/laws.FnExactQueueStep", spec := "fnExactQueueStep", apart := false, narrowed := true }
def FnExactQueueStepUptoSaid : Prop := fnExactQueueStepUptoRow.holds Try.pinned (OpenSpec.upto fnExactQueueStepSpec)

/-- 'laws.FnExactTotalWait', WHERE WHAT IT READS IS OF BULK AT MOST 1048576: true; the input reads as it did. -/
def fnExactTotalWaitUptoRow : OpenClaim := { program := "ytdgeeokningcnaa", sum := "6ab1002df117b0ddcbb7e7510cbd9c1215de618b9ec5c1af9e205134cd3f8031", func := "loop.example/g03006/laws.FnExactTotalWait", spec := "fnExactTotalWait", apart := false, narrowed := true }
def FnExactTotalWaitUptoSaid : Prop := fnExactTotalWaitUptoRow.holds Try.pinned (OpenSpec.upto fnExactTotalWaitSpec)

/-- 'laws.FnExactLowDemand', WHERE WHAT IT READS IS OF BULK AT MOST 1048576: true; the input reads as it did. -/
def fnExactLowDemandUptoRow : OpenClaim := { program := "ytdgeeokningcnaa", sum := "6ab1002df117b0ddcbb7e7510cbd9c1215de618b9ec5c1af9e205134cd3f8031", func := "loop.example/g03006/laws.FnExactLowDemand", spec := "fnExactLowDemand", unfollowed := true, recurses := true, apart := false, narrowed := true }
def FnExactLowDemandUptoSaid : Prop := fnExactLowDemandUptoRow.holds Try.pinned (OpenSpec.upto fnExactLowDemandSpec)

/-- 'laws.FnExactHighDemand', WHERE WHAT IT READS IS OF BULK AT MOST 1048576: true; the input reads as it did. -/
def fnExactHighDemandUptoRow : OpenClaim := { program := "ytdgeeokningcnaa", sum := "6ab1002df117b0ddcbb7e7510cbd9c1215de618b9ec5c1af9e205134cd3f8031", func := "loop.example/g03006/laws.FnExactHighDemand", spec := "fnExactHighDemand", unfollowed := true, recurses := true, apart := false, narrowed := true }
def FnExactHighDemandUptoSaid : Prop := fnExactHighDemandUptoRow.holds Try.pinned (OpenSpec.upto fnExactHighDemandSpec)

/-- 'laws.FnExactEqualControls', WHERE WHAT IT READS IS OF BULK AT MOST 1048576: true; the input reads as it did. -/
def fnExactEqualControlsUptoRow : OpenClaim := { program := "ytdgeeokningcnaa", sum := "6ab1002df117b0ddcbb7e7510cbd9c1215de618b9ec5c1af9e205134cd3f8031", func := "loop.example/g03006/laws.FnExactEqualControls", spec := "fnExactEqualControls", apart := false, narrowed := true }
def FnExactEqualControlsUptoSaid : Prop := fnExactEqualControlsUptoRow.holds Try.pinned (OpenSpec.upto fnExactEqualControlsSpec)

/-- 'laws.FnExactLongestWant', WHERE WHAT IT READS IS OF BULK AT MOST 1048576: true; the input reads as it did. -/
def fnExactLongestWantUptoRow : OpenClaim := { program := "ytdgeeokningcnaa", sum := "6ab1002df117b0ddcbb7e7510cbd9c1215de618b9ec5c1af9e205134cd3f8031", func := "loop.example/g03006/laws.FnExactLongestWant", spec := "fnExactLongestWant", apart := false, narrowed := true }
def FnExactLongestWantUptoSaid : Prop := fnExactLongestWantUptoRow.holds Try.pinned (OpenSpec.upto fnExactLongestWantSpec)

/-- 'laws.FnExactLeastGreen', WHERE WHAT IT READS IS OF BULK AT MOST 1048576: true; the input reads as it did. -/
def fnExactLeastGreenUptoRow : OpenClaim := { program := "ytdgeeokningcnaa", sum := "6ab1002df117b0ddcbb7e7510cbd9c1215de618b9ec5c1af9e205134cd3f8031", func := "loop.example/g03006/laws.FnExactLeastGreen", spec := "fnExactLeastGreen", unfollowed := true, recurses := true, apart := false, narrowed := true }
def FnExactLeastGreenUptoSaid : Prop := fnExactLeastGreenUptoRow.holds Try.pinned (OpenSpec.upto fnExactLeastGreenSpec)

/-- 'laws.FnExactTotalGreen', WHERE WHAT IT READS IS OF BULK AT MOST 1048576: true; the input reads as it did. -/
def fnExactTotalGreenUptoRow : OpenClaim := { program := "ytdgeeokningcnaa", sum := "6ab1002df117b0ddcbb7e7510cbd9c1215de618b9ec5c1af9e205134cd3f8031", func := "loop.example/g03006/laws.FnExactTotalGreen", spec := "fnExactTotalGreen", apart := false, narrowed := true }
def FnExactTotalGreenUptoSaid : Prop := fnExactTotalGreenUptoRow.holds Try.pinned (OpenSpec.upto fnExactTotalGreenSpec)

/-- 'laws.FnExactStageDemand', WHERE WHAT IT READS IS OF BULK AT MOST 1048576: true; the input reads as it did. -/
def fnExactStageDemandUptoRow : OpenClaim := { program := "ytdgeeokningcnaa", sum := "6ab1002df117b0ddcbb7e7510cbd9c1215de618b9ec5c1af9e205134cd3f8031", func := "loop.example/g03006/laws.FnExactStageDemand", spec := "fnExactStageDemand", unfollowed := true, recurses := true, apart := false, narrowed := true }
def FnExactStageDemandUptoSaid : Prop := fnExactStageDemandUptoRow.holds Try.pinned (OpenSpec.upto fnExactStageDemandSpec)

end Rows
end Go.Proofs.Ytdgeeokningcnaa
