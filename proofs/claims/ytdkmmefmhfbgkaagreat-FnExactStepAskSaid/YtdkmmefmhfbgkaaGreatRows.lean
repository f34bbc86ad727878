/-
  No cell of these rows narrows 'for every input' (looked for: loops, veiled, ifaces, maps, wideKeys, modest, calm, conditions, laid).
  DERIVED. THE GIVEN ROWS OF THIS SEAT. 2 by the template 'for every input the law returns true; each argument reads behind the call as it read before'; 0 by the template 'total and deterministic' (their statements: YtdkmmefmhfbgkaaGreatTotals.lean).
  GIVEN WITH THE SEED: the statements are not yours to turn. If you find one false, say at which input.
  Laid BY PROGRAM, IN A SANDBOX (cutbox-rows.mjs): the forced cells as the released guide's own fill.sh prints them over the translation 7de657e44c52e5b1… (all of the seat's roots in one cut). By AI agents, Wed Nov 11 2026. No macro, syntax, notation, axiom, sorry.
-/
import Derived.Test.YtdkmmefmhfbgkaaGreatChecked
import GoSem.Claim
import GoSem.ClaimJoined
import GoSem.ClaimMapViews
import Derived.JoinedTies
import Derived.KernelRfl
namespace Go.Proofs.YtdkmmefmhfbgkaaGreat
/- THE CELL 'sum', in the pinned program and in every row, IS THE sha256 OF THE DUMP (.gsa) THAT YtdkmmefmhfbgkaaGreatProg.lean LOADS. Nothing in Lean hashes anything: it is a label: what it is worth is what the hold of that sum in a sandbox is worth. -/
noncomputable def Tryz.pinned : Pinned := { name := "ytdkmmefmhfbgkaagreat", sum := "7de657e44c52e5b149bd8991c4edc74e1ded57dcf472866ec4d5a273b2d06c1e", checked := Tryz.checked }
namespace Rows
def none {H : Type} : Left H := { results := [], args := [] }

/-- 'laws.FnExactWaitingAt': WHATEVER THE INPUT: true; the input reads as it did. -/
def fnExactWaitingAtSpec : ChangeSpec := { name := "fnExactWaitingAt", fn := fun _ => fun
  | [d1, d2, d3, d4] => { results := [.lit (.bool true)], args := [d1, d2, d3, d4] }
  | _ => none }
def fnExactWaitingAtRow : OpenClaim := { program := "ytdkmmefmhfbgkaagreat", sum := "7de657e44c52e5b149bd8991c4edc74e1ded57dcf472866ec4d5a273b2d06c1e", func := "loop.example/g03006/laws.FnExactWaitingAt", spec := "fnExactWaitingAt", unfollowed := true, recurses := true, apart := false }
def FnExactWaitingAtSaid : Prop := fnExactWaitingAtRow.holds Tryz.pinned (OpenSpec.ofChange fnExactWaitingAtSpec)

/-- ITS FALSE NEIGHBOUR: 'it returns false'. Refute it at one input. -/
def fnExactWaitingAtWrong : ChangeSpec := { name := "fnExactWaitingAt", fn := fun _ => fun
  | [d1, d2, d3, d4] => { results := [.lit (.bool false)], args := [d1, d2, d3, d4] }
  | _ => none }
def FnExactWaitingAtWrongFalsely : Prop := fnExactWaitingAtRow.holds Tryz.pinned (OpenSpec.ofChange fnExactWaitingAtWrong)

/-- 'laws.FnExactStepAsk': WHATEVER THE INPUT: true; the input reads as it did. -/
def fnExactStepAskSpec : ChangeSpec := { name := "fnExactStepAsk", fn := fun _ => fun
  | [d1, d2, d3] => { results := [.lit (.bool true)], args := [d1, d2, d3] }
  | _ => none }
def fnExactStepAskRow : OpenClaim := { program := "ytdkmmefmhfbgkaagreat", sum := "7de657e44c52e5b149bd8991c4edc74e1ded57dcf472866ec4d5a273b2d06c1e", func := "loop.example/g03006/laws.FnExactStepAsk", spec := "fnExactStepAsk", inPlace := ["slices.overlaps[int]"], unfollowed := true, recurses := true, apart := false }
def FnExactStepAskSaid : Prop := fnExactStepAskRow.holds Tryz.pinned (OpenSpec.ofChange fnExactStepAskSpec)

/-- ITS FALSE NEIGHBOUR: 'it returns false'. Refute it at one input. -/
def fnExactStepAskWrong : ChangeSpec := { name := "fnExactStepAsk", fn := fun _ => fun
  | [d1, d2, d3] => { results := [.lit (.bool false)], args := [d1, d2, d3] }
  | _ => none }
def FnExactStepAskWrongFalsely : Prop := fnExactStepAskRow.holds Tryz.pinned (OpenSpec.ofChange fnExactStepAskWrong)

/- THE SECOND FORM. 'bulk': how many values and letters a reading holds, each counted each time it is reached (what is shared counts as often as it is met; a slice's spare places count too). A statement '..UptoSaid' is the law's where the arguments, and the package variables that the reading takes, are together of bulk at most 1048576: NARROWER than '..Said'. Prove '..Said' where nothing that the law and all that it calls make is longer than what came in: it says more and counts as full. Else prove '..UptoSaid'. A law counts once. -/
mutual
def uptoBulk {H : Type} : DataW H → Nat
  | .lit (.string bytes) => bytes.length + 1
  | .lit _ => 1
  | .nil => 1
  | .ptr d => uptoBulk d + 1
  | .slice elems spare => uptoBulkAll elems + uptoBulkAll spare + 1
  | .agg parts => uptoBulkAll parts + 1
  | .iface _ d => uptoBulk d + 1
  | .map entries => uptoBulkEntries entries + 1
  | .held _ => 1
def uptoBulkAll {H : Type} : List (DataW H) → Nat
  | [] => 0
  | d :: r => uptoBulk d + uptoBulkAll r
def uptoBulkEntries {H : Type} : List (Lit × DataW H) → Nat
  | [] => 0
  | x :: r => uptoBulkEntry x + uptoBulkEntries r
def uptoBulkEntry {H : Type} : Lit × DataW H → Nat
  | (.string bytes, d) => bytes.length + uptoBulk d + 1
  | (_, d) => uptoBulk d + 1
 end
def uptoSmall : (H : Type) → List (DataW H) → Bool := fun _ ds => decide (uptoBulkAll ds ≤ 1048576)
def OpenSpec.upto (s : _root_.Go.ChangeSpec) : _root_.Go.OpenSpec := { _root_.Go.OpenSpec.ofChange s with cond := some uptoSmall }

/-- 'laws.FnExactWaitingAt', WHERE WHAT IT READS IS OF BULK AT MOST 1048576: true; the input reads as it did. -/
def fnExactWaitingAtUptoRow : OpenClaim := { program := "ytdkmmefmhfbgkaagreat", sum := "7de657e44c52e5b149bd8991c4edc74e1ded57dcf472866ec4d5a273b2d06c1e", func := "loop.example/g03006/laws.FnExactWaitingAt", spec := "fnExactWaitingAt", unfollowed := true, recurses := true, apart := false, narrowed := true }
def FnExactWaitingAtUptoSaid : Prop := fnExactWaitingAtUptoRow.holds Tryz.pinned (OpenSpec.upto fnExactWaitingAtSpec)

/-- 'laws.FnExactStepAsk', WHERE WHAT IT READS IS OF BULK AT MOST 1048576: true; the input reads as it did. -/
def fnExactStepAskUptoRow : OpenClaim := { program := "ytdkmmefmhfbgkaagreat", sum := "7de657e44c52e5b149bd8991c4edc74e1ded57dcf472866ec4d5a273b2d06c1e", func := "loop.example/g03006/laws.FnExactStepAsk", spec := "fnExactStepAsk", inPlace := ["slices.overlaps[int]"], unfollowed := true, recurses := true, apart := false, narrowed := true }
def FnExactStepAskUptoSaid : Prop := fnExactStepAskUptoRow.holds Tryz.pinned (OpenSpec.upto fnExactStepAskSpec)

end Rows
end Go.Proofs.YtdkmmefmhfbgkaaGreat
