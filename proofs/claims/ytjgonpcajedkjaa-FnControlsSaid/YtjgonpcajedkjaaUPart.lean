/- Which part of a plan stands at a second: the program's way and the reference's come to one answer. -/
import Derived.Test.YtjgonpcajedkjaaULong
set_option linter.unusedVariables false
set_option linter.unusedSimpArgs false
namespace Go.Proofs.Ytjgonpcajedkjaa.U
open Go.RowKit Go.Proofs.YtjgonpcajedkjaaW.PrintWords Go.Proofs.YtjgonpcajedkjaaW.PrintLast Go.Proofs.Ytjgonpcajedkjaa.P
/-- The part and how long it has lasted, from part i on. -/
noncomputable def pa (l : List S50) (p : List S85) : Nat → Nat → Int → Int × Int
  | 0, i, x => ((i : Int), x)
  | d + 1, i, x => if x < longV l p (i : Int) then ((i : Int), x) else pa l p d (i + 1) (x - longV l p (i : Int))
end Go.Proofs.Ytjgonpcajedkjaa.U
