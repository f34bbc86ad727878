/- The light of a path at a time of the plan: the program's way and the reference's come to one answer. -/
import Derived.Test.YtjgonpcajedkjaaFX00c
import Derived.Test.YtjgonpcajedkjaaUPart
set_option linter.unusedVariables false
set_option linter.unusedSimpArgs false
namespace Go.Proofs.Ytjgonpcajedkjaa.U
open Go.RowKit Go.Proofs.YtjgonpcajedkjaaW.PrintWords Go.Proofs.YtjgonpcajedkjaaW.PrintLast Go.Proofs.Ytjgonpcajedkjaa.P
/-- The light of path id in part i, x seconds after it began. -/
noncomputable def lv (l : List S50) (p : List S85) (i x id : Int) : Int :=
  if id ∈ (rd_T85 p i).f0 then (if x < (rd_T85 p i).f1 ∨ id ∈ (rd_T85 p (nx p i)).f0 then 1 else if x < wrap64 ((rd_T85 p i).f1 + clr (pAt l id)) then 2 else 0) else 0
end Go.Proofs.Ytjgonpcajedkjaa.U
