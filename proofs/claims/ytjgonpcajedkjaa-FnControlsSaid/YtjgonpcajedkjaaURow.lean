/- The row of lights of a path over one cycle. -/
import Derived.Test.YtjgonpcajedkjaaFX00c
import Derived.Test.YtjgonpcajedkjaaULight
set_option linter.unusedVariables false
set_option linter.unusedSimpArgs false
namespace Go.Proofs.Ytjgonpcajedkjaa.U
open Go.RowKit Go.Proofs.YtjgonpcajedkjaaW.PrintWords Go.Proofs.YtjgonpcajedkjaaW.PrintLast Go.Proofs.Ytjgonpcajedkjaa.P
noncomputable def seg (l : List S50) (p : List S85) (id : Int) (i n : Nat) : List Int := (List.range n).map (fun s : Nat => lv l p (i : Int) (s : Int) id)
end Go.Proofs.Ytjgonpcajedkjaa.U
