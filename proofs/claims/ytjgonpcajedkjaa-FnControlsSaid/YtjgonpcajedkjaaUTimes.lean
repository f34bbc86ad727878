/- The row of lights, how many are green, the longest wait: the program's way and the reference's. -/
import Derived.Test.YtjgonpcajedkjaaURow
set_option linter.unusedVariables false
set_option linter.unusedSimpArgs false
namespace Go.Proofs.Ytjgonpcajedkjaa.U
open Go.RowKit Go.Proofs.YtjgonpcajedkjaaW.PrintWords Go.Proofs.YtjgonpcajedkjaaW.PrintLast Go.Proofs.Ytjgonpcajedkjaa.P
end Go.Proofs.Ytjgonpcajedkjaa.U
