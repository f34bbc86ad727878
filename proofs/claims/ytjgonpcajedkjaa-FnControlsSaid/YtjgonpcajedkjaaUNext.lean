/- The next green second, the worst wait, all lights of a second: the program's way and the reference's. -/
import Derived.Test.YtjgonpcajedkjaaUTimes
set_option linter.unusedVariables false
set_option linter.unusedSimpArgs false
namespace Go.Proofs.Ytjgonpcajedkjaa.U
open Go.RowKit Go.Proofs.YtjgonpcajedkjaaW.PrintWords Go.Proofs.YtjgonpcajedkjaaW.PrintLast Go.Proofs.Ytjgonpcajedkjaa.P
end Go.Proofs.Ytjgonpcajedkjaa.U
