/- Do the stages cover the paths: the program's way and the reference's. -/
import Derived.Test.YtjgonpcajedkjaaUTogether
import Derived.Test.YtjgonpcajedkjaaUHas
set_option linter.unusedVariables false
set_option linter.unusedSimpArgs false
namespace Go.Proofs.Ytjgonpcajedkjaa.U
open Go.RowKit Go.Proofs.YtjgonpcajedkjaaW.PrintWords Go.Proofs.YtjgonpcajedkjaaW.PrintLast Go.Proofs.Ytjgonpcajedkjaa.P
end Go.Proofs.Ytjgonpcajedkjaa.U
