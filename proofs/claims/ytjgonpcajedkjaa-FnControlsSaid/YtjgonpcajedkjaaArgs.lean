/- What the laws' parameters read as. -/
import Derived.Test.YtjgonpcajedkjaaF0
import Derived.Test.YtjgonpcajedkjaaOpen
import Derived.KernelRfl
namespace Go.Proofs.Ytjgonpcajedkjaa.P
open Go.RowKit Go.Proofs.YtjgonpcajedkjaaW.PrintWords Go.Proofs.Ytjgonpcajedkjaa.Open
end Go.Proofs.Ytjgonpcajedkjaa.P
