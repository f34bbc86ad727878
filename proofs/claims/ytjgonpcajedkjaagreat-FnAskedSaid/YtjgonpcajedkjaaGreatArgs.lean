/- What the laws' parameters read as. -/
import Derived.Test.YtjgonpcajedkjaaGreatF0
import Derived.Test.YtjgonpcajedkjaaGreatOpen
import Derived.KernelRfl
namespace Go.Proofs.YtjgonpcajedkjaaGreat.P
open Go.RowKit Go.Proofs.YtjgonpcajedkjaaGreatW.PrintWords Go.Proofs.YtjgonpcajedkjaaGreat.Open
end Go.Proofs.YtjgonpcajedkjaaGreat.P
