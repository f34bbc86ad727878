/- How long a part of a plan lasts, the cycle, where a part starts: the program's way and the reference's. -/
import Derived.Test.YtjgonpcajedkjaaFX00b
import Derived.Test.YtjgonpcajedkjaaFX00d
import Derived.Test.YtjgonpcajedkjaaUPlan
import Derived.Test.YtjgonpcajedkjaaUClear
set_option linter.unusedVariables false
set_option linter.unusedSimpArgs false
namespace Go.Proofs.Ytjgonpcajedkjaa.U
open Go.RowKit Go.Proofs.YtjgonpcajedkjaaW.PrintWords Go.Proofs.YtjgonpcajedkjaaW.PrintLast Go.Proofs.Ytjgonpcajedkjaa.P
def nx (p : List S85) (i : Int) : Int := Int.tmod (i + 1) (p.length : Int)
noncomputable def clN (l : List S50) (p : List S85) (i : Int) : Int := clearB l (rd_T85 p i).f0 (rd_T85 p (nx p i)).f0
noncomputable def longV (l : List S50) (p : List S85) (i : Int) : Int := (rd_T85 p i).f1 + clN l p i
end Go.Proofs.Ytjgonpcajedkjaa.U
