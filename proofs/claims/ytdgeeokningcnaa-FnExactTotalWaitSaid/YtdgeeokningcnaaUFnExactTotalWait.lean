/- FnExactTotalWait, the pure side: the program's TotalWait and the reference's are one function. -/
import Derived.Test.YtdgeeokningcnaaFCFnExactTotalWait
import Derived.Test.YtdgeeokningcnaaULInt
import Derived.Test.YtdgeeokningcnaaUTotalWait
namespace Go.Proofs.Ytdgeeokningcnaa.U
open Go.RowKit Go.Proofs.YtdgeeokningcnaaW.PrintWords Go.Proofs.YtdgeeokningcnaaW.PrintLast Go.Proofs.Ytdgeeokningcnaa.P Go.Proofs.Ytdgeeokningcnaa.Open
theorem FnExactTotalWait : ∀ (x0 : List Int), (okL okI) x0 → ∃ k, laws_FnExactTotalWait.f k x0 = some true := by
  intro l _
  refine Ev.rounds ?_
  unfold laws_FnExactTotalWait.f
  refine ev_ite (fun _ => Ev.now _) (fun h => ?_)
  have hl : l.length ≤ 1048576 := by omega
  refine Ev.bind (toIntS l hl) (Ev.bind (spec_totalWait l hl) (Ev.bind (toIntS l hl) (Ev.bind (impl_totalWait l hl) (ev_t rfl ?_))))
  exact Ev.bind (toIntS l hl) (Ev.bind (eqIntS l (by omega)) (ev_t rfl (Ev.now _)))
end Go.Proofs.Ytdgeeokningcnaa.U
