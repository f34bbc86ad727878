/- FnExactQueueStep, the pure side: the program's QueueStep and the reference's are one function. -/
import Derived.Test.YtdgeeokningcnaaFCFnExactQueueStep
import Derived.Test.YtdgeeokningcnaaUQueue
import Derived.Test.YtdgeeokningcnaaArgs
namespace Go.Proofs.Ytdgeeokningcnaa.U
open Go.RowKit Go.Proofs.YtdgeeokningcnaaW.PrintWords Go.Proofs.YtdgeeokningcnaaW.PrintLast Go.Proofs.Ytdgeeokningcnaa.P Go.Proofs.Ytdgeeokningcnaa.Open
theorem FnExactQueueStep : ∀ (x0 : Int) (x1 : Int) (x2 : Bool), okI x0 → okI x1 → okB x2 → ∃ k, laws_FnExactQueueStep.f k x0 x1 x2 = some true := by
  intro a b o _ _ _
  refine Ev.rounds ?_
  unfold laws_FnExactQueueStep.f
  exact Ev.bind (spec_queueStep a b o) (Ev.bind (impl_queueStep a b o) (ev_t rfl (Ev.now _)))
end Go.Proofs.Ytdgeeokningcnaa.U
