/- FnExactHighDemand, the pure side: the program's HighDemand and the reference's are one function. -/
import Derived.Test.YtdgeeokningcnaaFCFnExactHighDemand
import Derived.Test.YtdgeeokningcnaaULDetector
import Derived.Test.YtdgeeokningcnaaUTrust
namespace Go.Proofs.Ytdgeeokningcnaa.U
open Go.RowKit Go.Proofs.YtdgeeokningcnaaW.PrintWords Go.Proofs.YtdgeeokningcnaaW.PrintLast Go.Proofs.Ytdgeeokningcnaa.P Go.Proofs.Ytdgeeokningcnaa.Open
theorem FnExactHighDemand : ∀ (x0 : List (S23)) (x1 : Int), (okL okS23) x0 → okI x1 → ∃ k, laws_FnExactHighDemand.f k x0 x1 = some true := by
  intro l id hok _
  refine Ev.rounds ?_
  unfold laws_FnExactHighDemand.f
  refine ev_call (szDetectorS l 1048576 (by omega) (by omega) (by simpa [maxLen] using hok.1)) ?_
  by_cases h1 : (l.length : Int) ≤ 1048576
  · rw [if_pos h1]
    have hl : l.length ≤ 1048576 := by omega
    have hm : (l.map cDetector).length = l.length := List.length_map ..
    have tw := toDetectorS l hl
    refine ev_f (by omega) (Ev.bind tw (Ev.bind (spec_highDemand _ _ (by omega)) (Ev.bind tw (ev_call (impl_highDemand _ _) (ev_t rfl ?_)))))
    exact Ev.bind tw (Ev.bind (eqDetectorS _ (by omega)) (ev_t rfl (Ev.now _)))
  · rw [if_neg h1]
    exact ev_t (by omega) (Ev.now _)
end Go.Proofs.Ytdgeeokningcnaa.U
