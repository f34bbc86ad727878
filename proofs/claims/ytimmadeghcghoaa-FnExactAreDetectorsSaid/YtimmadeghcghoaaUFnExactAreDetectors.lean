/- FnExactAreDetectors, the pure side: the program's AreDetectors and the reference's are one function. -/
import Derived.Test.YtimmadeghcghoaaFCFnExactAreDetectors
import Derived.Test.YtimmadeghcghoaaULDetector
import Derived.Test.YtimmadeghcghoaaULPath
import Derived.Test.YtimmadeghcghoaaUDetectors
import Derived.Test.YtimmadeghcghoaaArgs
namespace Go.Proofs.Ytimmadeghcghoaa.U
open Go.RowKit Go.Proofs.YtimmadeghcghoaaW.PrintWords Go.Proofs.YtimmadeghcghoaaW.PrintLast Go.Proofs.Ytimmadeghcghoaa.P Go.Proofs.Ytimmadeghcghoaa.Open
theorem FnExactAreDetectors : ∀ (x0 : List (S92)) (x1 : List (S100)), (okL okS92) x0 → (okL okS100) x1 → ∃ k, laws_FnExactAreDetectors.f k x0 x1 = some true := by
  intro l w hok hok1
  refine Ev.rounds ?_
  unfold laws_FnExactAreDetectors.f
  refine ev_call (szPathS l 1048576 (by omega) (by omega) (by simpa [maxLen] using hok.1)) ?_
  by_cases h1 : (l.length : Int) ≤ 1048576
  · rw [if_pos h1]
    refine ev_f (by omega) (ev_call (szDetectorS w _ (by omega) (by omega) (by simpa [maxLen] using hok1.1)) ?_)
    by_cases h2 : (w.length : Int) ≤ 1048576 - (l.length : Int)
    · rw [if_pos h2]
      have tl := toPathS l (by omega)
      have tw := toDetectorS w (by omega)
      have m1 : (l.map cPath).length = l.length := List.length_map ..
      have m2 : (w.map cDetector).length = w.length := List.length_map ..
      refine ev_f (by omega) (Ev.bind tl (Ev.bind tw (Ev.bind (spec_areDetectors _ _ (by omega) (by omega)) (Ev.bind tl (Ev.bind tw (Ev.bind (impl_areDetectors _ _ (by omega) (by omega)) (ev_f (by simp) ?_)))))))
      exact Ev.bind tl (Ev.bind (eqPathS _ (by omega)) (ev_t rfl (Ev.bind tw (Ev.bind (eqDetectorS _ (by omega)) (ev_t rfl (Ev.now _))))))
    · rw [if_neg h2]
      exact ev_t (by omega) (Ev.now _)
  · rw [if_neg h1]
    exact ev_t (by omega) (Ev.now _)
end Go.Proofs.Ytimmadeghcghoaa.U
