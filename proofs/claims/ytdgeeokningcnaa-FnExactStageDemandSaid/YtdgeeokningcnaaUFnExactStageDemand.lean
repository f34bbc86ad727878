/- FnExactStageDemand, the pure side: the program's StageDemand and the reference's are one function. -/
import Derived.Test.YtdgeeokningcnaaFCFnExactStageDemand
import Derived.Test.YtdgeeokningcnaaULDetector
import Derived.Test.YtdgeeokningcnaaULInt
import Derived.Test.YtdgeeokningcnaaUTrust
namespace Go.Proofs.Ytdgeeokningcnaa.U
open Go.RowKit Go.Proofs.YtdgeeokningcnaaW.PrintWords Go.Proofs.YtdgeeokningcnaaW.PrintLast Go.Proofs.Ytdgeeokningcnaa.P Go.Proofs.Ytdgeeokningcnaa.Open
theorem FnExactStageDemand : ∀ (x0 : List (S23)) (x1 : List Int), (okL okS23) x0 → (okL okI) x1 → ∃ k, laws_FnExactStageDemand.f k x0 x1 = some true := by
  intro l st hok _
  refine Ev.rounds ?_
  unfold laws_FnExactStageDemand.f
  refine ev_ite (fun _ => Ev.now _) (fun h => ev_call (szDetectorS l 1048576 (by omega) (by omega) (by simpa [maxLen] using hok.1)) ?_)
  have hs : st.length ≤ 1048576 := by omega
  by_cases h1 : (l.length : Int) ≤ 1048576
  · rw [if_pos h1]
    have hl : l.length ≤ 1048576 := by omega
    have hm : (l.map cDetector).length = l.length := List.length_map ..
    have tw := toDetectorS l hl
    have ts := toIntS st hs
    refine ev_f (by omega) (Ev.bind tw (Ev.bind ts (Ev.bind (spec_stageDemand _ _ (by omega) (by omega)) (Ev.bind tw (Ev.bind ts (Ev.bind (impl_stageDemand _ _ (by omega)) (ev_t rfl ?_)))))))
    exact Ev.bind tw (Ev.bind (eqDetectorS _ (by omega)) (ev_t rfl (Ev.bind ts (Ev.bind (eqIntS _ (by omega)) (ev_t rfl (Ev.now _))))))
  · rw [if_neg h1]
    exact ev_t (by omega) (Ev.now _)
end Go.Proofs.Ytdgeeokningcnaa.U
