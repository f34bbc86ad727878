/- FnExactIsSafeLights, the pure side: the program's IsSafeLights and the reference's are one function. -/
import Derived.Test.YtimmadeghcghoaaFCFnExactIsSafeLights
import Derived.Test.YtimmadeghcghoaaULPath
import Derived.Test.YtimmadeghcghoaaULInt
import Derived.Test.YtimmadeghcghoaaArgs
import Derived.Test.YtimmadeghcghoaaUSafe
namespace Go.Proofs.Ytimmadeghcghoaa.U
open Go.RowKit Go.Proofs.YtimmadeghcghoaaW.PrintWords Go.Proofs.YtimmadeghcghoaaW.PrintLast Go.Proofs.Ytimmadeghcghoaa.P Go.Proofs.Ytimmadeghcghoaa.Open
theorem FnExactIsSafeLights : ∀ (x0 : List (S92)) (x1 : List Int), (okL okS92) x0 → (okL okI) x1 → ∃ k, laws_FnExactIsSafeLights.f k x0 x1 = some true := by
  intro l st hok _
  refine Ev.rounds ?_
  unfold laws_FnExactIsSafeLights.f
  refine ev_ite (fun _ => Ev.now _) (fun h => ev_call (szPathS l 1048576 (by omega) (by omega) (by simpa [maxLen] using hok.1)) ?_)
  have hs : st.length ≤ 1048576 := by omega
  by_cases h1 : (l.length : Int) ≤ 1048576
  · rw [if_pos h1]
    have hl : l.length ≤ 1048576 := by omega
    have hm : (l.map cPath).length = l.length := List.length_map ..
    have tw := toPathS l hl
    have ts := toIntS st hs
    refine ev_f (by omega) (Ev.bind tw (Ev.bind ts (Ev.bind (spec_safe _ _ (by omega)) (Ev.bind tw (Ev.bind ts (Ev.bind (impl_safe _ _ (by omega)) (ev_f (by simp) ?_)))))))
    exact Ev.bind tw (Ev.bind (eqPathS _ (by omega)) (ev_t rfl (Ev.bind ts (Ev.bind (eqIntS _ (by omega)) (ev_t rfl (Ev.now _))))))
  · rw [if_neg h1]
    exact ev_t (by omega) (Ev.now _)
end Go.Proofs.Ytimmadeghcghoaa.U
