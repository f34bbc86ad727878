/- FnExactLongestWant, the pure side: the program's LongestWant and the reference's are one function. -/
import Derived.Test.YtdgeeokningcnaaFCFnExactLongestWant
import Derived.Test.YtdgeeokningcnaaULWant
import Derived.Test.YtdgeeokningcnaaULInt
import Derived.Test.YtdgeeokningcnaaULongest
namespace Go.Proofs.Ytdgeeokningcnaa.U
open Go.RowKit Go.Proofs.YtdgeeokningcnaaW.PrintWords Go.Proofs.YtdgeeokningcnaaW.PrintLast Go.Proofs.Ytdgeeokningcnaa.P Go.Proofs.Ytdgeeokningcnaa.Open
theorem FnExactLongestWant : ∀ (x0 : List (S88)) (x1 : List Int), (okL okS88) x0 → (okL okI) x1 → ∃ k, laws_FnExactLongestWant.f k x0 x1 = some true := by
  intro l st hok _
  refine Ev.rounds ?_
  unfold laws_FnExactLongestWant.f
  refine ev_ite (fun _ => Ev.now _) (fun h => ev_call (szWantS l 1048576 (by omega) (by omega) (by simpa [maxLen] using hok.1)) ?_)
  have hs : st.length ≤ 1048576 := by omega
  by_cases h1 : (l.length : Int) ≤ 1048576
  · rw [if_pos h1]
    have hl : l.length ≤ 1048576 := by omega
    have hm : (l.map cWant).length = l.length := List.length_map ..
    have tw := toWantS l hl
    have ts := toIntS st hs
    refine ev_f (by omega) (Ev.bind tw (Ev.bind ts (Ev.bind (spec_longest _ _ (by omega) hs) (Ev.bind tw (Ev.bind ts (Ev.bind (impl_longest _ _ (by omega) hs) (ev_t rfl ?_)))))))
    exact Ev.bind tw (Ev.bind (eqWantS _ (by omega)) (ev_t rfl (Ev.bind ts (Ev.bind (eqIntS _ (by omega)) (ev_t rfl (Ev.now _))))))
  · rw [if_neg h1]
    exact ev_t (by omega) (Ev.now _)
end Go.Proofs.Ytdgeeokningcnaa.U
