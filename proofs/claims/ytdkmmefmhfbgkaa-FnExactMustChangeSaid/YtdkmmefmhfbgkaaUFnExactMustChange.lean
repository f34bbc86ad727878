/- FnExactMustChange, the pure side: the program's MustChange and the reference's are one function. -/
import Derived.Test.YtdkmmefmhfbgkaaFX00e
import Derived.Test.YtdkmmefmhfbgkaaUMustChange
import Derived.Test.YtdkmmefmhfbgkaaULInt
import Derived.Test.YtdkmmefmhfbgkaaULPath
import Derived.Test.YtdkmmefmhfbgkaaULControl
import Derived.Test.YtdkmmefmhfbgkaaULWant
import Derived.Test.YtdkmmefmhfbgkaaArgs
set_option linter.unusedVariables false
set_option linter.unusedSimpArgs false
namespace Go.Proofs.Ytdkmmefmhfbgkaa.U
open Go.RowKit Go.Proofs.YtdkmmefmhfbgkaaW.PrintWords Go.Proofs.YtdkmmefmhfbgkaaW.PrintLast Go.Proofs.Ytdkmmefmhfbgkaa.P Go.Proofs.Ytdkmmefmhfbgkaa.Open
theorem FnExactMustChange : ∀ (x0 : List (S91)) (x1 : S55) (x2 : List (S117)), (okL okS91) x0 → okS55 x1 → (okL okS117) x2 → ∃ k, laws_FnExactMustChange.f k x0 x1.f0 x1.f1 x1.f2 x1.f3 x2 = some true := by
  intro l c w hok hc hokw
  refine ev_rounds ?_
  unfold laws_FnExactMustChange.f
  have q0 : c.f0.length ≤ 9223372036854775807 := by simpa [maxLen] using hc.1.1
  have q2 : c.f2.length ≤ 9223372036854775807 := by simpa [maxLen] using hc.2.2.1.1
  refine ev_call (szPathS l 1048576 (by omega) (by omega) (by simpa [maxLen] using hok.1)) ?_
  by_cases h1 : (l.length : Int) ≤ 1048576
  · rw [if_pos h1]
    refine ev_f (by omega) (ev_call (szControl c _ (by omega) (by omega) q0 q2) ?_)
    by_cases h2 : (szC c : Int) ≤ 1048576 - (l.length : Int)
    · rw [if_pos h2]
      refine ev_f (by omega) (ev_call (szWantS w _ (by omega) (by omega) (by simpa [maxLen] using hokw.1)) ?_)
      by_cases h4 : (w.length : Int) ≤ 1048576 - (l.length : Int) - (szC c : Int)
      · rw [if_pos h4]
        have h0 : c.f0.length ≤ 1048576 := by unfold szC at h2; omega
        have h3 : c.f2.length ≤ 1048576 := by unfold szC at h2; omega
        have tl := toPathS l (by omega)
        have tc := toControl c h0 h3
        have tw := toWantS w (by omega)
        have m1 : (l.map cPath).length = l.length := List.length_map ..
        have m2 : (w.map cWant).length = w.length := List.length_map ..
        generalize l.map cPath = p at tl m1
        generalize w.map cWant = q at tw m2
        obtain ⟨v, a1, a2⟩ := mustChange_ex p (cControl c) q (by omega) h0 h3 (by omega)
        refine ev_f (by omega) (Ev.bind tl (Ev.bind tc (Ev.bind tw (Ev.bind a1 (Ev.bind tl (Ev.bind tc (Ev.bind tw (Ev.bind a2 (ev_f (by simp) ?_)))))))))
        exact Ev.bind tl (Ev.bind (eqPathS p (by omega)) (ev_t rfl (Ev.bind tc (Ev.bind (eqControl (cControl c) (show c.f0.length ≤ _ by omega) (show c.f2.length ≤ _ by omega)) (ev_t rfl (Ev.bind tw (Ev.bind (eqWantS q (by omega)) (ev_t rfl (Ev.now _)))))))))
      · rw [if_neg h4]
        exact ev_t (by omega) (Ev.now _)
    · rw [if_neg h2]
      exact ev_t (by omega) (Ev.now _)
  · rw [if_neg h1]
    exact ev_t (by omega) (Ev.now _)
end Go.Proofs.Ytdkmmefmhfbgkaa.U
