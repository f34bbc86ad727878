/- FnExactNextStage, the pure side: the program's NextStage and the reference's are one function. -/
import Derived.Test.YtdkmmefmhfbgkaaFX00
import Derived.Test.YtdkmmefmhfbgkaaFX00e
import Derived.Test.YtdkmmefmhfbgkaaUHInt
import Derived.Test.YtdkmmefmhfbgkaaUNextStage
import Derived.Test.YtdkmmefmhfbgkaaULInt
import Derived.Test.YtdkmmefmhfbgkaaULPath
import Derived.Test.YtdkmmefmhfbgkaaULControl
import Derived.Test.YtdkmmefmhfbgkaaULWant
import Derived.Test.YtdkmmefmhfbgkaaUMPath
import Derived.Test.YtdkmmefmhfbgkaaUMInt
import Derived.Test.YtdkmmefmhfbgkaaUMWant
import Derived.Test.YtdkmmefmhfbgkaaArgs
set_option linter.unusedVariables false
set_option linter.unusedSimpArgs false
namespace Go.Proofs.Ytdkmmefmhfbgkaa.U
open Go.RowKit Go.Proofs.YtdkmmefmhfbgkaaW.PrintWords Go.Proofs.YtdkmmefmhfbgkaaW.PrintLast Go.Proofs.Ytdkmmefmhfbgkaa.P Go.Proofs.Ytdkmmefmhfbgkaa.Open
theorem FnExactNextStage : ∀ (x0 : List (S91)) (x1 : S55) (x2 : List (S117)), (okL okS91) x0 → okS55 x1 → (okL okS117) x2 → ∃ k, laws_FnExactNextStage.f k x0 x1.f0 x1.f1 x1.f2 x1.f3 x2 = some true := by
  intro l c w hok hc hokw
  refine ev_rounds ?_
  unfold laws_FnExactNextStage.f
  have q0 : c.f0.length ≤ 9223372036854775807 := by simpa [maxLen] using hc.1.1
  have q2 : c.f2.length ≤ 9223372036854775807 := by simpa [maxLen] using hc.2.2.1.1
  refine ev_call (szPathS l 1048576 (by omega) (by omega) (by simpa [maxLen] using hok.1)) ?_
  by_cases h1 : (l.length : Int) ≤ 1048576
  · rw [if_pos h1]
    refine ev_f (by omega) (ev_call (szControl c _ (by omega) (by omega) q0 q2) ?_)
    by_cases h2 : (szC c : Int) ≤ 1048576 - (l.length : Int)
    · rw [if_pos h2]
      refine ev_f (by omega) (ev_call (szWantS w _ (by omega) (by omega) (by simpa [maxLen] using hokw.1)) ?_)
      by_cases h4 : (w.length : Int) ≤ 1048576 - (l.length : Int) - (szC c : Int)
      · rw [if_pos h4]
        have h0 : c.f0.length ≤ 1048576 := by unfold szC at h2; omega
        have h3 : c.f2.length ≤ 1048576 := by unfold szC at h2; omega
        have tl := toPathS l (by omega)
        have tc := toControl c h0 h3
        have tw := toWantS w (by omega)
        have m1 : (l.map cPath).length = l.length := List.length_map ..
        have m2 : (w.map cWant).length = w.length := List.length_map ..
        generalize l.map cPath = p at tl m1
        generalize w.map cWant = q at tw m2
        obtain ⟨v, hv, a1, a2⟩ := nextStage_ex p (cControl c) q (by omega) h0 h3 (by omega)
        have e := eqIntS v (by omega)
        obtain ⟨y1, _, em1⟩ := markPathS p 1 (by omega) (by omega) (by omega)
        have em2 := markIntS c.f0 (1 + 4 * p.length) (by omega) (by omega) (by omega)
        have em3 := markIntS c.f2 (1 + 4 * p.length + c.f0.length) (by omega) (by omega) (by omega)
        have emc : Ev (fun k => laws_markControl.f k c.f0 c.f1 c.f2 c.f3 (1 + 4 * p.length)) (1 + 4 * p.length + c.f0.length + c.f2.length, marks c.f0 (1 + 4 * p.length) c.f0.length, marks c.f2 (1 + 4 * p.length + c.f0.length) c.f2.length) := by
          unfold laws_markControl.f
          exact Ev.bind em2 (Ev.bind em3 (Ev.now _))
        obtain ⟨y2, _, em4⟩ := markWantS q (1 + 4 * p.length + c.f0.length + c.f2.length) (by omega) (by omega) (by omega)
        refine ev_f (by omega) (Ev.bind tl (Ev.bind tc (Ev.bind tw (Ev.bind a1 (Ev.bind tl (Ev.bind tc (Ev.bind tw (Ev.bind a2 (Ev.bind e (ev_t rfl ?_))))))))))
        refine Ev.bind tl (Ev.bind (eqPathS p (by omega)) (ev_t rfl (Ev.bind tc (Ev.bind (eqControl (cControl c) (show c.f0.length ≤ _ by omega) (show c.f2.length ≤ _ by omega)) (ev_t rfl (Ev.bind tw (Ev.bind (eqWantS q (by omega)) (ev_t rfl ?_))))))))
        refine Ev.bind em1 (Ev.bind emc (Ev.bind em4 (ev_f (by show ¬ (1 + 4 * (p.length : Int) + c.f0.length + c.f2.length + 2 * (q.length : Int) < 0); omega) (Ev.bind e ?_))))
        refine Ev.step (fun k => by rw [laws_FnExactNextStage.j0]) (ev_f (by decide) ?_)
        have hh := heldIntS v 1 (by omega) (by omega) (by omega)
        refine Ev.bind (markIntS v 1 (by omega) (by omega) (by omega)) (Ev.bind hh (ev_f (by omega) (ev_t rfl (Ev.bind tl (Ev.bind tc (Ev.bind tw (Ev.bind a2 (Ev.bind e (ev_t rfl ?_)))))))))
        exact Ev.bind hh (ev_f (by omega) (ev_t rfl (Ev.now _)))
      · rw [if_neg h4]
        exact ev_t (by omega) (Ev.now _)
    · rw [if_neg h2]
      exact ev_t (by omega) (Ev.now _)
  · rw [if_neg h1]
    exact ev_t (by omega) (Ev.now _)
end Go.Proofs.Ytdkmmefmhfbgkaa.U
