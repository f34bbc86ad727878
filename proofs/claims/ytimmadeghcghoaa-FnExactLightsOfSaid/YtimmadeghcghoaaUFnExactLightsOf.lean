/- FnExactLightsOf, the pure side: the program's LightsOf and the reference's are one function. -/
import Derived.Test.YtimmadeghcghoaaFCFnExactLightsOf
import Derived.Test.YtimmadeghcghoaaUControl
import Derived.Test.YtimmadeghcghoaaULInt
import Derived.Test.YtimmadeghcghoaaULPath
import Derived.Test.YtimmadeghcghoaaULControl
import Derived.Test.YtimmadeghcghoaaUMPath
import Derived.Test.YtimmadeghcghoaaUMInt
import Derived.Test.YtimmadeghcghoaaArgs
namespace Go.Proofs.Ytimmadeghcghoaa.U
open Go.RowKit Go.Proofs.YtimmadeghcghoaaW.PrintWords Go.Proofs.YtimmadeghcghoaaW.PrintLast Go.Proofs.Ytimmadeghcghoaa.P Go.Proofs.Ytimmadeghcghoaa.Open
theorem FnExactLightsOf : ∀ (x0 : List (S92)) (x1 : S67), (okL okS92) x0 → okS67 x1 → ∃ k, laws_FnExactLightsOf.f k x0 x1.f0 x1.f1 x1.f2 x1.f3 = some true := by
  intro l c hok hc
  refine Ev.rounds ?_
  unfold laws_FnExactLightsOf.f
  have q0 : c.f0.length ≤ 9223372036854775807 := by simpa [maxLen] using hc.1.1
  have q2 : c.f2.length ≤ 9223372036854775807 := by simpa [maxLen] using hc.2.2.1.1
  refine ev_call (szPathS l 1048576 (by omega) (by omega) (by simpa [maxLen] using hok.1)) ?_
  by_cases h1 : (l.length : Int) ≤ 1048576
  · rw [if_pos h1]
    refine ev_f (by omega) (ev_call (szControl c _ (by omega) (by omega) q0 q2) ?_)
    by_cases h2 : (szC c : Int) ≤ 1048576 - (l.length : Int)
    · rw [if_pos h2]
      have h0 : c.f0.length ≤ 1048576 := by unfold szC at h2; omega
      have h3 : c.f2.length ≤ 1048576 := by unfold szC at h2; omega
      have tl := toPathS l (by omega)
      have tc := toControl c h0 h3
      have m1 : (l.map cPath).length = l.length := List.length_map ..
      generalize l.map cPath = p at tl m1
      obtain ⟨v, hv, a1, a2⟩ := lights_ex p (cControl c) (by omega) h0 h3
      have e := eqIntS v (by omega)
      obtain ⟨y1, _, em1⟩ := markPathS p 1 (by omega) (by omega) (by omega)
      have em2 := markIntS c.f0 (1 + 4 * p.length) (by omega) (by omega) (by omega)
      have em3 := markIntS c.f2 (1 + 4 * p.length + c.f0.length) (by omega) (by omega) (by omega)
      have emc : Ev (fun k => laws_markControl.f k c.f0 c.f1 c.f2 c.f3 (1 + 4 * p.length)) (1 + 4 * p.length + c.f0.length + c.f2.length, marks c.f0 (1 + 4 * p.length) c.f0.length, marks c.f2 (1 + 4 * p.length + c.f0.length) c.f2.length) := by
        unfold laws_markControl.f
        exact Ev.bind em2 (Ev.bind em3 (Ev.now _))
      refine ev_f (by omega) (Ev.bind tl (Ev.bind tc (Ev.bind a1 (Ev.bind tl (Ev.bind tc (Ev.bind a2 (Ev.bind e (ev_t rfl ?_))))))))
      refine Ev.bind tl (Ev.bind (eqPathS p (by omega)) (ev_t rfl (Ev.bind tc (Ev.bind (eqControl (cControl c) (show c.f0.length ≤ _ by omega) (show c.f2.length ≤ _ by omega)) (ev_t rfl ?_)))))
      refine Ev.bind em1 (Ev.bind emc (ev_f (by show ¬ (1 + 4 * (p.length : Int) + c.f0.length + c.f2.length < 0); omega) (Ev.bind e ?_)))
      refine Ev.step (fun k => by rw [laws_FnExactLightsOf.j0]) (ev_f (by decide) ?_)
      have hh := heldIntS v 1 (by omega) (by omega) (by omega)
      refine Ev.bind (markIntS v 1 (by omega) (by omega) (by omega)) (Ev.bind hh (ev_f (by omega) (ev_t rfl (Ev.bind tl (Ev.bind tc (Ev.bind a2 (Ev.bind e (ev_t rfl ?_))))))))
      exact Ev.bind hh (ev_f (by omega) (ev_t rfl (Ev.now _)))
    · rw [if_neg h2]
      exact ev_t (by omega) (Ev.now _)
  · rw [if_neg h1]
    exact ev_t (by omega) (Ev.now _)
end Go.Proofs.Ytimmadeghcghoaa.U
