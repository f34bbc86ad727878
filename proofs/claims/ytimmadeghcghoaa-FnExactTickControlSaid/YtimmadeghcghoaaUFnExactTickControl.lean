/- FnExactTickControl, the pure side: the program's TickControl and the reference's are one function. -/
import Derived.Test.YtimmadeghcghoaaFX04e
import Derived.Test.YtimmadeghcghoaaUGd
import Derived.Test.YtimmadeghcghoaaUCMark
import Derived.Test.YtimmadeghcghoaaULInt
import Derived.Test.YtimmadeghcghoaaULPath
import Derived.Test.YtimmadeghcghoaaULControl
import Derived.Test.YtimmadeghcghoaaUMPath
import Derived.Test.YtimmadeghcghoaaUMInt
import Derived.Test.YtimmadeghcghoaaArgs
namespace Go.Proofs.Ytimmadeghcghoaa.U
open Go.RowKit Go.Proofs.YtimmadeghcghoaaW.PrintWords Go.Proofs.YtimmadeghcghoaaW.PrintLast Go.Proofs.Ytimmadeghcghoaa.P Go.Proofs.Ytimmadeghcghoaa.Open
theorem FnExactTickControl : ∀ (x0 : List (S92)) (x1 : S67), (okL okS92) x0 → okS67 x1 → ∃ k, laws_FnExactTickControl.f k x0 x1.f0 x1.f1 x1.f2 x1.f3 = some true := by
  intro l c hok hc
  refine Ev.rounds ?_
  unfold laws_FnExactTickControl.f
  have q0 : c.f0.length ≤ 9223372036854775807 := by simpa [maxLen] using hc.1.1
  have q2 : c.f2.length ≤ 9223372036854775807 := by simpa [maxLen] using hc.2.2.1.1
  refine ev_call (szPathS l 1048576 (by omega) (by omega) (by simpa [maxLen] using hok.1)) ?_
  by_cases h1 : (l.length : Int) ≤ 1048576
  · rw [if_pos h1]
    refine ev_f (by omega) (ev_call (szControl c _ (by omega) (by omega) q0 q2) ?_)
    by_cases h2 : (szC c : Int) ≤ 1048576 - (l.length : Int)
    · rw [if_pos h2]
      have h0 : c.f0.length ≤ 1048576 := by unfold szC at h2; omega
      have h3 : c.f2.length ≤ 1048576 := by unfold szC at h2; omega
      have tl := toPathS l (by omega)
      have tc := toControl c h0 h3
      have m1 : (l.map cPath).length = l.length := List.length_map ..
      generalize l.map cPath = p at tl m1
      have w : CW p (cControl c) := ⟨by omega, h0, h3⟩
      have a1 := spec_tick w
      have a2 := impl_tick w
      obtain ⟨v0, v2⟩ := tickV_len w
      generalize tickV p (cControl c) = v at a1 a2 v0 v2
      have e := eqControl ⟨v.1, v.2.1, v.2.2.1, v.2.2.2⟩ (show v.1.length ≤ _ by omega) (show v.2.2.1.length ≤ _ by omega)
      obtain ⟨y1, _, em1⟩ := markPathS p 1 (by omega) (by omega) (by omega)
      have emc := markC c.f0 c.f1 c.f2 c.f3 (1 + 4 * p.length) (by omega) (by omega) h0 h3
      refine ev_f (by omega) (Ev.bind tl (Ev.bind tc (Ev.bind a1 (Ev.bind tl (Ev.bind tc (Ev.bind a2 (Ev.bind e (ev_t rfl ?_))))))))
      refine Ev.bind tl (Ev.bind (eqPathS p (by omega)) (ev_t rfl (Ev.bind tc (Ev.bind (eqControl (cControl c) (show c.f0.length ≤ _ by omega) (show c.f2.length ≤ _ by omega)) (ev_t rfl ?_)))))
      refine Ev.bind em1 (Ev.bind emc (ev_f (by show ¬ (1 + 4 * (p.length : Int) + c.f0.length + c.f2.length < 0); omega) (Ev.bind e ?_)))
      refine Ev.step (fun k => by rw [laws_FnExactTickControl.j0]) ?_
      refine ev_f (by decide) ?_
      have hh := heldC v.1 v.2.1 v.2.2.1 v.2.2.2 1 (by omega) (by omega) v0 v2
      refine Ev.bind (markC v.1 v.2.1 v.2.2.1 v.2.2.2 1 (by omega) (by omega) v0 v2) (Ev.bind hh (ev_f (by omega) (ev_t rfl (Ev.bind tl (Ev.bind tc (Ev.bind a2 (Ev.bind e (ev_t rfl ?_))))))))
      exact Ev.bind hh (ev_f (by omega) (ev_t rfl (Ev.now _)))
    · rw [if_neg h2]
      exact ev_t (by omega) (Ev.now _)
  · rw [if_neg h1]
    exact ev_t (by omega) (Ev.now _)
end Go.Proofs.Ytimmadeghcghoaa.U
