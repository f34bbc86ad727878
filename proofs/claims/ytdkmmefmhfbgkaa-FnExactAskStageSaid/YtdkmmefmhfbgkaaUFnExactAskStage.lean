/- FnExactAskStage, the pure side: the program's AskStage and the reference's are one function. -/
import Derived.Test.YtdkmmefmhfbgkaaFX00d
import Derived.Test.YtdkmmefmhfbgkaaUAsk
import Derived.Test.YtdkmmefmhfbgkaaUCMark
import Derived.Test.YtdkmmefmhfbgkaaULInt
import Derived.Test.YtdkmmefmhfbgkaaULPath
import Derived.Test.YtdkmmefmhfbgkaaULControl
import Derived.Test.YtdkmmefmhfbgkaaUMPath
import Derived.Test.YtdkmmefmhfbgkaaUMInt
import Derived.Test.YtdkmmefmhfbgkaaArgs
set_option linter.unusedVariables false
set_option linter.unusedSimpArgs false
namespace Go.Proofs.Ytdkmmefmhfbgkaa.U
open Go.RowKit Go.Proofs.YtdkmmefmhfbgkaaW.PrintWords Go.Proofs.YtdkmmefmhfbgkaaW.PrintLast Go.Proofs.Ytdkmmefmhfbgkaa.P Go.Proofs.Ytdkmmefmhfbgkaa.Open
theorem FnExactAskStage : ∀ (x0 : List (S91)) (x1 : S55) (x2 : List Int), (okL okS91) x0 → okS55 x1 → (okL okI) x2 → ∃ k, laws_FnExactAskStage.f k x0 x1.f0 x1.f1 x1.f2 x1.f3 x2 = some true := by
  intro l c s hok hc _
  refine ev_rounds ?_
  unfold laws_FnExactAskStage.f
  have q0 : c.f0.length ≤ 9223372036854775807 := by simpa [maxLen] using hc.1.1
  have q2 : c.f2.length ≤ 9223372036854775807 := by simpa [maxLen] using hc.2.2.1.1
  by_cases h5 : (s.length : Int) > 1048576
  · exact ev_t h5 (Ev.now _)
  refine ev_f h5 (ev_call (szPathS l 1048576 (by omega) (by omega) (by simpa [maxLen] using hok.1)) ?_)
  by_cases h1 : (l.length : Int) ≤ 1048576
  · rw [if_pos h1]
    refine ev_f (by omega) (ev_call (szControl c _ (by omega) (by omega) q0 q2) ?_)
    by_cases h2 : (szC c : Int) ≤ 1048576 - (l.length : Int)
    · rw [if_pos h2]
      have h0 : c.f0.length ≤ 1048576 := by unfold szC at h2; omega
      have h3 : c.f2.length ≤ 1048576 := by unfold szC at h2; omega
      have hs : s.length ≤ 1048576 := by omega
      have tl := toPathS l (by omega)
      have tc := toControl c h0 h3
      have ti := toIntS s hs
      have m1 : (l.map cPath).length = l.length := List.length_map ..
      generalize l.map cPath = p at tl m1
      have w : CW p (cControl c) := ⟨by omega, h0, h3⟩
      have a1 := spec_ask w s hs
      have a2 := impl_ask w s hs
      obtain ⟨v0, v2⟩ := askV_len w s hs
      generalize askV p (cControl c) s = v at a1 a2 v0 v2
      have e := eqControl ⟨v.1, v.2.1, v.2.2.1, v.2.2.2.1⟩ (show v.1.length ≤ _ by omega) (show v.2.2.1.length ≤ _ by omega)
      obtain ⟨y1, _, em1⟩ := markPathS p 1 (by omega) (by omega) (by omega)
      have emc := markC c.f0 c.f1 c.f2 c.f3 (1 + 4 * p.length) (by omega) (by omega) h0 h3
      have emi := markIntS s (1 + 4 * p.length + c.f0.length + c.f2.length) (by omega) (by omega) (by omega)
      have hh := heldC v.1 v.2.1 v.2.2.1 v.2.2.2.1 1 (by omega) (by omega) v0 v2
      refine ev_f (by omega) (Ev.bind tl (Ev.bind tc (Ev.bind ti (Ev.bind a1 (Ev.bind tl (Ev.bind tc (Ev.bind ti (Ev.bind a2 (Ev.bind e (ev_t rfl ?_))))))))))
      refine Ev.step (fun k => by rw [laws_FnExactAskStage.j0]) ?_
      refine ev_f (by simp) ?_
      refine Ev.bind tl (Ev.bind (eqPathS p (by omega)) (ev_t rfl (Ev.bind tc (Ev.bind (eqControl (cControl c) (show c.f0.length ≤ _ by omega) (show c.f2.length ≤ _ by omega)) (ev_t rfl (Ev.bind ti (Ev.bind (eqIntS s (by omega)) (ev_t rfl ?_))))))))
      refine Ev.bind em1 (Ev.bind emc (Ev.bind emi (ev_f (by show ¬ (1 + 4 * (p.length : Int) + c.f0.length + c.f2.length + s.length < 0); omega) (Ev.bind e (ev_t rfl ?_)))))
      refine Ev.step (fun k => by rw [laws_FnExactAskStage.j1]) ?_
      refine ev_f (by simp) ?_
      refine Ev.bind (markC v.1 v.2.1 v.2.2.1 v.2.2.2.1 1 (by omega) (by omega) v0 v2) (Ev.bind hh (ev_f (by omega) (ev_t rfl (Ev.bind tl (Ev.bind tc (Ev.bind ti (Ev.bind a2 (Ev.bind e (ev_t rfl ?_)))))))))
      refine Ev.step (fun k => by rw [laws_FnExactAskStage.j2]) ?_
      refine ev_f (by simp) ?_
      exact Ev.bind hh (ev_f (by omega) (ev_t rfl (Ev.now _)))
    · rw [if_neg h2]
      exact ev_t (by omega) (Ev.now _)
  · rw [if_neg h1]
    exact ev_t (by omega) (Ev.now _)
end Go.Proofs.Ytdkmmefmhfbgkaa.U
