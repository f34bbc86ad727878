/- FnExactEqualControls, the pure side: the program's EqualControls and the reference's are one function. -/
import Derived.Test.YtdgeeokningcnaaFCFnExactEqualControls
import Derived.Test.YtdgeeokningcnaaULControl
import Derived.Test.YtdgeeokningcnaaUEqInts
namespace Go.Proofs.Ytdgeeokningcnaa.U
open Go.RowKit Go.Proofs.YtdgeeokningcnaaW.PrintWords Go.Proofs.YtdgeeokningcnaaW.PrintLast Go.Proofs.Ytdgeeokningcnaa.P Go.Proofs.Ytdgeeokningcnaa.Open
theorem spec_equalControls (x y : S52) (h1 : x.f0.length ≤ 9223372036854775807) (h2 : x.f2.length ≤ 9223372036854775807) : Ev (fun k => spec_EqualControls.f k x.f0 x.f1 x.f2 x.f3 y.f0 y.f1 y.f2 y.f3) (bo (x.f0 = y.f0 ∧ x.f1 = y.f1 ∧ x.f2 = y.f2 ∧ x.f3 = y.f3)) := by
  unfold spec_EqualControls.f
  refine Ev.bind (spec_eqInts _ _ h1) ?_
  by_cases e0 : x.f0 = y.f0
  · refine ev_dt e0 (ev_ite (fun e1 => Ev.bind (spec_eqInts _ _ h2) ?_) (fun e1 => ev_now (bo_f (fun h => e1 h.2.1)).symm))
    by_cases e2 : x.f2 = y.f2
    · refine ev_dt e2 (ev_now (bo_eq ?_).symm)
      simp [e0, e1, e2]
    · exact ev_df e2 (ev_now (bo_f (fun h => e2 h.2.2.1)).symm)
  · exact ev_df e0 (ev_now (bo_f (fun h => e0 h.1)).symm)
theorem impl_equalControls (x y : S52) (h1 : x.f0.length ≤ 9223372036854775807) (h2 : x.f2.length ≤ 9223372036854775807) : Ev (fun k => impl_EqualControls.f k x.f0 x.f1 x.f2 x.f3 y.f0 y.f1 y.f2 y.f3) (bo (x.f0 = y.f0 ∧ x.f1 = y.f1 ∧ x.f2 = y.f2 ∧ x.f3 = y.f3)) := by
  unfold impl_EqualControls.f
  refine ev_ite (fun e1 => ev_ite (fun e3 => Ev.bind (slices_equal _ _ h1) ?_) (fun e3 => ev_now (bo_f (fun h => e3 h.2.2.2)).symm)) (fun e1 => ev_now (bo_f (fun h => e1 h.2.1)).symm)
  by_cases e0 : x.f0 = y.f0
  · refine ev_dt e0 (Ev.bind (slices_equal _ _ h2) (ev_now (bo_eq ?_).symm))
    simp [e0, e1, e3]
  · exact ev_df e0 (ev_now (bo_f (fun h => e0 h.1)).symm)
theorem FnExactEqualControls : ∀ (x0 : S49) (x1 : S49), okS49 x0 → okS49 x1 → ∃ k, laws_FnExactEqualControls.f k x0.f0 x0.f1 x0.f2 x0.f3 x1.f0 x1.f1 x1.f2 x1.f3 = some true := by
  intro x y hx hy
  refine Ev.rounds ?_
  unfold laws_FnExactEqualControls.f
  have a0 : x.f0.length ≤ 9223372036854775807 := by simpa [maxLen] using hx.1.1
  have a2 : x.f2.length ≤ 9223372036854775807 := by simpa [maxLen] using hx.2.2.1.1
  have b0 : y.f0.length ≤ 9223372036854775807 := by simpa [maxLen] using hy.1.1
  have b2 : y.f2.length ≤ 9223372036854775807 := by simpa [maxLen] using hy.2.2.1.1
  refine ev_call (szControl x 1048576 (by omega) (by omega) a0 a2) ?_
  by_cases h1 : (szC x : Int) ≤ 1048576
  · rw [if_pos h1]
    refine ev_f (by omega) (ev_call (szControl y _ (by omega) (by omega) b0 b2) ?_)
    by_cases h2 : (szC y : Int) ≤ 1048576 - szC x
    · rw [if_pos h2]
      have h3 : szC x ≤ 1048576 := by omega
      have h4 : szC y ≤ 1048576 := by omega
      unfold szC at h3 h4
      have tx := toControl x (by omega) (by omega)
      have ty := toControl y (by omega) (by omega)
      refine ev_f (by omega) (Ev.bind tx (Ev.bind ty (Ev.bind (spec_equalControls (cControl x) (cControl y) a0 a2) (Ev.bind tx (Ev.bind ty (Ev.bind (impl_equalControls (cControl x) (cControl y) a0 a2) (ev_f (by simp) ?_)))))))
      exact Ev.bind tx (Ev.bind (eqControl (cControl x) a0 a2) (ev_t rfl (Ev.bind ty (Ev.bind (eqControl (cControl y) b0 b2) (ev_t rfl (Ev.now _))))))
    · rw [if_neg h2]
      exact ev_t (by omega) (Ev.now _)
  · rw [if_neg h1]
    exact ev_t (by omega) (Ev.now _)
end Go.Proofs.Ytdgeeokningcnaa.U
