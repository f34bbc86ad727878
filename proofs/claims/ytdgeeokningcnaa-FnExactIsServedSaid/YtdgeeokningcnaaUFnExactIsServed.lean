/- FnExactIsServed, the pure side: the program's IsServed and the reference's are one function. -/
import Derived.Test.YtdgeeokningcnaaFCFnExactIsServed
import Derived.Test.YtdgeeokningcnaaULInt
namespace Go.Proofs.Ytdgeeokningcnaa.U
open Go.RowKit Go.Proofs.YtdgeeokningcnaaW.PrintWords Go.Proofs.YtdgeeokningcnaaW.PrintLast Go.Proofs.Ytdgeeokningcnaa.P Go.Proofs.Ytdgeeokningcnaa.Open
theorem isServed (l : List Int) (h : l.length ≤ 1048576) : ∃ b, spec_IsServed.f l = some b ∧ impl_IsServed.f l = some b := by
  unfold spec_IsServed.f impl_IsServed.f
  by_cases h0 : (l.length : Int) = 0
  · exact ⟨true, by rw [if_pos h0], by rw [if_pos h0]⟩
  · rw [if_neg h0, w64 (by omega) (by omega), if_pos (by omega), if_pos (by omega)]
    exact ⟨_, rfl, rfl⟩
theorem FnExactIsServed : ∀ (x0 : List Int), (okL okI) x0 → ∃ k, laws_FnExactIsServed.f k x0 = some true := by
  intro l _
  refine Ev.rounds ?_
  unfold laws_FnExactIsServed.f
  refine ev_ite (fun _ => Ev.now _) (fun h => ?_)
  have hl : l.length ≤ 1048576 := by omega
  obtain ⟨b, h1, h2⟩ := isServed l hl
  refine Ev.bind (toIntS l hl) (ev_call h1 (Ev.bind (toIntS l hl) (ev_call h2 (ev_f (by simp) ?_))))
  exact Ev.bind (toIntS l hl) (Ev.bind (eqIntS l (by omega)) (ev_t rfl (Ev.now _)))
end Go.Proofs.Ytdgeeokningcnaa.U
