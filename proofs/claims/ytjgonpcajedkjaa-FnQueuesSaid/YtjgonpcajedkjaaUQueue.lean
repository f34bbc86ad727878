/- One step of a queue: what the program's and the reference's QueueStep come to. -/
import Derived.Test.YtjgonpcajedkjaaFX00b
import Derived.Test.YtjgonpcajedkjaaUBase
set_option linter.unusedVariables false
set_option linter.unusedSimpArgs false
namespace Go.Proofs.Ytjgonpcajedkjaa.U
open Go.RowKit Go.Proofs.YtjgonpcajedkjaaW.PrintWords Go.Proofs.YtjgonpcajedkjaaW.PrintLast Go.Proofs.Ytjgonpcajedkjaa.P
def queueStep (a b : Int) (o : Bool) : Int :=
  if 0 ≤ a ∧ a ≤ 10000 ∧ 0 ≤ b ∧ b ≤ 10000 then max 0 (min (a + b - if o = true then 1 else 0) 10000) else 0
theorem queueStep_in {a b : Int} {o : Bool} (h1 : 0 ≤ a ∧ a ≤ 10000) (h2 : 0 ≤ b ∧ b ≤ 10000) : queueStep a b o = max 0 (min (a + b - if o = true then 1 else 0) 10000) := if_pos ⟨h1.1, h1.2, h2⟩
theorem queueStep_out {a b : Int} {o : Bool} (h : ¬ ((0 ≤ a ∧ a ≤ 10000) ∧ 0 ≤ b ∧ b ≤ 10000)) : queueStep a b o = 0 := if_neg (fun hh => h ⟨⟨hh.1, hh.2.1⟩, hh.2.2⟩)
theorem impl_queueStep (a b : Int) (o : Bool) : Ev (fun k => impl_QueueStep.f k a b o) (queueStep a b o) := by
  unfold impl_QueueStep.f
  refine ev_call (impl_InRange_eq a 0 10000) ?_
  by_cases h1 : 0 ≤ a ∧ a ≤ 10000
  · refine ev_dt h1 (ev_call (impl_InRange_eq b 0 10000) (Ev.step (fun k => by rw [impl_QueueStep.j0]) ?_))
    by_cases h2 : 0 ≤ b ∧ b ≤ 10000
    · refine ev_f (by simp [h2]) ?_
      rw [queueStep_in h1 h2]
      refine ev_ite (fun h => ?_) (fun h => ?_)
      · rw [w64 (n := a + b) (by omega) (by omega), w64 (by omega) (by omega), if_pos h, mx_eq, mn_eq]
        exact ev_now rfl
      · rw [w64 (by omega) (by omega), if_neg h, mx_eq, mn_eq]
        exact ev_now (by omega)
    · refine ev_t (by rw [decide_eq_false h2]; rfl) ?_
      rw [queueStep_out (fun h => h2 h.2)]
      exact Ev.now _
  · refine ev_df h1 (Ev.step (fun k => by rw [impl_QueueStep.j0]) (ev_t rfl ?_))
    rw [queueStep_out (fun h => h1 h.1)]
    exact Ev.now _
end Go.Proofs.Ytjgonpcajedkjaa.U
