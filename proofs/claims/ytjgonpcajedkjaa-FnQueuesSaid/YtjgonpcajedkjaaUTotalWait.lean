/- A queue's whole waiting: the program's TotalWait and the reference's. -/
import Derived.Test.YtjgonpcajedkjaaFX00b
import Derived.Test.YtjgonpcajedkjaaUBase
set_option linter.unusedVariables false
set_option linter.unusedSimpArgs false
namespace Go.Proofs.Ytjgonpcajedkjaa.U
open Go.RowKit Go.Proofs.YtjgonpcajedkjaaW.PrintWords Go.Proofs.YtjgonpcajedkjaaW.PrintLast Go.Proofs.Ytjgonpcajedkjaa.P
def clamp (c x : Int) : Int := max 0 (min x c)
theorem clamp_bound (c x : Int) (h : 0 ≤ c) : 0 ≤ clamp c x ∧ clamp c x ≤ c := by unfold clamp; omega
def totalWait (l : List Int) : Int := psum (clamp 10000) l l.length
theorem impl_totalWait (l : List Int) (h : l.length ≤ 1048576) : Ev (fun k => impl_TotalWait.f k l) (totalWait l) := by
  unfold impl_TotalWait.f
  rw [← psum_zero (clamp 10000) l]
  refine ev_for0 (F := fun k i => impl_TotalWait.l0 k (psum (clamp 10000) l i) l (l.length : Int) (i : Int)) l.length (fun i hi ih => ?_) ?_
  · obtain ⟨b1, b2⟩ := psum_bound l (f := clamp 10000) (fun x _ => clamp_bound 10000 x (by omega)) i (by omega)
    obtain ⟨b3, b4⟩ := clamp_bound 10000 l[i] (by omega)
    refine Ev.step (fun k => by rw [impl_TotalWait.l0]) (ev_t (by omega) (ev_t (by omega) (ev_t (by omega) ?_)))
    rw [rd_at l i hi, mx_eq, mn_eq, show max 0 (min l[i] 10000) = clamp 10000 l[i] from rfl, w64 (n := psum (clamp 10000) l i + _) (by omega) (by omega), w_succ hi (by omega), ← psum_succ _ l i hi]
    exact ih
  · refine Ev.step (fun k => by rw [impl_TotalWait.l0]) ?_
    exact ev_f (by omega) (Ev.now _)
end Go.Proofs.Ytjgonpcajedkjaa.U
