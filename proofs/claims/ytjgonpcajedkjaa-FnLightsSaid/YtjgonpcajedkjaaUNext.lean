/- The next green second, the worst wait, all lights of a second: the program's way and the reference's. -/
import Derived.Test.YtjgonpcajedkjaaFX00d
import Derived.Test.YtjgonpcajedkjaaUTimes
set_option linter.unusedVariables false
set_option linter.unusedSimpArgs false
namespace Go.Proofs.Ytjgonpcajedkjaa.U
open Go.RowKit Go.Proofs.YtjgonpcajedkjaaW.PrintWords Go.Proofs.YtjgonpcajedkjaaW.PrintLast Go.Proofs.Ytjgonpcajedkjaa.P
/-- All lights of a second. -/
noncomputable def lightsV (l : List S50) (p : List S85) (a : Int) (n : Nat) : List Int := (List.range n).map (fun i : Nat => laV l p a (rd_T50 l (i : Int)).f0)
theorem lightsV_len (l : List S50) (p : List S85) (a : Int) (n : Nat) : (lightsV l p a n).length = n := by simp [lightsV]
theorem lightsV_succ (l : List S50) (p : List S85) (a : Int) (n : Nat) : lightsV l p a (n + 1) = lightsV l p a n ++ [laV l p a (rd_T50 l (n : Int)).f0] := by
  unfold lightsV; rw [List.range_succ, List.map_append]; rfl
theorem spec_lightsAt {l : List S50} {p : List S85} (w : PW l p) (a : Int) : Ev (fun k => spec_LightsAt.f k l p a) (lightsV l p a l.length) := by
  have hl := w.hl
  unfold spec_LightsAt.f
  refine ev_for0 (F := fun k i => spec_LightsAt.l0 k l p a (lightsV l p a i) (i : Int)) l.length (fun i hi ih => ?_) ?_
  · refine Ev.step (fun k => by rw [spec_LightsAt.l0]) ?_
    refine ev_t (by omega) (ev_t (by omega) (Ev.bind (spec_lightAt w a _) (ev_t (by rw [lightsV_len]; omega) ?_)))
    rw [w_succ hi (by omega), ← lightsV_succ]
    exact ih
  · refine Ev.step (fun k => by rw [spec_LightsAt.l0]) ?_
    exact ev_f (by omega) (Ev.now _)
theorem impl_lightsAt {l : List S50} {p : List S85} (w : PW l p) (a : Int) : Ev (fun k => impl_LightsAt.f k l p a) (lightsV l p a l.length) := by
  have hl := w.hl
  unfold impl_LightsAt.f
  refine ev_for0 (F := fun k i => impl_LightsAt.l0 k l p a (lightsV l p a i) l (l.length : Int) (i : Int)) l.length (fun i hi ih => ?_) ?_
  · refine Ev.step (fun k => by rw [impl_LightsAt.l0]) ?_
    refine ev_t (by omega) (ev_t (by omega) (ev_t (by omega) (Ev.bind (impl_lightAt w a _) (ev_t (by rw [lightsV_len]; omega) ?_))))
    rw [w_succ hi (by omega), ← lightsV_succ]
    exact ih
  · refine Ev.step (fun k => by rw [impl_LightsAt.l0]) ?_
    exact ev_f (by omega) (Ev.now _)
end Go.Proofs.Ytjgonpcajedkjaa.U
