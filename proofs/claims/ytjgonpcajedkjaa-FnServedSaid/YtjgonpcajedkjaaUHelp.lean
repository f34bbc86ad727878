/- What the laws' own helpers come to: is a number in a list, do the numbers ascend. -/
import Derived.Test.YtjgonpcajedkjaaFX00d
import Derived.Test.YtjgonpcajedkjaaUBase
import Derived.Test.YtjgonpcajedkjaaUHas
set_option linter.unusedVariables false
set_option linter.unusedSimpArgs false
namespace Go.Proofs.Ytjgonpcajedkjaa.U
open Go.RowKit Go.Proofs.YtjgonpcajedkjaaW.PrintWords Go.Proofs.YtjgonpcajedkjaaW.PrintLast Go.Proofs.Ytjgonpcajedkjaa.P
theorem laws_ascends_eq (l : List Int) (h : l.length ≤ 1048576) (ha : ∀ i : Nat, i + 1 < l.length → rd l (i : Int) < rd l ((i + 1 : Nat) : Int)) : Ev (fun k => laws_ascends.f k l) true := by
  unfold laws_ascends.f
  have run : ∀ d i : Nat, i + d = l.length → Ev (fun k => laws_ascends.l0 k l ((i + 1 : Nat) : Int)) true := by
    intro d
    induction d with
    | zero => exact fun i hi => Ev.step (fun k => by rw [laws_ascends.l0]) (ev_f (by omega) (Ev.now _))
    | succ d ih =>
      intro i hi
      by_cases c : i + 1 < l.length
      · have h1 := ha i c
        have e : wrap64 (((i + 1 : Nat) : Int) - 1) = (i : Int) := by rw [w64 (by omega) (by omega)]; omega
        refine Ev.step (fun k => by rw [laws_ascends.l0, e]) (ev_t (by omega) (ev_t (by omega) (ev_t (by omega) (ev_t (by omega) (ev_f (by omega) ?_)))))
        rw [w_succ (i := i + 1) (n := l.length) c (by omega)]
        exact ih (i + 1) (by omega)
      · exact Ev.step (fun k => by rw [laws_ascends.l0]) (ev_f (by omega) (Ev.now _))
  exact run l.length 0 (by omega)
end Go.Proofs.Ytjgonpcajedkjaa.U
