/- What the laws' own helpers come to: is a number in a list, do the numbers ascend. -/
import Derived.Test.YtjgonpcajedkjaaGreatFX00e
import Derived.Test.YtjgonpcajedkjaaGreatUBase
import Derived.Test.YtjgonpcajedkjaaGreatUHas
set_option linter.unusedVariables false
set_option linter.unusedSimpArgs false
namespace Go.Proofs.YtjgonpcajedkjaaGreat.U
open Go.RowKit Go.Proofs.YtjgonpcajedkjaaGreatW.PrintWords Go.Proofs.YtjgonpcajedkjaaGreatW.PrintLast Go.Proofs.YtjgonpcajedkjaaGreat.P
theorem laws_contains_eq (l:List Int) (x:Int) (h:l.length≤9223372036854775807):Ev (fun k=>laws_contains.f k l x) (decide (x∈l)):=by
  unfold laws_contains.f
  by_cases hx:x∈l
  · rw [decide_eq_true hx]
    obtain ⟨m,hm,h1,h2⟩:=mem_first hx
    refine ev_for0 (F:=fun k i=>laws_contains.l0 k l x (i:Int)) m (fun i hi ih=>?_) ?_
    · have h3:=h2 i hi
      refine Ev.step (fun k=>by rw [laws_contains.l0]) (ev_t (by omega) (ev_t (by omega) ?_))
      rw [w_succ (n:=l.length) (by omega) h]
      exact ev_f h3 ih
    · refine Ev.step (fun k=>by rw [laws_contains.l0]) (ev_t (by omega) (ev_t (by omega) ?_))
      exact ev_t h1 (Ev.now _)
  · rw [decide_eq_false hx]
    refine ev_for0 (F:=fun k i=>laws_contains.l0 k l x (i:Int)) l.length (fun i hi ih=>?_) ?_
    · refine Ev.step (fun k=>by rw [laws_contains.l0]) (ev_t (by omega) (ev_t (by omega) ?_))
      rw [w_succ hi h]
      exact ev_f (fun e=>hx (mem_rd.2 ⟨i,hi,e⟩)) ih
    · refine Ev.step (fun k=>by rw [laws_contains.l0]) ?_
      exact ev_f (by omega) (Ev.now _)
end Go.Proofs.YtjgonpcajedkjaaGreat.U
