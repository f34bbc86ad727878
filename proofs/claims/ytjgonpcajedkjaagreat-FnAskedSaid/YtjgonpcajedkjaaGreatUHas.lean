/- Is a number in a list: the program's way and the reference's. -/
import Derived.Test.YtjgonpcajedkjaaGreatFX00
import Derived.Test.YtjgonpcajedkjaaGreatFX00c
import Derived.Test.YtjgonpcajedkjaaGreatEv
set_option linter.unusedVariables false
set_option linter.unusedSimpArgs false
namespace Go.Proofs.YtjgonpcajedkjaaGreat.U
open Go.RowKit Go.Proofs.YtjgonpcajedkjaaGreatW.PrintWords Go.Proofs.YtjgonpcajedkjaaGreatW.PrintLast Go.Proofs.YtjgonpcajedkjaaGreat.P
theorem mem_rd {l:List Int} {x:Int}:x∈l↔∃ i,i < l.length∧rd l (i:Int)=x :=
  ⟨fun h=>by
    obtain ⟨i,hi,e⟩:=List.getElem_of_mem h
    exact ⟨i,hi,by rw [rd_at l i hi];exact e⟩,fun ⟨i,hi,e⟩=>by
    rw [rd_at l i hi] at e
    exact e ▸ List.getElem_mem hi⟩
theorem mem_first {l:List Int} {x:Int} (h:x∈l):∃ m,m < l.length∧rd l (m:Int)=x∧∀ i,i < m→rd l (i:Int)≠x:=by
  obtain ⟨m,hm,h1,h2⟩:=first_fail (P:=fun i=>rd l (i:Int)≠x) l.length (fun hh=>by
    obtain ⟨i,hi,e⟩:=mem_rd.1 h
    exact hh i hi e)
  exact ⟨m,hm,Classical.not_not.1 h1,h2⟩
theorem spec_has (l:List Int) (x:Int) (h:l.length≤9223372036854775807):Ev (fun k=>spec_l6Has.f k l x) (decide (x∈l)):=by
  unfold spec_l6Has.f
  by_cases hx:x∈l
  · rw [decide_eq_true hx]
    obtain ⟨m,hm,h1,h2⟩:=mem_first hx
    refine ev_for0 (F:=fun k i=>spec_l6Has.l0 k l x (i:Int)) m (fun i hi ih=>?_) ?_
    · have h3:=h2 i hi
      refine Ev.step (fun k=>by rw [spec_l6Has.l0]) (ev_t (by omega) (ev_t (by omega) ?_))
      rw [w_succ (n:=l.length) (by omega) h]
      exact ev_f h3 ih
    · refine Ev.step (fun k=>by rw [spec_l6Has.l0]) (ev_t (by omega) (ev_t (by omega) ?_))
      exact ev_t h1 (Ev.now _)
  · rw [decide_eq_false hx]
    refine ev_for0 (F:=fun k i=>spec_l6Has.l0 k l x (i:Int)) l.length (fun i hi ih=>?_) ?_
    · refine Ev.step (fun k=>by rw [spec_l6Has.l0]) (ev_t (by omega) (ev_t (by omega) ?_))
      rw [w_succ hi h]
      exact ev_f (fun e=>hx (mem_rd.2 ⟨i,hi,e⟩)) ih
    · refine Ev.step (fun k=>by rw [spec_l6Has.l0]) ?_
      exact ev_f (by omega) (Ev.now _)
theorem slices_index (l:List Int) (x:Int) (h:l.length≤9223372036854775807):∃ j:Int,(0≤j↔x∈l)∧Ev (fun k=>slices_Index_int_int.f k l x) j:=by
  unfold slices_Index_int_int.f
  by_cases hx:x∈l
  · obtain ⟨m,hm,h1,h2⟩:=mem_first hx
    refine ⟨m,⟨fun _=>hx,fun _=>by omega⟩,ev_for0 (F:=fun k i=>slices_Index_int_int.l0 k l x (l.length:Int) (i:Int)) m (fun i hi ih=>?_) ?_⟩
    · have h3:=h2 i hi
      refine Ev.step (fun k=>by rw [slices_Index_int_int.l0]) (ev_t (by omega) (ev_t (by omega) (ev_t (by omega) ?_)))
      rw [w_succ (n:=l.length) (by omega) h]
      exact ev_f (fun e=>h3 e.symm) ih
    · refine Ev.step (fun k=>by rw [slices_Index_int_int.l0]) (ev_t (by omega) (ev_t (by omega) (ev_t (by omega) ?_)))
      exact ev_t h1.symm (Ev.now _)
  · refine ⟨-1,⟨fun hh=>absurd hh (by omega),fun hh=>absurd hh hx⟩,ev_for0 (F:=fun k i=>slices_Index_int_int.l0 k l x (l.length:Int) (i:Int)) l.length (fun i hi ih=>?_) ?_⟩
    · refine Ev.step (fun k=>by rw [slices_Index_int_int.l0]) (ev_t (by omega) (ev_t (by omega) (ev_t (by omega) ?_)))
      rw [w_succ hi h]
      exact ev_f (fun e=>hx (mem_rd.2 ⟨i,hi,e.symm⟩)) ih
    · refine Ev.step (fun k=>by rw [slices_Index_int_int.l0]) ?_
      exact ev_f (by omega) (Ev.now _)
theorem slices_contains (l:List Int) (x:Int) (h:l.length≤9223372036854775807):Ev (fun k=>slices_Contains_int_int.f k l x) (decide (x∈l)):=by
  unfold slices_Contains_int_int.f
  obtain ⟨j,hj,he⟩:=slices_index l x h
  exact Ev.bind he (ev_now (decide_eq_decide.2 hj))
end Go.Proofs.YtjgonpcajedkjaaGreat.U
