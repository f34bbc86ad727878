/- A list of wants in form: the program's way and the reference's. -/
import Derived.Test.YtjgonpcajedkjaaGreatFX00c
import Derived.Test.YtjgonpcajedkjaaGreatFX00d
import Derived.Test.YtjgonpcajedkjaaGreatUPaths
import Derived.Test.YtjgonpcajedkjaaGreatUFind
set_option linter.unusedVariables false
set_option linter.unusedSimpArgs false
namespace Go.Proofs.YtjgonpcajedkjaaGreat.U
open Go.RowKit Go.Proofs.YtjgonpcajedkjaaGreatW.PrintWords Go.Proofs.YtjgonpcajedkjaaGreatW.PrintLast Go.Proofs.YtjgonpcajedkjaaGreat.P
def wStep (l:List S58) (w:List S39) (i:Nat):Prop:=0≤impl_FindPath.ix (rd_T39 w (i:Int)).f0 l 0∧(0≤(rd_T39 w (i:Int)).f1∧(rd_T39 w (i:Int)).f1≤100000)∧(0 < i→(rd_T39 w ((i:Int) - 1)).f0 < (rd_T39 w (i:Int)).f0)
noncomputable def areW (l:List S58) (w:List S39):Bool:=bo (∀ i,i < w.length→wStep l w i) && areP l
theorem impl_areWants (l:List S58) (w:List S39) (h:l.length≤1048576) (hw:w.length≤1048577):Ev (fun k=>impl_AreWants.f k l w) (areW l w):=by
  unfold impl_AreWants.f
  refine Ev.bind (impl_arePaths l (by omega)) ?_
  cases hp:areP l with
  | false=>exact ev_f (by decide) (ev_now (by unfold areW;rw [hp,Bool.and_false]))
  | true =>
  refine ev_t rfl ?_
  unfold areW
  rw [hp]
  refine ev_all (F:=fun k i=>impl_AreWants.l0 k l w w (w.length:Int) (i:Int)) (wStep l w) w.length (fun i hi hp r ih=>?_) (fun i hi hp=>?_) (fun _=>?_)
  · obtain ⟨p1,p2,p3⟩:=hp
    refine Ev.step (fun k=>by rw [impl_AreWants.l0]) (ev_t (by omega) (ev_t (by omega) (ev_t (by omega) (ev_call (impl_findPath l _) (ev_f (Int.not_lt.2 p1) (ev_call (impl_InRange_eq _ _ _) (ev_t (decide_eq_true p2) ?_)))))))
    rw [w_succ hi (by omega)]
    refine ev_ite (fun h0=>?_) (fun _=>ih)
    have:=p3 (by omega)
    rw [w64 (n:=(i:Int) - 1) (by omega) (by omega)]
    exact ev_t (by omega) (ev_t (by omega) (ev_f (by omega) ih))
  · refine Ev.step (fun k=>by rw [impl_AreWants.l0]) (ev_t (by omega) (ev_t (by omega) (ev_t (by omega) (ev_call (impl_findPath l _) ?_))))
    refine ev_ite (fun h1=>Ev.now _) (fun h1=>ev_call (impl_InRange_eq _ _ _) (ev_ite (fun h2=>?_) (fun _=>Ev.now _)))
    have h2:=of_decide_eq_true h2
    have h0:0 < i:=by
      rcases Nat.eq_zero_or_pos i with e|e
      · exact absurd ⟨by omega,h2,fun h=>by omega⟩ hp
      · exact e
    have h3:¬ (rd_T39 w ((i:Int) - 1)).f0 < (rd_T39 w (i:Int)).f0:=fun h3=>hp ⟨by omega,h2,fun _=>h3⟩
    rw [w64 (n:=(i:Int) - 1) (by omega) (by omega)]
    exact ev_t (by omega) (ev_t (by omega) (ev_t (by omega) (ev_t (by omega) (Ev.now _))))
  · refine Ev.step (fun k=>by rw [impl_AreWants.l0]) ?_
    exact ev_f (by omega) (Ev.now _)
end Go.Proofs.YtjgonpcajedkjaaGreat.U
