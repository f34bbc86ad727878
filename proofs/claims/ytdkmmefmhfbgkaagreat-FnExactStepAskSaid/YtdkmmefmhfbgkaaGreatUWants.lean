/- A list of wants in form: the program's way and the reference's. -/
import Derived.Test.YtdkmmefmhfbgkaaGreatFX00
import Derived.Test.YtdkmmefmhfbgkaaGreatFX00b
import Derived.Test.YtdkmmefmhfbgkaaGreatFX00c
import Derived.Test.YtdkmmefmhfbgkaaGreatUPaths
import Derived.Test.YtdkmmefmhfbgkaaGreatUFind
set_option linter.unusedVariables false
set_option linter.unusedSimpArgs false
namespace Go.Proofs.YtdkmmefmhfbgkaaGreat.U
open Go.RowKit Go.Proofs.YtdkmmefmhfbgkaaGreatW.PrintWords Go.Proofs.YtdkmmefmhfbgkaaGreatW.PrintLast Go.Proofs.YtdkmmefmhfbgkaaGreat.P
def wStep (l:List S69) (w:List S92) (i:Nat):Prop:=0≤impl_FindPath.ix (rd_T92 w (i:Int)).f0 l 0∧(0≤(rd_T92 w (i:Int)).f1∧(rd_T92 w (i:Int)).f1≤100000)∧(0 < i→(rd_T92 w ((i:Int) - 1)).f0 < (rd_T92 w (i:Int)).f0)
noncomputable def areW (l:List S69) (w:List S92):Bool:=bo (∀ i,i < w.length→wStep l w i) && areP l
theorem spec_areWants (l:List S69) (w:List S92) (h:l.length≤1048576) (hw:w.length≤1048577):Ev (fun k=>spec_AreWants.f k l w) (areW l w):=by
  unfold spec_AreWants.f areW
  refine ev_all (F:=fun k i=>spec_AreWants.l0 k l w (i:Int)) (wStep l w) w.length (fun i hi hp r ih=>?_) (fun i hi hp=>?_) (fun _=>?_)
  · obtain ⟨p1,p2,p3⟩:=hp
    refine Ev.step (fun k=>by rw [spec_AreWants.l0]) (ev_t (by omega) (ev_t (by omega) (Ev.bind (spec_findPath l _ (by omega)) (ev_f (Int.not_lt.2 p1) (ev_call (spec_l1In_eq _ _ _) (ev_t (decide_eq_true p2) ?_))))))
    rw [w_succ hi (by omega)]
    refine ev_ite (fun h0=>?_) (fun _=>ih)
    have:=p3 (by omega)
    rw [w64 (n:=(i:Int) - 1) (by omega) (by omega)]
    exact ev_t (by omega) (ev_t (by omega) (ev_f (by omega) ih))
  · refine Ev.step (fun k=>by rw [spec_AreWants.l0]) (ev_t (by omega) (ev_t (by omega) (Ev.bind (spec_findPath l _ (by omega)) ?_)))
    refine ev_ite (fun h1=>Ev.now _) (fun h1=>ev_call (spec_l1In_eq _ _ _) (ev_ite (fun h2=>?_) (fun _=>Ev.now _)))
    have h2:=of_decide_eq_true h2
    have h0:0 < i:=by
      rcases Nat.eq_zero_or_pos i with e|e
      · exact absurd ⟨by omega,h2,fun h=>by omega⟩ hp
      · exact e
    have h3:¬ (rd_T92 w ((i:Int) - 1)).f0 < (rd_T92 w (i:Int)).f0:=fun h3=>hp ⟨by omega,h2,fun _=>h3⟩
    rw [w64 (n:=(i:Int) - 1) (by omega) (by omega)]
    exact ev_t (by omega) (ev_t (by omega) (ev_t (by omega) (ev_t (by omega) (Ev.now _))))
  · refine Ev.step (fun k=>by rw [spec_AreWants.l0]) ?_
    exact ev_f (by omega) (Ev.bind (spec_arePaths l (by omega)) (Ev.now _))
theorem impl_areWants (l:List S69) (w:List S92) (h:l.length≤1048576) (hw:w.length≤1048577):Ev (fun k=>impl_AreWants.f k l w) (areW l w):=by
  unfold impl_AreWants.f
  refine Ev.bind (impl_arePaths l (by omega)) ?_
  cases hp:areP l with
  | false=>exact ev_f (by decide) (ev_now (by unfold areW;rw [hp,Bool.and_false]))
  | true =>
  refine ev_t rfl ?_
  unfold areW
  rw [hp]
  refine ev_all (F:=fun k i=>impl_AreWants.l0 k l w w (w.length:Int) (i:Int)) (wStep l w) w.length (fun i hi hp r ih=>?_) (fun i hi hp=>?_) (fun _=>?_)
  · obtain ⟨p1,p2,p3⟩:=hp
    refine Ev.step (fun k=>by rw [impl_AreWants.l0]) (ev_t (by omega) (ev_t (by omega) (ev_t (by omega) (ev_call (impl_findPath l _) (ev_f (Int.not_lt.2 p1) (ev_call (impl_InRange_eq _ _ _) (ev_t (decide_eq_true p2) ?_)))))))
    rw [w_succ hi (by omega)]
    refine ev_ite (fun h0=>?_) (fun _=>ih)
    have:=p3 (by omega)
    rw [w64 (n:=(i:Int) - 1) (by omega) (by omega)]
    exact ev_t (by omega) (ev_t (by omega) (ev_f (by omega) ih))
  · refine Ev.step (fun k=>by rw [impl_AreWants.l0]) (ev_t (by omega) (ev_t (by omega) (ev_t (by omega) (ev_call (impl_findPath l _) ?_))))
    refine ev_ite (fun h1=>Ev.now _) (fun h1=>ev_call (impl_InRange_eq _ _ _) (ev_ite (fun h2=>?_) (fun _=>Ev.now _)))
    have h2:=of_decide_eq_true h2
    have h0:0 < i:=by
      rcases Nat.eq_zero_or_pos i with e|e
      · exact absurd ⟨by omega,h2,fun h=>by omega⟩ hp
      · exact e
    have h3:¬ (rd_T92 w ((i:Int) - 1)).f0 < (rd_T92 w (i:Int)).f0:=fun h3=>hp ⟨by omega,h2,fun _=>h3⟩
    rw [w64 (n:=(i:Int) - 1) (by omega) (by omega)]
    exact ev_t (by omega) (ev_t (by omega) (ev_t (by omega) (ev_t (by omega) (Ev.now _))))
  · refine Ev.step (fun k=>by rw [impl_AreWants.l0]) ?_
    exact ev_f (by omega) (Ev.now _)
end Go.Proofs.YtdkmmefmhfbgkaaGreat.U
