/- A path and a list of paths in form: the program's way and the reference's. -/
import Derived.Test.YtjgonpcajedkjaaGreatFX00
import Derived.Test.YtjgonpcajedkjaaGreatFX00c
import Derived.Test.YtjgonpcajedkjaaGreatUBase
set_option linter.unusedVariables false
set_option linter.unusedSimpArgs false
namespace Go.Proofs.YtjgonpcajedkjaaGreat.U
open Go.RowKit Go.Proofs.YtjgonpcajedkjaaGreatW.PrintWords Go.Proofs.YtjgonpcajedkjaaGreatW.PrintLast Go.Proofs.YtjgonpcajedkjaaGreat.P
def isP (x:S58):Bool:=decide (1≤x.f0∧x.f0≤20) && (decide (1≤x.f1∧x.f1≤3) && (decide (0≤x.f2∧x.f2≤3) && (decide (0≤x.f3∧x.f3≤3) && ((x.f2 == x.f3) == (x.f1 == 2)))))
theorem spec_isPath (x:S58):spec_IsPath.f x.f0 x.f1 x.f2 x.f3=some (isP x):=by
  unfold spec_IsPath.f isP
  simp only [spec_l1In_eq,Option.bind_some]
  cases decide (1≤x.f0∧x.f0≤20) <;> cases decide (1≤x.f1∧x.f1≤3) <;> cases decide (0≤x.f2∧x.f2≤3) <;> cases decide (0≤x.f3∧x.f3≤3) <;> simp
theorem impl_isPath (x:S58):impl_IsPath.f x.f0 x.f1 x.f2 x.f3=some (isP x):=by
  unfold impl_IsPath.f isP
  simp only [impl_InRange_eq,Option.bind_some]
  cases decide (1≤x.f0∧x.f0≤20) <;> cases decide (1≤x.f1∧x.f1≤3) <;> cases decide (0≤x.f2∧x.f2≤3) <;> cases decide (0≤x.f3∧x.f3≤3) <;> simp
theorem isP_iff (x:S58):isP x=true↔(1≤x.f0∧x.f0≤20)∧(1≤x.f1∧x.f1≤3)∧(0≤x.f2∧x.f2≤3)∧(0≤x.f3∧x.f3≤3)∧(x.f2=x.f3↔x.f1=2):=by
  unfold isP
  simp only [Bool.and_eq_true,decide_eq_true_eq,beq_iff_eq]
  rw [Bool.eq_iff_iff,beq_iff_eq,beq_iff_eq]
/-- Path i is in form and stands after the one ahead of it. -/
def pStep (l:List S58) (i:Nat):Prop:=isP (rd_T58 l (i:Int))=true∧(0 < i→(rd_T58 l ((i:Int) - 1)).f0 < (rd_T58 l (i:Int)).f0)
noncomputable def areP (l:List S58):Bool:=bo (∀ i,i < l.length→pStep l i) && decide ((l.length:Int)≤12)
theorem areP_at {l:List S58} (h:areP l=true) (i:Nat) (hi:i < l.length):pStep l i:=by
  unfold areP at h
  simp only [Bool.and_eq_true] at h
  exact bo_iff.1 h.1 i hi
theorem spec_arePaths (l:List S58) (h:l.length≤9223372036854775807):Ev (fun k=>spec_ArePaths.f k l) (areP l):=by
  unfold spec_ArePaths.f areP
  refine ev_all (F:=fun k i=>spec_ArePaths.l0 k l (i:Int)) (pStep l) l.length (fun i hi hp r ih=>?_) (fun i hi hp=>?_) (fun _=>?_)
  · refine Ev.step (fun k=>by rw [spec_ArePaths.l0]) (ev_t (by omega) (ev_t (by omega) (ev_call (spec_isPath _) (ev_t hp.1 ?_))))
    rw [w_succ hi h]
    refine ev_ite (fun h0=>?_) (fun _=>ih)
    have:=hp.2 (by omega)
    rw [w64 (n:=(i:Int) - 1) (by omega) (by omega)]
    exact ev_t (by omega) (ev_t (by omega) (ev_f (by omega) ih))
  · refine Ev.step (fun k=>by rw [spec_ArePaths.l0]) (ev_t (by omega) (ev_t (by omega) (ev_call (spec_isPath _) ?_)))
    refine ev_ite (fun h1=>?_) (fun _=>Ev.now _)
    have h0:0 < i:=by
      rcases Nat.eq_zero_or_pos i with e|e
      · exact absurd ⟨h1,fun h=>by omega⟩ hp
      · exact e
    have h2:¬ (rd_T58 l ((i:Int) - 1)).f0 < (rd_T58 l (i:Int)).f0:=fun h2=>hp ⟨h1,fun _=>h2⟩
    rw [w64 (n:=(i:Int) - 1) (by omega) (by omega)]
    exact ev_t (by omega) (ev_t (by omega) (ev_t (by omega) (ev_t (by omega) (Ev.now _))))
  · refine Ev.step (fun k=>by rw [spec_ArePaths.l0]) ?_
    exact ev_f (by omega) (Ev.now _)
theorem impl_arePaths (l:List S58) (h:l.length≤9223372036854775807):Ev (fun k=>impl_ArePaths.f k l) (areP l):=by
  unfold impl_ArePaths.f
  by_cases hl:(l.length:Int) > 12
  · exact ev_t hl (ev_now (by unfold areP;rw [decide_eq_false (by omega),Bool.and_false]))
  refine ev_f hl ?_
  have e:areP l=(bo (∀ i,i < l.length→pStep l i) && true):=by unfold areP;rw [decide_eq_true (by omega)]
  rw [e]
  refine ev_all (F:=fun k i=>impl_ArePaths.l0 k l l (l.length:Int) (i:Int)) (pStep l) l.length (fun i hi hp r ih=>?_) (fun i hi hp=>?_) (fun _=>?_)
  · refine Ev.step (fun k=>by rw [impl_ArePaths.l0]) (ev_t (by omega) (ev_t (by omega) (ev_t (by omega) (ev_call (impl_isPath _) (ev_t hp.1 ?_)))))
    rw [w_succ hi h]
    refine ev_ite (fun h0=>?_) (fun _=>ih)
    have:=hp.2 (by omega)
    rw [w64 (n:=(i:Int) - 1) (by omega) (by omega)]
    exact ev_t (by omega) (ev_t (by omega) (ev_f (by omega) ih))
  · refine Ev.step (fun k=>by rw [impl_ArePaths.l0]) (ev_t (by omega) (ev_t (by omega) (ev_t (by omega) (ev_call (impl_isPath _) ?_))))
    refine ev_ite (fun h1=>?_) (fun _=>Ev.now _)
    have h0:0 < i:=by
      rcases Nat.eq_zero_or_pos i with e|e
      · exact absurd ⟨h1,fun h=>by omega⟩ hp
      · exact e
    have h2:¬ (rd_T58 l ((i:Int) - 1)).f0 < (rd_T58 l (i:Int)).f0:=fun h2=>hp ⟨h1,fun _=>h2⟩
    rw [w64 (n:=(i:Int) - 1) (by omega) (by omega)]
    exact ev_t (by omega) (ev_t (by omega) (ev_t (by omega) (ev_t (by omega) (Ev.now _))))
  · refine Ev.step (fun k=>by rw [impl_ArePaths.l0]) ?_
    exact ev_f (by omega) (Ev.now _)
end Go.Proofs.YtjgonpcajedkjaaGreat.U
