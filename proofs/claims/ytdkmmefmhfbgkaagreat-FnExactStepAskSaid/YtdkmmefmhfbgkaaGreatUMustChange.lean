/- Must the stage change: the program's way and the reference's. -/
import Derived.Test.YtdkmmefmhfbgkaaGreatFX00b
import Derived.Test.YtdkmmefmhfbgkaaGreatFX00c
import Derived.Test.YtdkmmefmhfbgkaaGreatUNextStage
import Derived.Test.YtdkmmefmhfbgkaaGreatURd
set_option linter.unusedVariables false
set_option linter.unusedSimpArgs false
namespace Go.Proofs.YtdkmmefmhfbgkaaGreat.U
open Go.RowKit Go.Proofs.YtdkmmefmhfbgkaaGreatW.PrintWords Go.Proofs.YtdkmmefmhfbgkaaGreatW.PrintLast Go.Proofs.YtdkmmefmhfbgkaaGreat.P
def ownW (st:List Int) (w:List S92):Nat→Bool
  | 0=>false
  | i + 1=>ownW st w i || decide ((rd_T92 w (i:Int)).f0∈st)
theorem ownW_iff (st:List Int) (w:List S92):∀ n,ownW st w n=true↔∃ j:Nat,j < n∧(rd_T92 w (j:Int)).f0∈st
  | 0=>by simp [ownW]
  | n + 1=>by
    unfold ownW
    rw [Bool.or_eq_true,ownW_iff st w n,decide_eq_true_iff]
    constructor
    · rintro (⟨j,h1,h2⟩|h)
      · exact ⟨j,by omega,h2⟩
      · exact ⟨n,by omega,h⟩
    · rintro ⟨j,h1,h2⟩
      rcases Nat.lt_or_ge j n with h3|h3
      · exact .inl ⟨j,h3,h2⟩
      · obtain rfl:j=n:=by omega
        exact .inr h2
theorem ix_own (st:List Int) (w:List S92):decide (0≤impl_MustChange.ix st w 0)=ownW st w w.length:=by
  cases ho:ownW st w w.length with
  | true =>
    obtain ⟨j,h1,h2⟩:=(ownW_iff st w w.length).1 ho
    obtain ⟨m,hm,h3,h4⟩:=first_fail (P:=fun i=>(rd_T92 w (i:Int)).f0 ∉ st) w.length (fun hh=>hh j h1 h2)
    have h5:(rd_T92 w (m:Int)).f0∈st:=Classical.not_not.1 h3
    rw [impl_MustChange.ix_hit st w 0 m hm (fun i hi=>by
      have h6:=h4 i hi
      rw [impl_MustChange.rd_ w i (by omega)] at h6
      exact decide_eq_false h6) (by
      rw [impl_MustChange.rd_ w m hm] at h5
      exact decide_eq_true h5)]
    exact decide_eq_true (by omega)
  | false =>
    have hn:∀ j:Nat,j < w.length→(rd_T92 w (j:Int)).f0 ∉ st:=fun j hj hm=>by
      rw [(ownW_iff st w w.length).2 ⟨j,hj,hm⟩] at ho
      cases ho
    rw [impl_MustChange.ix_miss st w 0 (fun j hj=>by
      have h6:=hn j hj
      rw [impl_MustChange.rd_ w j hj] at h6
      exact decide_eq_false h6)]
    rfl
theorem mustChange_ex (l:List S69) (c:S50) (w:List S92) (h:l.length≤1048576) (h0:c.f0.length≤1048576) (h2:c.f2.length≤1048576) (hw:w.length≤1048576) :
    ∃ v:Bool,Ev (fun k=>spec_MustChange.f k l c.f0 c.f1 c.f2 c.f3 w) v∧Ev (fun k=>impl_MustChange.f k l c.f0 c.f1 c.f2 c.f3 w) v:=by
  unfold spec_MustChange.f impl_MustChange.f
  obtain ⟨a,s1,i1⟩:=canEnd_ex l c h h0 h2
  obtain ⟨s,_,s2,i2⟩:=nextStage_ex l c w h h0 h2 hw
  have run:∀ r,Ev (fun k=>spec_MustChange.l0 k l w (ownW c.f0 w w.length) (w.length:Int) c.f0 c.f1 c.f2 c.f3) r→Ev (fun k=>spec_MustChange.l0 k l w false 0 c.f0 c.f1 c.f2 c.f3) r:=by
    intro r hr
    refine ev_for0 (F:=fun k i=>spec_MustChange.l0 k l w (ownW c.f0 w i) (i:Int) c.f0 c.f1 c.f2 c.f3) w.length (fun i hi ih=>?_) hr
    refine Ev.step (fun k=>by rw [spec_MustChange.l0]) (ev_t (by omega) ?_)
    rw [w_succ hi (by omega)]
    unfold ownW at ih
    cases ho:ownW c.f0 w i with
    | true =>
      rw [ho,Bool.true_or] at ih
      exact ev_t rfl ih
    | false =>
      rw [ho,Bool.false_or] at ih
      exact ev_f (by decide) (ev_t (by omega) (Ev.bind (spec_has c.f0 _ (by omega)) ih))
  have ends:∀ r,Ev (fun k=>(spec_CanEnd.f k l c.f0 c.f1 c.f2 c.f3).bind fun t=>(if t=true then ((spec_NextStage.f k l c.f0 c.f1 c.f2 c.f3 w).bind fun u=>(if (u.length:Int) > 0 then (if ownW c.f0 w w.length=true then (some (decide (c.f1≥60))) else (some true)) else (some false))) else (some false))) r→Ev (fun k=>spec_MustChange.l0 k l w false 0 c.f0 c.f1 c.f2 c.f3) r :=
    fun r hr=>run r (Ev.step (fun k=>by rw [spec_MustChange.l0]) (ev_f (by omega) hr))
  cases a with
  | false=>exact ⟨false,ends _ (Ev.bind s1 (ev_f (by decide) (Ev.now _))),Ev.bind i1 (ev_f (by decide) (Ev.now _))⟩
  | true =>
    by_cases e:s.length=0
    · exact ⟨false,ends _ (Ev.bind s1 (ev_t rfl (Ev.bind s2 (ev_f (by omega) (Ev.now _))))),Ev.bind i1 (ev_t rfl (Ev.bind i2 (ev_t e (Ev.now _))))⟩
    · by_cases g:60≤c.f1
      · refine ⟨true,ends _ (Ev.bind s1 (ev_t rfl (Ev.bind s2 (ev_t (by omega) ?_)))),Ev.bind i1 (ev_t rfl (Ev.bind i2 (ev_f e (ev_t g (Ev.now _)))))⟩
        exact ev_ite (fun _=>ev_now (decide_eq_true g)) (fun _=>Ev.now _)
      · refine ⟨!ownW c.f0 w w.length,ends _ (Ev.bind s1 (ev_t rfl (Ev.bind s2 (ev_t (by omega) ?_)))),Ev.bind i1 (ev_t rfl (Ev.bind i2 (ev_f e (ev_f g (ev_now (by rw [ix_own]))))))⟩
        cases ho:ownW c.f0 w w.length with
        | true=>exact ev_t rfl (ev_now (decide_eq_false g))
        | false=>exact ev_f (by decide) (Ev.now _)
end Go.Proofs.YtdkmmefmhfbgkaaGreat.U
