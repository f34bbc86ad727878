/- The lights under a controller, and what asking and ticking leave of one: told as values. -/
import Derived.Test.YtjgonpcajedkjaaGreatFX00e
import Derived.Test.YtjgonpcajedkjaaGreatUAsk
import Derived.Test.YtjgonpcajedkjaaGreatURd
set_option linter.unusedVariables false
set_option linter.unusedSimpArgs false
namespace Go.Proofs.YtjgonpcajedkjaaGreat.U
open Go.RowKit Go.Proofs.YtjgonpcajedkjaaGreatW.PrintWords Go.Proofs.YtjgonpcajedkjaaGreatW.PrintLast Go.Proofs.YtjgonpcajedkjaaGreat.P
theorem impl_lgts {l:List S58} {c:S27} (w:CW l c) (h:ctl l c=true):Ev (fun k=>impl_LightsOf.f k l c.f0 c.f1 c.f2 c.f3) (lgts l c l.length):=by
  have hl:=w.hl
  have h0:=w.h0
  have h2:=w.h2
  have a2:=impl_ctl w
  unfold impl_LightsOf.f
  refine ev_some (Ev.bind a2 (ev_t h ?_))
  refine ev_for0 (F:=fun k i=>impl_LightsOf.l0 k (lgts l c i) l (l.length:Int) (i:Int) c.f0 c.f1 c.f2 c.f3) l.length (fun i hi ih=>?_) ?_
  · have hlt:=lgts_lt l c (n:=i) (by omega)
    refine Ev.step (fun k=>by rw [impl_LightsOf.l0]) (ev_t (by omega) (ev_t (by omega) (ev_t (by omega) (Ev.bind (slices_contains c.f0 _ (by omega)) ?_))))
    rw [w_succ hi (by omega)]
    rw [lgts_succ] at ih
    unfold lgt at ih
    by_cases m0:(rd_T58 l (i:Int)).f0∈c.f0
    · rw [if_pos m0] at ih
      refine ev_dt m0 ?_
      by_cases e2:(c.f2.length:Int) > 0
      · rw [if_pos e2] at ih
        refine ev_t e2 (Ev.bind (slices_contains c.f2 _ (by omega)) ?_)
        by_cases m2:(rd_T58 l (i:Int)).f0∈c.f2
        · rw [if_pos m2] at ih
          exact ev_dt m2 (ev_t hlt ih)
        · rw [if_neg m2] at ih
          exact ev_df m2 (ev_t hlt ih)
      · rw [if_neg e2] at ih
        exact ev_f e2 (ev_t hlt ih)
    · rw [if_neg m0] at ih
      exact ev_df m0 (ev_t hlt ih)
  · refine Ev.step (fun k=>by rw [impl_LightsOf.l0]) ?_
    exact ev_f (by omega) (Ev.now _)
theorem tog_nil {l:List S58} {s:List Int} (h:togeth l s=true):togeth l []=true:=by
  unfold togeth at h ⊢
  rw [Bool.and_eq_true] at h ⊢
  exact ⟨bo_t (fun i hi=>by simp at hi),h.2⟩
theorem tick_ctl {l:List S58} {c:S27} (h:ctl l c=true):ctl l ⟨(tickV l c).1,(tickV l c).2.1,(tickV l c).2.2.1,(tickV l c).2.2.2⟩=true:=by
  obtain ⟨p0,t0,t2,r,q1,q2⟩:=ctl_iff.1 h
  refine ctl_iff.2 ?_
  by_cases e2:(c.f2.length:Int)=0
  · rw [tickV_on h e2]
    exact ⟨p0,t0,t2,by show 0≤min 1000000 (c.f1 + 1)∧min 1000000 (c.f1 + 1)≤1000000;omega,q1,q2⟩
  · have q3:=q2 e2
    by_cases e3:c.f3=1
    · rw [tickV_end h e2 e3]
      exact ⟨e2,t2,tog_nil t2,by show (0:Int)≤0∧(0:Int)≤1000000;decide,fun _=>rfl,fun n=>absurd rfl n⟩
    · rw [tickV_more h e2 e3]
      exact ⟨p0,t0,t2,r,fun n=>absurd n e2,fun _=>by show 1≤c.f3 - 1∧c.f3 - 1≤clearB l c.f0 c.f2;omega⟩
theorem ask_ctl {l:List S58} {c:S27} (s:List Int) (h:ctl l c=true):ctl l ⟨(askV l c s).1,(askV l c s).2.1,(askV l c s).2.2.1,(askV l c s).2.2.2.1⟩=true:=by
  by_cases p:askP l c s
  · have p':=p
    obtain ⟨_,n,tg,_⟩:=p
    obtain ⟨p0,t0,_,r,_,_⟩:=ctl_iff.1 h
    by_cases z:clearB l c.f0 s=0
    · rw [askV_0 p' z]
      exact ctl_iff.2 ⟨n,tg,tog_nil tg,by show (0:Int)≤0∧(0:Int)≤1000000;decide,fun _=>rfl,fun hh=>absurd rfl hh⟩
    · rw [askV_n p' z]
      have cb:=clearB_bound l c.f0 s
      exact ctl_iff.2 ⟨p0,t0,tg,r,fun hh=>absurd hh n,fun _=>by show 1≤clearB l c.f0 s∧clearB l c.f0 s≤clearB l c.f0 s;omega⟩
  · rw [askV_f p]
    exact h
end Go.Proofs.YtjgonpcajedkjaaGreat.U
