/- A control's form, its end, its lights and its tick, told as values: the program's way and the reference's. -/
import Derived.Test.YtjgonpcajedkjaaGreatFX00b
import Derived.Test.YtjgonpcajedkjaaGreatFX00d
import Derived.Test.YtjgonpcajedkjaaGreatUControl
set_option linter.unusedVariables false
set_option linter.unusedSimpArgs false
namespace Go.Proofs.YtjgonpcajedkjaaGreat.U
open Go.RowKit Go.Proofs.YtjgonpcajedkjaaGreatW.PrintWords Go.Proofs.YtjgonpcajedkjaaGreatW.PrintLast Go.Proofs.YtjgonpcajedkjaaGreat.P
theorem ev_uniq {α:Type} {f:Nat→Option α} {a b:α} (h1:Ev f a) (h2:Ev f b):a=b:=by
  obtain ⟨k1,h1⟩:=h1
  obtain ⟨k2,h2⟩:=h2
  have e1:=h1 (k1 + k2) (by omega)
  have e2:=h2 (k1 + k2) (by omega)
  rw [e1] at e2
  exact Option.some.inj e2
/-- Controls of a size that fits. -/
structure CW (l:List S58) (c:S27):Prop where
  hl:l.length≤1048576
  h0:c.f0.length≤1048576
  h2:c.f2.length≤1048576
def ctlP (l:List S58) (c:S27):Prop:=(c.f0.length:Int)≠0∧togeth l c.f0=true∧togeth l c.f2=true∧(0≤c.f1∧c.f1≤1000000)∧((c.f2.length:Int)=0→c.f3=0)∧(¬ (c.f2.length:Int)=0→1≤c.f3∧c.f3≤clearB l c.f0 c.f2)
noncomputable def ctl (l:List S58) (c:S27):Bool:=bo (ctlP l c)
theorem spec_ctl {l:List S58} {c:S27} (w:CW l c):Ev (fun k=>spec_IsControl.f k l c.f0 c.f1 c.f2 c.f3) (ctl l c):=by
  obtain ⟨h,h0,h2⟩:=w
  have st:Ev (fun k=>spec_IsControl.j0 k l true c.f0 c.f1 c.f2 c.f3) false:=Ev.step (fun k=>by rw [spec_IsControl.j0]) (ev_t rfl (Ev.now _))
  have s0:=spec_isTogether l c.f0 (by omega) (by omega)
  have s2:=spec_isTogether l c.f2 (by omega) (by omega)
  unfold spec_IsControl.f ctl
  by_cases e0:(c.f0.length:Int)=0
  · rw [bo_f (fun hh=>hh.1 e0)]
    exact ev_t e0 st
  · refine ev_f e0 (Ev.bind s0 ?_)
    by_cases t0:togeth l c.f0=true
    · refine ev_t t0 (Ev.bind s2 ?_)
      by_cases t2:togeth l c.f2=true
      · refine ev_t t2 (ev_call (spec_l1In_eq _ _ _) ?_)
        by_cases r:0≤c.f1∧c.f1≤1000000
        · rw [decide_eq_true r]
          refine Ev.step (fun k=>by rw [spec_IsControl.j0]) ?_
          refine ev_f (by decide) ?_
          by_cases e2:(c.f2.length:Int)=0
          · refine ev_t e2 (ev_now ?_)
            by_cases e3:c.f3=0
            · rw [bo_t (show ctlP l c from ⟨e0,t0,t2,r,fun _=>e3,fun n=>absurd e2 n⟩)];simp [e3]
            · rw [bo_f (fun hh=>e3 (hh.2.2.2.2.1 e2))];simp [e3]
          · refine ev_f e2 (Ev.bind (spec_clearBetween l c.f0 c.f2 h h0 h2) (ev_call (spec_l1In_eq _ _ _) (ev_now ?_)))
            by_cases e3:1≤c.f3∧c.f3≤clearB l c.f0 c.f2
            · rw [bo_t (show ctlP l c from ⟨e0,t0,t2,r,fun n=>absurd n e2,fun _=>e3⟩),decide_eq_true e3]
            · rw [bo_f (fun hh=>e3 (hh.2.2.2.2.2 e2)),decide_eq_false e3]
        · rw [decide_eq_false r,bo_f (fun hh=>r hh.2.2.2.1)]
          exact st
      · rw [bo_f (fun hh=>t2 hh.2.2.1)]
        exact ev_f t2 st
    · rw [bo_f (fun hh=>t0 hh.2.1)]
      exact ev_f t0 st
theorem impl_ctl {l:List S58} {c:S27} (w:CW l c):Ev (fun k=>impl_IsControl.f k l c.f0 c.f1 c.f2 c.f3) (ctl l c):=by
  obtain ⟨v,a1,a2⟩:=control_ex l c w.hl w.h0 w.h2
  rw [← ev_uniq a1 (spec_ctl w)]
  exact a2
theorem ctl_iff {l:List S58} {c:S27}:ctl l c=true↔ctlP l c:=bo_iff
noncomputable def endV (l:List S58) (c:S27):Bool:=bo (ctl l c=true∧(c.f2.length:Int)=0∧c.f1≥leastG l c.f0)
theorem spec_end {l:List S58} {c:S27} (w:CW l c):Ev (fun k=>spec_CanEnd.f k l c.f0 c.f1 c.f2 c.f3) (endV l c):=by
  have hl:=w.hl
  have h0:=w.h0
  unfold spec_CanEnd.f endV
  refine Ev.bind (spec_ctl w) ?_
  by_cases hv:ctl l c=true
  · refine ev_t hv ?_
    by_cases e2:(c.f2.length:Int)=0
    · refine ev_t e2 (Ev.bind (spec_leastGreen l c.f0 (by omega) (by omega)) (ev_now ?_))
      by_cases g:c.f1≥leastG l c.f0
      · rw [bo_t ⟨hv,e2,g⟩,decide_eq_true g]
      · rw [bo_f (fun hh=>g hh.2.2),decide_eq_false g]
    · rw [bo_f (fun hh=>e2 hh.2.1)]
      exact ev_f e2 (Ev.now _)
  · rw [bo_f (fun hh=>hv hh.1)]
    exact ev_f hv (Ev.now _)
theorem impl_end {l:List S58} {c:S27} (w:CW l c):Ev (fun k=>impl_CanEnd.f k l c.f0 c.f1 c.f2 c.f3) (endV l c):=by
  obtain ⟨v,a1,a2⟩:=canEnd_ex l c w.hl w.h0 w.h2
  rw [← ev_uniq a1 (spec_end w)]
  exact a2
end Go.Proofs.YtjgonpcajedkjaaGreat.U
