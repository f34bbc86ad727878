/- FnExactStepAsk, the pure side: the program's StepAsk and the reference's are one function. -/
import Derived.Test.YtdkmmefmhfbgkaaGreatFX00e
import Derived.Test.YtdkmmefmhfbgkaaGreatUStepAsk
import Derived.Test.YtdkmmefmhfbgkaaGreatUCMark
import Derived.Test.YtdkmmefmhfbgkaaGreatUWMark
import Derived.Test.YtdkmmefmhfbgkaaGreatULInt
import Derived.Test.YtdkmmefmhfbgkaaGreatULPath
import Derived.Test.YtdkmmefmhfbgkaaGreatULControl
import Derived.Test.YtdkmmefmhfbgkaaGreatULWant
import Derived.Test.YtdkmmefmhfbgkaaGreatUMPath
import Derived.Test.YtdkmmefmhfbgkaaGreatUMInt
import Derived.Test.YtdkmmefmhfbgkaaGreatArgs
set_option linter.unusedVariables false
set_option linter.unusedSimpArgs false
namespace Go.Proofs.YtdkmmefmhfbgkaaGreat.U
open Go.RowKit Go.Proofs.YtdkmmefmhfbgkaaGreatW.PrintWords Go.Proofs.YtdkmmefmhfbgkaaGreatW.PrintLast Go.Proofs.YtdkmmefmhfbgkaaGreat.P Go.Proofs.YtdkmmefmhfbgkaaGreat.Open
theorem FnExactStepAsk:∀ (x0:List (S71)) (x1:S46) (x2:List (S95)),(okL okS71) x0→okS46 x1→(okL okS95) x2→∃ k,laws_FnExactStepAsk.f k x0 x1.f0 x1.f1 x1.f2 x1.f3 x2=some true:=by
  intro l c w hok hc hokw
  refine ev_rounds ?_
  unfold laws_FnExactStepAsk.f
  have q0:c.f0.length≤9223372036854775807:=by simpa [maxLen] using hc.1.1
  have q2:c.f2.length≤9223372036854775807:=by simpa [maxLen] using hc.2.2.1.1
  refine ev_call (szPathS l 1048576 (by omega) (by omega) (by simpa [maxLen] using hok.1)) ?_
  by_cases h1:(l.length:Int)≤1048576
  · rw [if_pos h1]
    refine ev_f (by omega) (ev_call (szControl c _ (by omega) (by omega) q0 q2) ?_)
    by_cases h2:(szC c:Int)≤1048576 - (l.length:Int)
    · rw [if_pos h2]
      refine ev_f (by omega) (ev_call (szWantS w _ (by omega) (by omega) (by simpa [maxLen] using hokw.1)) ?_)
      by_cases h4:(w.length:Int)≤1048576 - (l.length:Int) - (szC c:Int)
      · rw [if_pos h4]
        have h0:c.f0.length≤1048576:=by unfold szC at h2;omega
        have h3:c.f2.length≤1048576:=by unfold szC at h2;omega
        have h5:l.length + c.f0.length≤1048576:=by unfold szC at h2;omega
        have tl:=toPathS l (by omega)
        have tc:=toControl c h0 h3
        have tw:=toWantS w (by omega)
        have m1:(l.map cPath).length=l.length:=List.length_map ..
        have m2:(w.map cWant).length=w.length:=List.length_map ..
        generalize l.map cPath=p at tl m1
        generalize w.map cWant=q at tw m2
        obtain ⟨y,v,wy,hv,a1,a2,_⟩:=step_ex (l:=p) (c:=cControl c) ⟨by omega,h0,h3⟩ q (by omega) (show p.length + c.f0.length≤1048576 by omega)
        have y0:=wy.h0
        have y2:=wy.h2
        have eC:=eqControl y (by omega) (by omega)
        have eW:=eqWantS v (by omega)
        obtain ⟨y1,_,em1⟩:=markPathS p 1 (by omega) (by omega) (by omega)
        have emc:=markC c.f0 c.f1 c.f2 c.f3 (1 + 4 * p.length) (by omega) (by omega) h0 h3
        have em4:=markWantV q (1 + 4 * p.length + c.f0.length + c.f2.length) (by omega) (by omega) (by omega)
        have mc:=markC y.f0 y.f1 y.f2 y.f3 1 (by omega) (by omega) y0 y2
        have hc':=heldC y.f0 y.f1 y.f2 y.f3 1 (by omega) (by omega) y0 y2
        have mw:=markWantV v (1 + y.f0.length + y.f2.length) (by omega) (by omega) (by omega)
        have hw':=heldWantV v.length (1 + y.f0.length + y.f2.length) (by omega) (by omega) (by omega)
        refine ev_f (by omega) (Ev.bind tl (Ev.bind tc (Ev.bind tw (Ev.bind a1 (Ev.bind tl (Ev.bind tc (Ev.bind tw (Ev.bind a2 (Ev.bind eC (ev_t rfl (Ev.bind eW ?_)))))))))))
        refine Ev.step (fun k=>by rw [laws_FnExactStepAsk.j0]) (ev_f (by simp) ?_)
        refine Ev.bind tl (Ev.bind (eqPathS p (by omega)) (ev_t rfl (Ev.bind tc (Ev.bind (eqControl (cControl c) (show c.f0.length≤_ by omega) (show c.f2.length≤_ by omega)) (ev_t rfl (Ev.bind tw (Ev.bind (eqWantS q (by omega)) (ev_t rfl ?_))))))))
        refine Ev.bind em1 (Ev.bind emc (Ev.bind em4 (ev_f (by show ¬ (1 + 4 * (p.length:Int) + c.f0.length + c.f2.length + 2 * (q.length:Int) < 0);omega) (Ev.bind eC (ev_t rfl (Ev.bind eW ?_))))))
        refine Ev.step (fun k=>by rw [laws_FnExactStepAsk.j1]) (ev_f (by simp) ?_)
        refine Ev.bind mc (Ev.bind mw (Ev.bind hc' (ev_f (by show ¬ (1 + (y.f0.length:Int) + y.f2.length < 0);omega) (Ev.bind hw' (ev_f (by omega) (ev_t rfl (Ev.bind tl (Ev.bind tc (Ev.bind tw (Ev.bind a2 (Ev.bind eC (ev_t rfl (Ev.bind eW ?_)))))))))))))
        refine Ev.step (fun k=>by rw [laws_FnExactStepAsk.j2]) (ev_f (by simp) ?_)
        exact Ev.bind hc' (ev_f (by show ¬ (1 + (y.f0.length:Int) + y.f2.length < 0);omega) (Ev.bind hw' (ev_f (by omega) (ev_t rfl (Ev.now _)))))
      · rw [if_neg h4]
        exact ev_t (by omega) (Ev.now _)
    · rw [if_neg h2]
      exact ev_t (by omega) (Ev.now _)
  · rw [if_neg h1]
    exact ev_t (by omega) (Ev.now _)
end Go.Proofs.YtdkmmefmhfbgkaaGreat.U
