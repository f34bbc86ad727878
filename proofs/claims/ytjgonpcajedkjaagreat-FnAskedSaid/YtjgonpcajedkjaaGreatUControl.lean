/- A control in form, can it end, and its lights: the program's way and the reference's. -/
import Derived.Test.YtjgonpcajedkjaaGreatFX00b
import Derived.Test.YtjgonpcajedkjaaGreatFX00d
import Derived.Test.YtjgonpcajedkjaaGreatUClear
import Derived.Test.YtjgonpcajedkjaaGreatULeast
set_option linter.unusedVariables false
set_option linter.unusedSimpArgs false
namespace Go.Proofs.YtjgonpcajedkjaaGreat.U
open Go.RowKit Go.Proofs.YtjgonpcajedkjaaGreatW.PrintWords Go.Proofs.YtjgonpcajedkjaaGreatW.PrintLast Go.Proofs.YtjgonpcajedkjaaGreat.P
theorem control_ex (l:List S58) (c:S27) (h:l.length≤1048576) (h0:c.f0.length≤1048576) (h2:c.f2.length≤1048576):∃ v,Ev (fun k=>spec_IsControl.f k l c.f0 c.f1 c.f2 c.f3) v∧Ev (fun k=>impl_IsControl.f k l c.f0 c.f1 c.f2 c.f3) v:=by
  have st:Ev (fun k=>spec_IsControl.j0 k l true c.f0 c.f1 c.f2 c.f3) false:=Ev.step (fun k=>by rw [spec_IsControl.j0]) (ev_t rfl (Ev.now _))
  have it:Ev (fun k=>impl_IsControl.j0 k l true c.f0 c.f1 c.f2 c.f3) false:=Ev.step (fun k=>by rw [impl_IsControl.j0]) (ev_t rfl (Ev.now _))
  have s0:=spec_isTogether l c.f0 (by omega) (by omega)
  have s2:=spec_isTogether l c.f2 (by omega) (by omega)
  have i0:=impl_isTogether l c.f0 (by omega) (by omega)
  have i2:=impl_isTogether l c.f2 (by omega) (by omega)
  unfold spec_IsControl.f impl_IsControl.f
  by_cases t0:togeth l c.f0=true
  · by_cases t2:togeth l c.f2=true
    · by_cases e0:(c.f0.length:Int)=0
      · exact ⟨false,ev_t e0 st,Ev.bind i0 (ev_t t0 (Ev.bind i2 (ev_t t2 (ev_t e0 it))))⟩
      · by_cases r:0≤c.f1∧c.f1≤1000000
        · have q1:=spec_l1In_eq c.f1 0 1000000
          have q2:=impl_InRange_eq c.f1 0 1000000
          rw [decide_eq_true r] at q1 q2
          by_cases e2:(c.f2.length:Int)=0
          · exact ⟨_,ev_f e0 (Ev.bind s0 (ev_t t0 (Ev.bind s2 (ev_t t2 (ev_call q1 (Ev.step (fun k=>by rw [spec_IsControl.j0]) (ev_f (by decide) (ev_t e2 (Ev.now _)))))))))
              , Ev.bind i0 (ev_t t0 (Ev.bind i2 (ev_t t2 (ev_f e0 (ev_call q2 (Ev.step (fun k=>by rw [impl_IsControl.j0]) (ev_f (by decide) (ev_t e2 (Ev.now _)))))))))⟩
          · exact ⟨_,ev_f e0 (Ev.bind s0 (ev_t t0 (Ev.bind s2 (ev_t t2 (ev_call q1 (Ev.step (fun k=>by rw [spec_IsControl.j0]) (ev_f (by decide) (ev_f e2 (Ev.bind (spec_clearBetween l c.f0 c.f2 h h0 h2) (ev_call (spec_l1In_eq _ _ _) (Ev.now _)))))))))))
              , Ev.bind i0 (ev_t t0 (Ev.bind i2 (ev_t t2 (ev_f e0 (ev_call q2 (Ev.step (fun k=>by rw [impl_IsControl.j0]) (ev_f (by decide) (ev_f e2 (Ev.bind (impl_clearBetween l c.f0 c.f2 h h0 h2) (ev_call (impl_InRange_eq _ _ _) (Ev.now _)))))))))))⟩
        · have q1:=spec_l1In_eq c.f1 0 1000000
          have q2:=impl_InRange_eq c.f1 0 1000000
          rw [decide_eq_false r] at q1 q2
          exact ⟨false,ev_f e0 (Ev.bind s0 (ev_t t0 (Ev.bind s2 (ev_t t2 (ev_call q1 st))))),Ev.bind i0 (ev_t t0 (Ev.bind i2 (ev_t t2 (ev_f e0 (ev_call q2 it)))))⟩
    · refine ⟨false,?_,Ev.bind i0 (ev_t t0 (Ev.bind i2 (ev_f t2 it)))⟩
      by_cases e0:(c.f0.length:Int)=0
      · exact ev_t e0 st
      · exact ev_f e0 (Ev.bind s0 (ev_t t0 (Ev.bind s2 (ev_f t2 st))))
  · refine ⟨false,?_,Ev.bind i0 (ev_f t0 it)⟩
    by_cases e0:(c.f0.length:Int)=0
    · exact ev_t e0 st
    · exact ev_f e0 (Ev.bind s0 (ev_f t0 st))
theorem canEnd_ex (l:List S58) (c:S27) (h:l.length≤1048576) (h0:c.f0.length≤1048576) (h2:c.f2.length≤1048576):∃ v,Ev (fun k=>spec_CanEnd.f k l c.f0 c.f1 c.f2 c.f3) v∧Ev (fun k=>impl_CanEnd.f k l c.f0 c.f1 c.f2 c.f3) v:=by
  obtain ⟨v,a1,a2⟩:=control_ex l c h h0 h2
  unfold spec_CanEnd.f impl_CanEnd.f
  by_cases hv:v=true
  · by_cases e2:(c.f2.length:Int)=0
    · exact ⟨_,Ev.bind a1 (ev_t hv (ev_t e2 (Ev.bind (spec_leastGreen l c.f0 (by omega) (by omega)) (Ev.now _)))),Ev.bind a2 (ev_t hv (ev_t e2 (Ev.bind (impl_leastGreen l c.f0 (by omega)) (Ev.now _))))⟩
    · exact ⟨false,Ev.bind a1 (ev_t hv (ev_f e2 (Ev.now _))),Ev.bind a2 (ev_t hv (ev_f e2 (Ev.now _)))⟩
  · exact ⟨false,Ev.bind a1 (ev_f hv (Ev.now _)),Ev.bind a2 (ev_f hv (Ev.now _))⟩
/-- The light of one path under a control. -/
def lgt (l:List S58) (c:S27) (i:Nat):Int:=if (rd_T58 l (i:Int)).f0∈c.f0 then (if (c.f2.length:Int) > 0 then (if (rd_T58 l (i:Int)).f0∈c.f2 then 1 else 2) else 1) else 0
def lgts (l:List S58) (c:S27) (n:Nat):List Int:=(List.range n).map (lgt l c)
theorem lgts_len (l:List S58) (c:S27) (n:Nat):(lgts l c n).length=n:=by simp [lgts]
theorem lgts_lt (l:List S58) (c:S27) {n:Nat} (h:n < 17592186044416):(lgts l c n).length < 17592186044416:=by rw [lgts_len];exact h
theorem lgts_succ (l:List S58) (c:S27) (n:Nat):lgts l c (n + 1)=lgts l c n ++ [lgt l c n]:=by
  unfold lgts;rw [List.range_succ,List.map_append];rfl
end Go.Proofs.YtjgonpcajedkjaaGreat.U
