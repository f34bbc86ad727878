/- Asking for a stage: the program's way and the reference's. -/
import Derived.Test.YtjgonpcajedkjaaGreatFX00b
import Derived.Test.YtjgonpcajedkjaaGreatFX00d
import Derived.Test.YtjgonpcajedkjaaGreatUTick
import Derived.Test.YtjgonpcajedkjaaGreatUEqInts
set_option linter.unusedVariables false
set_option linter.unusedSimpArgs false
namespace Go.Proofs.YtjgonpcajedkjaaGreat.U
open Go.RowKit Go.Proofs.YtjgonpcajedkjaaGreatW.PrintWords Go.Proofs.YtjgonpcajedkjaaGreatW.PrintLast Go.Proofs.YtjgonpcajedkjaaGreat.P
def askP (l:List S58) (c:S27) (s:List Int):Prop:=endV l c=true∧¬ (s.length:Int)=0∧togeth l s=true∧s≠c.f0
noncomputable def askV (l:List S58) (c:S27) (s:List Int):List Int × Int × List Int × Int × Bool :=
  if bo (askP l c s)=true then (if clearB l c.f0 s=0 then (s,0,[],0,true) else (c.f0,c.f1,s,clearB l c.f0 s,true)) else (c.f0,c.f1,c.f2,c.f3,false)
theorem askV_f {l:List S58} {c:S27} {s:List Int} (h:¬ askP l c s):askV l c s=(c.f0,c.f1,c.f2,c.f3,false):=if_neg (by rw [bo_f h];decide)
theorem askV_0 {l:List S58} {c:S27} {s:List Int} (h:askP l c s) (z:clearB l c.f0 s=0):askV l c s=(s,0,[],0,true):=by rw [askV,if_pos (bo_t h),if_pos z]
theorem askV_n {l:List S58} {c:S27} {s:List Int} (h:askP l c s) (z:¬ clearB l c.f0 s=0):askV l c s=(c.f0,c.f1,s,clearB l c.f0 s,true):=by rw [askV,if_pos (bo_t h),if_neg z]
theorem spec_ask {l:List S58} {c:S27} (w:CW l c) (s:List Int) (hs:s.length≤1048576):Ev (fun k=>spec_AskStage.f k l c.f0 c.f1 c.f2 c.f3 s) (askV l c s):=by
  have hl:=w.hl
  have h0:=w.h0
  have jt:Ev (fun k=>spec_AskStage.j0 k l s true c.f0 c.f1 c.f2 c.f3 c.f0 c.f1 c.f2 c.f3) (c.f0,c.f1,c.f2,c.f3,false):=Ev.step (fun k=>by rw [spec_AskStage.j0]) (ev_t rfl (Ev.now _))
  unfold spec_AskStage.f
  refine ev_call (spec_copyC w) (Ev.bind (spec_end w) ?_)
  by_cases e:endV l c=true
  · refine ev_t e ?_
    by_cases n:(s.length:Int)=0
    · rw [askV_f (fun h=>h.2.1 n)]
      exact ev_t n jt
    · refine ev_f n (Ev.bind (spec_isTogether l s (by omega) (by omega)) ?_)
      by_cases t:togeth l s=true
      · refine ev_t t (Ev.bind (spec_eqInts s c.f0 (by omega)) ?_)
        by_cases q:s=c.f0
        · rw [askV_f (fun h=>h.2.2.2 q),decide_eq_true q]
          exact jt
        · rw [decide_eq_false q]
          refine Ev.step (fun k=>by rw [spec_AskStage.j0]) (ev_f (by decide) (Ev.bind (spec_clearBetween l c.f0 s hl h0 hs) ?_))
          by_cases z:clearB l c.f0 s=0
          · rw [askV_0 ⟨e,n,t,q⟩ z]
            exact ev_t z (ev_some (ev_t (by simp;omega) (ev_now rfl)))
          · rw [askV_n ⟨e,n,t,q⟩ z]
            exact ev_f z (ev_some (ev_t (by simp;omega) (ev_now rfl)))
      · rw [askV_f (fun h=>t h.2.2.1)]
        exact ev_f t jt
  · rw [askV_f (fun h=>e h.1)]
    exact ev_f e jt
theorem impl_ask {l:List S58} {c:S27} (w:CW l c) (s:List Int) (hs:s.length≤1048576):Ev (fun k=>impl_AskStage.f k l c.f0 c.f1 c.f2 c.f3 s) (askV l c s):=by
  have hl:=w.hl
  have h0:=w.h0
  have jt:Ev (fun k=>impl_AskStage.j0 k l s true c.f0 c.f1 c.f2 c.f3 c.f0 c.f1 c.f2 c.f3) (c.f0,c.f1,c.f2,c.f3,false):=Ev.step (fun k=>by rw [impl_AskStage.j0]) (ev_t rfl (Ev.now _))
  unfold impl_AskStage.f
  refine ev_call (impl_cloneC w) (Ev.bind (impl_end w) ?_)
  by_cases e:endV l c=true
  · refine ev_t e ?_
    by_cases n:(s.length:Int)=0
    · rw [askV_f (fun h=>h.2.1 n)]
      exact ev_t n jt
    · refine ev_f n (Ev.bind (impl_isTogether l s (by omega) (by omega)) ?_)
      by_cases t:togeth l s=true
      · refine ev_t t (Ev.bind (slices_equal s c.f0 (by omega)) ?_)
        by_cases q:s=c.f0
        · rw [askV_f (fun h=>h.2.2.2 q),decide_eq_true q]
          exact jt
        · rw [decide_eq_false q]
          have b:=clearB_bound l c.f0 s
          refine Ev.step (fun k=>by rw [impl_AskStage.j0]) (ev_f (by decide) (Ev.bind (impl_clearBetween l c.f0 s hl h0 hs) ?_))
          by_cases z:clearB l c.f0 s=0
          · rw [askV_0 ⟨e,n,t,q⟩ z]
            exact ev_f (by omega) (ev_call (clone_val s hs) (ev_now rfl))
          · rw [askV_n ⟨e,n,t,q⟩ z]
            exact ev_t (by omega) (ev_call (clone_val s hs) (ev_now rfl))
      · rw [askV_f (fun h=>t h.2.2.1)]
        exact ev_f t jt
  · rw [askV_f (fun h=>e h.1)]
    exact ev_f e jt
theorem askV_len {l:List S58} {c:S27} (w:CW l c) (s:List Int) (hs:s.length≤1048576):(askV l c s).1.length≤1048576∧(askV l c s).2.2.1.length≤1048576:=by
  have h0:=w.h0
  have h2:=w.h2
  by_cases h:askP l c s
  · by_cases z:clearB l c.f0 s=0
    · rw [askV_0 h z];exact ⟨hs,by simp⟩
    · rw [askV_n h z];exact ⟨h0,hs⟩
  · rw [askV_f h];exact ⟨h0,h2⟩
end Go.Proofs.YtjgonpcajedkjaaGreat.U
