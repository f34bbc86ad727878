/- A controller's second: the program's way and the reference's. -/
import Derived.Test.YtjgonpcajedkjaaGreatFX00b
import Derived.Test.YtjgonpcajedkjaaGreatFX00d
import Derived.Test.YtjgonpcajedkjaaGreatUCtl
set_option linter.unusedVariables false
set_option linter.unusedSimpArgs false
namespace Go.Proofs.YtjgonpcajedkjaaGreat.U
open Go.RowKit Go.Proofs.YtjgonpcajedkjaaGreatW.PrintWords Go.Proofs.YtjgonpcajedkjaaGreatW.PrintLast Go.Proofs.YtjgonpcajedkjaaGreat.P
abbrev C4:=List Int × Int × List Int × Int
theorem clone_val (x:List Int) (h:x.length≤1048576):slices_Clone_int_int.f x=some x:=by
  unfold slices_Clone_int_int.f
  rw [if_pos (by omega)]
theorem impl_cloneC {l:List S58} {c:S27} (w:CW l c):impl_cloneControl.f c.f0 c.f1 c.f2 c.f3=some (c.f0,c.f1,c.f2,c.f3):=by
  unfold impl_cloneControl.f
  rw [clone_val _ w.h0,Option.bind_some,clone_val _ w.h2,Option.bind_some]
theorem spec_copyC {l:List S58} {c:S27} (w:CW l c):spec_l14Copy.f c.f0 c.f1 c.f2 c.f3=some (c.f0,c.f1,c.f2,c.f3):=by
  have h0:=w.h0
  have h2:=w.h2
  unfold spec_l14Copy.f
  rw [Option.bind_some,if_pos (by simp;omega),Option.bind_some,if_pos (by simp;omega)]
  rfl
noncomputable def tickV (l:List S58) (c:S27):C4 :=
  if ctl l c=true then (if (c.f2.length:Int)=0 then (c.f0,min 1000000 (c.f1 + 1),c.f2,c.f3) else if c.f3=1 then (c.f2,0,[],0) else (c.f0,c.f1,c.f2,c.f3 - 1)) else (c.f0,c.f1,c.f2,c.f3)
theorem tickV_no {l:List S58} {c:S27} (h:¬ ctl l c=true):tickV l c=(c.f0,c.f1,c.f2,c.f3):=if_neg h
theorem tickV_on {l:List S58} {c:S27} (h:ctl l c=true) (h2:(c.f2.length:Int)=0):tickV l c=(c.f0,min 1000000 (c.f1 + 1),c.f2,c.f3):=by unfold tickV;rw [if_pos h,if_pos h2]
theorem tickV_end {l:List S58} {c:S27} (h:ctl l c=true) (h2:¬ (c.f2.length:Int)=0) (h3:c.f3=1):tickV l c=(c.f2,0,[],0):=by unfold tickV;rw [if_pos h,if_neg h2,if_pos h3]
theorem tickV_more {l:List S58} {c:S27} (h:ctl l c=true) (h2:¬ (c.f2.length:Int)=0) (h3:¬ c.f3=1):tickV l c=(c.f0,c.f1,c.f2,c.f3 - 1):=by unfold tickV;rw [if_pos h,if_neg h2,if_neg h3]
theorem spec_tick {l:List S58} {c:S27} (w:CW l c):Ev (fun k=>spec_TickControl.f k l c.f0 c.f1 c.f2 c.f3) (tickV l c):=by
  unfold spec_TickControl.f
  refine ev_call (spec_copyC w) (Ev.bind (spec_ctl w) ?_)
  by_cases h:ctl l c=true
  · obtain ⟨_,_,_,r,q1,q2⟩:=ctl_iff.1 h
    refine ev_t h ?_
    by_cases e2:(c.f2.length:Int)=0
    · rw [tickV_on h e2]
      refine ev_t e2 ?_
      rw [w64 (n:=c.f1 + 1) (by omega) (by omega)]
      exact ev_call (spec_Min_eq _ _) (Ev.now _)
    · have b:=clearB_bound l c.f0 c.f2
      have q3:=q2 e2
      refine ev_f e2 ?_
      rw [w64 (n:=c.f3 - 1) (by omega) (by omega)]
      by_cases e3:c.f3=1
      · rw [tickV_end h e2 e3]
        exact ev_t (show c.f3 - 1=0 by omega) (Ev.now _)
      · rw [tickV_more h e2 e3]
        exact ev_f (show ¬ c.f3 - 1=0 by omega) (Ev.now _)
  · rw [tickV_no h]
    exact ev_f h (Ev.now _)
theorem impl_tick {l:List S58} {c:S27} (w:CW l c):Ev (fun k=>impl_TickControl.f k l c.f0 c.f1 c.f2 c.f3) (tickV l c):=by
  unfold impl_TickControl.f
  refine ev_call (impl_cloneC w) (Ev.bind (impl_ctl w) ?_)
  by_cases h:ctl l c=true
  · obtain ⟨_,_,_,r,q1,q2⟩:=ctl_iff.1 h
    refine ev_t h ?_
    by_cases e2:(c.f2.length:Int)=0
    · rw [tickV_on h e2]
      refine ev_t e2 (ev_now ?_)
      rw [w64 (n:=c.f1 + 1) (by omega) (by omega),mn_eq,Int.min_comm]
    · have b:=clearB_bound l c.f0 c.f2
      have q3:=q2 e2
      refine ev_f e2 ?_
      by_cases e3:c.f3=1
      · rw [tickV_end h e2 e3]
        exact ev_f (show ¬ c.f3 > 1 by omega) (ev_call (clone_val _ w.h2) (Ev.now _))
      · rw [tickV_more h e2 e3]
        refine ev_t (show c.f3 > 1 by omega) (ev_now ?_)
        rw [w64 (n:=c.f3 - 1) (by omega) (by omega)]
  · rw [tickV_no h]
    exact ev_f h (Ev.now _)
theorem tickV_len {l:List S58} {c:S27} (w:CW l c):(tickV l c).1.length≤1048576∧(tickV l c).2.2.1.length≤1048576:=by
  have h0:=w.h0
  have h2:=w.h2
  by_cases h:ctl l c=true
  · by_cases e2:(c.f2.length:Int)=0
    · rw [tickV_on h e2];exact ⟨h0,h2⟩
    · by_cases e3:c.f3=1
      · rw [tickV_end h e2 e3];exact ⟨h2,by simp⟩
      · rw [tickV_more h e2 e3];exact ⟨h0,h2⟩
  · rw [tickV_no h];exact ⟨h0,h2⟩
end Go.Proofs.YtjgonpcajedkjaaGreat.U
