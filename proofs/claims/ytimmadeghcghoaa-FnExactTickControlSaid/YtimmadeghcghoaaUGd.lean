/- A control in form, can it end, and its lights: the program's way and the reference's. -/
import Derived.Test.YtimmadeghcghoaaFX04b
import Derived.Test.YtimmadeghcghoaaFX04c
import Derived.Test.YtimmadeghcghoaaUGb
import Derived.Test.YtimmadeghcghoaaFX04d
namespace Go.Proofs.Ytimmadeghcghoaa.U
open Go.RowKit Go.Proofs.YtimmadeghcghoaaW.PrintWords Go.Proofs.YtimmadeghcghoaaW.PrintLast Go.Proofs.Ytimmadeghcghoaa.P
theorem control_ex (l : List S90) (c : S70) (h : l.length ≤ 1048576) (h0 : c.f0.length ≤ 1048576) (h2 : c.f2.length ≤ 1048576) : ∃ v, Ev (fun k => spec_IsControl.f k l c.f0 c.f1 c.f2 c.f3) v ∧ Ev (fun k => impl_IsControl.f k l c.f0 c.f1 c.f2 c.f3) v := by
  have st : Ev (fun k => spec_IsControl.j0 k l true c.f0 c.f1 c.f2 c.f3) false := Ev.step (fun k => by rw [spec_IsControl.j0]) (ev_t rfl (Ev.now _))
  have it : Ev (fun k => impl_IsControl.j0 k l true c.f0 c.f1 c.f2 c.f3) false := Ev.step (fun k => by rw [impl_IsControl.j0]) (ev_t rfl (Ev.now _))
  have s0 := spec_isTogether l c.f0 (by omega) (by omega)
  have s2 := spec_isTogether l c.f2 (by omega) (by omega)
  have i0 := impl_isTogether l c.f0 (by omega) (by omega)
  have i2 := impl_isTogether l c.f2 (by omega) (by omega)
  unfold spec_IsControl.f impl_IsControl.f
  by_cases t0 : togeth l c.f0 = true
  · by_cases t2 : togeth l c.f2 = true
    · by_cases e0 : (c.f0.length : Int) = 0
      · exact ⟨false, ev_t e0 st, Ev.bind i0 (ev_t t0 (Ev.bind i2 (ev_t t2 (ev_t e0 it))))⟩
      · by_cases r : 0 ≤ c.f1 ∧ c.f1 ≤ 1000000
        · have q1 := spec_l1In_eq c.f1 0 1000000
          have q2 := impl_InRange_eq c.f1 0 1000000
          rw [decide_eq_true r] at q1 q2
          by_cases e2 : (c.f2.length : Int) = 0
          · exact ⟨_, ev_f e0 (Ev.bind s0 (ev_t t0 (Ev.bind s2 (ev_t t2 (ev_call q1 (Ev.step (fun k => by rw [spec_IsControl.j0]) (ev_f (by decide) (ev_t e2 (Ev.now _)))))))))
              , Ev.bind i0 (ev_t t0 (Ev.bind i2 (ev_t t2 (ev_f e0 (ev_call q2 (Ev.step (fun k => by rw [impl_IsControl.j0]) (ev_f (by decide) (ev_t e2 (Ev.now _)))))))))⟩
          · exact ⟨_, ev_f e0 (Ev.bind s0 (ev_t t0 (Ev.bind s2 (ev_t t2 (ev_call q1 (Ev.step (fun k => by rw [spec_IsControl.j0]) (ev_f (by decide) (ev_f e2 (Ev.bind (spec_clearBetween l c.f0 c.f2 h h0 h2) (ev_call (spec_l1In_eq _ _ _) (Ev.now _)))))))))))
              , Ev.bind i0 (ev_t t0 (Ev.bind i2 (ev_t t2 (ev_f e0 (ev_call q2 (Ev.step (fun k => by rw [impl_IsControl.j0]) (ev_f (by decide) (ev_f e2 (Ev.bind (impl_clearBetween l c.f0 c.f2 h h0 h2) (ev_call (impl_InRange_eq _ _ _) (Ev.now _)))))))))))⟩
        · have q1 := spec_l1In_eq c.f1 0 1000000
          have q2 := impl_InRange_eq c.f1 0 1000000
          rw [decide_eq_false r] at q1 q2
          exact ⟨false, ev_f e0 (Ev.bind s0 (ev_t t0 (Ev.bind s2 (ev_t t2 (ev_call q1 st))))), Ev.bind i0 (ev_t t0 (Ev.bind i2 (ev_t t2 (ev_f e0 (ev_call q2 it)))))⟩
    · refine ⟨false, ?_, Ev.bind i0 (ev_t t0 (Ev.bind i2 (ev_f t2 it)))⟩
      by_cases e0 : (c.f0.length : Int) = 0
      · exact ev_t e0 st
      · exact ev_f e0 (Ev.bind s0 (ev_t t0 (Ev.bind s2 (ev_f t2 st))))
  · refine ⟨false, ?_, Ev.bind i0 (ev_f t0 it)⟩
    by_cases e0 : (c.f0.length : Int) = 0
    · exact ev_t e0 st
    · exact ev_f e0 (Ev.bind s0 (ev_f t0 st))
/-- The light of one path under a control. -/
def lgt (l : List S90) (c : S70) (i : Nat) : Int := if (rd_T90 l (i : Int)).f0 ∈ c.f0 then (if (c.f2.length : Int) > 0 then (if (rd_T90 l (i : Int)).f0 ∈ c.f2 then 1 else 2) else 1) else 0
def lgts (l : List S90) (c : S70) (n : Nat) : List Int := (List.range n).map (lgt l c)
theorem lgts_len (l : List S90) (c : S70) (n : Nat) : (lgts l c n).length = n := by simp [lgts]
theorem lgts_lt (l : List S90) (c : S70) {n : Nat} (h : n < 17592186044416) : (lgts l c n).length < 17592186044416 := by rw [lgts_len]; exact h
theorem lgts_succ (l : List S90) (c : S70) (n : Nat) : lgts l c (n + 1) = lgts l c n ++ [lgt l c n] := by
  unfold lgts; rw [List.range_succ, List.map_append]; rfl
end Go.Proofs.Ytimmadeghcghoaa.U
/- A control's form, its end, its lights and its tick, told as values: the program's way and the reference's. -/
namespace Go.Proofs.Ytimmadeghcghoaa.U
open Go.RowKit Go.Proofs.YtimmadeghcghoaaW.PrintWords Go.Proofs.YtimmadeghcghoaaW.PrintLast Go.Proofs.Ytimmadeghcghoaa.P
theorem ev_uniq {α : Type} {f : Nat → Option α} {a b : α} (h1 : Ev f a) (h2 : Ev f b) : a = b := by
  obtain ⟨k1, h1⟩ := h1
  obtain ⟨k2, h2⟩ := h2
  have e1 := h1 (k1 + k2) (by omega)
  have e2 := h2 (k1 + k2) (by omega)
  rw [e1] at e2
  exact Option.some.inj e2
/-- Controls of a size that fits. -/
structure CW (l : List S90) (c : S70) : Prop where
  hl : l.length ≤ 1048576
  h0 : c.f0.length ≤ 1048576
  h2 : c.f2.length ≤ 1048576
def ctlP (l : List S90) (c : S70) : Prop := (c.f0.length : Int) ≠ 0 ∧ togeth l c.f0 = true ∧ togeth l c.f2 = true ∧ (0 ≤ c.f1 ∧ c.f1 ≤ 1000000) ∧ ((c.f2.length : Int) = 0 → c.f3 = 0) ∧ (¬ (c.f2.length : Int) = 0 → 1 ≤ c.f3 ∧ c.f3 ≤ clearB l c.f0 c.f2)
noncomputable def ctl (l : List S90) (c : S70) : Bool := bo (ctlP l c)
theorem spec_ctl {l : List S90} {c : S70} (w : CW l c) : Ev (fun k => spec_IsControl.f k l c.f0 c.f1 c.f2 c.f3) (ctl l c) := by
  obtain ⟨h, h0, h2⟩ := w
  have st : Ev (fun k => spec_IsControl.j0 k l true c.f0 c.f1 c.f2 c.f3) false := Ev.step (fun k => by rw [spec_IsControl.j0]) (ev_t rfl (Ev.now _))
  have s0 := spec_isTogether l c.f0 (by omega) (by omega)
  have s2 := spec_isTogether l c.f2 (by omega) (by omega)
  unfold spec_IsControl.f ctl
  by_cases e0 : (c.f0.length : Int) = 0
  · rw [bo_f (fun hh => hh.1 e0)]
    exact ev_t e0 st
  · refine ev_f e0 (Ev.bind s0 ?_)
    by_cases t0 : togeth l c.f0 = true
    · refine ev_t t0 (Ev.bind s2 ?_)
      by_cases t2 : togeth l c.f2 = true
      · refine ev_t t2 (ev_call (spec_l1In_eq _ _ _) ?_)
        by_cases r : 0 ≤ c.f1 ∧ c.f1 ≤ 1000000
        · rw [decide_eq_true r]
          refine Ev.step (fun k => by rw [spec_IsControl.j0]) ?_
          refine ev_f (by decide) ?_
          by_cases e2 : (c.f2.length : Int) = 0
          · refine ev_t e2 (ev_now ?_)
            by_cases e3 : c.f3 = 0
            · rw [bo_t (show ctlP l c from ⟨e0, t0, t2, r, fun _ => e3, fun n => absurd e2 n⟩)]; simp [e3]
            · rw [bo_f (fun hh => e3 (hh.2.2.2.2.1 e2))]; simp [e3]
          · refine ev_f e2 (Ev.bind (spec_clearBetween l c.f0 c.f2 h h0 h2) (ev_call (spec_l1In_eq _ _ _) (ev_now ?_)))
            by_cases e3 : 1 ≤ c.f3 ∧ c.f3 ≤ clearB l c.f0 c.f2
            · rw [bo_t (show ctlP l c from ⟨e0, t0, t2, r, fun n => absurd n e2, fun _ => e3⟩), decide_eq_true e3]
            · rw [bo_f (fun hh => e3 (hh.2.2.2.2.2 e2)), decide_eq_false e3]
        · rw [decide_eq_false r, bo_f (fun hh => r hh.2.2.2.1)]
          exact st
      · rw [bo_f (fun hh => t2 hh.2.2.1)]
        exact ev_f t2 st
    · rw [bo_f (fun hh => t0 hh.2.1)]
      exact ev_f t0 st
theorem impl_ctl {l : List S90} {c : S70} (w : CW l c) : Ev (fun k => impl_IsControl.f k l c.f0 c.f1 c.f2 c.f3) (ctl l c) := by
  obtain ⟨v, a1, a2⟩ := control_ex l c w.hl w.h0 w.h2
  rw [← ev_uniq a1 (spec_ctl w)]
  exact a2
theorem ctl_iff {l : List S90} {c : S70} : ctl l c = true ↔ ctlP l c := bo_iff
noncomputable def endV (l : List S90) (c : S70) : Bool := bo (ctl l c = true ∧ (c.f2.length : Int) = 0 ∧ c.f1 ≥ leastG l c.f0)
theorem endV_iff {l : List S90} {c : S70} : endV l c = true ↔ ctl l c = true ∧ (c.f2.length : Int) = 0 ∧ c.f1 ≥ leastG l c.f0 := bo_iff
end Go.Proofs.Ytimmadeghcghoaa.U
/- A controller's second: the program's way and the reference's. -/
namespace Go.Proofs.Ytimmadeghcghoaa.U
open Go.RowKit Go.Proofs.YtimmadeghcghoaaW.PrintWords Go.Proofs.YtimmadeghcghoaaW.PrintLast Go.Proofs.Ytimmadeghcghoaa.P
abbrev C4 := List Int × Int × List Int × Int
theorem clone_val (x : List Int) (h : x.length ≤ 1048576) : slices_Clone_int_int.f x = some x := by
  unfold slices_Clone_int_int.f
  rw [if_pos (by omega)]
theorem impl_cloneC {l : List S90} {c : S70} (w : CW l c) : impl_cloneControl.f c.f0 c.f1 c.f2 c.f3 = some (c.f0, c.f1, c.f2, c.f3) := by
  unfold impl_cloneControl.f
  rw [clone_val _ w.h0, Option.bind_some, clone_val _ w.h2, Option.bind_some]
theorem spec_copyC {l : List S90} {c : S70} (w : CW l c) : spec_l14Copy.f c.f0 c.f1 c.f2 c.f3 = some (c.f0, c.f1, c.f2, c.f3) := by
  have h0 := w.h0
  have h2 := w.h2
  unfold spec_l14Copy.f
  rw [Option.bind_some, if_pos (by simp; omega), Option.bind_some, if_pos (by simp; omega)]
  rfl
noncomputable def tickV (l : List S90) (c : S70) : C4 :=
  if ctl l c = true then (if (c.f2.length : Int) = 0 then (c.f0, min 1000000 (c.f1 + 1), c.f2, c.f3) else if c.f3 = 1 then (c.f2, 0, [], 0) else (c.f0, c.f1, c.f2, c.f3 - 1)) else (c.f0, c.f1, c.f2, c.f3)
theorem tickV_no {l : List S90} {c : S70} (h : ¬ ctl l c = true) : tickV l c = (c.f0, c.f1, c.f2, c.f3) := if_neg h
theorem tickV_on {l : List S90} {c : S70} (h : ctl l c = true) (h2 : (c.f2.length : Int) = 0) : tickV l c = (c.f0, min 1000000 (c.f1 + 1), c.f2, c.f3) := by unfold tickV; rw [if_pos h, if_pos h2]
theorem tickV_end {l : List S90} {c : S70} (h : ctl l c = true) (h2 : ¬ (c.f2.length : Int) = 0) (h3 : c.f3 = 1) : tickV l c = (c.f2, 0, [], 0) := by unfold tickV; rw [if_pos h, if_neg h2, if_pos h3]
theorem tickV_more {l : List S90} {c : S70} (h : ctl l c = true) (h2 : ¬ (c.f2.length : Int) = 0) (h3 : ¬ c.f3 = 1) : tickV l c = (c.f0, c.f1, c.f2, c.f3 - 1) := by unfold tickV; rw [if_pos h, if_neg h2, if_neg h3]
theorem spec_tick {l : List S90} {c : S70} (w : CW l c) : Ev (fun k => spec_TickControl.f k l c.f0 c.f1 c.f2 c.f3) (tickV l c) := by
  unfold spec_TickControl.f
  refine ev_call (spec_copyC w) (Ev.bind (spec_ctl w) ?_)
  by_cases h : ctl l c = true
  · obtain ⟨_, _, _, r, q1, q2⟩ := ctl_iff.1 h
    refine ev_t h ?_
    by_cases e2 : (c.f2.length : Int) = 0
    · rw [tickV_on h e2]
      refine ev_t e2 ?_
      rw [w64 (n := c.f1 + 1) (by omega) (by omega)]
      exact ev_call (spec_Min_eq _ _) (Ev.now _)
    · have b := clearB_bound l c.f0 c.f2
      have q3 := q2 e2
      refine ev_f e2 ?_
      rw [w64 (n := c.f3 - 1) (by omega) (by omega)]
      by_cases e3 : c.f3 = 1
      · rw [tickV_end h e2 e3]
        exact ev_t (show c.f3 - 1 = 0 by omega) (Ev.now _)
      · rw [tickV_more h e2 e3]
        exact ev_f (show ¬ c.f3 - 1 = 0 by omega) (Ev.now _)
  · rw [tickV_no h]
    exact ev_f h (Ev.now _)
theorem impl_tick {l : List S90} {c : S70} (w : CW l c) : Ev (fun k => impl_TickControl.f k l c.f0 c.f1 c.f2 c.f3) (tickV l c) := by
  unfold impl_TickControl.f
  refine ev_call (impl_cloneC w) (Ev.bind (impl_ctl w) ?_)
  by_cases h : ctl l c = true
  · obtain ⟨_, _, _, r, q1, q2⟩ := ctl_iff.1 h
    refine ev_t h ?_
    by_cases e2 : (c.f2.length : Int) = 0
    · rw [tickV_on h e2]
      refine ev_t e2 (ev_now ?_)
      rw [w64 (n := c.f1 + 1) (by omega) (by omega), mn_eq, Int.min_comm]
    · have b := clearB_bound l c.f0 c.f2
      have q3 := q2 e2
      refine ev_f e2 ?_
      by_cases e3 : c.f3 = 1
      · rw [tickV_end h e2 e3]
        exact ev_f (show ¬ c.f3 > 1 by omega) (ev_call (clone_val _ w.h2) (Ev.now _))
      · rw [tickV_more h e2 e3]
        refine ev_t (show c.f3 > 1 by omega) (ev_now ?_)
        rw [w64 (n := c.f3 - 1) (by omega) (by omega)]
  · rw [tickV_no h]
    exact ev_f h (Ev.now _)
theorem tickV_len {l : List S90} {c : S70} (w : CW l c) : (tickV l c).1.length ≤ 1048576 ∧ (tickV l c).2.2.1.length ≤ 1048576 := by
  have h0 := w.h0
  have h2 := w.h2
  by_cases h : ctl l c = true
  · by_cases e2 : (c.f2.length : Int) = 0
    · rw [tickV_on h e2]; exact ⟨h0, h2⟩
    · by_cases e3 : c.f3 = 1
      · rw [tickV_end h e2 e3]; exact ⟨h2, by simp⟩
      · rw [tickV_more h e2 e3]; exact ⟨h0, h2⟩
  · rw [tickV_no h]; exact ⟨h0, h2⟩
end Go.Proofs.Ytimmadeghcghoaa.U
