/- The demand of a path and of a stage: the program's way and the reference's. -/
import Derived.Test.YtdkmmefmhfbgkaaFX00b
import Derived.Test.YtdkmmefmhfbgkaaFX00d
import Derived.Test.YtdkmmefmhfbgkaaUTrust
set_option linter.unusedVariables false
set_option linter.unusedSimpArgs false
namespace Go.Proofs.Ytdkmmefmhfbgkaa.U
open Go.RowKit Go.Proofs.YtdkmmefmhfbgkaaW.PrintWords Go.Proofs.YtdkmmefmhfbgkaaW.PrintLast Go.Proofs.Ytdkmmefmhfbgkaa.P
theorem spec_lowDemand (l : List S128) (id : Int) (h : l.length ≤ 9223372036854775807) : Ev (fun k => spec_LowDemand.f k l id) (lowD l id) := by
  unfold spec_LowDemand.f
  exact Ev.bind (spec_count l id h) (Ev.now _)
theorem impl_lowDemand (l : List S128) (id : Int) : impl_LowDemand.f l id = some (lowD l id) := by
  have hb := tr_bound id l
  show (if impl_trusted.ix id l 0 < 0 then some (0 : Int) else _) = _
  by_cases h : impl_trusted.ix id l 0 < 0
  · rw [if_pos h]; unfold lowD; rw [cnt_neg h]
  · rw [if_neg h, if_pos (by omega), if_pos (by omega)]; unfold lowD; rw [cnt_pos h]
/-- The greatest low count among the first i of a stage. -/
def stD (l : List S128) (st : List Int) : Nat → Int
  | 0 => 0
  | i + 1 => if i = 0 then lowD l (rd st (i : Int)) else max (stD l st i) (lowD l (rd st (i : Int)))
theorem stD_one {l : List S128} {st : List Int} {i : Nat} (h : i = 0) : stD l st (i + 1) = lowD l (rd st (i : Int)) := by unfold stD; rw [if_pos h]
theorem stD_more {l : List S128} {st : List Int} {i : Nat} (h : ¬ i = 0) : stD l st (i + 1) = max (stD l st i) (lowD l (rd st (i : Int))) := by rw [stD, if_neg h]
theorem spec_stageDemand (l : List S128) (st : List Int) (h : l.length ≤ 9223372036854775807) (hs : st.length ≤ 9223372036854775807) : Ev (fun k => spec_StageDemand.f k l st) (stD l st st.length) := by
  unfold spec_StageDemand.f
  refine ev_for0 (F := fun k i => spec_StageDemand.l0 k l st (stD l st i) (i : Int)) st.length (fun i hi ih => ?_) ?_
  · refine Ev.step (fun k => by rw [spec_StageDemand.l0]) (ev_t (by omega) ?_)
    rw [w_succ hi hs]
    have hd := spec_lowDemand l (rd st (i : Int)) h
    by_cases h0 : i = 0
    · rw [stD_one h0] at ih
      exact ev_t (by omega) (ev_t (by omega) (Ev.bind hd ih))
    · rw [stD_more h0] at ih
      refine ev_f (by omega) (ev_t (by omega) (Ev.bind hd ?_))
      by_cases h1 : lowD l (rd st (i : Int)) > stD l st i
      · rw [show max (stD l st i) (lowD l (rd st (i : Int))) = lowD l (rd st (i : Int)) by omega] at ih
        exact ev_t h1 (Ev.bind hd ih)
      · rw [show max (stD l st i) (lowD l (rd st (i : Int))) = stD l st i by omega] at ih
        exact ev_f h1 ih
  · refine Ev.step (fun k => by rw [spec_StageDemand.l0]) ?_
    exact ev_f (by omega) (Ev.now _)
def stE (l : List S128) (st : List Int) (i : Nat) : Int := if i = 0 then lowD l (rd st 0) else stD l st i
theorem stE_succ (l : List S128) (st : List Int) (i : Nat) : max (stE l st i) (lowD l (rd st (i : Int))) = stE l st (i + 1) := by
  unfold stE
  rw [if_neg (Nat.succ_ne_zero i)]
  by_cases h : i = 0
  · rw [if_pos h, stD_one h]; subst h; simp
  · rw [if_neg h, stD_more h]
theorem impl_stageDemand (l : List S128) (st : List Int) (hs : st.length ≤ 9223372036854775807) : Ev (fun k => impl_StageDemand.f k l st) (stD l st st.length) := by
  unfold impl_StageDemand.f
  by_cases h0 : st.length = 0
  · rw [h0]
    exact ev_t (by simp) (Ev.now _)
  · refine ev_f (by omega) (ev_t (by omega) (ev_call (impl_lowDemand _ _) ?_))
    refine ev_for0 (F := fun k i => impl_StageDemand.l0 k l (stE l st i) st (st.length : Int) (i : Int)) st.length (fun i hi ih => ?_) ?_
    · refine Ev.step (fun k => by rw [impl_StageDemand.l0]) (ev_t (by omega) (ev_t (by omega) (ev_t (by omega) (ev_call (impl_lowDemand _ _) ?_))))
      rw [w_succ hi hs, mx_eq, stE_succ]
      exact ih
    · refine Ev.step (fun k => by rw [impl_StageDemand.l0]) ?_
      refine ev_f (by omega) (ev_now ?_)
      unfold stE
      rw [if_neg h0]
end Go.Proofs.Ytdkmmefmhfbgkaa.U
