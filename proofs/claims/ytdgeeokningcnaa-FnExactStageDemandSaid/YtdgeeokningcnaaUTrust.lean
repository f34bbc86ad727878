/- The trusted count of a path: the program's way and the reference's. -/
import Derived.Test.YtdgeeokningcnaaFI10
import Derived.Test.YtdgeeokningcnaaFS10
import Derived.Test.YtdgeeokningcnaaUBase
namespace Go.Proofs.Ytdgeeokningcnaa.U
open Go.RowKit Go.Proofs.YtdgeeokningcnaaW.PrintWords Go.Proofs.YtdgeeokningcnaaW.PrintLast Go.Proofs.Ytdgeeokningcnaa.P
theorem tr_cases (id : Int) (l : List S25) : (∃ m, m < l.length ∧ impl_trusted.q id (rd_T25 l (m : Int)) = true ∧ (∀ i : Nat, i < m → impl_trusted.q id (rd_T25 l (i : Int)) = false) ∧ impl_trusted.ix id l 0 = (m : Int)) ∨ ((∀ i : Nat, i < l.length → impl_trusted.q id (rd_T25 l (i : Int)) = false) ∧ impl_trusted.ix id l 0 = -1) := by
  by_cases h : ∀ i : Nat, i < l.length → impl_trusted.q id (rd_T25 l (i : Int)) = false
  · exact Or.inr ⟨h, impl_trusted.ix_miss id l 0 (fun j hj => by rw [← impl_trusted.rd_ l j hj]; exact h j hj)⟩
  · obtain ⟨m, hm, h1, h2⟩ := first_fail l.length h
    have h1 : impl_trusted.q id (rd_T25 l (m : Int)) = true := by
      cases hq : impl_trusted.q id (rd_T25 l (m : Int)) with
      | true => rfl
      | false => exact absurd hq h1
    refine Or.inl ⟨m, hm, h1, h2, ?_⟩
    rw [impl_trusted.ix_hit id l 0 m hm (fun j hj => by rw [← impl_trusted.rd_ l j (by omega)]; exact h2 j hj) (by rw [← impl_trusted.rd_ l m hm]; exact h1)]
    omega
theorem tr_bound (id : Int) (l : List S25) : -1 ≤ impl_trusted.ix id l 0 ∧ impl_trusted.ix id l 0 < l.length := by
  rcases tr_cases id l with ⟨m, h, _, _, e⟩ | ⟨_, e⟩ <;> omega
def cnt (l : List S25) (id : Int) : Int × Bool := if impl_trusted.ix id l 0 < 0 then (0, false) else ((rd_T25 l (impl_trusted.ix id l 0)).f1, true)
theorem cnt_neg {l : List S25} {id : Int} (h : impl_trusted.ix id l 0 < 0) : cnt l id = (0, false) := if_pos h
theorem cnt_pos {l : List S25} {id : Int} (h : ¬ impl_trusted.ix id l 0 < 0) : cnt l id = ((rd_T25 l (impl_trusted.ix id l 0)).f1, true) := if_neg h
def lowD (l : List S25) (id : Int) : Int := (cnt l id).1
def highD (l : List S25) (id : Int) : Int := if (cnt l id).2 = true then (cnt l id).1 else 1000
theorem spec_isTrusted (x : S25) : spec_IsTrusted.f x.f0 x.f1 x.f2 x.f3 = some (!x.f3 && decide (x.f2 ≤ 900)) := by
  unfold spec_IsTrusted.f
  cases x.f3 <;> simp
theorem spec_count (l : List S25) (id : Int) (h : l.length ≤ 9223372036854775807) : Ev (fun k => spec_l10Count.f k l id) (cnt l id) := by
  unfold spec_l10Count.f
  have hmiss : ∀ i : Nat, i < l.length → impl_trusted.q id (rd_T25 l (i : Int)) = false → ∀ r, Ev (fun k => spec_l10Count.l0 k l id ((i + 1 : Nat) : Int)) r → Ev (fun k => spec_l10Count.l0 k l id (i : Int)) r := by
    intro i hi hq r ih
    refine Ev.step (fun k => by rw [spec_l10Count.l0]) (ev_t (by omega) (ev_t (by omega) ?_))
    rw [w_succ hi h]
    unfold impl_trusted.q at hq
    by_cases h1 : (rd_T25 l (i : Int)).f0 = id
    · rw [decide_eq_true h1, Bool.true_and] at hq
      refine ev_t h1 (ev_call (spec_isTrusted _) (ev_f ?_ ih))
      rw [hq]; decide
    · exact ev_f h1 ih
  rcases tr_cases id l with ⟨m, hm, h1, h2, e⟩ | ⟨h2, e⟩
  · rw [cnt_pos (by omega), e]
    refine ev_for0 (F := fun k i => spec_l10Count.l0 k l id (i : Int)) m (fun i hi ih => hmiss i (by omega) (h2 i hi) _ ih) ?_
    refine Ev.step (fun k => by rw [spec_l10Count.l0]) (ev_t (by omega) (ev_t (by omega) ?_))
    unfold impl_trusted.q at h1
    rw [Bool.and_eq_true] at h1
    exact ev_t (of_decide_eq_true h1.1) (ev_call (spec_isTrusted _) (ev_t h1.2 (Ev.now _)))
  · rw [cnt_neg (by omega)]
    refine ev_for0 (F := fun k i => spec_l10Count.l0 k l id (i : Int)) l.length (fun i hi ih => hmiss i hi (h2 i hi) _ ih) ?_
    refine Ev.step (fun k => by rw [spec_l10Count.l0]) ?_
    exact ev_f (by omega) (Ev.now _)
theorem spec_lowDemand (l : List S25) (id : Int) (h : l.length ≤ 9223372036854775807) : Ev (fun k => spec_LowDemand.f k l id) (lowD l id) := by
  unfold spec_LowDemand.f
  exact Ev.bind (spec_count l id h) (Ev.now _)
theorem spec_highDemand (l : List S25) (id : Int) (h : l.length ≤ 9223372036854775807) : Ev (fun k => spec_HighDemand.f k l id) (highD l id) := by
  unfold spec_HighDemand.f
  refine Ev.bind (spec_count l id h) ?_
  by_cases hc : (cnt l id).2 = true
  · exact ev_t hc (ev_now (if_pos hc).symm)
  · exact ev_f hc (ev_now (if_neg hc).symm)
theorem impl_lowDemand (l : List S25) (id : Int) : impl_LowDemand.f l id = some (lowD l id) := by
  have hb := tr_bound id l
  show (if impl_trusted.ix id l 0 < 0 then some (0 : Int) else _) = _
  by_cases h : impl_trusted.ix id l 0 < 0
  · rw [if_pos h]; unfold lowD; rw [cnt_neg h]
  · rw [if_neg h, if_pos (by omega), if_pos (by omega)]; unfold lowD; rw [cnt_pos h]
theorem impl_highDemand (l : List S25) (id : Int) : impl_HighDemand.f l id = some (highD l id) := by
  have hb := tr_bound id l
  show (if impl_trusted.ix id l 0 < 0 then some (1000 : Int) else _) = _
  by_cases h : impl_trusted.ix id l 0 < 0
  · rw [if_pos h]; unfold highD; rw [cnt_neg h]; rfl
  · rw [if_neg h, if_pos (by omega), if_pos (by omega)]; unfold highD; rw [cnt_pos h]; rfl
/-- The greatest low count among the first i of a stage. -/
def stD (l : List S25) (st : List Int) : Nat → Int
  | 0 => 0
  | i + 1 => if i = 0 then lowD l (rd st (i : Int)) else max (stD l st i) (lowD l (rd st (i : Int)))
theorem stD_one {l : List S25} {st : List Int} {i : Nat} (h : i = 0) : stD l st (i + 1) = lowD l (rd st (i : Int)) := by unfold stD; rw [if_pos h]
theorem stD_more {l : List S25} {st : List Int} {i : Nat} (h : ¬ i = 0) : stD l st (i + 1) = max (stD l st i) (lowD l (rd st (i : Int))) := by rw [stD, if_neg h]
theorem spec_stageDemand (l : List S25) (st : List Int) (h : l.length ≤ 9223372036854775807) (hs : st.length ≤ 9223372036854775807) : Ev (fun k => spec_StageDemand.f k l st) (stD l st st.length) := by
  unfold spec_StageDemand.f
  refine ev_for0 (F := fun k i => spec_StageDemand.l0 k l st (stD l st i) (i : Int)) st.length (fun i hi ih => ?_) ?_
  · refine Ev.step (fun k => by rw [spec_StageDemand.l0]) (ev_t (by omega) ?_)
    rw [w_succ hi hs]
    have hd := spec_lowDemand l (rd st (i : Int)) h
    by_cases h0 : i = 0
    · rw [stD_one h0] at ih
      exact ev_t (by omega) (ev_t (by omega) (Ev.bind hd ih))
    · rw [stD_more h0] at ih
      refine ev_f (by omega) (ev_t (by omega) (Ev.bind hd ?_))
      by_cases h1 : lowD l (rd st (i : Int)) > stD l st i
      · rw [show max (stD l st i) (lowD l (rd st (i : Int))) = lowD l (rd st (i : Int)) by omega] at ih
        exact ev_t h1 (Ev.bind hd ih)
      · rw [show max (stD l st i) (lowD l (rd st (i : Int))) = stD l st i by omega] at ih
        exact ev_f h1 ih
  · refine Ev.step (fun k => by rw [spec_StageDemand.l0]) ?_
    exact ev_f (by omega) (Ev.now _)
def stE (l : List S25) (st : List Int) (i : Nat) : Int := if i = 0 then lowD l (rd st 0) else stD l st i
theorem stE_succ (l : List S25) (st : List Int) (i : Nat) : max (stE l st i) (lowD l (rd st (i : Int))) = stE l st (i + 1) := by
  unfold stE
  rw [if_neg (Nat.succ_ne_zero i)]
  by_cases h : i = 0
  · rw [if_pos h, stD_one h]; subst h; simp
  · rw [if_neg h, stD_more h]
theorem impl_stageDemand (l : List S25) (st : List Int) (hs : st.length ≤ 9223372036854775807) : Ev (fun k => impl_StageDemand.f k l st) (stD l st st.length) := by
  unfold impl_StageDemand.f
  by_cases h0 : st.length = 0
  · rw [h0]
    exact ev_t (by simp) (Ev.now _)
  · refine ev_f (by omega) (ev_t (by omega) (ev_call (impl_lowDemand _ _) ?_))
    refine ev_for0 (F := fun k i => impl_StageDemand.l0 k l (stE l st i) st (st.length : Int) (i : Int)) st.length (fun i hi ih => ?_) ?_
    · refine Ev.step (fun k => by rw [impl_StageDemand.l0]) (ev_t (by omega) (ev_t (by omega) (ev_t (by omega) (ev_call (impl_lowDemand _ _) ?_))))
      rw [w_succ hi hs, mx_eq, stE_succ]
      exact ih
    · refine Ev.step (fun k => by rw [impl_StageDemand.l0]) ?_
      refine ev_f (by omega) (ev_now ?_)
      unfold stE
      rw [if_neg h0]
end Go.Proofs.Ytdgeeokningcnaa.U
