/- A plan in form: the program's way and the reference's. -/
import Derived.Test.YtdkmmefmhfbgkaaFX00b
import Derived.Test.YtdkmmefmhfbgkaaFX00c
import Derived.Test.YtdkmmefmhfbgkaaUCovers
import Derived.Test.YtdkmmefmhfbgkaaULeast
import Derived.Test.YtdkmmefmhfbgkaaURd
set_option linter.unusedVariables false
set_option linter.unusedSimpArgs false
namespace Go.Proofs.Ytdkmmefmhfbgkaa.U
open Go.RowKit Go.Proofs.YtdkmmefmhfbgkaaW.PrintWords Go.Proofs.YtdkmmefmhfbgkaaW.PrintLast Go.Proofs.Ytdkmmefmhfbgkaa.P
def stgs (p : List S92) : List (List Int) := p.map (fun x => x.f0)
theorem stgs_len (p : List S92) : (stgs p).length = p.length := List.length_map ..
theorem stgs_rd (p : List S92) (i : Nat) (h : i < p.length) : rd_L2 (stgs p) (i : Int) = (rd_T92 p (i : Int)).f0 := by
  rw [impl_isCovered.rd_ (stgs p) i (by rw [stgs_len]; exact h), rd92 p i h]
  exact List.getElem_map ..
theorem stgs_succ (p : List S92) (i : Nat) (h : i < p.length) : stgs (p.take (i + 1)) = stgs (p.take i) ++ [(rd_T92 p (i : Int)).f0] := by
  unfold stgs
  rw [List.take_succ_eq_append_getElem h, List.map_append, rd92 p i h]
  rfl
theorem stgs_lt (p : List S92) {i : Nat} (h : i ≤ 1048576) : (stgs (p.take i)).length < 5864062014805 := by
  rw [stgs_len, List.length_take]; omega
theorem spec_stages (p : List S92) (h : p.length ≤ 1048576) : Ev (fun k => spec_l8Stages.f k p) (stgs p) := by
  unfold spec_l8Stages.f
  have e : Ev (fun k => spec_l8Stages.l0 k p (stgs (p.take 0)) ((0 : Nat) : Int)) (stgs p) := by
    refine ev_for0 (F := fun k i => spec_l8Stages.l0 k p (stgs (p.take i)) (i : Int)) p.length (fun i hi ih => ?_) ?_
    · refine Ev.step (fun k => by rw [spec_l8Stages.l0]) (ev_t (by omega) (ev_t (by omega) (ev_t (stgs_lt p (i := i) (by omega)) ?_)))
      rw [w_succ hi (by omega), ← stgs_succ p i hi]
      exact ih
    · refine Ev.step (fun k => by rw [spec_l8Stages.l0]) (ev_f (by omega) (ev_now ?_))
      rw [List.take_length]
  exact e
def pOk (l : List S89) (p : List S92) (i : Nat) : Prop := ((rd_T92 p (i : Int)).f0.length : Int) ≠ 0 ∧ togeth l (rd_T92 p (i : Int)).f0 = true ∧ leastG l (rd_T92 p (i : Int)).f0 ≤ (rd_T92 p (i : Int)).f1 ∧ (rd_T92 p (i : Int)).f1 ≤ 60
noncomputable def plan (l : List S89) (p : List S92) : Bool := if 1 ≤ (p.length : Int) ∧ (p.length : Int) ≤ 6 then bo (∀ i, i < p.length → pOk l p i) && cov l (stgs p) else false
theorem plan_t {l : List S89} {p : List S92} (h : 1 ≤ (p.length : Int) ∧ (p.length : Int) ≤ 6) : plan l p = (bo (∀ i, i < p.length → pOk l p i) && cov l (stgs p)) := if_pos h
theorem plan_f {l : List S89} {p : List S92} (h : ¬ (1 ≤ (p.length : Int) ∧ (p.length : Int) ≤ 6)) : plan l p = false := if_neg h
theorem plan_len {l : List S89} {p : List S92} (h : plan l p = true) : 1 ≤ p.length ∧ p.length ≤ 6 := by
  by_cases c : 1 ≤ (p.length : Int) ∧ (p.length : Int) ≤ 6
  · omega
  · rw [plan_f c] at h; cases h
theorem plan_at {l : List S89} {p : List S92} (h : plan l p = true) {i : Nat} (hi : i < p.length) : pOk l p i := by
  have c := plan_len h
  rw [plan_t (by omega), Bool.and_eq_true] at h
  exact bo_iff.1 h.1 i hi
theorem spec_isPlan (l : List S89) (p : List S92) (h : l.length ≤ 1048576) (hp : p.length ≤ 1048576) (hx : ∀ i : Nat, i < p.length → (rd_T92 p (i : Int)).f0.length ≤ 1048576) : Ev (fun k => spec_IsPlan.f k l p) (plan l p) := by
  unfold spec_IsPlan.f
  refine ev_call (spec_l1In_eq _ _ _) ?_
  by_cases hl : 1 ≤ (p.length : Int) ∧ (p.length : Int) ≤ 6
  · rw [plan_t hl]
    refine ev_dt hl ?_
    refine ev_all (F := fun k i => spec_IsPlan.l0 k l p (i : Int)) (pOk l p) p.length (fun i hi ho r ih => ?_) (fun i hi ho => ?_) (fun _ => ?_)
    · have hxi := hx i hi
      obtain ⟨o1, o2, o3⟩ := ho
      refine Ev.step (fun k => by rw [spec_IsPlan.l0]) (ev_t (by omega) (ev_t (by omega) (ev_f o1 (Ev.bind (spec_isTogether l _ (by omega) (by omega)) (ev_t o2 ?_)))))
      refine Ev.bind (spec_leastGreen l _ (by omega) (by omega)) (ev_call (spec_l1In_eq _ _ _) (ev_dt o3 ?_))
      rw [w_succ hi (by omega)]
      exact ih
    · have hxi := hx i hi
      refine Ev.step (fun k => by rw [spec_IsPlan.l0]) (ev_t (by omega) (ev_t (by omega) (ev_ite (fun _ => Ev.now _) (fun o1 => ?_))))
      refine Ev.bind (spec_isTogether l _ (by omega) (by omega)) (ev_ite (fun o2 => ?_) (fun _ => Ev.now _))
      refine Ev.bind (spec_leastGreen l _ (by omega) (by omega)) (ev_call (spec_l1In_eq _ _ _) ?_)
      exact ev_df (fun o3 => ho ⟨o1, o2, o3⟩) (Ev.now _)
    · refine Ev.step (fun k => by rw [spec_IsPlan.l0]) (ev_f (by omega) ?_)
      refine Ev.bind (spec_stages p hp) (Ev.bind (spec_covers l (stgs p) h (by rw [stgs_len]; exact hp) (fun i hi => ?_)) (Ev.now _))
      rw [stgs_len] at hi
      rw [stgs_rd p i hi]
      exact hx i hi
  · rw [plan_f hl]
    exact ev_df hl (Ev.now _)
theorem impl_isPlan (l : List S89) (p : List S92) (h : l.length ≤ 1048576) (hp : p.length ≤ 1048576) (hx : ∀ i : Nat, i < p.length → (rd_T92 p (i : Int)).f0.length ≤ 1048576) : Ev (fun k => impl_IsPlan.f k l p) (plan l p) := by
  unfold impl_IsPlan.f
  refine ev_call (impl_InRange_eq _ _ _) ?_
  by_cases hl : 1 ≤ (p.length : Int) ∧ (p.length : Int) ≤ 6
  · rw [plan_t hl]
    refine ev_dt hl ?_
    have e : Ev (fun k => impl_IsPlan.l0 k l (stgs (p.take 0)) p (p.length : Int) ((0 : Nat) : Int)) (bo (∀ i, i < p.length → pOk l p i) && cov l (stgs p)) := by
      refine ev_all (F := fun k i => impl_IsPlan.l0 k l (stgs (p.take i)) p (p.length : Int) (i : Int)) (pOk l p) p.length (fun i hi ho r ih => ?_) (fun i hi ho => ?_) (fun _ => ?_)
      · have hxi := hx i hi
        obtain ⟨o1, o2, o3⟩ := ho
        refine Ev.step (fun k => by rw [impl_IsPlan.l0]) (ev_t (by omega) (ev_t (by omega) (ev_t (by omega) (ev_f o1 (Ev.bind (impl_isTogether l _ (by omega) (by omega)) (ev_t o2 ?_))))))
        refine Ev.bind (impl_leastGreen l _ (by omega)) (ev_call (impl_InRange_eq _ _ _) (ev_dt o3 (ev_t (stgs_lt p (i := i) (by omega)) ?_)))
        rw [w_succ hi (by omega), ← stgs_succ p i hi]
        exact ih
      · have hxi := hx i hi
        refine Ev.step (fun k => by rw [impl_IsPlan.l0]) (ev_t (by omega) (ev_t (by omega) (ev_t (by omega) (ev_ite (fun _ => Ev.now _) (fun o1 => ?_)))))
        refine Ev.bind (impl_isTogether l _ (by omega) (by omega)) (ev_ite (fun o2 => ?_) (fun _ => Ev.now _))
        refine Ev.bind (impl_leastGreen l _ (by omega)) (ev_call (impl_InRange_eq _ _ _) ?_)
        exact ev_df (fun o3 => ho ⟨o1, o2, o3⟩) (Ev.now _)
      · refine Ev.step (fun k => by rw [impl_IsPlan.l0]) (ev_f (by omega) ?_)
        rw [List.take_length]
        refine Ev.bind (impl_covers l (stgs p) h (by rw [stgs_len]; exact hp) (fun i hi => ?_)) (Ev.now _)
        rw [stgs_len] at hi
        rw [stgs_rd p i hi]
        exact hx i hi
    exact e
  · rw [plan_f hl]
    exact ev_df hl (Ev.now _)
end Go.Proofs.Ytdkmmefmhfbgkaa.U
