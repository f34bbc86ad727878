/- The trusted count of a path: the program's way and the reference's. -/
import Derived.Test.YtdkmmefmhfbgkaaFX00b
import Derived.Test.YtdkmmefmhfbgkaaFX00d
import Derived.Test.YtdkmmefmhfbgkaaUBase
set_option linter.unusedVariables false
set_option linter.unusedSimpArgs false
namespace Go.Proofs.Ytdkmmefmhfbgkaa.U
open Go.RowKit Go.Proofs.YtdkmmefmhfbgkaaW.PrintWords Go.Proofs.YtdkmmefmhfbgkaaW.PrintLast Go.Proofs.Ytdkmmefmhfbgkaa.P
theorem tr_cases (id : Int) (l : List S128) : (∃ m, m < l.length ∧ impl_trusted.q id (rd_T128 l (m : Int)) = true ∧ (∀ i : Nat, i < m → impl_trusted.q id (rd_T128 l (i : Int)) = false) ∧ impl_trusted.ix id l 0 = (m : Int)) ∨ ((∀ i : Nat, i < l.length → impl_trusted.q id (rd_T128 l (i : Int)) = false) ∧ impl_trusted.ix id l 0 = -1) := by
  by_cases h : ∀ i : Nat, i < l.length → impl_trusted.q id (rd_T128 l (i : Int)) = false
  · exact Or.inr ⟨h, impl_trusted.ix_miss id l 0 (fun j hj => by rw [← impl_trusted.rd_ l j hj]; exact h j hj)⟩
  · obtain ⟨m, hm, h1, h2⟩ := first_fail l.length h
    have h1 : impl_trusted.q id (rd_T128 l (m : Int)) = true := by
      cases hq : impl_trusted.q id (rd_T128 l (m : Int)) with
      | true => rfl
      | false => exact absurd hq h1
    refine Or.inl ⟨m, hm, h1, h2, ?_⟩
    rw [impl_trusted.ix_hit id l 0 m hm (fun j hj => by rw [← impl_trusted.rd_ l j (by omega)]; exact h2 j hj) (by rw [← impl_trusted.rd_ l m hm]; exact h1)]
    omega
theorem tr_bound (id : Int) (l : List S128) : -1 ≤ impl_trusted.ix id l 0 ∧ impl_trusted.ix id l 0 < l.length := by
  rcases tr_cases id l with ⟨m, h, _, _, e⟩ | ⟨_, e⟩ <;> omega
def cnt (l : List S128) (id : Int) : Int × Bool := if impl_trusted.ix id l 0 < 0 then (0, false) else ((rd_T128 l (impl_trusted.ix id l 0)).f1, true)
theorem cnt_neg {l : List S128} {id : Int} (h : impl_trusted.ix id l 0 < 0) : cnt l id = (0, false) := if_pos h
theorem cnt_pos {l : List S128} {id : Int} (h : ¬ impl_trusted.ix id l 0 < 0) : cnt l id = ((rd_T128 l (impl_trusted.ix id l 0)).f1, true) := if_neg h
def lowD (l : List S128) (id : Int) : Int := (cnt l id).1
theorem spec_isTrusted (x : S128) : spec_IsTrusted.f x.f0 x.f1 x.f2 x.f3 = some (!x.f3 && decide (x.f2 ≤ 900)) := by
  unfold spec_IsTrusted.f
  cases x.f3 <;> simp
theorem spec_count (l : List S128) (id : Int) (h : l.length ≤ 9223372036854775807) : Ev (fun k => spec_l10Count.f k l id) (cnt l id) := by
  unfold spec_l10Count.f
  have hmiss : ∀ i : Nat, i < l.length → impl_trusted.q id (rd_T128 l (i : Int)) = false → ∀ r, Ev (fun k => spec_l10Count.l0 k l id ((i + 1 : Nat) : Int)) r → Ev (fun k => spec_l10Count.l0 k l id (i : Int)) r := by
    intro i hi hq r ih
    refine Ev.step (fun k => by rw [spec_l10Count.l0]) (ev_t (by omega) (ev_t (by omega) ?_))
    rw [w_succ hi h]
    unfold impl_trusted.q at hq
    by_cases h1 : (rd_T128 l (i : Int)).f0 = id
    · rw [decide_eq_true h1, Bool.true_and] at hq
      refine ev_t h1 (ev_call (spec_isTrusted _) (ev_f ?_ ih))
      rw [hq]; decide
    · exact ev_f h1 ih
  rcases tr_cases id l with ⟨m, hm, h1, h2, e⟩ | ⟨h2, e⟩
  · rw [cnt_pos (by omega), e]
    refine ev_for0 (F := fun k i => spec_l10Count.l0 k l id (i : Int)) m (fun i hi ih => hmiss i (by omega) (h2 i hi) _ ih) ?_
    refine Ev.step (fun k => by rw [spec_l10Count.l0]) (ev_t (by omega) (ev_t (by omega) ?_))
    unfold impl_trusted.q at h1
    rw [Bool.and_eq_true] at h1
    exact ev_t (of_decide_eq_true h1.1) (ev_call (spec_isTrusted _) (ev_t h1.2 (Ev.now _)))
  · rw [cnt_neg (by omega)]
    refine ev_for0 (F := fun k i => spec_l10Count.l0 k l id (i : Int)) l.length (fun i hi ih => hmiss i hi (h2 i hi) _ ih) ?_
    refine Ev.step (fun k => by rw [spec_l10Count.l0]) ?_
    exact ev_f (by omega) (Ev.now _)
end Go.Proofs.Ytdkmmefmhfbgkaa.U
