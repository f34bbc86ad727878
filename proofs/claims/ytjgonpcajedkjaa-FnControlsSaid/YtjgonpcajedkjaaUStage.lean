/- A stage with as many more as may go with it: the program's way and the reference's. -/
import Derived.Test.YtjgonpcajedkjaaFX00
import Derived.Test.YtjgonpcajedkjaaUTogether
import Derived.Test.YtjgonpcajedkjaaUHas
set_option linter.unusedVariables false
set_option linter.unusedSimpArgs false
namespace Go.Proofs.Ytjgonpcajedkjaa.U
open Go.RowKit Go.Proofs.YtjgonpcajedkjaaW.PrintWords Go.Proofs.YtjgonpcajedkjaaW.PrintLast Go.Proofs.Ytjgonpcajedkjaa.P
def ipos (a : Int) : List Int → Nat
  | [] => 0
  | x :: l => if x < a then ipos a l + 1 else 0
theorem ipos_le (a : Int) : ∀ (s : List Int), ipos a s ≤ s.length
  | [] => by simp [ipos]
  | x :: l => by
    unfold ipos
    have := ipos_le a l
    split <;> simp <;> omega
theorem ipos_lt (a : Int) : ∀ (s : List Int) (i : Nat) (h : i < ipos a s), (s[i]'(Nat.lt_of_lt_of_le h (ipos_le a s))) < a
  | [], i, h => absurd h (by simp [ipos])
  | x :: l, i, h => by
    by_cases hx : x < a
    · cases i with
      | zero => exact hx
      | succ i =>
        have h2 : i < ipos a l := by
          have h3 := h
          unfold ipos at h3
          rw [if_pos hx] at h3
          omega
        exact ipos_lt a l i h2
    · exfalso
      unfold ipos at h
      rw [if_neg hx] at h
      omega
theorem ipos_at (a : Int) : ∀ (s : List Int) (h : ipos a s < s.length), ¬ (s[ipos a s]) < a
  | [], h => absurd h (by simp)
  | x :: l, h => by
    by_cases hx : x < a
    · have e : ipos a (x :: l) = ipos a l + 1 := by
        show (if x < a then ipos a l + 1 else 0) = _
        rw [if_pos hx]
      have h2 : ipos a l < l.length := by rw [e] at h; simpa using h
      have h3 := ipos_at a l h2
      simp only [e, List.getElem_cons_succ]
      exact h3
    · have e : ipos a (x :: l) = 0 := by
        show (if x < a then ipos a l + 1 else 0) = _
        rw [if_neg hx]
      simp only [e, List.getElem_cons_zero]
      exact hx
def iins (a : Int) (s : List Int) : List Int := s.take (ipos a s) ++ [a] ++ s.drop (ipos a s)
theorem iins_len (a : Int) (s : List Int) : (iins a s).length = s.length + 1 := by
  have := ipos_le a s
  simp [iins]
  omega
def Asc (s : List Int) : Prop := ∀ i j : Nat, i < j → j < s.length → rd s (i : Int) < rd s (j : Int)
theorem asc_of {l : List S50} {s : List Int} (h : togeth l s = true) : Asc s := by
  unfold togeth at h
  have h1 : ∀ i, i < s.length → tStep l s i := by
    have h2 := (Bool.and_eq_true _ _).mp h |>.1
    exact bo_iff.1 h2
  have step : ∀ i : Nat, i + 1 < s.length → rd s (i : Int) < rd s ((i + 1 : Nat) : Int) := fun i hi => by
    have h3 := (h1 (i + 1) hi).1.2 (by omega)
    have e : ((i + 1 : Nat) : Int) - 1 = (i : Int) := by omega
    rw [e] at h3
    exact h3
  have far : ∀ d i : Nat, i + d + 1 < s.length → rd s (i : Int) < rd s ((i + d + 1 : Nat) : Int) := by
    intro d
    induction d with
    | zero => exact fun i hi => step i hi
    | succ d ih => exact fun i hi => Int.lt_trans (ih i (by omega)) (step (i + d + 1) (by omega))
  intro i j hij hj
  have h2 := far (j - i - 1) i (by omega)
  have e : i + (j - i - 1) + 1 = j := by omega
  rw [e] at h2
  exact h2
def pv (a : Int) (s : List Int) : List Int := if ipos a s < s.length ∧ rd s (ipos a s : Int) = a then s else iins a s
theorem pv_len (a : Int) (s : List Int) : (pv a s).length ≤ s.length + 1 := by
  unfold pv
  split
  · exact Nat.le_succ _
  · exact Nat.le_of_eq (iins_len a s)
theorem spec_put0 (s : List Int) (a : Int) (h : s.length ≤ 4194304) : Ev (fun k => spec_l6Put.f k s a) (pv a s) := by
  unfold spec_l6Put.f
  have hp := ipos_le a s
  refine ev_for0 (F := fun k i => spec_l6Put.l0 k s a (i : Int)) (ipos a s) (fun i hi ih => ?_) ?_
  · refine Ev.step (fun k => by rw [spec_l6Put.l0]) (ev_t (by omega) (ev_t (by omega) (ev_t ?_ ?_)))
    · rw [rd_at s i (by omega)]
      exact ipos_lt a s i hi
    · rw [w_succ (n := ipos a s) hi (by omega)]
      exact ih
  · refine Ev.step (fun k => by rw [spec_l6Put.l0]) ?_
    have e : ((ipos a s : Nat) : Int).toNat = ipos a s := Int.toNat_natCast _
    have q1 : (s.take (ipos a s)).length ≤ s.length := by rw [List.length_take]; omega
    have q2 : (s.drop (ipos a s)).length ≤ s.length := by rw [List.length_drop]; omega
    by_cases hlt : ipos a s < s.length
    · refine ev_t (by omega) (ev_t (by omega) (ev_f (by rw [rd_at s _ hlt]; exact ipos_at a s hlt) ?_))
      by_cases he : rd s (ipos a s : Int) = a
      · refine ev_t he (ev_call rfl (ev_t (by simp; omega) (ev_now ?_)))
        unfold pv
        rw [if_pos ⟨hlt, he⟩]
        rfl
      · refine ev_f he (ev_call rfl (ev_t (by omega) (ev_t (by rw [e]; simp; omega) (ev_call rfl (ev_call rfl (ev_t (by rw [e]; simp; omega) (ev_call rfl (ev_t (by rw [e]; simp; omega) (ev_now ?_)))))))))
        unfold pv
        rw [if_neg (fun hh => he hh.2), e]
        rfl
    · refine ev_f (by omega) (ev_call rfl (ev_t (by omega) (ev_t (by omega) (ev_t (by rw [e]; simp; omega) (ev_call rfl (ev_call rfl (ev_t (by rw [e]; simp; omega) (ev_call rfl (ev_t (by rw [e]; simp; omega) (ev_now ?_))))))))))
      unfold pv
      rw [if_neg (fun hh => hlt hh.1), e]
      rfl
end Go.Proofs.Ytjgonpcajedkjaa.U
