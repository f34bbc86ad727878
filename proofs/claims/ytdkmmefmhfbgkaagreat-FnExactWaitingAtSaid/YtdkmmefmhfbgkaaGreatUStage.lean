/- A stage with as many more as may go with it: the program's way and the reference's. -/
import Derived.Test.YtdkmmefmhfbgkaaGreatFX00b
import Derived.Test.YtdkmmefmhfbgkaaGreatUTogether
import Derived.Test.YtdkmmefmhfbgkaaGreatUHas
set_option linter.unusedVariables false
set_option linter.unusedSimpArgs false
namespace Go.Proofs.YtdkmmefmhfbgkaaGreat.U
open Go.RowKit Go.Proofs.YtdkmmefmhfbgkaaGreatW.PrintWords Go.Proofs.YtdkmmefmhfbgkaaGreatW.PrintLast Go.Proofs.YtdkmmefmhfbgkaaGreat.P
def ipos (a : Int) : List Int → Nat
  | [] => 0
  | x :: l => if x < a then ipos a l + 1 else 0
theorem ipos_le (a : Int) : ∀ (s : List Int), ipos a s ≤ s.length
  | [] => by simp [ipos]
  | x :: l => by
    unfold ipos
    have := ipos_le a l
    split <;> simp <;> omega
theorem ipos_lt (a : Int) : ∀ (s : List Int) (i : Nat) (h : i < ipos a s), (s[i]'(Nat.lt_of_lt_of_le h (ipos_le a s))) < a
  | [], i, h => absurd h (by simp [ipos])
  | x :: l, i, h => by
    by_cases hx : x < a
    · cases i with
      | zero => exact hx
      | succ i =>
        have h2 : i < ipos a l := by
          have h3 := h
          unfold ipos at h3
          rw [if_pos hx] at h3
          omega
        exact ipos_lt a l i h2
    · exfalso
      unfold ipos at h
      rw [if_neg hx] at h
      omega
theorem ipos_at (a : Int) : ∀ (s : List Int) (h : ipos a s < s.length), ¬ (s[ipos a s]) < a
  | [], h => absurd h (by simp)
  | x :: l, h => by
    by_cases hx : x < a
    · have e : ipos a (x :: l) = ipos a l + 1 := by
        show (if x < a then ipos a l + 1 else 0) = _
        rw [if_pos hx]
      have h2 : ipos a l < l.length := by rw [e] at h; simpa using h
      have h3 := ipos_at a l h2
      simp only [e, List.getElem_cons_succ]
      exact h3
    · have e : ipos a (x :: l) = 0 := by
        show (if x < a then ipos a l + 1 else 0) = _
        rw [if_neg hx]
      simp only [e, List.getElem_cons_zero]
      exact hx
def iins (a : Int) (s : List Int) : List Int := s.take (ipos a s) ++ [a] ++ s.drop (ipos a s)
theorem iins_len (a : Int) (s : List Int) : (iins a s).length = s.length + 1 := by
  have := ipos_le a s
  simp [iins]
  omega
def Asc (s : List Int) : Prop := ∀ i j : Nat, i < j → j < s.length → rd s (i : Int) < rd s (j : Int)
theorem asc_mem {s : List Int} (h : Asc s) (a : Int) : a ∈ s ↔ ipos a s < s.length ∧ rd s (ipos a s : Int) = a := by
  constructor
  · intro hm
    obtain ⟨m, hm, e⟩ := mem_rd.1 hm
    have h1 : ¬ m < ipos a s := fun hlt => by
      have h2 := ipos_lt a s m hlt
      rw [rd_at s m hm] at e
      omega
    have h3 : ¬ ipos a s < m := fun hlt => by
      have h4 := h _ _ hlt hm
      rw [e, rd_at s _ (by omega)] at h4
      exact ipos_at a s (by omega) h4
    have h5 : ipos a s = m := by omega
    rw [h5]
    exact ⟨hm, e⟩
  · intro ⟨h1, h2⟩
    exact mem_rd.2 ⟨_, h1, h2⟩
/-- From the place on nothing is below. -/
theorem asc_ge {s : List Int} (h : Asc s) (a : Int) (j : Nat) (hj : j < s.length) (hp : ipos a s ≤ j) : ¬ rd s (j : Int) < a := by
  have h1 := ipos_at a s (by omega)
  rcases Nat.lt_or_ge (ipos a s) j with h2 | h2
  · have h3 := h _ _ h2 hj
    rw [rd_at s (ipos a s) (by omega)] at h3
    omega
  · have e : ipos a s = j := by omega
    rw [← e, rd_at s _ (by omega)]
    exact h1
def iput (a : Int) (s : List Int) : List Int := if a ∈ s then s else iins a s
theorem iput_len (a : Int) (s : List Int) : (iput a s).length ≤ s.length + 1 := by
  unfold iput
  split
  · exact Nat.le_succ _
  · exact Nat.le_of_eq (iins_len a s)
def pv (a : Int) (s : List Int) : List Int := if ipos a s < s.length ∧ rd s (ipos a s : Int) = a then s else iins a s
theorem spec_put0 (s : List Int) (a : Int) (h : s.length ≤ 4194304) : Ev (fun k => spec_l6Put.f k s a) (pv a s) := by
  unfold spec_l6Put.f
  have hp := ipos_le a s
  refine ev_for0 (F := fun k i => spec_l6Put.l0 k s a (i : Int)) (ipos a s) (fun i hi ih => ?_) ?_
  · refine Ev.step (fun k => by rw [spec_l6Put.l0]) (ev_t (by omega) (ev_t (by omega) (ev_t ?_ ?_)))
    · rw [rd_at s i (by omega)]
      exact ipos_lt a s i hi
    · rw [w_succ (n := ipos a s) hi (by omega)]
      exact ih
  · refine Ev.step (fun k => by rw [spec_l6Put.l0]) ?_
    have e : ((ipos a s : Nat) : Int).toNat = ipos a s := Int.toNat_natCast _
    have q1 : (s.take (ipos a s)).length ≤ s.length := by rw [List.length_take]; omega
    have q2 : (s.drop (ipos a s)).length ≤ s.length := by rw [List.length_drop]; omega
    by_cases hlt : ipos a s < s.length
    · refine ev_t (by omega) (ev_t (by omega) (ev_f (by rw [rd_at s _ hlt]; exact ipos_at a s hlt) ?_))
      by_cases he : rd s (ipos a s : Int) = a
      · refine ev_t he (ev_call rfl (ev_t (by simp; omega) (ev_now ?_)))
        unfold pv
        rw [if_pos ⟨hlt, he⟩]
        rfl
      · refine ev_f he (ev_call rfl (ev_t (by omega) (ev_t (by rw [e]; simp; omega) (ev_call rfl (ev_call rfl (ev_t (by rw [e]; simp; omega) (ev_call rfl (ev_t (by rw [e]; simp; omega) (ev_now ?_)))))))))
        unfold pv
        rw [if_neg (fun hh => he hh.2), e]
        rfl
    · refine ev_f (by omega) (ev_call rfl (ev_t (by omega) (ev_t (by omega) (ev_t (by rw [e]; simp; omega) (ev_call rfl (ev_call rfl (ev_t (by rw [e]; simp; omega) (ev_call rfl (ev_t (by rw [e]; simp; omega) (ev_now ?_))))))))))
      unfold pv
      rw [if_neg (fun hh => hlt hh.1), e]
      rfl
theorem spec_put (s : List Int) (a : Int) (ha : Asc s) (h : s.length ≤ 4194304) : Ev (fun k => spec_l6Put.f k s a) (iput a s) := by
  have e : iput a s = pv a s := by
    unfold iput pv
    by_cases hm : a ∈ s
    · rw [if_pos hm, if_pos ((asc_mem ha a).1 hm)]
    · rw [if_neg hm, if_neg (fun hh => hm ((asc_mem ha a).2 hh))]
  rw [e]
  exact spec_put0 s a h
end Go.Proofs.YtdkmmefmhfbgkaaGreat.U
