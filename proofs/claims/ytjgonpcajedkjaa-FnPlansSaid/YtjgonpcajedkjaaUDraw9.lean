/- Plans that are drawn, and what is drawn beside them. -/
import Derived.Test.YtjgonpcajedkjaaFX00b
import Derived.Test.YtjgonpcajedkjaaFX00d
import Derived.Test.YtjgonpcajedkjaaUDraw8
import Derived.Test.YtjgonpcajedkjaaULong
set_option linter.unusedVariables false
set_option linter.unusedSimpArgs false
namespace Go.Proofs.Ytjgonpcajedkjaa.U
open Go.RowKit Go.Proofs.YtjgonpcajedkjaaW.PrintWords Go.Proofs.YtjgonpcajedkjaaW.PrintLast Go.Proofs.Ytjgonpcajedkjaa.P
/-- What is drawn as a plan: short. -/
def pSh9 (p : List S85) : Prop := p.length ≤ 12 ∧ ∀ i : Nat, i < p.length → (rd_T85 p (i : Int)).f0.length ≤ 13
theorem pSh9.pw {l : List S50} {p : List S85} (h : pSh9 p) (hl : l.length ≤ 1048576) : PW l p := ⟨hl, by have := h.1; omega, fun i hi => by have := h.2 i hi; omega⟩
theorem drawIsPlan_ex (b : List Int) (hl : b.length ≤ 1048576) : ∃ l p, Ev (fun k => spec_DrawIsPlan.f k b) (l, p) ∧ l.length ≤ 7 ∧ pSh9 p := by
  unfold spec_DrawIsPlan.f
  obtain ⟨h, e0⟩ := l1New_ex b hl
  obtain ⟨l, p, i1, h1, e1, r1, r2, _⟩ := l8Any_ex b 0 h (by decide) hl
  exact ⟨l, p, Ev.bind e0 (Ev.bind e1 (Ev.now _)), r1, r2⟩
theorem drawStartOf_ex (b : List Int) (hl : b.length ≤ 1048576) : ∃ l p a, Ev (fun k => spec_DrawStartOf.f k b) (l, p, a) ∧ l.length ≤ 7 ∧ pSh9 p ∧ -1 ≤ a ∧ a ≤ 3 := by
  unfold spec_DrawStartOf.f
  obtain ⟨l, p, e, r1, r2⟩ := drawIsPlan_ex b hl
  obtain ⟨h, e0⟩ := l1New_ex b hl
  obtain ⟨x, i2, h2, e2, x0, x1, _⟩ := l1Below_ex b 0 h 5 (by decide) hl (by decide) (by decide)
  refine ⟨l, p, x - 1, Ev.bind e (Ev.bind e0 (ev_call e2 (ev_now ?_))), r1, r2, by omega, by omega⟩
  show (l, p, wrap64 (x - 1)) = (l, p, x - 1)
  rw [w64 (n := x - 1) (by omega) (by omega)]
theorem l8Copy_val (p : List S85) (h : pSh9 p) : Ev (fun k => spec_l8Copy.f k p) p := by
  have hp := h.1
  unfold spec_l8Copy.f
  have e0 : p.take p.length = p := List.take_length
  suffices hh : Ev (fun k => spec_l8Copy.l0 k p (p.take 0) ((0 : Nat) : Int)) (p.take p.length) by rw [e0] at hh; exact hh
  refine ev_for0 (F := fun k i => spec_l8Copy.l0 k p (p.take i) (i : Int)) p.length (fun i hi ih => ?_) ?_
  · have hx := h.2 i hi
    refine Ev.step (fun k => by rw [spec_l8Copy.l0]) ?_
    refine ev_t (by omega) (ev_some ?_)
    refine ev_t (by omega) ?_
    refine ev_t (by simp; omega) ?_
    refine ev_t (by rw [List.length_take]; omega) ?_
    rw [w_succ hi (by omega)]
    rw [List.take_succ_eq_append_getElem hi, ← rd85 p i hi] at ih
    exact ih
  · refine Ev.step (fun k => by rw [spec_l8Copy.l0]) ?_
    exact ev_f (by omega) (Ev.now _)
theorem drawEqualPlans_ex (b : List Int) (hl : b.length ≤ 1048576) : ∃ p q, Ev (fun k => spec_DrawEqualPlans.f k b) (p, q) ∧ pSh9 p ∧ pSh9 q := by
  unfold spec_DrawEqualPlans.f
  obtain ⟨l, p, e, r1, r2⟩ := drawIsPlan_ex b hl
  obtain ⟨h, e0⟩ := l1New_ex b hl
  obtain ⟨x, i2, h2, e2, j2⟩ := l1Once_ex b 0 h 2 (by decide) hl (by decide) (by decide)
  obtain ⟨l', q, i3, h3, e3, _, r3, _⟩ := l8Any_ex b i2 h2 j2 hl
  cases x with
  | true => exact ⟨p, p, Ev.bind e (Ev.bind e0 (ev_call e2 (ev_t rfl (Ev.bind (l8Copy_val p r2) (Ev.now _))))), r2, r2⟩
  | false => exact ⟨p, q, Ev.bind e (Ev.bind e0 (ev_call e2 (ev_f (fun hh => Bool.noConfusion hh) (Ev.bind e3 (Ev.now _))))), r2, r3⟩
theorem drawPlanFor_ex (b : List Int) (hl : b.length ≤ 1048576) : ∃ l, Ev (fun k => spec_DrawPlanFor.f k b) l ∧ l.length ≤ 7 := by
  unfold spec_DrawPlanFor.f spec_DrawArePaths.f
  obtain ⟨h, e0⟩ := l1New_ex b hl
  obtain ⟨l, i1, h1, e1, _, r1, _⟩ := l5Any_ex b 0 h (by decide) hl
  exact ⟨l, Ev.bind (Ev.bind e0 (Ev.bind e1 (Ev.now _))) (Ev.now _), r1⟩
end Go.Proofs.Ytjgonpcajedkjaa.U
