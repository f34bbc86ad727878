/- What is drawn for the sharing of green. -/
import Derived.Test.YtjgonpcajedkjaaFX00c
import Derived.Test.YtjgonpcajedkjaaFX00d
import Derived.Test.YtjgonpcajedkjaaUDraw9
set_option linter.unusedVariables false
set_option linter.unusedSimpArgs false
namespace Go.Proofs.Ytjgonpcajedkjaa.U
open Go.RowKit Go.Proofs.YtjgonpcajedkjaaW.PrintWords Go.Proofs.YtjgonpcajedkjaaW.PrintLast Go.Proofs.Ytjgonpcajedkjaa.P
theorem drawSpareGreen_ex (b : List Int) (hl : b.length ≤ 1048576) : ∃ l p a, Ev (fun k => spec_DrawSpareGreen.f k b) (l, p, a) ∧ l.length ≤ 7 ∧ pSh9 p := by
  unfold spec_DrawSpareGreen.f
  obtain ⟨h, e0⟩ := l1New_ex b hl
  obtain ⟨l, p, i1, h1, e1, r1, r2, j1⟩ := l8Any_ex b 0 h (by decide) hl
  obtain ⟨x, i2, h2, e2, _, _⟩ := l1Int_ex b i1 h1 [20, 40, 60, 90, 120, 1000, 1001, 0] j1 hl (by decide) (by decide)
  exact ⟨l, p, x, Ev.bind e0 (Ev.bind e1 (ev_call e2 (Ev.now _))), r1, r2⟩
theorem drawShareGreen_ex (b : List Int) (hl : b.length ≤ 1048576) : ∃ l p d a, Ev (fun k => spec_DrawShareGreen.f k b) (l, p, d, a) ∧ l.length ≤ 7 ∧ pSh9 p ∧ d.length ≤ 8 := by
  unfold spec_DrawShareGreen.f
  obtain ⟨l, p, a, e, r1, r2⟩ := drawSpareGreen_ex b hl
  obtain ⟨h, e0⟩ := l1New_ex b hl
  obtain ⟨d, i1, h1, e1, r3, j1⟩ := l10Draw_ex b 0 h l (by decide) hl r1
  obtain ⟨x, i2, h2, e2, _⟩ := l1Once_ex b i1 h1 8 j1 hl (by decide) (by decide)
  cases x with
  | true => exact ⟨l, p, _, a, Ev.bind e (Ev.bind e0 (Ev.bind e1 (ev_call e2 (ev_t rfl (ev_t (by show d.length < 4398046511104; omega) (Ev.now _)))))), r1, r2, by simp; omega⟩
  | false => exact ⟨l, p, d, a, Ev.bind e (Ev.bind e0 (Ev.bind e1 (ev_call e2 (ev_f (fun hh => Bool.noConfusion hh) (Ev.now _))))), r1, r2, by omega⟩
end Go.Proofs.Ytjgonpcajedkjaa.U
