/- Plans that are drawn, and what is drawn beside them. -/
import Derived.Test.YtjgonpcajedkjaaUDraw8
import Derived.Test.YtjgonpcajedkjaaULong
set_option linter.unusedVariables false
set_option linter.unusedSimpArgs false
namespace Go.Proofs.Ytjgonpcajedkjaa.U
open Go.RowKit Go.Proofs.YtjgonpcajedkjaaW.PrintWords Go.Proofs.YtjgonpcajedkjaaW.PrintLast Go.Proofs.Ytjgonpcajedkjaa.P
/-- What is drawn as a plan: short. -/
def pSh9 (p : List S85) : Prop := p.length ≤ 12 ∧ ∀ i : Nat, i < p.length → (rd_T85 p (i : Int)).f0.length ≤ 13
theorem pSh9.pw {l : List S50} {p : List S85} (h : pSh9 p) (hl : l.length ≤ 1048576) : PW l p := ⟨hl, by have := h.1; omega, fun i hi => by have := h.2 i hi; omega⟩
end Go.Proofs.Ytjgonpcajedkjaa.U
