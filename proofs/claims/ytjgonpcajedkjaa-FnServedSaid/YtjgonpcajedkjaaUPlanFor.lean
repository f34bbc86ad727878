/- The plan for paths: the program's way and the reference's. -/
import Derived.Test.YtjgonpcajedkjaaFX00b
import Derived.Test.YtjgonpcajedkjaaFX00c
import Derived.Test.YtjgonpcajedkjaaUStage
import Derived.Test.YtjgonpcajedkjaaUCovers
import Derived.Test.YtjgonpcajedkjaaUPlan
set_option linter.unusedVariables false
set_option linter.unusedSimpArgs false
namespace Go.Proofs.Ytjgonpcajedkjaa.U
open Go.RowKit Go.Proofs.YtjgonpcajedkjaaW.PrintWords Go.Proofs.YtjgonpcajedkjaaW.PrintLast Go.Proofs.Ytjgonpcajedkjaa.P
theorem ipos_drop (a : Int) (s : List Int) (x : Int) : x ∈ iins a s ↔ x = a ∨ x ∈ s := by
  unfold iins
  rw [List.mem_append, List.mem_append, List.mem_singleton]
  have h := List.take_append_drop (ipos a s) s
  constructor
  · rintro ((h1 | h1) | h1)
    · exact .inr (List.mem_of_mem_take h1)
    · exact .inl h1
    · exact .inr (List.mem_of_mem_drop h1)
  · rintro (h1 | h1)
    · exact .inl (.inr h1)
    · rw [← h, List.mem_append] at h1
      rcases h1 with h1 | h1
      · exact .inl (.inl h1)
      · exact .inr h1
end Go.Proofs.Ytjgonpcajedkjaa.U
