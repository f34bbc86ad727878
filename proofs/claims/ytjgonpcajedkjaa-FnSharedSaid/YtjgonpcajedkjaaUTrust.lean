/- The trusted count of a path: the program's way and the reference's. -/
import Derived.Test.YtjgonpcajedkjaaFX00d
import Derived.Test.YtjgonpcajedkjaaUBase
set_option linter.unusedVariables false
set_option linter.unusedSimpArgs false
namespace Go.Proofs.Ytjgonpcajedkjaa.U
open Go.RowKit Go.Proofs.YtjgonpcajedkjaaW.PrintWords Go.Proofs.YtjgonpcajedkjaaW.PrintLast Go.Proofs.Ytjgonpcajedkjaa.P
theorem tr_cases (id : Int) (l : List S120) : (∃ m, m < l.length ∧ impl_trusted.q id (rd_T120 l (m : Int)) = true ∧ (∀ i : Nat, i < m → impl_trusted.q id (rd_T120 l (i : Int)) = false) ∧ impl_trusted.ix id l 0 = (m : Int)) ∨ ((∀ i : Nat, i < l.length → impl_trusted.q id (rd_T120 l (i : Int)) = false) ∧ impl_trusted.ix id l 0 = -1) := by
  by_cases h : ∀ i : Nat, i < l.length → impl_trusted.q id (rd_T120 l (i : Int)) = false
  · exact Or.inr ⟨h, impl_trusted.ix_miss id l 0 (fun j hj => by rw [← impl_trusted.rd_ l j hj]; exact h j hj)⟩
  · obtain ⟨m, hm, h1, h2⟩ := first_fail l.length h
    have h1 : impl_trusted.q id (rd_T120 l (m : Int)) = true := by
      cases hq : impl_trusted.q id (rd_T120 l (m : Int)) with
      | true => rfl
      | false => exact absurd hq h1
    refine Or.inl ⟨m, hm, h1, h2, ?_⟩
    rw [impl_trusted.ix_hit id l 0 m hm (fun j hj => by rw [← impl_trusted.rd_ l j (by omega)]; exact h2 j hj) (by rw [← impl_trusted.rd_ l m hm]; exact h1)]
    omega
theorem tr_bound (id : Int) (l : List S120) : -1 ≤ impl_trusted.ix id l 0 ∧ impl_trusted.ix id l 0 < l.length := by
  rcases tr_cases id l with ⟨m, h, _, _, e⟩ | ⟨_, e⟩ <;> omega
def cnt (l : List S120) (id : Int) : Int × Bool := if impl_trusted.ix id l 0 < 0 then (0, false) else ((rd_T120 l (impl_trusted.ix id l 0)).f1, true)
theorem cnt_neg {l : List S120} {id : Int} (h : impl_trusted.ix id l 0 < 0) : cnt l id = (0, false) := if_pos h
theorem cnt_pos {l : List S120} {id : Int} (h : ¬ impl_trusted.ix id l 0 < 0) : cnt l id = ((rd_T120 l (impl_trusted.ix id l 0)).f1, true) := if_neg h
def lowD (l : List S120) (id : Int) : Int := (cnt l id).1
def highD (l : List S120) (id : Int) : Int := if (cnt l id).2 = true then (cnt l id).1 else 1000
end Go.Proofs.Ytjgonpcajedkjaa.U
