/- Green seconds of a cycle, how long one waits between them, and lights that are safe. -/
import Derived.Test.YtjgonpcajedkjaaFX00c
import Derived.Test.YtjgonpcajedkjaaFX00d
import Derived.Test.YtjgonpcajedkjaaUTimes
import Derived.Test.YtjgonpcajedkjaaUNext
import Derived.Test.YtjgonpcajedkjaaUSafe
import Derived.Test.YtjgonpcajedkjaaUStage
set_option linter.unusedVariables false
set_option linter.unusedSimpArgs false
namespace Go.Proofs.Ytjgonpcajedkjaa.U
open Go.RowKit Go.Proofs.YtjgonpcajedkjaaW.PrintWords Go.Proofs.YtjgonpcajedkjaaW.PrintLast Go.Proofs.Ytjgonpcajedkjaa.P
/-- How many of the first k seconds, cycle after cycle, are green. -/
def gs (r : List Int) : Nat → Int
  | 0 => 0
  | k + 1 => if rd r (Int.tmod (k : Int) (r.length : Int)) = 1 then gs r k + 1 else gs r k
theorem laws_same_val (a : List Int) (ha : a.length ≤ 1048576) : Ev (fun k => laws_sameInts.f k a a) true := by
  unfold laws_sameInts.f
  refine ev_t rfl ?_
  refine ev_for0 (F := fun k i => laws_sameInts.l0 k a a (i : Int)) a.length (fun i hi ih => ?_) ?_
  · refine Ev.step (fun k => by rw [laws_sameInts.l0]) (ev_t (by omega) (ev_t (by omega) (ev_t (by omega) (ev_t rfl ?_))))
    rw [w_succ hi (by omega)]
    exact ih
  · refine Ev.step (fun k => by rw [laws_sameInts.l0]) ?_
    exact ev_f (by omega) (Ev.now _)
theorem ids_lt {l : List S50} (h : areP l = true) {i j : Nat} (hij : i < j) (hj : j < l.length) : (rd_T50 l (i : Int)).f0 < (rd_T50 l (j : Int)).f0 := by
  have far : ∀ d i : Nat, i + d + 1 < l.length → (rd_T50 l (i : Int)).f0 < (rd_T50 l ((i + d + 1 : Nat) : Int)).f0 := by
    have step : ∀ i : Nat, i + 1 < l.length → (rd_T50 l (i : Int)).f0 < (rd_T50 l ((i + 1 : Nat) : Int)).f0 := fun i hi => by
      have h3 := (areP_at h (i + 1) hi).2 (by omega)
      rw [show ((i + 1 : Nat) : Int) - 1 = (i : Int) by omega] at h3
      exact h3
    intro d
    induction d with
    | zero => exact fun i hi => step i hi
    | succ d ih => exact fun i hi => Int.lt_trans (ih i (by omega)) (step (i + d + 1) (by omega))
  have h2 := far (j - i - 1) i (by omega)
  rw [show i + (j - i - 1) + 1 = j by omega] at h2
  exact h2
theorem ix_self {l : List S50} (h : areP l = true) {i : Nat} (hi : i < l.length) : impl_FindPath.ix (rd_T50 l (i : Int)).f0 l 0 = (i : Int) := by
  rcases fp_cases (rd_T50 l (i : Int)).f0 l with ⟨m, h1, h2, _, e⟩ | ⟨h2, _⟩
  · rcases Nat.lt_trichotomy m i with c | c | c
    · have := ids_lt h c hi; omega
    · rw [e, c]
    · have := ids_lt h c h1; omega
  · exact absurd rfl (h2 i hi)
theorem pAt_self {l : List S50} (h : areP l = true) {i : Nat} (hi : i < l.length) : pAt l (rd_T50 l (i : Int)).f0 = rd_T50 l (i : Int) := by
  unfold pAt
  rw [ix_self h hi]
theorem tog_conf {l : List S50} {st : List Int} (h : togeth l st = true) {a b : Int} (ha : a ∈ st) (hb : b ∈ st) (hab : b < a) : conf (pAt l a) (pAt l b) = false := by
  have asc := asc_of h
  obtain ⟨i, hi, rfl⟩ := mem_rd.1 ha
  obtain ⟨j, hj, rfl⟩ := mem_rd.1 hb
  unfold togeth at h
  rw [Bool.and_eq_true] at h
  rcases Nat.lt_trichotomy j i with c | c | c
  · exact (bo_iff.1 h.1 i hi).2 j c
  · subst c; omega
  · have := asc i j c hj; omega
end Go.Proofs.Ytjgonpcajedkjaa.U
