/- When a path is open, in which seconds calls are served: the program's way and the reference's. -/
import Derived.Test.YtjgonpcajedkjaaFX00d
import Derived.Test.YtjgonpcajedkjaaUNext
set_option linter.unusedVariables false
set_option linter.unusedSimpArgs false
namespace Go.Proofs.Ytjgonpcajedkjaa.U
open Go.RowKit Go.Proofs.YtjgonpcajedkjaaW.PrintWords Go.Proofs.YtjgonpcajedkjaaW.PrintLast Go.Proofs.Ytjgonpcajedkjaa.P
def opN (r : List Int) (a : Int) (n : Nat) : List Bool := (List.range n).map (fun i : Nat => decide (rd r (Int.tmod (a + (i : Int)) (r.length : Int)) = 1))
theorem opN_len (r : List Int) (a : Int) (n : Nat) : (opN r a n).length = n := by simp [opN]
theorem opN_succ (r : List Int) (a : Int) (n : Nat) : opN r a (n + 1) = opN r a n ++ [decide (rd r (Int.tmod (a + (n : Int)) (r.length : Int)) = 1)] := by
  unfold opN; rw [List.range_succ, List.map_append]; rfl
def opP (r : List Int) (a n : Int) : Prop := (0 ≤ a ∧ a ≤ 100000) ∧ (0 ≤ n ∧ n ≤ 1000)
noncomputable def opV (r : List Int) (a n : Int) : List Bool := if (r.length : Int) = 0 then [] else if bo (opP r a n) = true then opN r a n.toNat else []
theorem opV_0 {r : List Int} {a n : Int} (h : (r.length : Int) = 0) : opV r a n = [] := if_pos h
theorem opV_1 {r : List Int} {a n : Int} (h : ¬ (r.length : Int) = 0) (h1 : opP r a n) : opV r a n = opN r a n.toNat := by unfold opV; rw [if_neg h, if_pos (bo_t h1)]
theorem opV_2 {r : List Int} {a n : Int} (h : ¬ (r.length : Int) = 0) (h1 : ¬ opP r a n) : opV r a n = [] := by unfold opV; rw [if_neg h, if_neg (by rw [bo_f h1]; decide)]
theorem opV_len (r : List Int) (a n : Int) : (opV r a n).length ≤ 1000 := by
  by_cases h : (r.length : Int) = 0
  · rw [opV_0 h]; simp
  · by_cases h1 : opP r a n
    · have := h1.2
      rw [opV_1 h h1, opN_len]; omega
    · rw [opV_2 h h1]; simp
theorem beq1 (x : Int) : (x == 1) = decide (x = 1) := by
  by_cases h : x = 1
  · rw [decide_eq_true h]; exact beq_iff_eq.mpr h
  · rw [decide_eq_false h]; exact beq_eq_false_iff_ne.mpr h
theorem impl_openIn {l : List S50} {p : List S85} (w : PW l p) (id a n : Int) : Ev (fun k => impl_OpenIn.f k l p id a n) (opV (rowV l p id) a n) := by
  have rl := rowV_le l p id
  have ig := impl_greens_val w id
  unfold impl_OpenIn.f
  generalize rowV l p id = r at rl ig ⊢
  have gl := grn_len r
  have st : Ev (fun k => impl_OpenIn.j0 k a n [] (grn r) true) [] := Ev.step (fun k => by rw [impl_OpenIn.j0]) (ev_t rfl (Ev.now _))
  refine ev_some (Ev.bind ig ?_)
  by_cases h : (r.length : Int) = 0
  · rw [opV_0 h]
    exact ev_t (by rw [gl]; exact h) st
  · refine ev_f (by rw [gl]; exact h) (ev_call (impl_InRange_eq _ _ _) ?_)
    by_cases ha : 0 ≤ a ∧ a ≤ 100000
    · refine ev_dt ha (ev_call (impl_InRange_eq _ _ _) ?_)
      by_cases hn : 0 ≤ n ∧ n ≤ 1000
      · rw [decide_eq_true hn, opV_1 h ⟨ha, hn⟩]
        refine Ev.step (fun k => by rw [impl_OpenIn.j0]) ?_
        refine ev_f (by decide) ?_
        refine ev_for0 (F := fun k i => impl_OpenIn.l0 k a (opN r a i) (grn r) n (i : Int)) n.toNat (fun i hi ih => ?_) ?_
        · have t := tm_in (a := a + (i : Int)) (n := (r.length : Int)) (by omega) (by omega)
          have e : wrap64 (a + (i : Int)) = a + (i : Int) := w64 (by omega) (by omega)
          have hlen := opN_len r a i
          refine Ev.step (fun k => by rw [impl_OpenIn.l0]) ?_
          refine ev_t (by omega) ?_
          rw [gl]
          refine ev_f h ?_
          rw [e]
          refine ev_t t.1 (ev_t t.2 (ev_t (by omega) ?_))
          rw [grn_rd' r t.1 t.2, ← opN_succ, w_succ (n := 1000) (by omega) (by omega)]
          exact ih
        · refine Ev.step (fun k => by rw [impl_OpenIn.l0]) ?_
          exact ev_f (by omega) (Ev.now _)
      · rw [decide_eq_false hn, opV_2 h (fun hh => hn hh.2)]
        exact st
    · rw [opV_2 h (fun hh => ha hh.1)]
      exact ev_df ha st
end Go.Proofs.Ytjgonpcajedkjaa.U
