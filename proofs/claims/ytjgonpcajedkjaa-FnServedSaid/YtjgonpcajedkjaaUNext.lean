/- The next green second, the worst wait, all lights of a second: the program's way and the reference's. -/
import Derived.Test.YtjgonpcajedkjaaFX00d
import Derived.Test.YtjgonpcajedkjaaUTimes
set_option linter.unusedVariables false
set_option linter.unusedSimpArgs false
namespace Go.Proofs.Ytjgonpcajedkjaa.U
open Go.RowKit Go.Proofs.YtjgonpcajedkjaaW.PrintWords Go.Proofs.YtjgonpcajedkjaaW.PrintLast Go.Proofs.Ytjgonpcajedkjaa.P
theorem impl_ngI (r : List Int) (a : Int) (h0 : 0 ≤ a) (h1 : a ≤ 100000) (rl : r.length ≤ 390) : ∀ d i, i + d = r.length → Ev (fun k => impl_NextGreen.l0 k a (grn r) (r.length : Int) (i : Int)) (ngI r a d i)
  | 0, i, hi => by
    refine Ev.step (fun k => by rw [impl_NextGreen.l0]) ?_
    exact ev_f (by omega) (Ev.now _)
  | d + 1, i, hi => by
    have t := tm_in (a := a + (i : Int)) (n := (r.length : Int)) (by omega) (by omega)
    have e : wrap64 (a + (i : Int)) = a + (i : Int) := w64 (by omega) (by omega)
    have gl := grn_len r
    refine Ev.step (fun k => by rw [impl_NextGreen.l0]) ?_
    refine ev_t (by omega) ?_
    rw [gl]
    refine ev_f (by omega) ?_
    rw [e]
    refine ev_t t.1 (ev_t t.2 ?_)
    rw [grn_rd' r t.1 t.2]
    by_cases c : rd r (Int.tmod (a + (i : Int)) (r.length : Int)) = 1
    · rw [ngI_t c]
      exact ev_dt c (Ev.now _)
    · rw [ngI_f c, w_succ (n := r.length) (by omega) (by omega)]
      exact ev_df c (impl_ngI r a h0 h1 rl d (i + 1) (by omega))
theorem impl_nextGreen {l : List S50} {p : List S85} (w : PW l p) (id a : Int) : Ev (fun k => impl_NextGreen.f k l p id a) (ngV (rowV l p id) a) := by
  have rl := rowV_le l p id
  have ig := impl_greens_val w id
  unfold impl_NextGreen.f
  generalize rowV l p id = r at rl ig ⊢
  have gl := grn_len r
  by_cases h : 0 ≤ a ∧ a ≤ 100000
  · rw [ngV_t h]
    refine Ev.bind ig (ev_call (impl_InRange_eq _ _ _) (ev_dt h ?_))
    rw [gl]
    exact impl_ngI r a h.1 h.2 rl r.length 0 (by omega)
  · rw [ngV_f h]
    exact Ev.bind ig (ev_call (impl_InRange_eq _ _ _) (ev_df h (Ev.now _)))
/-- The longest of the first i paths' waits. -/
noncomputable def wwN (l : List S50) (p : List S85) : Nat → Int
  | 0 => 0
  | i + 1 => max (wwN l p i) (waitV (rowV l p (rd_T50 l (i : Int)).f0))
theorem wwN_none {l : List S50} {p : List S85} (h : ¬ plan l p = true) : ∀ i, wwN l p i = 0
  | 0 => rfl
  | i + 1 => by
    rw [wwN, wwN_none h i, rowV_f (fun c => h c.1)]
    rfl
theorem impl_worstWait {l : List S50} {p : List S85} (w : PW l p) : Ev (fun k => impl_WorstWait.f k l p) (wwN l p l.length) := by
  have hl := w.hl
  have ip := impl_isPlan l p w.hl w.hp w.hx
  unfold impl_WorstWait.f
  refine Ev.bind ip ?_
  by_cases h : plan l p = true
  · refine ev_t h ?_
    refine ev_for0 (F := fun k i => impl_WorstWait.l0 k l p (wwN l p i) l (l.length : Int) (i : Int)) l.length (fun i hi ih => ?_) ?_
    · refine Ev.step (fun k => by rw [impl_WorstWait.l0]) ?_
      refine ev_t (by omega) (ev_t (by omega) (ev_t (by omega) (Ev.bind (impl_waitOf w _) ?_)))
      rw [w_succ hi (by omega), mx_eq]
      exact ih
    · refine Ev.step (fun k => by rw [impl_WorstWait.l0]) ?_
      exact ev_f (by omega) (Ev.now _)
  · rw [wwN_none h]
    exact ev_f h (Ev.now _)
end Go.Proofs.Ytjgonpcajedkjaa.U
