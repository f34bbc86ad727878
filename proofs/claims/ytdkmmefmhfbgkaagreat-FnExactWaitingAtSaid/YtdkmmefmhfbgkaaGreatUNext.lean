/- The next green second, the worst wait, all lights of a second: the program's way and the reference's. -/
import Derived.Test.YtdkmmefmhfbgkaaGreatFX00b
import Derived.Test.YtdkmmefmhfbgkaaGreatFX00c
import Derived.Test.YtdkmmefmhfbgkaaGreatUTimes
set_option linter.unusedVariables false
set_option linter.unusedSimpArgs false
namespace Go.Proofs.YtdkmmefmhfbgkaaGreat.U
open Go.RowKit Go.Proofs.YtdkmmefmhfbgkaaGreatW.PrintWords Go.Proofs.YtdkmmefmhfbgkaaGreatW.PrintLast Go.Proofs.YtdkmmefmhfbgkaaGreat.P
theorem spec_ngI (r : List Int) (a : Int) (h0 : 0 ≤ a) (h1 : a ≤ 100000) (rl : r.length ≤ 390) : ∀ d i, i + d = r.length → Ev (fun k => spec_NextGreen.l0 k a r (i : Int)) (ngI r a d i)
  | 0, i, hi => by
    refine Ev.step (fun k => by rw [spec_NextGreen.l0]) ?_
    refine ev_f (by omega) ?_
    refine Ev.step (fun k => by rw [spec_NextGreen.j1]) ?_
    exact ev_f (by decide) (Ev.now _)
  | d + 1, i, hi => by
    have t := tm_in (a := a + (i : Int)) (n := (r.length : Int)) (by omega) (by omega)
    have e : wrap64 (a + (i : Int)) = a + (i : Int) := w64 (by omega) (by omega)
    refine Ev.step (fun k => by rw [spec_NextGreen.l0]) ?_
    refine ev_t (by omega) (ev_call (spec_l1In_eq _ _ _) ?_)
    rw [decide_eq_true (show 0 ≤ a ∧ a ≤ 100000 from ⟨h0, h1⟩)]
    refine Ev.step (fun k => by rw [spec_NextGreen.j1]) ?_
    refine ev_t rfl (ev_f (by omega) ?_)
    rw [e]
    refine ev_t t.1 (ev_t t.2 ?_)
    by_cases c : rd r (Int.tmod (a + (i : Int)) (r.length : Int)) = 1
    · rw [ngI_t c]
      exact ev_t c (Ev.now _)
    · rw [ngI_f c, w_succ (n := r.length) (by omega) (by omega)]
      exact ev_f c (spec_ngI r a h0 h1 rl d (i + 1) (by omega))
theorem impl_ngI (r : List Int) (a : Int) (h0 : 0 ≤ a) (h1 : a ≤ 100000) (rl : r.length ≤ 390) : ∀ d i, i + d = r.length → Ev (fun k => impl_NextGreen.l0 k a (grn r) (r.length : Int) (i : Int)) (ngI r a d i)
  | 0, i, hi => by
    refine Ev.step (fun k => by rw [impl_NextGreen.l0]) ?_
    exact ev_f (by omega) (Ev.now _)
  | d + 1, i, hi => by
    have t := tm_in (a := a + (i : Int)) (n := (r.length : Int)) (by omega) (by omega)
    have e : wrap64 (a + (i : Int)) = a + (i : Int) := w64 (by omega) (by omega)
    have gl := grn_len r
    refine Ev.step (fun k => by rw [impl_NextGreen.l0]) ?_
    refine ev_t (by omega) ?_
    rw [gl]
    refine ev_f (by omega) ?_
    rw [e]
    refine ev_t t.1 (ev_t t.2 ?_)
    rw [grn_rd' r t.1 t.2]
    by_cases c : rd r (Int.tmod (a + (i : Int)) (r.length : Int)) = 1
    · rw [ngI_t c]
      exact ev_dt c (Ev.now _)
    · rw [ngI_f c, w_succ (n := r.length) (by omega) (by omega)]
      exact ev_df c (impl_ngI r a h0 h1 rl d (i + 1) (by omega))
theorem spec_nextGreen {l : List S69} {p : List S72} (w : PW l p) (id a : Int) : Ev (fun k => spec_NextGreen.f k l p id a) (ngV (rowV l p id) a) := by
  have rl := rowV_le l p id
  have sr := spec_row w id
  unfold spec_NextGreen.f
  generalize rowV l p id = r at rl sr ⊢
  by_cases h : 0 ≤ a ∧ a ≤ 100000
  · rw [ngV_t h]
    exact Ev.bind sr (spec_ngI r a h.1 h.2 rl r.length 0 (by omega))
  · rw [ngV_f h]
    refine Ev.bind sr ?_
    have st : Ev (fun k => spec_NextGreen.j1 k a r 0 false) (-1) := Ev.step (fun k => by rw [spec_NextGreen.j1]) (ev_f (by decide) (Ev.now _))
    refine Ev.step (fun k => by rw [spec_NextGreen.l0]) (ev_ite (fun _ => ev_call (spec_l1In_eq _ _ _) ?_) (fun _ => st))
    rw [decide_eq_false h]
    exact st
theorem impl_nextGreen {l : List S69} {p : List S72} (w : PW l p) (id a : Int) : Ev (fun k => impl_NextGreen.f k l p id a) (ngV (rowV l p id) a) := by
  have rl := rowV_le l p id
  have ig := impl_greens_val w id
  unfold impl_NextGreen.f
  generalize rowV l p id = r at rl ig ⊢
  have gl := grn_len r
  by_cases h : 0 ≤ a ∧ a ≤ 100000
  · rw [ngV_t h]
    refine Ev.bind ig (ev_call (impl_InRange_eq _ _ _) (ev_dt h ?_))
    rw [gl]
    exact impl_ngI r a h.1 h.2 rl r.length 0 (by omega)
  · rw [ngV_f h]
    exact Ev.bind ig (ev_call (impl_InRange_eq _ _ _) (ev_df h (Ev.now _)))
end Go.Proofs.YtdkmmefmhfbgkaaGreat.U
