/- Where a part starts and the longest clearing time, as values (the program's way). -/
import Derived.Test.YtjgonpcajedkjaaFX00
import Derived.Test.YtjgonpcajedkjaaFX00d
import Derived.Test.YtjgonpcajedkjaaUPart
set_option linter.unusedVariables false
set_option linter.unusedSimpArgs false
namespace Go.Proofs.Ytjgonpcajedkjaa.U
open Go.RowKit Go.Proofs.YtjgonpcajedkjaaW.PrintWords Go.Proofs.YtjgonpcajedkjaaW.PrintLast Go.Proofs.Ytjgonpcajedkjaa.P
noncomputable def stV (l : List S50) (p : List S85) (a : Int) : Int := if plan l p = true ∧ 0 ≤ a ∧ a < (p.length : Int) then cyc l p a.toNat else -1
theorem stV_t {l : List S50} {p : List S85} {n : Nat} (h : plan l p = true) (hn : n < p.length) : stV l p (n : Int) = cyc l p n := by
  unfold stV
  rw [if_pos ⟨h, by omega, by omega⟩, Int.toNat_natCast]
theorem stV_f {l : List S50} {p : List S85} {a : Int} (h : ¬ (plan l p = true ∧ 0 ≤ a ∧ a < (p.length : Int))) : stV l p a = -1 := if_neg h
theorem impl_startOf {l : List S50} {p : List S85} (w : PW l p) (a : Int) : Ev (fun k => impl_StartOf.f k l p a) (stV l p a) := by
  have hp := w.hp
  have ip := impl_isPlan l p w.hl w.hp w.hx
  have it : Ev (fun k => impl_StartOf.j0 k l p a true) (-1) := Ev.step (fun k => by rw [impl_StartOf.j0]) (ev_t rfl (Ev.now _))
  unfold impl_StartOf.f
  by_cases h : plan l p = true
  · refine Ev.bind ip (ev_t h ?_)
    by_cases h0 : a < 0
    · rw [stV_f (fun hh => by omega)]
      exact ev_t h0 it
    · refine ev_f h0 ?_
      by_cases h1 : a ≥ (p.length : Int)
      · rw [stV_f (fun hh => by omega), decide_eq_true h1]
        exact it
      · obtain ⟨n, rfl⟩ : ∃ n : Nat, a = (n : Int) := ⟨a.toNat, by omega⟩
        rw [stV_t h (by omega), decide_eq_false h1]
        refine Ev.step (fun k => by rw [impl_StartOf.j0]) (ev_f (by decide) ?_)
        refine ev_for0 (F := fun k i => impl_StartOf.l0 k l p (cyc l p i) (n : Int) (i : Int)) n (fun i hi ih => ?_) ?_
        · have b1 := cyc_bound h i (by omega)
          have b2 := long_bound h (i := i) (by omega)
          have b3 := (plan_len h).2
          refine Ev.step (fun k => by rw [impl_StartOf.l0]) (ev_t (by omega) (Ev.bind (impl_long w h (i := i) (by omega)) ?_))
          rw [w_succ (n := p.length) (by omega) (by omega), w64 (n := cyc l p i + _) (by omega) (by omega)]
          exact ih
        · refine Ev.step (fun k => by rw [impl_StartOf.l0]) ?_
          exact ev_f (by omega) (Ev.now _)
  · rw [stV_f (fun hh => h hh.1)]
    exact Ev.bind ip (ev_f h it)
theorem plan_areP {l : List S50} {p : List S85} (h : plan l p = true) : areP l = true := by
  have hn := plan_len h
  rw [plan_t (by omega)] at h
  unfold cov at h
  simp only [Bool.and_eq_true] at h
  exact h.2.2.2
end Go.Proofs.Ytjgonpcajedkjaa.U
