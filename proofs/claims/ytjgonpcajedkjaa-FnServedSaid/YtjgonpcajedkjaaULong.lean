/- How long a part of a plan lasts, the cycle, where a part starts: the program's way and the reference's. -/
import Derived.Test.YtjgonpcajedkjaaFX00c
import Derived.Test.YtjgonpcajedkjaaUPlan
import Derived.Test.YtjgonpcajedkjaaUClear
set_option linter.unusedVariables false
set_option linter.unusedSimpArgs false
namespace Go.Proofs.Ytjgonpcajedkjaa.U
open Go.RowKit Go.Proofs.YtjgonpcajedkjaaW.PrintWords Go.Proofs.YtjgonpcajedkjaaW.PrintLast Go.Proofs.Ytjgonpcajedkjaa.P
theorem leastG_bound (l : List S50) (s : List Int) : 5 ≤ leastG l s ∧ leastG l s ≤ 7 := by
  by_cases h : ∀ i : Nat, i < s.length → ¬ isWalk l (rd s (i : Int))
  · rw [leastG_t h]; omega
  · rw [leastG_f h]; omega
/-- Lists of a size that fits, and a plan in form. -/
structure PW (l : List S50) (p : List S85) : Prop where
  hl : l.length ≤ 1048576
  hp : p.length ≤ 1048576
  hx : ∀ i : Nat, i < p.length → (rd_T85 p (i : Int)).f0.length ≤ 1048576
def nx (p : List S85) (i : Int) : Int := Int.tmod (i + 1) (p.length : Int)
theorem nx_bound {p : List S85} {i : Nat} (hi : i < p.length) : 0 ≤ nx p (i : Int) ∧ nx p (i : Int) < p.length :=
  ⟨Int.tmod_nonneg _ (by omega), Int.tmod_lt_of_pos _ (by omega)⟩
noncomputable def clN (l : List S50) (p : List S85) (i : Int) : Int := clearB l (rd_T85 p i).f0 (rd_T85 p (nx p i)).f0
noncomputable def longV (l : List S50) (p : List S85) (i : Int) : Int := (rd_T85 p i).f1 + clN l p i
theorem impl_clear_next {l : List S50} {p : List S85} (w : PW l p) {i : Nat} (hi : i < p.length) : Ev (fun k => impl_ClearBetween.f k l (rd_T85 p (i : Int)).f0 (rd_T85 p (nx p (i : Int))).f0) (clN l p (i : Int)) := by
  have b := nx_bound hi
  have h2 := w.hx (nx p (i : Int)).toNat (by omega)
  rw [Int.toNat_of_nonneg b.1] at h2
  exact impl_clearBetween l _ _ w.hl (w.hx i hi) h2
theorem part_bound {l : List S50} {p : List S85} (h : plan l p = true) {i : Nat} (hi : i < p.length) : 5 ≤ (rd_T85 p (i : Int)).f1 ∧ (rd_T85 p (i : Int)).f1 ≤ 60 := by
  obtain ⟨_, _, h3, h4⟩ := plan_at h hi
  have := leastG_bound l (rd_T85 p (i : Int)).f0
  omega
theorem long_bound {l : List S50} {p : List S85} (h : plan l p = true) {i : Nat} (hi : i < p.length) : 5 ≤ longV l p (i : Int) ∧ longV l p (i : Int) ≤ 65 := by
  have h1 := part_bound h hi
  have h2 := clearB_bound l (rd_T85 p (i : Int)).f0 (rd_T85 p (nx p (i : Int))).f0
  unfold longV clN
  omega
theorem impl_long {l : List S50} {p : List S85} (w : PW l p) (h : plan l p = true) {i : Nat} (hi : i < p.length) : Ev (fun k => impl_longOf.f k l p (i : Int)) (longV l p (i : Int)) := by
  have b := nx_bound hi
  have lb := long_bound h hi
  have hp := w.hp
  have hn : impl_nextStage.f p (i : Int) = some (rd_T85 p (nx p (i : Int))).f0 := by
    unfold impl_nextStage.f
    rw [w64 (n := (i : Int) + 1) (by omega) (by omega), if_neg (by omega), if_pos (show 0 ≤ Int.tmod ((i : Int) + 1) (p.length : Int) from b.1), if_pos (show Int.tmod ((i : Int) + 1) (p.length : Int) < (p.length : Int) from b.2)]
    rfl
  unfold impl_longOf.f
  refine ev_t (by omega) (ev_t (by omega) (ev_call hn (Ev.bind (impl_clear_next w hi) ?_)))
  exact ev_now (w64 (n := longV l p (i : Int)) (by omega) (by omega))
/-- What the first i parts last together. -/
noncomputable def cyc (l : List S50) (p : List S85) : Nat → Int
  | 0 => 0
  | i + 1 => cyc l p i + longV l p (i : Int)
theorem cyc_bound {l : List S50} {p : List S85} (h : plan l p = true) : ∀ i, i ≤ p.length → 5 * (i : Int) ≤ cyc l p i ∧ cyc l p i ≤ 65 * (i : Int)
  | 0, _ => by simp [cyc]
  | i + 1, hi => by
    have h1 := cyc_bound h i (by omega)
    have h2 := long_bound h (i := i) (by omega)
    unfold cyc
    omega
noncomputable def cycV (l : List S50) (p : List S85) : Int := if plan l p = true then cyc l p p.length else 0
theorem cycV_t {l : List S50} {p : List S85} (h : plan l p = true) : cycV l p = cyc l p p.length := if_pos h
theorem cycV_f {l : List S50} {p : List S85} (h : ¬ plan l p = true) : cycV l p = 0 := if_neg h
theorem impl_cycle {l : List S50} {p : List S85} (w : PW l p) : Ev (fun k => impl_Cycle.f k l p) (cycV l p) := by
  have hp := w.hp
  have pl := impl_isPlan l p w.hl w.hp w.hx
  unfold impl_Cycle.f
  refine Ev.bind pl ?_
  by_cases h : plan l p = true
  · rw [cycV_t h]
    refine ev_t h ?_
    refine ev_for0 (F := fun k i => impl_Cycle.l0 k l p (cyc l p i) (p.length : Int) (i : Int)) p.length (fun i hi ih => ?_) ?_
    · have b1 := cyc_bound h i (by omega)
      have b2 := long_bound h hi
      have b3 := (plan_len h).2
      refine Ev.step (fun k => by rw [impl_Cycle.l0]) (ev_t (by omega) (Ev.bind (impl_long w h hi) ?_))
      rw [w_succ hi (by omega), w64 (n := cyc l p i + _) (by omega) (by omega)]
      exact ih
    · refine Ev.step (fun k => by rw [impl_Cycle.l0]) ?_
      exact ev_f (by omega) (Ev.now _)
  · rw [cycV_f h]
    exact ev_f h (Ev.now _)
end Go.Proofs.Ytjgonpcajedkjaa.U
