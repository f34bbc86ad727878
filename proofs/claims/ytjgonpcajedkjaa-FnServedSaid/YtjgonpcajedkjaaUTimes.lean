/- The row of lights, how many are green, the longest wait: the program's way and the reference's. -/
import Derived.Test.YtjgonpcajedkjaaFX00b
import Derived.Test.YtjgonpcajedkjaaFX00d
import Derived.Test.YtjgonpcajedkjaaURow
set_option linter.unusedVariables false
set_option linter.unusedSimpArgs false
namespace Go.Proofs.Ytjgonpcajedkjaa.U
open Go.RowKit Go.Proofs.YtjgonpcajedkjaaW.PrintWords Go.Proofs.YtjgonpcajedkjaaW.PrintLast Go.Proofs.Ytjgonpcajedkjaa.P
theorem impl_greens_val {l : List S50} {p : List S85} (w : PW l p) (id : Int) : Ev (fun k => impl_greens.f k l p id) (grn (rowV l p id)) := by
  have ic := impl_cycle w
  unfold impl_greens.f
  refine ev_call (impl_findPath l id) ?_
  by_cases hf : impl_FindPath.ix id l 0 < 0
  · rw [rowV_f (fun c => by have := c.2; omega)]
    exact ev_t hf (Ev.now _)
  · refine ev_f hf (Ev.bind ic ?_)
    by_cases h : plan l p = true
    · have hr : hasRow l p id := ⟨h, by omega⟩
      obtain ⟨r1, r2, r3⟩ := rowV_len hr
      rw [cycV_t h, ← r1]
      refine ev_t (by omega) (ev_t (by omega) (ev_some ?_))
      have gl := grn_len (rowV l p id)
      rw [Int.toNat_natCast, List.length_replicate]
      have e0 : List.replicate (rowV l p id).length false = (grn (rowV l p id)).take 0 ++ List.replicate ((grn (rowV l p id)).length - 0) false := by rw [gl]; simp
      rw [e0]
      refine ev_for0 (F := fun k i => impl_greens.l0 k l p id ((grn (rowV l p id)).take i ++ List.replicate ((grn (rowV l p id)).length - i) false) ((rowV l p id).length : Int) (i : Int)) (rowV l p id).length (fun i hi ih => ?_) ?_
      · have hlen := fill_len (grn (rowV l p id)) false i (by omega)
        refine Ev.step (fun k => by rw [impl_greens.l0]) ?_
        refine ev_t (by omega) (Ev.bind (impl_lightAt w (i : Int) id) (ev_t (by omega) (ev_t (by rw [hlen]; omega) ?_)))
        have e1 : (laV l p (i : Int) id == 1) = (grn (rowV l p id))[i]'(by omega) := by
          have g := grn_rd (rowV l p id) i hi
          rw [rdOf_at false _ i (by omega), rowV_rd' hr hi] at g
          rw [g]
          by_cases c : laV l p (i : Int) id = 1
          · rw [decide_eq_true c]; exact beq_iff_eq.mpr c
          · rw [decide_eq_false c]; exact beq_eq_false_iff_ne.mpr c
        rw [e1, Int.toNat_natCast, fill_set (grn (rowV l p id)) false i (by omega), w_succ hi (by omega)]
        exact ih
      · refine Ev.step (fun k => by rw [impl_greens.l0]) ?_
        refine ev_f (by omega) (ev_now ?_)
        rw [List.take_of_length_le (by omega), gl]; simp
    · rw [rowV_f (fun c => h c.1), cycV_f h]
      refine ev_t (by decide) (ev_t (by decide) (ev_some ?_))
      refine Ev.step (fun k => by rw [impl_greens.l0]) ?_
      exact ev_f (by simp) (Ev.now _)
noncomputable def greenV (l : List S50) (p : List S85) (id : Int) : Int := gcnt (rowV l p id) (rowV l p id).length
theorem tm_in {a n : Int} (h0 : 0 ≤ a) (hn : 0 < n) : 0 ≤ Int.tmod a n ∧ Int.tmod a n < n := ⟨Int.tmod_nonneg _ h0, Int.tmod_lt_of_pos _ hn⟩
theorem grn_rd' (r : List Int) {t : Int} (h0 : 0 ≤ t) (h1 : t < r.length) : rdOf false (grn r) t = decide (rd r t = 1) := by
  obtain ⟨n, rfl⟩ : ∃ n : Nat, t = (n : Int) := ⟨t.toNat, by omega⟩
  exact grn_rd r n (by omega)
theorem impl_waitOf {l : List S50} {p : List S85} (w : PW l p) (id : Int) : Ev (fun k => impl_WaitOf.f k l p id) (waitV (rowV l p id)) := by
  have rl := rowV_le l p id
  have ig := impl_greens_val w id
  unfold impl_WaitOf.f
  generalize rowV l p id = r at rl ig ⊢
  have gl := grn_len r
  have e2 : wrap64 (2 * (r.length : Int)) = 2 * (r.length : Int) := w64 (by omega) (by omega)
  refine Ev.bind ig ?_
  rw [gl, e2]
  refine ev_for0 (F := fun k i => impl_WaitOf.l0 k (grn r) (wb r i) (wn r i) (2 * (r.length : Int)) (i : Int)) (2 * r.length) (fun i hi ih => ?_) ?_
  · have t := tm_in (a := (i : Int)) (n := (r.length : Int)) (by omega) (by omega)
    have nb := wn_bound r i
    refine Ev.step (fun k => by rw [impl_WaitOf.l0]) ?_
    refine ev_t (by omega) ?_
    rw [gl]
    refine ev_f (by omega) (ev_t t.1 (ev_t t.2 ?_))
    rw [w_succ hi (by omega), grn_rd' r t.1 t.2]
    by_cases c : rd r (Int.tmod (i : Int) (r.length : Int)) = 1
    · refine ev_dt c ?_
      rw [wb, wn_t c] at ih
      rw [mx_eq]
      exact ih
    · refine ev_df c ?_
      rw [w64 (n := wn r i + 1) (by omega) (by omega), mx_eq]
      rw [wb, wn_f c] at ih
      exact ih
  · refine Ev.step (fun k => by rw [impl_WaitOf.l0]) ?_
    refine ev_f (by omega) (ev_now ?_)
    rw [mn_eq, gl]
    rfl
end Go.Proofs.Ytjgonpcajedkjaa.U
