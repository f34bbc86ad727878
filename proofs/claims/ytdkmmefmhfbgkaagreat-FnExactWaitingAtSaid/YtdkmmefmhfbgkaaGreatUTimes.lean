/- The row of lights, how many are green, the longest wait: the program's way and the reference's. -/
import Derived.Test.YtdkmmefmhfbgkaaGreatFX00b
import Derived.Test.YtdkmmefmhfbgkaaGreatFX00c
import Derived.Test.YtdkmmefmhfbgkaaGreatURow
set_option linter.unusedVariables false
set_option linter.unusedSimpArgs false
namespace Go.Proofs.YtdkmmefmhfbgkaaGreat.U
open Go.RowKit Go.Proofs.YtdkmmefmhfbgkaaGreatW.PrintWords Go.Proofs.YtdkmmefmhfbgkaaGreatW.PrintLast Go.Proofs.YtdkmmefmhfbgkaaGreat.P
theorem spec_rowJ {l : List S69} {p : List S72} (w : PW l p) (h : plan l p = true) (id : Int) (hf : 0 ≤ impl_FindPath.ix id l 0) : ∀ d i, i + d = p.length → Ev (fun k => spec_l9Row.l0 k l p id (rowN l p id i) (i : Int)) (rowN l p id p.length)
  | 0, i, hi => by
    have e : i = p.length := by omega
    subst e
    refine Ev.step (fun k => by rw [spec_l9Row.l0]) ?_
    exact ev_f (by omega) (Ev.now _)
  | d + 1, i, hi => by
    have hlt : i < p.length := by omega
    have hn := plan_len h
    have ih := spec_rowJ w h id hf d (i + 1) (by omega)
    have lb := long_bound h hlt
    have rl := rowN_len h id i (by omega)
    have cb := cyc_bound h i (by omega)
    refine Ev.step (fun k => by rw [spec_l9Row.l0]) ?_
    refine ev_t (by omega) ?_
    have e : rowN l p id i = rowN l p id i ++ seg l p id i 0 := by simp [seg]
    rw [e]
    refine ev_for0 (F := fun k s => spec_l9Row.l1 k l p id (rowN l p id i ++ seg l p id i s) (i : Int) (s : Int)) (longV l p (i : Int)).toNat (fun s hs ih2 => ?_) ?_
    · have hlen : (rowN l p id i ++ seg l p id i s).length < 17592186044416 := by rw [List.length_append, seg_len]; omega
      refine Ev.step (fun k => by rw [spec_l9Row.l1]) ?_
      refine Ev.bind (spec_long w h hlt) ?_
      refine ev_t (show (s : Int) < longV l p (i : Int) by omega) ?_
      refine Ev.bind (spec_lightV w hlt (s : Int) id hf _ rfl (fp_id hf)) ?_
      refine ev_t hlen ?_
      rw [w_succ hs (by omega), List.append_assoc, ← seg_succ]
      exact ih2
    · refine Ev.step (fun k => by rw [spec_l9Row.l1]) ?_
      refine Ev.bind (spec_long w h hlt) ?_
      refine ev_f (show ¬ ((longV l p (i : Int)).toNat : Int) < longV l p (i : Int) by omega) ?_
      rw [w_succ hlt (by omega)]
      exact ih
theorem spec_row {l : List S69} {p : List S72} (w : PW l p) (id : Int) : Ev (fun k => spec_l9Row.f k l p id) (rowV l p id) := by
  have hl := w.hl
  have sp := spec_isPlan l p w.hl w.hp w.hx
  have sf := spec_findPath l id (by omega)
  unfold spec_l9Row.f
  refine ev_some (Ev.bind sp ?_)
  by_cases h : plan l p = true
  · refine ev_t h (Ev.bind sf ?_)
    by_cases hf : impl_FindPath.ix id l 0 < 0
    · rw [rowV_f (fun c => by have := c.2; omega), decide_eq_true hf]
      refine Ev.step (fun k => by rw [spec_l9Row.j0]) ?_
      exact ev_t rfl (Ev.now _)
    · rw [rowV_t ⟨h, by omega⟩, decide_eq_false hf]
      refine Ev.step (fun k => by rw [spec_l9Row.j0]) ?_
      exact ev_f (by decide) (spec_rowJ w h id (by omega) p.length 0 (by omega))
  · rw [rowV_f (fun c => h c.1)]
    exact ev_f h (Ev.step (fun k => by rw [spec_l9Row.j0]) (ev_t rfl (Ev.now _)))
theorem impl_greens_val {l : List S69} {p : List S72} (w : PW l p) (id : Int) : Ev (fun k => impl_greens.f k l p id) (grn (rowV l p id)) := by
  have ic := impl_cycle w
  unfold impl_greens.f
  refine ev_call (impl_findPath l id) ?_
  by_cases hf : impl_FindPath.ix id l 0 < 0
  · rw [rowV_f (fun c => by have := c.2; omega)]
    exact ev_t hf (Ev.now _)
  · refine ev_f hf (Ev.bind ic ?_)
    by_cases h : plan l p = true
    · have hr : hasRow l p id := ⟨h, by omega⟩
      obtain ⟨r1, r2, r3⟩ := rowV_len hr
      rw [cycV_t h, ← r1]
      refine ev_t (by omega) (ev_t (by omega) (ev_some ?_))
      have gl := grn_len (rowV l p id)
      rw [Int.toNat_natCast, List.length_replicate]
      have e0 : List.replicate (rowV l p id).length false = (grn (rowV l p id)).take 0 ++ List.replicate ((grn (rowV l p id)).length - 0) false := by rw [gl]; simp
      rw [e0]
      refine ev_for0 (F := fun k i => impl_greens.l0 k l p id ((grn (rowV l p id)).take i ++ List.replicate ((grn (rowV l p id)).length - i) false) ((rowV l p id).length : Int) (i : Int)) (rowV l p id).length (fun i hi ih => ?_) ?_
      · have hlen := fill_len (grn (rowV l p id)) false i (by omega)
        refine Ev.step (fun k => by rw [impl_greens.l0]) ?_
        refine ev_t (by omega) (Ev.bind (impl_lightAt w (i : Int) id) (ev_t (by omega) (ev_t (by rw [hlen]; omega) ?_)))
        have e1 : (laV l p (i : Int) id == 1) = (grn (rowV l p id))[i]'(by omega) := by
          have g := grn_rd (rowV l p id) i hi
          rw [rdOf_at false _ i (by omega), rowV_rd' hr hi] at g
          rw [g]
          by_cases c : laV l p (i : Int) id = 1
          · rw [decide_eq_true c]; exact beq_iff_eq.mpr c
          · rw [decide_eq_false c]; exact beq_eq_false_iff_ne.mpr c
        rw [e1, Int.toNat_natCast, fill_set (grn (rowV l p id)) false i (by omega), w_succ hi (by omega)]
        exact ih
      · refine Ev.step (fun k => by rw [impl_greens.l0]) ?_
        refine ev_f (by omega) (ev_now ?_)
        rw [List.take_of_length_le (by omega), gl]; simp
    · rw [rowV_f (fun c => h c.1), cycV_f h]
      refine ev_t (by decide) (ev_t (by decide) (ev_some ?_))
      refine Ev.step (fun k => by rw [impl_greens.l0]) ?_
      exact ev_f (by simp) (Ev.now _)
theorem tm_in {a n : Int} (h0 : 0 ≤ a) (hn : 0 < n) : 0 ≤ Int.tmod a n ∧ Int.tmod a n < n := ⟨Int.tmod_nonneg _ h0, Int.tmod_lt_of_pos _ hn⟩
theorem grn_rd' (r : List Int) {t : Int} (h0 : 0 ≤ t) (h1 : t < r.length) : rdOf false (grn r) t = decide (rd r t = 1) := by
  obtain ⟨n, rfl⟩ : ∃ n : Nat, t = (n : Int) := ⟨t.toNat, by omega⟩
  exact grn_rd r n (by omega)
end Go.Proofs.YtdkmmefmhfbgkaaGreat.U
