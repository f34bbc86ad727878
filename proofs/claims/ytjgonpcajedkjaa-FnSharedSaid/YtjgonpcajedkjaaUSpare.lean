/- The spare of green and a part's share of the cycle, as values. -/
import Derived.Test.YtjgonpcajedkjaaFX00d
import Derived.Test.YtjgonpcajedkjaaULong
set_option linter.unusedVariables false
set_option linter.unusedSimpArgs false
namespace Go.Proofs.Ytjgonpcajedkjaa.U
open Go.RowKit Go.Proofs.YtjgonpcajedkjaaW.PrintWords Go.Proofs.YtjgonpcajedkjaaW.PrintLast Go.Proofs.Ytjgonpcajedkjaa.P
noncomputable def spN (l : List S50) (p : List S85) (a : Int) : Nat → Int
  | 0 => a
  | i + 1 => spN l p a i - leastG l (rd_T85 p (i : Int)).f0 - clN l p (i : Int)
theorem spN_bound (l : List S50) (p : List S85) (a : Int) : ∀ i : Nat, a - 12 * (i : Int) ≤ spN l p a i ∧ spN l p a i ≤ a
  | 0 => by simp [spN]
  | i + 1 => by
    have h1 := spN_bound l p a i
    have h2 := leastG_bound l (rd_T85 p (i : Int)).f0
    have h3 : 0 ≤ clN l p (i : Int) ∧ clN l p (i : Int) ≤ 5 := clearB_bound l _ _
    unfold spN
    omega
noncomputable def spV (l : List S50) (p : List S85) (a : Int) : Int := if plan l p = true ∧ 1 ≤ a ∧ a ≤ 1000 then max (-1) (spN l p a p.length) else -1
theorem spV_t {l : List S50} {p : List S85} {a : Int} (h : plan l p = true ∧ 1 ≤ a ∧ a ≤ 1000) : spV l p a = max (-1) (spN l p a p.length) := if_pos h
theorem spV_f {l : List S50} {p : List S85} {a : Int} (h : ¬ (plan l p = true ∧ 1 ≤ a ∧ a ≤ 1000)) : spV l p a = -1 := if_neg h
theorem spV_at {l : List S50} {p : List S85} {a : Int} (h : 0 ≤ spV l p a) : plan l p = true ∧ 1 ≤ a ∧ a ≤ 1000 ∧ spV l p a = spN l p a p.length := by
  rcases Classical.em (plan l p = true ∧ 1 ≤ a ∧ a ≤ 1000) with c | c
  · rw [spV_t c] at h ⊢
    exact ⟨c.1, c.2.1, c.2.2, by omega⟩
  · rw [spV_f c] at h; omega
theorem impl_spareGreen {l : List S50} {p : List S85} (w : PW l p) (a : Int) : Ev (fun k => impl_SpareGreen.f k l p a) (spV l p a) := by
  have hp := w.hp
  have hl := w.hl
  have ip := impl_isPlan l p w.hl w.hp w.hx
  have it : Ev (fun k => impl_SpareGreen.j0 k l p a true) (-1) := Ev.step (fun k => by rw [impl_SpareGreen.j0]) (ev_t rfl (Ev.now _))
  unfold impl_SpareGreen.f
  by_cases h : plan l p = true
  · have hn := plan_len h
    have q2 := impl_InRange_eq a 1 1000
    refine Ev.bind ip (ev_t h (ev_call q2 ?_))
    by_cases hr : 1 ≤ a ∧ a ≤ 1000
    · rw [decide_eq_true hr, spV_t ⟨h, hr⟩]
      refine Ev.step (fun k => by rw [impl_SpareGreen.j0]) (ev_f (by decide) ?_)
      refine ev_for0 (F := fun k i => impl_SpareGreen.l0 k l p (spN l p a i) p (p.length : Int) (i : Int)) p.length (fun i hi ih => ?_) ?_
      · have hxi := w.hx i hi
        have b1 := spN_bound l p a i
        have b2 := leastG_bound l (rd_T85 p (i : Int)).f0
        have b3 : 0 ≤ clN l p (i : Int) ∧ clN l p (i : Int) ≤ 5 := clearB_bound l _ _
        have b4 := part_bound h hi
        have e2 : longV l p (i : Int) = (rd_T85 p (i : Int)).f1 + clN l p (i : Int) := rfl
        refine Ev.step (fun k => by rw [impl_SpareGreen.l0]) (ev_t (by omega) (ev_t (by omega) (ev_t (by omega) (Ev.bind (impl_long w h hi) (Ev.bind (impl_leastGreen l (rd_T85 p (i : Int)).f0 (by omega)) ?_)))))
        rw [w_succ hi (by omega), w64 (n := longV l p (i : Int) - _) (by omega) (by omega), w64 (n := longV l p (i : Int) - _ + _) (by omega) (by omega), w64 (n := spN l p a i - _) (by omega) (by omega)]
        have e3 : spN l p a i - (longV l p (i : Int) - (rd_T85 p (i : Int)).f1 + leastG l (rd_T85 p (i : Int)).f0) = spN l p a (i + 1) := by
          have e4 : spN l p a (i + 1) = spN l p a i - leastG l (rd_T85 p (i : Int)).f0 - clN l p (i : Int) := rfl
          omega
        rw [e3]
        exact ih
      · refine Ev.step (fun k => by rw [impl_SpareGreen.l0]) (ev_f (by omega) (ev_now ?_))
        rw [mx_eq]
        omega
    · rw [decide_eq_false hr, spV_f (fun hh => hr hh.2)]
      exact it
  · rw [spV_f (fun hh => h hh.1)]
    exact Ev.bind ip (ev_f h it)
theorem impl_greenShare {l : List S50} {p : List S85} (w : PW l p) (h : plan l p = true) {i : Nat} (hi : i < p.length) : Ev (fun k => impl_GreenShare.f k l p (i : Int)) (100 * (rd_T85 p (i : Int)).f1 / cyc l p p.length) := by
  have hn := plan_len h
  have cb := cyc_bound h p.length (by omega)
  have pb := part_bound h hi
  have ic := impl_cycle w
  rw [cycV_t h] at ic
  unfold impl_GreenShare.f
  refine Ev.bind (impl_isPlan l p w.hl w.hp w.hx) (ev_t h (ev_f (by omega) (ev_f (by omega) (ev_t (by omega) (ev_t (by omega) (Ev.bind ic (ev_f (by omega) (ev_now ?_))))))))
  have d0 : 0 ≤ 100 * (rd_T85 p (i : Int)).f1 / cyc l p p.length := Int.ediv_nonneg (by omega) (by omega)
  have d1 : 100 * (rd_T85 p (i : Int)).f1 / cyc l p p.length ≤ 100 * (rd_T85 p (i : Int)).f1 := Int.ediv_le_self _ (by omega)
  rw [w64 (n := 100 * (rd_T85 p (i : Int)).f1) (by omega) (by omega), Int.tdiv_eq_ediv_of_nonneg (by omega)]
  exact w64 (by omega) (by omega)
end Go.Proofs.Ytjgonpcajedkjaa.U
