/- The spare of green and a part's share of the cycle, as values. -/
import Derived.Test.YtdkmmefmhfbgkaaFX00b
import Derived.Test.YtdkmmefmhfbgkaaFX00d
import Derived.Test.YtdkmmefmhfbgkaaULong
set_option linter.unusedVariables false
set_option linter.unusedSimpArgs false
namespace Go.Proofs.Ytdkmmefmhfbgkaa.U
open Go.RowKit Go.Proofs.YtdkmmefmhfbgkaaW.PrintWords Go.Proofs.YtdkmmefmhfbgkaaW.PrintLast Go.Proofs.Ytdkmmefmhfbgkaa.P
noncomputable def spN (l : List S89) (p : List S92) (a : Int) : Nat → Int
  | 0 => a
  | i + 1 => spN l p a i - leastG l (rd_T92 p (i : Int)).f0 - clN l p (i : Int)
theorem spN_bound (l : List S89) (p : List S92) (a : Int) : ∀ i : Nat, a - 12 * (i : Int) ≤ spN l p a i ∧ spN l p a i ≤ a
  | 0 => by simp [spN]
  | i + 1 => by
    have h1 := spN_bound l p a i
    have h2 := leastG_bound l (rd_T92 p (i : Int)).f0
    have h3 : 0 ≤ clN l p (i : Int) ∧ clN l p (i : Int) ≤ 5 := clearB_bound l _ _
    unfold spN
    omega
noncomputable def spV (l : List S89) (p : List S92) (a : Int) : Int := if plan l p = true ∧ 1 ≤ a ∧ a ≤ 1000 then max (-1) (spN l p a p.length) else -1
theorem spV_t {l : List S89} {p : List S92} {a : Int} (h : plan l p = true ∧ 1 ≤ a ∧ a ≤ 1000) : spV l p a = max (-1) (spN l p a p.length) := if_pos h
theorem spV_f {l : List S89} {p : List S92} {a : Int} (h : ¬ (plan l p = true ∧ 1 ≤ a ∧ a ≤ 1000)) : spV l p a = -1 := if_neg h
theorem spV_at {l : List S89} {p : List S92} {a : Int} (h : 0 ≤ spV l p a) : plan l p = true ∧ 1 ≤ a ∧ a ≤ 1000 ∧ spV l p a = spN l p a p.length := by
  rcases Classical.em (plan l p = true ∧ 1 ≤ a ∧ a ≤ 1000) with c | c
  · rw [spV_t c] at h ⊢
    exact ⟨c.1, c.2.1, c.2.2, by omega⟩
  · rw [spV_f c] at h; omega
theorem spec_spareGreen {l : List S89} {p : List S92} (w : PW l p) (a : Int) : Ev (fun k => spec_SpareGreen.f k l p a) (spV l p a) := by
  have hp := w.hp
  have hl := w.hl
  have sp := spec_isPlan l p w.hl w.hp w.hx
  have st : Ev (fun k => spec_SpareGreen.j0 k l p a true) (-1) := Ev.step (fun k => by rw [spec_SpareGreen.j0]) (ev_t rfl (Ev.now _))
  unfold spec_SpareGreen.f
  by_cases h : plan l p = true
  · have hn := plan_len h
    have q1 := spec_l1In_eq a 1 1000
    refine Ev.bind sp (ev_t h (ev_call q1 ?_))
    by_cases hr : 1 ≤ a ∧ a ≤ 1000
    · rw [decide_eq_true hr, spV_t ⟨h, hr⟩]
      refine Ev.step (fun k => by rw [spec_SpareGreen.j0]) (ev_f (by decide) ?_)
      refine ev_for0 (F := fun k i => spec_SpareGreen.l0 k l p (spN l p a i) (i : Int)) p.length (fun i hi ih => ?_) ?_
      · have b := nx_bound hi
        have hxi := w.hx i hi
        have b1 := spN_bound l p a i
        have b2 := leastG_bound l (rd_T92 p (i : Int)).f0
        have b3 : 0 ≤ clN l p (i : Int) ∧ clN l p (i : Int) ≤ 5 := clearB_bound l _ _
        have e1 : wrap64 ((i : Int) + 1) = (i : Int) + 1 := w64 (by omega) (by omega)
        refine Ev.step (fun k => by rw [spec_SpareGreen.l0]) (ev_t (by omega) (ev_t (by omega) (Ev.bind (spec_leastGreen l _ (by omega) (by omega)) ?_)))
        rw [e1]
        refine ev_f (by omega) (ev_t b.1 (ev_t b.2 (Ev.bind (spec_clear_next w hi) ?_)))
        rw [w64 (n := spN l p a i - _) (by omega) (by omega), w64 (n := spN l p a i - _ - _) (by omega) (by omega)]
        exact ih
      · refine Ev.step (fun k => by rw [spec_SpareGreen.l0]) (ev_f (by omega) ?_)
        exact ev_call (spec_Max_eq _ _) (Ev.now _)
    · rw [decide_eq_false hr, spV_f (fun hh => hr hh.2)]
      exact st
  · rw [spV_f (fun hh => h hh.1)]
    exact Ev.bind sp (ev_f h st)
theorem impl_spareGreen {l : List S89} {p : List S92} (w : PW l p) (a : Int) : Ev (fun k => impl_SpareGreen.f k l p a) (spV l p a) := by
  have hp := w.hp
  have hl := w.hl
  have ip := impl_isPlan l p w.hl w.hp w.hx
  have it : Ev (fun k => impl_SpareGreen.j0 k l p a true) (-1) := Ev.step (fun k => by rw [impl_SpareGreen.j0]) (ev_t rfl (Ev.now _))
  unfold impl_SpareGreen.f
  by_cases h : plan l p = true
  · have hn := plan_len h
    have q2 := impl_InRange_eq a 1 1000
    refine Ev.bind ip (ev_t h (ev_call q2 ?_))
    by_cases hr : 1 ≤ a ∧ a ≤ 1000
    · rw [decide_eq_true hr, spV_t ⟨h, hr⟩]
      refine Ev.step (fun k => by rw [impl_SpareGreen.j0]) (ev_f (by decide) ?_)
      refine ev_for0 (F := fun k i => impl_SpareGreen.l0 k l p (spN l p a i) p (p.length : Int) (i : Int)) p.length (fun i hi ih => ?_) ?_
      · have hxi := w.hx i hi
        have b1 := spN_bound l p a i
        have b2 := leastG_bound l (rd_T92 p (i : Int)).f0
        have b3 : 0 ≤ clN l p (i : Int) ∧ clN l p (i : Int) ≤ 5 := clearB_bound l _ _
        have b4 := part_bound h hi
        have e2 : longV l p (i : Int) = (rd_T92 p (i : Int)).f1 + clN l p (i : Int) := rfl
        refine Ev.step (fun k => by rw [impl_SpareGreen.l0]) (ev_t (by omega) (ev_t (by omega) (ev_t (by omega) (Ev.bind (impl_long w h hi) (Ev.bind (impl_leastGreen l (rd_T92 p (i : Int)).f0 (by omega)) ?_)))))
        rw [w_succ hi (by omega), w64 (n := longV l p (i : Int) - _) (by omega) (by omega), w64 (n := longV l p (i : Int) - _ + _) (by omega) (by omega), w64 (n := spN l p a i - _) (by omega) (by omega)]
        have e3 : spN l p a i - (longV l p (i : Int) - (rd_T92 p (i : Int)).f1 + leastG l (rd_T92 p (i : Int)).f0) = spN l p a (i + 1) := by
          have e4 : spN l p a (i + 1) = spN l p a i - leastG l (rd_T92 p (i : Int)).f0 - clN l p (i : Int) := rfl
          omega
        rw [e3]
        exact ih
      · refine Ev.step (fun k => by rw [impl_SpareGreen.l0]) (ev_f (by omega) (ev_now ?_))
        rw [mx_eq]
        omega
    · rw [decide_eq_false hr, spV_f (fun hh => hr hh.2)]
      exact it
  · rw [spV_f (fun hh => h hh.1)]
    exact Ev.bind ip (ev_f h it)
end Go.Proofs.Ytdkmmefmhfbgkaa.U
