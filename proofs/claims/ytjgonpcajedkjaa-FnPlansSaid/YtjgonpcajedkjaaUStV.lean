/- Where a part starts and the longest clearing time, as values (the program's way). -/
import Derived.Test.YtjgonpcajedkjaaFX00
import Derived.Test.YtjgonpcajedkjaaFX00b
import Derived.Test.YtjgonpcajedkjaaFX00d
import Derived.Test.YtjgonpcajedkjaaUPart
set_option linter.unusedVariables false
set_option linter.unusedSimpArgs false
namespace Go.Proofs.Ytjgonpcajedkjaa.U
open Go.RowKit Go.Proofs.YtjgonpcajedkjaaW.PrintWords Go.Proofs.YtjgonpcajedkjaaW.PrintLast Go.Proofs.Ytjgonpcajedkjaa.P
noncomputable def stV (l : List S50) (p : List S85) (a : Int) : Int := if plan l p = true ∧ 0 ≤ a ∧ a < (p.length : Int) then cyc l p a.toNat else -1
theorem stV_t {l : List S50} {p : List S85} {n : Nat} (h : plan l p = true) (hn : n < p.length) : stV l p (n : Int) = cyc l p n := by
  unfold stV
  rw [if_pos ⟨h, by omega, by omega⟩, Int.toNat_natCast]
theorem stV_f {l : List S50} {p : List S85} {a : Int} (h : ¬ (plan l p = true ∧ 0 ≤ a ∧ a < (p.length : Int))) : stV l p a = -1 := if_neg h
theorem impl_startOf {l : List S50} {p : List S85} (w : PW l p) (a : Int) : Ev (fun k => impl_StartOf.f k l p a) (stV l p a) := by
  have hp := w.hp
  have ip := impl_isPlan l p w.hl w.hp w.hx
  have it : Ev (fun k => impl_StartOf.j0 k l p a true) (-1) := Ev.step (fun k => by rw [impl_StartOf.j0]) (ev_t rfl (Ev.now _))
  unfold impl_StartOf.f
  by_cases h : plan l p = true
  · refine Ev.bind ip (ev_t h ?_)
    by_cases h0 : a < 0
    · rw [stV_f (fun hh => by omega)]
      exact ev_t h0 it
    · refine ev_f h0 ?_
      by_cases h1 : a ≥ (p.length : Int)
      · rw [stV_f (fun hh => by omega), decide_eq_true h1]
        exact it
      · obtain ⟨n, rfl⟩ : ∃ n : Nat, a = (n : Int) := ⟨a.toNat, by omega⟩
        rw [stV_t h (by omega), decide_eq_false h1]
        refine Ev.step (fun k => by rw [impl_StartOf.j0]) (ev_f (by decide) ?_)
        refine ev_for0 (F := fun k i => impl_StartOf.l0 k l p (cyc l p i) (n : Int) (i : Int)) n (fun i hi ih => ?_) ?_
        · have b1 := cyc_bound h i (by omega)
          have b2 := long_bound h (i := i) (by omega)
          have b3 := (plan_len h).2
          refine Ev.step (fun k => by rw [impl_StartOf.l0]) (ev_t (by omega) (Ev.bind (impl_long w h (i := i) (by omega)) ?_))
          rw [w_succ (n := p.length) (by omega) (by omega), w64 (n := cyc l p i + _) (by omega) (by omega)]
          exact ih
        · refine Ev.step (fun k => by rw [impl_StartOf.l0]) ?_
          exact ev_f (by omega) (Ev.now _)
  · rw [stV_f (fun hh => h hh.1)]
    exact Ev.bind ip (ev_f h it)
/-- The longest clearing time of the first i paths. -/
def lcN (l : List S50) : Nat → Int
  | 0 => 0
  | i + 1 => max (lcN l i) (clr (rd_T50 l (i : Int)))
theorem lcN_bound (l : List S50) : ∀ i, 0 ≤ lcN l i ∧ lcN l i ≤ 5
  | 0 => by simp [lcN]
  | i + 1 => by
    have h1 := lcN_bound l i
    have h2 := clr_bound (rd_T50 l (i : Int))
    unfold lcN; omega
theorem lcN_ge (l : List S50) : ∀ n i : Nat, i < n → clr (rd_T50 l (i : Int)) ≤ lcN l n
  | 0, i, h => by omega
  | n + 1, i, h => by
    unfold lcN
    rcases Nat.lt_or_ge i n with h1 | h1
    · have := lcN_ge l n i h1; omega
    · obtain rfl : i = n := by omega
      omega
theorem impl_longest {l : List S50} (h : areP l = true) : Ev (fun k => impl_LongestClear.f k l) (lcN l l.length) := by
  have hl := areP_len h
  unfold impl_LongestClear.f
  refine Ev.bind (impl_arePaths l (by omega)) (ev_t h ?_)
  refine ev_for0 (F := fun k i => impl_LongestClear.l0 k (lcN l i) l (l.length : Int) (i : Int)) l.length (fun i hi ih => ?_) ?_
  · refine Ev.step (fun k => by rw [impl_LongestClear.l0]) (ev_t (by omega) (ev_t (by omega) (ev_t (by omega) (ev_call (impl_clearOf (rd_T50 l (i : Int))) ?_))))
    rw [w_succ hi (by omega), mx_eq]
    exact ih
  · refine Ev.step (fun k => by rw [impl_LongestClear.l0]) ?_
    exact ev_f (by omega) (Ev.now _)
theorem cbJ_le (l : List S50) (p : S50) (y : List Int) (n B : Int) (hn : n ≤ B) (hc : clr p ≤ B) : ∀ j, cbJ l p y n j ≤ B
  | 0 => hn
  | j + 1 => by
    have h1 := cbJ_le l p y n B hn hc j
    by_cases c : conf p (pAt l (rd y (j : Int))) = true
    · rw [cbJ_t c]; omega
    · rw [cbJ_f c]; exact h1
theorem cbI_le (l : List S50) (x y : List Int) (B : Int) (h0 : 0 ≤ B) (hc : ∀ i : Nat, i < x.length → clr (pAt l (rd x (i : Int))) ≤ B) : ∀ i, i ≤ x.length → cbI l x y i ≤ B
  | 0, _ => h0
  | i + 1, hi => by
    unfold cbI
    exact cbJ_le l _ y _ B (cbI_le l x y B h0 hc i (by omega)) (hc i (by omega)) _
theorem clearB_le (l : List S50) (a b : List Int) : clearB l a b ≤ lcN l l.length := by
  have h0 := (lcN_bound l l.length).1
  by_cases h : togeth l a = true ∧ togeth l b = true
  · rw [clearB_t h]
    refine cbI_le l _ _ _ h0 (fun i hi => ?_) _ (Nat.le_refl _)
    have b1 := fp_bound (rd (closes a b) (i : Int)) l
    have c1 := closes_ix (b := b) h.1 hi
    have := lcN_ge l l.length (impl_FindPath.ix (rd (closes a b) (i : Int)) l 0).toNat (by omega)
    rw [Int.toNat_of_nonneg c1] at this
    exact this
  · rw [clearB_f h]; exact h0
theorem plan_areP {l : List S50} {p : List S85} (h : plan l p = true) : areP l = true := by
  have hn := plan_len h
  rw [plan_t (by omega)] at h
  unfold cov at h
  simp only [Bool.and_eq_true] at h
  exact h.2.2.2
end Go.Proofs.Ytjgonpcajedkjaa.U
