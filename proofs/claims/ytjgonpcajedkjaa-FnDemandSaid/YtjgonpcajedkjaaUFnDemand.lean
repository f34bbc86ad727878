/- FnDemand, the pure side: what is surely there is at most what may be there, and both are one where a detector is trusted. -/
import Derived.Test.YtjgonpcajedkjaaFX00
import Derived.Test.YtjgonpcajedkjaaFX00b
import Derived.Test.YtjgonpcajedkjaaFX00c
import Derived.Test.YtjgonpcajedkjaaUCoverOf
import Derived.Test.YtjgonpcajedkjaaUHelp
import Derived.Test.YtjgonpcajedkjaaUDemand
import Derived.Test.YtjgonpcajedkjaaUBlind
import Derived.Test.YtjgonpcajedkjaaUDetectors
import Derived.Test.YtjgonpcajedkjaaArgs
set_option linter.unusedVariables false
set_option linter.unusedSimpArgs false
namespace Go.Proofs.Ytjgonpcajedkjaa.U
open Go.RowKit Go.Proofs.YtjgonpcajedkjaaW.PrintWords Go.Proofs.YtjgonpcajedkjaaW.PrintLast Go.Proofs.Ytjgonpcajedkjaa.P Go.Proofs.Ytjgonpcajedkjaa.Open
theorem blind_mem (l : List S50) (d : List S120) (x : Int) : ∀ n : Nat, x ∈ blind l d n ↔ ∃ i : Nat, i < n ∧ (rd_T50 l (i : Int)).f0 = x ∧ impl_trusted.ix x d 0 < 0
  | 0 => by simp [blind]
  | n + 1 => by
    have ih := blind_mem l d x n
    by_cases c : impl_trusted.ix (rd_T50 l (n : Int)).f0 d 0 < 0
    · rw [blind_t c, List.mem_append, List.mem_singleton, ih]
      constructor
      · rintro (⟨i, h1, h2⟩ | h)
        · exact ⟨i, by omega, h2⟩
        · exact ⟨n, by omega, h.symm, by rw [h]; exact c⟩
      · rintro ⟨i, h1, h2, h3⟩
        rcases Nat.lt_or_ge i n with h4 | h4
        · exact .inl ⟨i, h4, h2, h3⟩
        · obtain rfl : i = n := by omega
          exact .inr h2.symm
    · rw [blind_f c, ih]
      constructor
      · rintro ⟨i, h1, h2⟩
        exact ⟨i, by omega, h2⟩
      · rintro ⟨i, h1, h2, h3⟩
        rcases Nat.lt_or_ge i n with h4 | h4
        · exact ⟨i, h4, h2, h3⟩
        · obtain rfl : i = n := by omega
          rw [h2] at c
          exact absurd h3 c
theorem areP_lt {l : List S50} (h : areP l = true) : ∀ d i : Nat, i + d + 1 < l.length → (rd_T50 l (i : Int)).f0 < (rd_T50 l ((i + d + 1 : Nat) : Int)).f0 := by
  have step : ∀ i : Nat, i + 1 < l.length → (rd_T50 l (i : Int)).f0 < (rd_T50 l ((i + 1 : Nat) : Int)).f0 := fun i hi => by
    have h3 := (areP_at h (i + 1) hi).2 (by omega)
    have e : ((i + 1 : Nat) : Int) - 1 = (i : Int) := by omega
    rw [e] at h3
    exact h3
  intro d
  induction d with
  | zero => exact fun i hi => step i hi
  | succ d ih => exact fun i hi => Int.lt_trans (ih i (by omega)) (step (i + d + 1) (by omega))
theorem blind_asc {l : List S50} (h : areP l = true) (d : List S120) : ∀ n : Nat, n ≤ l.length → ∀ i : Nat, i + 1 < (blind l d n).length → rd (blind l d n) (i : Int) < rd (blind l d n) ((i + 1 : Nat) : Int)
  | 0, _, i, hi => by simp [blind] at hi
  | n + 1, hn, i, hi => by
    by_cases c : impl_trusted.ix (rd_T50 l (n : Int)).f0 d 0 < 0
    · rw [blind_t c] at hi ⊢
      have hl : (blind l d n ++ [(rd_T50 l (n : Int)).f0]).length = (blind l d n).length + 1 := by simp
      rw [rd_at _ i (by omega), rd_at _ (i + 1) hi]
      rcases Nat.lt_or_ge (i + 1) (blind l d n).length with h1 | h1
      · rw [List.getElem_append_left (by omega), List.getElem_append_left h1]
        have h2 := blind_asc h d n (by omega) i h1
        rw [rd_at _ i (by omega), rd_at _ (i + 1) h1] at h2
        exact h2
      · rw [List.getElem_append_left (by omega), List.getElem_append_right h1]
        obtain ⟨j, h2, h3, _⟩ := (blind_mem l d _ n).1 (List.getElem_mem (show i < (blind l d n).length by omega))
        simp only [List.getElem_singleton]
        rw [← h3]
        have h4 := areP_lt h (n - j - 1) j (by omega)
        have e : j + (n - j - 1) + 1 = n := by omega
        rw [e] at h4
        exact h4
    · rw [blind_f c] at hi ⊢
      exact blind_asc h d n (by omega) i hi
theorem stD_ge (l : List S120) (st : List Int) : ∀ n i : Nat, i < n → lowD l (rd st (i : Int)) ≤ stD l st n
  | 0, i, h => absurd h (by omega)
  | n + 1, i, h => by
    by_cases c : n = 0
    · subst c
      obtain rfl : i = 0 := by omega
      rw [stD_one rfl]
      exact Int.le_refl _
    · rw [stD_more c]
      rcases Nat.lt_or_ge i n with h1 | h1
      · have := stD_ge l st n i h1
        omega
      · obtain rfl : i = n := by omega
        omega
theorem demand_end (l : List S50) (d : List S120) (hl : l.length ≤ 7) (x : List S120) (s : List Int) (hs : s.length ≤ 8) : Ev (fun k => laws_FnDemand.l1 k l (blind l d l.length) x s (stD x s s.length) 0) true := by
  have hb := blind_len l d l.length
  refine ev_for0 (F := fun k i => laws_FnDemand.l1 k l (blind l d l.length) x s (stD x s s.length) (i : Int)) s.length (fun i hi ih => ?_) ?_
  · have h1 := stD_ge x s s.length i hi
    refine Ev.step (fun k => by rw [laws_FnDemand.l1]) (ev_t (by omega) (ev_t (by omega) (ev_call (impl_lowDemand x _) (ev_f (show ¬ lowD x (rd s (i : Int)) > stD x s s.length by omega) ?_))))
    rw [w_succ hi (by omega)]
    exact ih
  · refine Ev.step (fun k => by rw [laws_FnDemand.l1]) (ev_f (by omega) (Ev.bind (impl_arePaths l (by omega)) (Ev.bind (spec_arePaths l (by omega)) (ev_f (show ¬ (areP l != areP l) = true by simp) (Ev.bind (impl_arePaths l (by omega)) ?_)))))
    cases hp : areP l with
    | false => exact ev_f (by decide) (Ev.now _)
    | true => exact ev_t rfl (Ev.bind (laws_ascends_eq _ (by omega) (fun i hi => blind_asc hp d l.length (Nat.le_refl _) i hi)) (Ev.now _))
theorem FnDemand : ∀ (x0 : List Int), (okL okU) x0 → ∃ k, laws_FnDemand.f k x0 = some true := by
  intro c _
  refine ev_rounds ?_
  unfold laws_FnDemand.f
  by_cases hbig : (c.length : Int) > 1048576
  · exact ev_call (show laws_big.f c = some true from congrArg some (decide_eq_true hbig)) (ev_t rfl (Ev.now _))
  · refine ev_call (show laws_big.f c = some false from congrArg some (decide_eq_false hbig)) (ev_f (by decide) ?_)
    obtain ⟨l, d, e1, r1, r2⟩ := drawDetectors_ex c (by omega)
    obtain ⟨x, s, e2, r3, r4⟩ := drawStageDemand_ex c (by omega)
    have hb := blind_len l d l.length
    refine Ev.bind e1 (Ev.bind (impl_blindPaths l d (by omega)) ?_)
    have tail : ∀ i : Int, Ev (fun k => laws_FnDemand.j1 k c l d (blind l d l.length) i false) true := fun i =>
      Ev.step (fun k => by rw [laws_FnDemand.j1]) (ev_f (by decide) (Ev.bind e2 (Ev.bind (impl_stageDemand x s (by omega)) (demand_end l d r1 x s r4))))
    have ad := impl_areDetectors l d (by omega) (by omega)
    cases ha : areD l d with
    | false =>
      rw [ha] at ad
      exact Ev.step (fun k => by rw [laws_FnDemand.l0]) (ev_ite (fun _ => Ev.bind ad (tail _)) (fun _ => tail _))
    | true =>
      rw [ha] at ad
      refine ev_for0 (F := fun k i => laws_FnDemand.l0 k c l d (blind l d l.length) (i : Int)) l.length (fun i hi ih => ?_) (Ev.step (fun k => by rw [laws_FnDemand.l0]) (ev_f (by omega) (tail _)))
      have hc := laws_contains_eq (blind l d l.length) (rd_T50 l (i : Int)).f0 (by omega)
      refine Ev.step (fun k => by rw [laws_FnDemand.l0]) (ev_t (by omega) (Ev.bind ad ?_))
      refine Ev.step (fun k => by rw [laws_FnDemand.j1]) (ev_t rfl (ev_t (by omega) (ev_t (by omega) (ev_call (impl_lowDemand d _) (ev_call (impl_highDemand d _) ?_)))))
      rw [w_succ hi (by omega)]
      by_cases q : impl_trusted.ix (rd_T50 l (i : Int)).f0 d 0 < 0
      · have hm : (rd_T50 l (i : Int)).f0 ∈ blind l d l.length := (blind_mem l d _ l.length).2 ⟨i, hi, rfl, q⟩
        have e3 : lowD d (rd_T50 l (i : Int)).f0 = 0 := by unfold lowD; rw [cnt_neg q]
        have e4 : highD d (rd_T50 l (i : Int)).f0 = 1000 := by unfold highD; rw [cnt_neg q]; rfl
        rw [decide_eq_true hm] at hc
        rw [e3, e4]
        exact ev_f (by decide) (Ev.bind hc (ev_t rfl (ev_t rfl (ev_t rfl (Ev.bind hc (ev_t rfl ih))))))
      · have hm : ¬ (rd_T50 l (i : Int)).f0 ∈ blind l d l.length := fun h => by
          obtain ⟨_, _, _, h3⟩ := (blind_mem l d _ l.length).1 h
          exact q h3
        have e3 : highD d (rd_T50 l (i : Int)).f0 = lowD d (rd_T50 l (i : Int)).f0 := by unfold lowD highD; rw [cnt_pos q]; rfl
        rw [decide_eq_false hm] at hc
        rw [e3]
        exact ev_f (by omega) (Ev.bind hc (ev_f (by decide) (Ev.bind hc (ev_f (by decide) (ev_t rfl ih)))))
end Go.Proofs.Ytjgonpcajedkjaa.U
