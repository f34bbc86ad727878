/- FnControls, the pure side: a controller stays one, is at the new stage when the clearing is over, and its lights are safe. -/
import Derived.Test.YtjgonpcajedkjaaFX00
import Derived.Test.YtjgonpcajedkjaaFX00d
import Derived.Test.YtjgonpcajedkjaaFX00e
import Derived.Test.YtjgonpcajedkjaaUDraw14
import Derived.Test.YtjgonpcajedkjaaUGlow
import Derived.Test.YtjgonpcajedkjaaArgs
set_option linter.unusedVariables false
set_option linter.unusedSimpArgs false
namespace Go.Proofs.Ytjgonpcajedkjaa.U
open Go.RowKit Go.Proofs.YtjgonpcajedkjaaW.PrintWords Go.Proofs.YtjgonpcajedkjaaW.PrintLast Go.Proofs.Ytjgonpcajedkjaa.P Go.Proofs.Ytjgonpcajedkjaa.Open
theorem lgts_rd (l : List S50) (c : S66) {n i : Nat} (h : i < n) : rd (lgts l c n) (i : Int) = lgt l c i := by
  rw [rd_at _ i (by rw [lgts_len]; exact h)]
  simp [lgts]
theorem lgt_bound (l : List S50) (c : S66) (i : Nat) : 0 ≤ lgt l c i ∧ lgt l c i ≤ 2 := by
  unfold lgt
  split
  · split
    · split <;> decide
    · decide
  · decide
theorem lgt_mem {l : List S50} {c : S66} {i : Nat} (h : ¬ lgt l c i = 0) : (rd_T50 l (i : Int)).f0 ∈ c.f0 := Classical.byContradiction fun hh => h (if_neg hh)
theorem lgts_safe {l : List S50} {c : S66} (h : ctl l c = true) : safeL l (lgts l c l.length) = true := by
  have tg := (ctl_iff.1 h).2.1
  have hP : areP l = true := by unfold togeth at tg; rw [Bool.and_eq_true] at tg; exact tg.2
  unfold safeL
  rw [if_pos ⟨hP, lgts_len _ _ _⟩]
  refine bo_t (fun i hi => ⟨?_, fun j hj => ?_⟩)
  · unfold gIn
    rw [lgts_rd l c hi]
    exact lgt_bound l c i
  · unfold gFree
    rw [lgts_rd l c hi, lgts_rd l c (Nat.lt_trans hj hi)]
    by_cases z : lgt l c i = 0
    · exact .inl z
    by_cases z' : lgt l c j = 0
    · exact .inr (.inl z')
    have q := tog_conf tg (lgt_mem z) (lgt_mem z') (ids_lt hP hj hi)
    rw [pAt_self hP hi, pAt_self hP (Nat.lt_trans hj hi)] at q
    exact .inr (.inr q)
theorem impl_lgts {l : List S50} {c : S66} (w : CW l c) (h : ctl l c = true) : Ev (fun k => impl_LightsOf.f k l c.f0 c.f1 c.f2 c.f3) (lgts l c l.length) := by
  have hl := w.hl
  have h0 := w.h0
  have h2 := w.h2
  have a2 := impl_ctl w
  unfold impl_LightsOf.f
  refine ev_some (Ev.bind a2 (ev_t h ?_))
  refine ev_for0 (F := fun k i => impl_LightsOf.l0 k (lgts l c i) l (l.length : Int) (i : Int) c.f0 c.f1 c.f2 c.f3) l.length (fun i hi ih => ?_) ?_
  · have hlt := lgts_lt l c (n := i) (by omega)
    refine Ev.step (fun k => by rw [impl_LightsOf.l0]) (ev_t (by omega) (ev_t (by omega) (ev_t (by omega) (Ev.bind (slices_contains c.f0 _ (by omega)) ?_))))
    rw [w_succ hi (by omega)]
    rw [lgts_succ] at ih
    unfold lgt at ih
    by_cases m0 : (rd_T50 l (i : Int)).f0 ∈ c.f0
    · rw [if_pos m0] at ih
      refine ev_dt m0 ?_
      by_cases e2 : (c.f2.length : Int) > 0
      · rw [if_pos e2] at ih
        refine ev_t e2 (Ev.bind (slices_contains c.f2 _ (by omega)) ?_)
        by_cases m2 : (rd_T50 l (i : Int)).f0 ∈ c.f2
        · rw [if_pos m2] at ih
          exact ev_dt m2 (ev_t hlt ih)
        · rw [if_neg m2] at ih
          exact ev_df m2 (ev_t hlt ih)
      · rw [if_neg e2] at ih
        exact ev_f e2 (ev_t hlt ih)
    · rw [if_neg m0] at ih
      exact ev_df m0 (ev_t hlt ih)
  · refine Ev.step (fun k => by rw [impl_LightsOf.l0]) ?_
    exact ev_f (by omega) (Ev.now _)
theorem impl_lgts0 {l : List S50} {c : S66} (w : CW l c) (h : ¬ ctl l c = true) : Ev (fun k => impl_LightsOf.f k l c.f0 c.f1 c.f2 c.f3) [] := by
  unfold impl_LightsOf.f
  exact ev_some (Ev.bind (impl_ctl w) (ev_f h (Ev.now _)))
theorem tog_nil {l : List S50} {s : List Int} (h : togeth l s = true) : togeth l [] = true := by
  unfold togeth at h ⊢
  rw [Bool.and_eq_true] at h ⊢
  exact ⟨bo_t (fun i hi => by simp at hi), h.2⟩
theorem tick_ctl {l : List S50} {c : S66} (h : ctl l c = true) : ctl l ⟨(tickV l c).1, (tickV l c).2.1, (tickV l c).2.2.1, (tickV l c).2.2.2⟩ = true := by
  obtain ⟨p0, t0, t2, r, q1, q2⟩ := ctl_iff.1 h
  refine ctl_iff.2 ?_
  by_cases e2 : (c.f2.length : Int) = 0
  · rw [tickV_on h e2]
    exact ⟨p0, t0, t2, by show 0 ≤ min 1000000 (c.f1 + 1) ∧ min 1000000 (c.f1 + 1) ≤ 1000000; omega, q1, q2⟩
  · have q3 := q2 e2
    by_cases e3 : c.f3 = 1
    · rw [tickV_end h e2 e3]
      exact ⟨e2, t2, tog_nil t2, by show (0 : Int) ≤ 0 ∧ (0 : Int) ≤ 1000000; decide, fun _ => rfl, fun n => absurd rfl n⟩
    · rw [tickV_more h e2 e3]
      exact ⟨p0, t0, t2, r, fun n => absurd n e2, fun _ => by show 1 ≤ c.f3 - 1 ∧ c.f3 - 1 ≤ clearB l c.f0 c.f2; omega⟩
theorem impl_eqC {l : List S50} {c : S66} (w : CW l c) : Ev (fun k => impl_EqualControls.f k c.f0 c.f1 c.f2 c.f3 c.f0 c.f1 c.f2 c.f3) true := by
  have h0 := w.h0
  have h2 := w.h2
  unfold impl_EqualControls.f
  exact ev_t rfl (ev_t rfl (Ev.bind (slices_equal _ _ (by omega)) (ev_dt rfl (Ev.bind (slices_equal _ _ (by omega)) (ev_now (by simp))))))
theorem controls_end (b : List Int) (hl : b.length ≤ 1048576) : Ev (fun k => laws_FnControls.j2 k b) true := by
  obtain ⟨a, z, e, _, w⟩ := drawTick_ex b hl
  have et := impl_tick w
  have lt := tickV_len w
  refine Ev.step (fun k => by rw [laws_FnControls.j2]) (Ev.bind e (Ev.bind et (Ev.bind (impl_ctl w) ?_)))
  by_cases hz : ctl a z = true
  · have w' : CW a ⟨(tickV a z).1, (tickV a z).2.1, (tickV a z).2.2.1, (tickV a z).2.2.2⟩ := ⟨w.hl, lt.1, lt.2⟩
    have hc := tick_ctl hz
    have hl := w.hl
    exact ev_t hz (Ev.bind (impl_ctl w') (ev_t hc (Ev.bind (impl_lgts w hz) (Ev.bind (impl_safe a _ (by omega)) (ev_t (lgts_safe hz) (Ev.bind (impl_lgts w' hc) (Ev.bind (impl_safe a _ (by omega)) (ev_now (lgts_safe hc)))))))))
  · rw [tickV_no hz]
    exact ev_f hz (Ev.bind (impl_eqC w) (ev_t rfl (Ev.bind (impl_lgts0 w hz) (ev_now rfl))))
theorem FnControls : ∀ (x0 : List Int), (okL okU) x0 → ∃ k, laws_FnControls.f k x0 = some true := by
  intro b _
  refine ev_rounds ?_
  unfold laws_FnControls.f
  by_cases hbig : (b.length : Int) > 1048576
  · exact ev_call (show laws_big.f b = some true from congrArg some (decide_eq_true hbig)) (ev_t rfl (Ev.now _))
  refine ev_call (show laws_big.f b = some false from congrArg some (decide_eq_false hbig)) (ev_f (by decide) ?_)
  obtain ⟨l, c, s, e, _, w, hs⟩ := drawAsk_ex b (by omega)
  have tail := controls_end b (by omega)
  have ea := impl_ask w s (by omega)
  refine Ev.bind e ?_
  by_cases h : askP l c s
  · have h' := h
    obtain ⟨he, n, tg, _⟩ := h'
    obtain ⟨hc, e2, _⟩ := endV_iff.1 he
    obtain ⟨p0, t0, _, r, _, _⟩ := ctl_iff.1 hc
    have fin : ∀ i : Nat, i ≤ 6 → Ev (fun k => laws_FnControls.l0 k b l s (i : Int) s 0 [] 0) true := by
      intro i hi
      refine Ev.step (fun k => by rw [laws_FnControls.l0]) (ev_ite (fun _ => ?_) (fun _ => ?_))
      · exact ev_f (by simp) (Ev.bind (laws_same_val s (by omega)) (ev_t rfl (ev_t rfl tail)))
      · exact Ev.bind (laws_same_val s (by omega)) (ev_t rfl (ev_t rfl (ev_f (by simp) tail)))
    by_cases z : clearB l c.f0 s = 0
    · rw [askV_0 h z] at ea
      have w' : CW l ⟨s, 0, [], 0⟩ := ⟨w.hl, by show s.length ≤ 1048576; omega, by simp⟩
      have hc' : ctl l ⟨s, 0, [], 0⟩ = true := ctl_iff.2 ⟨n, tg, tog_nil tg, by show (0 : Int) ≤ 0 ∧ (0 : Int) ≤ 1000000; decide, fun _ => rfl, fun hh => absurd rfl hh⟩
      refine Ev.bind ea (ev_t rfl (Ev.bind (impl_end w) (ev_t he (Ev.bind (impl_ctl w') (ev_t hc' ?_)))))
      refine Ev.step (fun k => by rw [laws_FnControls.j0]) ?_
      exact ev_f (fun hh => Bool.noConfusion hh) (ev_t rfl (fin 0 (by omega)))
    · rw [askV_n h z] at ea
      have cb := clearB_bound l c.f0 s
      obtain ⟨m, hm⟩ : ∃ m : Nat, clearB l c.f0 s = (m : Int) := ⟨(clearB l c.f0 s).toNat, by omega⟩
      have hct : ∀ j : Nat, 1 ≤ j → j ≤ m → ctl l ⟨c.f0, c.f1, s, (j : Int)⟩ = true := fun j h1 h2 =>
        ctl_iff.2 ⟨p0, t0, tg, r, fun hh => absurd hh n, fun _ => by show 1 ≤ (j : Int) ∧ (j : Int) ≤ clearB l c.f0 s; omega⟩
      have hw : ∀ j : Int, CW l ⟨c.f0, c.f1, s, j⟩ := fun j => ⟨w.hl, w.h0, by show s.length ≤ 1048576; omega⟩
      have run : ∀ j i : Nat, 1 ≤ j → j ≤ m → i + j ≤ 6 → Ev (fun k => laws_FnControls.l0 k b l s (i : Int) c.f0 c.f1 s (j : Int)) true := by
        intro j
        induction j with
        | zero => intro i h1; omega
        | succ j ih =>
          intro i h1 h2 h3
          have et := impl_tick (hw ((j + 1 : Nat) : Int))
          refine Ev.step (fun k => by rw [laws_FnControls.l0]) (ev_t (by omega) (ev_t (by omega) (Ev.bind et ?_)))
          rw [w_succ (i := i) (n := 100) (by omega) (by omega)]
          by_cases j0 : j = 0
          · subst j0
            rw [tickV_end (hct _ h1 h2) n rfl]
            exact fin (i + 1) (by omega)
          · rw [tickV_more (hct _ h1 h2) n (by show ¬ ((j + 1 : Nat) : Int) = 1; omega)]
            have := ih (i + 1) (by omega) (by omega) (by omega)
            rw [show (j : Int) = ((j + 1 : Nat) : Int) - 1 by omega] at this
            exact this
      have hc' := hct m (by omega) (by omega)
      rw [hm] at ea
      refine Ev.bind ea (ev_t rfl (Ev.bind (impl_end w) (ev_t he (Ev.bind (impl_ctl (hw (m : Int))) (ev_t hc' ?_)))))
      refine Ev.step (fun k => by rw [laws_FnControls.j0]) ?_
      exact ev_f (fun hh => Bool.noConfusion hh) (ev_t rfl (run m 0 (by omega) (by omega) (by omega)))
  · rw [askV_f h] at ea
    refine Ev.bind ea (ev_f (fun hh => Bool.noConfusion hh) (Ev.bind (impl_eqC w) ?_))
    exact Ev.step (fun k => by rw [laws_FnControls.j0]) (ev_f (by decide) (ev_f (fun hh => Bool.noConfusion hh) tail))
end Go.Proofs.Ytjgonpcajedkjaa.U
