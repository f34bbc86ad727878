/- FnLights, the pure side: the lights of a plan are safe at every second and come again with each cycle, and every path is open. -/
import Derived.Test.YtjgonpcajedkjaaFX00
import Derived.Test.YtjgonpcajedkjaaFX00d
import Derived.Test.YtjgonpcajedkjaaFX00e
import Derived.Test.YtjgonpcajedkjaaUDraw9
import Derived.Test.YtjgonpcajedkjaaUGlow
import Derived.Test.YtjgonpcajedkjaaUStV
import Derived.Test.YtjgonpcajedkjaaArgs
set_option linter.unusedVariables false
set_option linter.unusedSimpArgs false
namespace Go.Proofs.Ytjgonpcajedkjaa.U
open Go.RowKit Go.Proofs.YtjgonpcajedkjaaW.PrintWords Go.Proofs.YtjgonpcajedkjaaW.PrintLast Go.Proofs.Ytjgonpcajedkjaa.P Go.Proofs.Ytjgonpcajedkjaa.Open
theorem drawLightsAt_ex (b : List Int) (hl : b.length ≤ 1048576) : ∃ l p s, Ev (fun k => spec_DrawLightsAt.f k b) (l, p, s) ∧ l.length ≤ 7 ∧ pSh9 p ∧ -1 ≤ s ∧ s ≤ 1000001 := by
  unfold spec_DrawLightsAt.f spec_DrawLightAt.f
  obtain ⟨h, e0⟩ := l1New_ex b hl
  obtain ⟨l, p, i1, h1, e1, r1, r2, j1⟩ := l8Any_ex b 0 h (by decide) hl
  obtain ⟨x, i2, h2, e2, x0, x1, j2⟩ := l1Below_ex b i1 h1 90 j1 hl (by decide) (by decide)
  obtain ⟨y, i3, h3, e3, y0, y1, j3⟩ := l1Below_ex b i2 h2 90 j2 hl (by decide) (by decide)
  obtain ⟨z, i4, h4, e4, z0, z1, j4⟩ := l1Below_ex b i3 h3 90 j3 hl (by decide) (by decide)
  obtain ⟨s, i5, h5, e5, hs, j5⟩ := l1Int_ex b i4 h4 [x, y, z, 0, 1000000, 1000001, -1] j4 hl (by simp) (by simp)
  obtain ⟨q, i6, h6, e6, _, _, _⟩ := l1Below_ex b i5 h5 9 j5 hl (by decide) (by decide)
  have es : spec_l9Second.f b i1 h1 = some (s, i5, h5) := by
    unfold spec_l9Second.f
    rw [e2, Option.bind_some, e3, Option.bind_some, e4, Option.bind_some, e5, Option.bind_some]
  have hb : -1 ≤ s ∧ s ≤ 1000001 := by
    simp only [List.mem_cons, List.not_mem_nil, or_false] at hs
    omega
  exact ⟨l, p, s, Ev.bind (Ev.bind e0 (Ev.bind e1 (ev_call es (ev_call e6 (Ev.now _))))) (Ev.now _), r1, r2, hb⟩
theorem drawSafe_ex (b : List Int) (hl : b.length ≤ 1048576) : ∃ l y, Ev (fun k => spec_DrawIsSafeLights.f k b) (l, y) ∧ l.length ≤ 7 ∧ y.length = l.length := by
  unfold spec_DrawIsSafeLights.f
  obtain ⟨l, p, s, e, r1, r2, _, _⟩ := drawLightsAt_ex b hl
  have w : PW l p := r2.pw (by omega)
  have sl := spec_lightsAt w s
  have len := lightsV_len l p s l.length
  generalize lightsV l p s l.length = x at sl len
  obtain ⟨h, e0⟩ := l1New_ex b hl
  obtain ⟨c, i2, h2, e2, j2⟩ := l1Once_ex b 0 h 2 (by decide) hl (by decide) (by decide)
  by_cases n : (x.length : Int) > 0
  · cases c with
    | true =>
      obtain ⟨q, i3, h3, e3, q0, q1, j3⟩ := l1Below_ex b i2 h2 (x.length : Int) j2 hl (by omega) (by omega)
      obtain ⟨v, i4, h4, e4, _, _⟩ := l1Int_ex b i3 h3 [0, 1, 2, 3] j3 hl (by decide) (by decide)
      refine ⟨l, x.set q.toNat v, Ev.bind e (Ev.bind e0 (Ev.bind sl (ev_t n (ev_call e2 ?_)))), r1, by rw [List.length_set]; exact len⟩
      exact Ev.step (fun k => by rw [spec_DrawIsSafeLights.j0]) (ev_t rfl (ev_call e3 (ev_call e4 (ev_t q0 (ev_t q1 (Ev.now _))))))
    | false =>
      refine ⟨l, x, Ev.bind e (Ev.bind e0 (Ev.bind sl (ev_t n (ev_call e2 ?_)))), r1, len⟩
      exact Ev.step (fun k => by rw [spec_DrawIsSafeLights.j0]) (ev_f (fun hh => Bool.noConfusion hh) (Ev.now _))
  · refine ⟨l, x, Ev.bind e (Ev.bind e0 (Ev.bind sl (ev_f n ?_))), r1, len⟩
    exact Ev.step (fun k => by rw [spec_DrawIsSafeLights.j0]) (ev_f (by decide) (Ev.now _))
theorem FnLights : ∀ (x0 : List Int), (okL okU) x0 → ∃ k, laws_FnLights.f k x0 = some true := by
  intro c _
  refine ev_rounds ?_
  unfold laws_FnLights.f
  by_cases hbig : (c.length : Int) > 1048576
  · exact ev_call (show laws_big.f c = some true from congrArg some (decide_eq_true hbig)) (ev_t rfl (Ev.now _))
  refine ev_call (show laws_big.f c = some false from congrArg some (decide_eq_false hbig)) (ev_f (by decide) ?_)
  obtain ⟨l, p, s, e1, hl, hp, s0, s1⟩ := drawLightsAt_ex c (by omega)
  obtain ⟨a, y, e3, ha, hy⟩ := drawSafe_ex c (by omega)
  have w : PW l p := hp.pw (by omega)
  have tail3 : Ev (fun k => laws_FnLights.j3 k c) true := by
    refine Ev.step (fun k => by rw [laws_FnLights.j3]) (Ev.bind e3 (Ev.bind (impl_safe a y (by omega)) ?_))
    by_cases hs : safeL a y = true
    · refine ev_t hs ?_
      refine ev_for0 (F := fun k i => laws_FnLights.l1 k a y (opens a y i) (i : Int)) a.length (fun i hi ih => ?_) ?_
      · have h1 := opens_len a y i
        refine Ev.step (fun k => by rw [laws_FnLights.l1]) (ev_t (by omega) (ev_t (by omega) (ev_t (by omega) ?_)))
        rw [w_succ hi (by omega)]
        by_cases z : rd y (i : Int) = 0
        · rw [opens_f z] at ih
          exact ev_t z ih
        · rw [opens_t z] at ih
          exact ev_f z (ev_t (by omega) ih)
      · have h1 := opens_len a y a.length
        refine Ev.step (fun k => by rw [laws_FnLights.l1]) (ev_f (by omega) (Ev.bind (impl_isTogether a (opens a y a.length) (by omega) (by omega)) (ev_now ?_)))
        exact opens_tog hs
    · exact ev_f hs (Ev.now _)
  have ip := impl_isPlan l p w.hl w.hp w.hx
  refine Ev.bind e1 (Ev.bind (impl_lightsAt w s) (Ev.bind ip (Ev.bind (spec_isPlan l p w.hl w.hp w.hx) (ev_f (by simp) (Ev.bind ip ?_)))))
  by_cases hP : plan l p = true
  · have pl := plan_len hP
    have cb := cyc_bound hP p.length (by omega)
    have aP := plan_areP hP
    have ic := impl_cycle w
    rw [cycV_t hP] at ic
    have xl := lightsV_len l p s l.length
    have tail0 : Ev (fun k => laws_FnLights.l0 k c l p (cyc l p p.length) 0) true := by
      refine ev_for0 (F := fun k i => laws_FnLights.l0 k c l p (cyc l p p.length) (i : Int)) l.length (fun i hi ih => ?_) ?_
      · obtain ⟨m, hm, hid⟩ := in_stage hP hi
        have hr : hasRow l p (rd_T50 l (i : Int)).f0 := ⟨hP, by rw [ix_self aP hi]; omega⟩
        have rl := rowV_len hr
        have g := green_ge hP hm hr hid
        have gb := gcnt_bound (rowV l p (rd_T50 l (i : Int)).f0) (rowV l p (rd_T50 l (i : Int)).f0).length
        have wl := waitV_le (rowV l p (rd_T50 l (i : Int)).f0) (by unfold greenV at g; omega)
        have ge : greenV l p (rd_T50 l (i : Int)).f0 = gcnt (rowV l p (rd_T50 l (i : Int)).f0) (rowV l p (rd_T50 l (i : Int)).f0).length := rfl
        refine Ev.step (fun k => by rw [laws_FnLights.l0]) (ev_t (by omega) (ev_t (by omega) (Ev.bind (impl_greenOf w _) ?_)))
        refine ev_f (by omega) (Ev.bind (impl_waitOf w _) ?_)
        rw [w_succ hi (by omega), w64 (n := cyc l p p.length - _) (by omega) (by omega)]
        exact ev_f (by omega) ih
      · refine Ev.step (fun k => by rw [laws_FnLights.l0]) ?_
        exact ev_f (by omega) tail3
    have tail1 : Ev (fun k => laws_FnLights.j1 k c l p (cyc l p p.length) false) true := Ev.step (fun k => by rw [laws_FnLights.j1]) (ev_f (by decide) tail0)
    have tail2 : Ev (fun k => laws_FnLights.j0 k c l p s (lightsV l p s l.length) (cyc l p p.length) false) true := by
      refine Ev.step (fun k => by rw [laws_FnLights.j0]) (ev_f (by decide) (Ev.bind (impl_partAt w s) ?_))
      by_cases hin : inT l p s
      · obtain ⟨m, t, hm, t0, t1, et, em⟩ := paV_at hin
        have st := impl_startOf w (m : Int)
        rw [stV_t hP hm] at st
        have cm := cyc_bound hP m (by omega)
        have lb := long_bound hP hm
        rw [em]
        refine ev_t (show (m : Int) ≥ 0 by omega) (Ev.bind st (ev_f (by omega) ?_))
        refine ev_t (show wrap64 (cyc l p m + t) = Int.tmod s (cyc l p p.length) by rw [et]; exact w64 (by omega) (by omega)) ?_
        refine ev_t (show 0 ≤ (m : Int) by omega) (ev_t (show (m : Int) < (p.length : Int) by omega) ?_)
        by_cases g : t < (rd_T85 p (m : Int)).f1
        · have hx := w.hx m hm
          have wi := laws_within_val (rd_T85 p (m : Int)).f0 (gids l (lightsV l p s l.length) l.length) hx (by have := gids_len l (lightsV l p s l.length) l.length; omega) (fun z hz => by
            have tg := (plan_at hP hm).2.1
            obtain ⟨j, hj, ej⟩ := mem_rd.1 hz
            have hix := tog_ix tg hj
            rw [ej] at hix
            have fb := fp_bound z l
            obtain ⟨q, hq⟩ : ∃ q : Nat, impl_FindPath.ix z l 0 = (q : Int) := ⟨(impl_FindPath.ix z l 0).toNat, by omega⟩
            have fid := fp_id hix
            rw [hq] at fid
            refine (gids_mem _ _ _ _).2 ⟨q, by omega, ?_, fid⟩
            rw [lights_rd _ _ _ _ _ (by omega), fid, laV_1 (by rw [em]; show ¬ (_ ∨ (m : Int) < 0); omega), em]
            exact lv_1 hz (.inl g))
          exact ev_t g (Ev.bind (laws_greens_val l _ xl (by omega)) (Ev.bind wi tail1))
        · exact ev_f g tail1
      · rw [paV_f hin]
        exact ev_f (by decide) tail1
    refine ev_t hP (Ev.bind ic (Ev.bind (impl_safe l _ (by omega)) (ev_t (lights_safe hP aP s) ?_)))
    by_cases h0 : s ≥ 0
    · refine ev_t h0 ?_
      rw [w64 (n := s + cyc l p p.length) (by omega) (by omega)]
      by_cases h1 : s + cyc l p p.length ≤ 1000000
      · have e : lightsV l p (s + cyc l p p.length) l.length = lightsV l p s l.length := by
          unfold lightsV laV
          rw [laV_next hP h0 h1]
        have il := impl_lightsAt w (s + cyc l p p.length)
        rw [e] at il
        exact ev_t h1 (Ev.bind il (Ev.bind (laws_same_val _ (by omega)) tail2))
      · exact ev_f h1 tail2
    · exact ev_f h0 tail2
  · exact ev_f hP tail3
end Go.Proofs.Ytjgonpcajedkjaa.U
