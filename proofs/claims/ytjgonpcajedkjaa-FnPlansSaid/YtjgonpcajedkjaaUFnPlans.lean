/- FnPlans, the pure side: the plan for paths is one, and its parts begin one after the other. -/
import Derived.Test.YtjgonpcajedkjaaFX00
import Derived.Test.YtjgonpcajedkjaaFX00e
import Derived.Test.YtjgonpcajedkjaaUDraw9
import Derived.Test.YtjgonpcajedkjaaUStV
import Derived.Test.YtjgonpcajedkjaaUPlanFor
import Derived.Test.YtjgonpcajedkjaaUEqPlans
import Derived.Test.YtjgonpcajedkjaaArgs
set_option linter.unusedVariables false
set_option linter.unusedSimpArgs false
namespace Go.Proofs.Ytjgonpcajedkjaa.U
open Go.RowKit Go.Proofs.YtjgonpcajedkjaaW.PrintWords Go.Proofs.YtjgonpcajedkjaaW.PrintLast Go.Proofs.Ytjgonpcajedkjaa.P Go.Proofs.Ytjgonpcajedkjaa.Open
theorem epV_symm (a b : List S85) : epV a b = epV b a := by
  unfold epV
  by_cases h : (a.length : Int) = (b.length : Int)
  · rw [if_pos h, if_pos h.symm]
    congr 1
    refine bo_congr ⟨fun hh i hi => ?_, fun hh i hi => ?_⟩
    · have := hh i (by omega); exact ⟨this.1.symm, this.2.symm⟩
    · have := hh i (by omega); exact ⟨this.1.symm, this.2.symm⟩
  · rw [if_neg h, if_neg (fun e => h e.symm)]
theorem epV_refl (a : List S85) : epV a a = true := by
  unfold epV
  rw [if_pos rfl, bo_t (fun i hi => ⟨rfl, rfl⟩)]
  rfl
theorem planV_plan {l : List S50} (h : ((planV l).length : Int) > 0) : plan l (planV l) = true := by
  unfold planV at h ⊢
  by_cases c : plan l ((covV l).map (prt l)) = true
  · rw [if_pos c]; exact c
  · rw [if_neg c] at h; simp at h
theorem planV_pw (l : List S50) (h : l.length ≤ 1048576) : PW l (planV l) := by
  have h1 := planV_len l
  refine ⟨h, by omega, fun i hi => ?_⟩
  have := h1.2 _ (List.getElem_mem hi)
  rw [← rd85 _ i hi] at this
  omega
theorem FnPlans : ∀ (x0 : List Int), (okL okU) x0 → ∃ k, laws_FnPlans.f k x0 = some true := by
  intro c _
  refine ev_rounds ?_
  unfold laws_FnPlans.f
  by_cases hbig : (c.length : Int) > 1048576
  · exact ev_call (show laws_big.f c = some true from congrArg some (decide_eq_true hbig)) (ev_t rfl (Ev.now _))
  refine ev_call (show laws_big.f c = some false from congrArg some (decide_eq_false hbig)) (ev_f (by decide) ?_)
  obtain ⟨l, e1, hl⟩ := drawPlanFor_ex c (by omega)
  obtain ⟨x, q, i, e2, hx, hq, i0, i1⟩ := drawStartOf_ex c (by omega)
  obtain ⟨a, b, e3, ha, hb⟩ := drawEqualPlans_ex c (by omega)
  have w : PW x q := hq.pw (by omega)
  have tail2 : Ev (fun k => laws_FnPlans.j2 k c) true := by
    have ha1 := ha.1
    have hb1 := hb.1
    have hxa : ∀ i : Nat, i < a.length → (rd_T85 a (i : Int)).f0.length ≤ 1048576 := fun i hi => by have := ha.2 i hi; omega
    have hxb : ∀ i : Nat, i < b.length → (rd_T85 b (i : Int)).f0.length ≤ 1048576 := fun i hi => by have := hb.2 i hi; omega
    refine Ev.step (fun k => by rw [laws_FnPlans.j2]) (Ev.bind e3 (Ev.bind (impl_equalPlans a b (by omega) hxa hxb) (Ev.bind (impl_equalPlans b a (by omega) hxb hxa) ?_)))
    refine ev_t (by rw [epV_symm a b]; simp) (Ev.bind (impl_equalPlans a a (by omega) hxa hxa) (ev_now ?_))
    exact epV_refl a
  have tail1 : Ev (fun k => laws_FnPlans.j1 k c x q i (stV x q i) (cycV x q) false) true := by
    refine Ev.step (fun k => by rw [laws_FnPlans.j1]) (ev_f (by decide) ?_)
    by_cases hs : stV x q i ≥ 0
    · have hh : plan x q = true ∧ 0 ≤ i ∧ i < (q.length : Int) := by
        rcases Classical.em (plan x q = true ∧ 0 ≤ i ∧ i < (q.length : Int)) with h | h
        · exact h
        · rw [stV_f h] at hs; omega
      obtain ⟨hp, h0, h1⟩ := hh
      obtain ⟨n, rfl⟩ : ∃ n : Nat, i = (n : Int) := ⟨i.toNat, by omega⟩
      have hn : n < q.length := by omega
      have pl := plan_len hp
      have ev := stV_t hp hn
      have lb := long_bound hp hn
      have cb := cyc_bound hp n (by omega)
      have pb := part_bound hp hn
      have le := clearB_le x (rd_T85 q (n : Int)).f0 (rd_T85 q (nx q (n : Int))).f0
      have le2 := lcN_bound x x.length
      have ge := clearB_bound x (rd_T85 q (n : Int)).f0 (rd_T85 q (nx q (n : Int))).f0
      have lv : longV x q (n : Int) = (rd_T85 q (n : Int)).f1 + clearB x (rd_T85 q (n : Int)).f0 (rd_T85 q (nx q (n : Int))).f0 := rfl
      have cs := cyc_succ x q n
      have lc := impl_longest (plan_areP hp)
      refine ev_t hs ?_
      rw [w_succ hn (by omega), ev]
      by_cases hl : ((n + 1 : Nat) : Int) < (q.length : Int)
      · have hs1 := impl_startOf w ((n + 1 : Nat) : Int)
        rw [stV_t hp (by omega)] at hs1
        refine ev_t hl (Ev.bind hs1 (ev_t h0 (ev_t h1 ?_)))
        rw [w64 (n := cyc x q (n + 1) - cyc x q n) (by omega) (by omega)]
        refine ev_f (by omega) (Ev.bind lc ?_)
        rw [w64 (n := (rd_T85 q (n : Int)).f1 + _) (by omega) (by omega)]
        exact ev_f (by omega) tail2
      · have e : n + 1 = q.length := by omega
        rw [e] at cs
        have ec := cycV_t hp
        refine ev_f hl (ev_t h0 (ev_t h1 ?_))
        rw [ec, w64 (n := cyc x q q.length - cyc x q n) (by omega) (by omega)]
        refine ev_f (by omega) (Ev.bind lc ?_)
        rw [w64 (n := (rd_T85 q (n : Int)).f1 + _) (by omega) (by omega)]
        exact ev_f (by omega) tail2
    · exact ev_f hs tail2
  have tail0 : Ev (fun k => laws_FnPlans.j0 k c false) true := by
    have ip := impl_isPlan x q w.hl w.hp w.hx
    refine Ev.step (fun k => by rw [laws_FnPlans.j0]) (ev_f (by decide) (Ev.bind e2 (Ev.bind (impl_startOf w i) (Ev.bind (impl_cycle w) (Ev.bind ip ?_)))))
    by_cases hp : plan x q = true
    · have pl := plan_len hp
      have cb := cyc_bound hp q.length (by omega)
      have ec : decide (cycV x q > 0) = true := decide_eq_true (by rw [cycV_t hp]; omega)
      have ez : ((decide (cycV x q > 0)) != plan x q) = false := by rw [ec, hp]; rfl
      rw [← ez] at tail1
      refine ev_t hp ?_
      by_cases h0 : i ≥ 0
      · refine ev_t h0 (ev_f ?_ (Ev.bind ip tail1))
        by_cases h1 : i < (q.length : Int)
        · obtain ⟨n, rfl⟩ : ∃ n : Nat, i = (n : Int) := ⟨i.toNat, by omega⟩
          have cb2 := cyc_bound hp n (by omega)
          rw [decide_eq_true h1, stV_t hp (by omega), decide_eq_true (show cyc x q n ≥ 0 by omega)]; decide
        · rw [decide_eq_false h1, stV_f (fun hh => h1 hh.2.2)]; decide
      · refine ev_f h0 (ev_f ?_ (Ev.bind ip tail1))
        rw [stV_f (fun hh => h0 hh.2.1)]; decide
    · have ec : decide (cycV x q > 0) = false := decide_eq_false (by rw [cycV_f hp]; omega)
      have ez : ((decide (cycV x q > 0)) != plan x q) = false := by rw [ec, Bool.eq_false_iff.2 hp]; rfl
      rw [← ez] at tail1
      refine ev_f hp (ev_f ?_ (Ev.bind ip tail1))
      rw [stV_f (fun hh => hp hh.1)]; decide
  have s1 := impl_planFor l (by omega)
  have wl := planV_pw l (by omega)
  refine Ev.bind e1 (Ev.bind s1 ?_)
  by_cases h : ((planV l).length : Int) > 0
  · refine ev_t h (Ev.bind (impl_isPlan l (planV l) wl.hl wl.hp wl.hx) ?_)
    rw [planV_plan h]
    exact tail0
  · exact ev_f h tail0
end Go.Proofs.Ytjgonpcajedkjaa.U
