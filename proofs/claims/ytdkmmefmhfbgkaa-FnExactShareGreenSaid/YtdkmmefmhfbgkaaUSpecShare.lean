/- Sharing spare green: the reference's way answers as the program's. -/
import Derived.Test.YtdkmmefmhfbgkaaFX00
import Derived.Test.YtdkmmefmhfbgkaaFX00b
import Derived.Test.YtdkmmefmhfbgkaaUShare
set_option linter.unusedVariables false
set_option linter.unusedSimpArgs false
namespace Go.Proofs.Ytdkmmefmhfbgkaa.U
open Go.RowKit Go.Proofs.YtdkmmefmhfbgkaaW.PrintWords Go.Proofs.YtdkmmefmhfbgkaaW.PrintLast Go.Proofs.Ytdkmmefmhfbgkaa.P
theorem spec_copyP_val (p : List S92) (hp : p.length ≤ 1048576) (hx : ∀ i : Nat, i < p.length → (rd_T92 p (i : Int)).f0.length ≤ 1048576) : Ev (fun k => spec_l8Copy.f k p) p := by
  unfold spec_l8Copy.f
  have e0 : p.take p.length = p := List.take_length
  suffices hh : Ev (fun k => spec_l8Copy.l0 k p (p.take 0) ((0 : Nat) : Int)) (p.take p.length) by rw [e0] at hh; exact hh
  refine ev_for0 (F := fun k i => spec_l8Copy.l0 k p (p.take i) (i : Int)) p.length (fun i hi ih => ?_) ?_
  · have hx := hx i hi
    refine Ev.step (fun k => by rw [spec_l8Copy.l0]) ?_
    refine ev_t (by omega) (ev_some ?_)
    refine ev_t (by omega) ?_
    refine ev_t (by simp; omega) ?_
    refine ev_t (by rw [List.length_take]; omega) ?_
    rw [w_succ hi (by omega)]
    rw [List.take_succ_eq_append_getElem hi, ← rd92 p i hi] at ih
    exact ih
  · refine Ev.step (fun k => by rw [spec_l8Copy.l0]) ?_
    exact ev_f (by omega) (Ev.now _)
theorem spec_shareGreen {l : List S89} {p : List S92} (w : PW l p) (d : List S128) (hd : d.length ≤ 1048576) (a : Int) : Ev (fun k => spec_ShareGreen.f k l p d a) (shV l p d a) := by
  have hp := w.hp
  have hl := w.hl
  have it : Ev (fun k => spec_ShareGreen.j0 k l p d p (spV l p a) true) (p, false) := Ev.step (fun k => by rw [spec_ShareGreen.j0]) (ev_t rfl (Ev.now _))
  unfold spec_ShareGreen.f
  refine Ev.bind (spec_copyP_val p hp w.hx) (Ev.bind (spec_spareGreen w a) ?_)
  by_cases s0 : spV l p a < 0
  · rw [shV_f (fun h => by have := h.1; omega)]
    exact ev_t s0 it
  refine ev_f s0 (Ev.bind (spec_areDetectors l d hl hd) ?_)
  by_cases hD : areD l d = true
  · have ok : shOk l p d a := ⟨by omega, hD⟩
    rw [shV_t ok, hD]
    have h := ok.sh
    generalize spV l p a = s at h s0 ⊢
    have pl := plan_len h.hp
    refine Ev.step (fun k => by rw [spec_ShareGreen.j0]) (ev_f (by decide) ?_)
    refine ev_for0 (F := fun k i => spec_ShareGreen.l0 k l p d p s (isum (dq p d) i) (i : Int)) p.length (fun i hi ih => ?_) ?_
    · have hxi := w.hx i hi
      have b1 := h.sum i
      have b2 := h.dq i
      have e : dq p d i = stD d (rd_T92 p (i : Int)).f0 (rd_T92 p (i : Int)).f0.length + 1 := rfl
      refine Ev.step (fun k => by rw [spec_ShareGreen.l0]) (ev_t (by omega) (ev_t (by omega) (Ev.bind (spec_stageDemand d _ (by omega) (by omega)) ?_)))
      rw [w_succ hi (by omega), w64 (n := isum (dq p d) i + _) (by omega) (by omega), w64 (n := isum (dq p d) i + _ + 1) (by omega) (by omega)]
      rw [isum_succ, e, show isum (dq p d) i + (stD d (rd_T92 p (i : Int)).f0 (rd_T92 p (i : Int)).f0.length + 1) = isum (dq p d) i + stD d (rd_T92 p (i : Int)).f0 (rd_T92 p (i : Int)).f0.length + 1 by omega] at ih
      exact ih
    · refine Ev.step (fun k => by rw [spec_ShareGreen.l0]) (ev_f (by omega) ?_)
      have e0 : mkP p (fun j => if j < 0 then gr1 l p d s j else (rd_T92 p (j : Int)).f1) = p := by
        rw [mkP_congr (g' := fun j => (rd_T92 p (j : Int)).f1) (fun j _ => if_neg (by omega))]; exact mkP_self p
      suffices hh : Ev (fun k => spec_ShareGreen.l1 k l p d (mkP p (fun j => if j < 0 then gr1 l p d s j else (rd_T92 p (j : Int)).f1)) s (isum (dq p d) p.length) (s - isum (shr p d s) 0) ((0 : Nat) : Int)) (mkP p (gr2 l p d s), true) by
        rw [e0, show s - isum (shr p d s) 0 = s by simp [isum]] at hh; exact hh
      refine ev_for0 (F := fun k i => spec_ShareGreen.l1 k l p d (mkP p (fun j => if j < i then gr1 l p d s j else (rd_T92 p (j : Int)).f1)) s (isum (dq p d) p.length) (s - isum (shr p d s) i) (i : Int)) p.length (fun i hi ih => ?_) ?_
      · have hxi := w.hx i hi
        have b1 := h.sum p.length
        have b2 := h.dq i
        have b3 := h.shr i
        have b4 := h.lefts i
        have b5 := leastG_bound l (rd_T92 p (i : Int)).f0
        have s1 := h.s1
        have e : dq p d i = stD d (rd_T92 p (i : Int)).f0 (rd_T92 p (i : Int)).f0.length + 1 := rfl
        have e2 : Int.tdiv (s * dq p d i) (isum (dq p d) p.length) = shr p d s i := Int.tdiv_eq_ediv_of_nonneg (by omega)
        have e3 : leastG l (rd_T92 p (i : Int)).f0 + shr p d s i = gr1 l p d s i := rfl
        refine Ev.step (fun k => by rw [spec_ShareGreen.l1]) (ev_t (by omega) (ev_t (by omega) (Ev.bind (spec_stageDemand d _ (by omega) (by omega)) ?_)))
        refine ev_f (by omega) (Ev.bind (spec_leastGreen l (rd_T92 p (i : Int)).f0 (by omega) (by omega)) (ev_t (by rw [mkP_len]; omega) ?_))
        rw [w_succ hi (by omega), ← e, w64 (n := dq p d i) (by omega) (by omega), w64 (n := s * dq p d i) (by omega) (by omega), e2, w64 (n := shr p d s i) (by omega) (by omega), w64 (n := leastG l _ + _) (by omega) (by omega), w64 (n := s - isum (shr p d s) i - _) (by omega) (by omega), e3, mkP_rd hi, Int.toNat_natCast]
        rw [mkP_set, mkP_congr (g' := fun j => if j < i + 1 then gr1 l p d s j else (rd_T92 p (j : Int)).f1) (fun j _ => by
          by_cases c : j = i
          · subst c; rw [if_pos rfl, if_pos (by omega)]
          · rw [if_neg c]
            by_cases c2 : j < i
            · rw [if_pos c2, if_pos (by omega)]
            · rw [if_neg c2, if_neg (by omega)])]
        rw [isum_succ, show s - (isum (shr p d s) i + shr p d s i) = s - isum (shr p d s) i - shr p d s i by omega] at ih
        exact ih
      · refine Ev.step (fun k => by rw [spec_ShareGreen.l1]) (ev_f (by omega) ?_)
        have lb := h.left
        have e1 : s - isum (shr p d s) p.length = lft p d s := rfl
        rw [e1]
        generalize hL : lft p d s = L at lb
        rw [mkP_congr (g' := fun j => if j < 0 then gr2 l p d s j else gr1 l p d s j) (fun j hj => by rw [if_pos hj, if_neg (by omega)])]
        refine ev_for0 (F := fun k i => spec_ShareGreen.l2 k p (mkP p (fun j => if j < i then gr2 l p d s j else gr1 l p d s j)) L (i : Int)) p.length (fun i hi ih => ?_) ?_
        · have b3 := h.shr i
          have b5 := leastG_bound l (rd_T92 p (i : Int)).f0
          have e3 : gr1 l p d s i = leastG l (rd_T92 p (i : Int)).f0 + shr p d s i := rfl
          have e4 : gr2 l p d s i = min (gr1 l p d s i + (if (i : Int) < L then 1 else 0)) 60 := by rw [← hL]; rfl
          have last : ∀ v, v = gr2 l p d s i → (mkP p (fun j => if j = i then v else (if j < i then gr2 l p d s j else gr1 l p d s j))) = mkP p (fun j => if j < i + 1 then gr2 l p d s j else gr1 l p d s j) := fun v hv => mkP_congr (fun j _ => by
            by_cases c : j = i
            · subst c; rw [if_pos rfl, if_pos (by omega), hv]
            · rw [if_neg c]
              by_cases c2 : j < i
              · rw [if_pos c2, if_pos (by omega)]
              · rw [if_neg c2, if_neg (by omega)])
          refine Ev.step (fun k => by rw [spec_ShareGreen.l2]) (ev_t (by omega) ?_)
          by_cases c : (i : Int) < L
          · rw [if_pos c] at e4
            refine ev_t c (ev_t (by omega) (ev_t (by rw [mkP_len]; omega) (ev_some ?_)))
            rw [w_succ hi (by omega), mkP_rd hi, Int.toNat_natCast]
            dsimp only
            rw [if_neg (Nat.lt_irrefl i), w64 (n := gr1 l p d s i + 1) (by omega) (by omega), mkP_set, mkP_rd hi]
            dsimp only
            rw [if_pos rfl]
            refine ev_call (spec_Min_eq _ _) ?_
            rw [mkP_set, mkP_congr (g' := fun j => if j = i then min 60 (gr1 l p d s i + 1) else (if j < i then gr2 l p d s j else gr1 l p d s j)) (fun j _ => by
              by_cases c : j = i
              · rw [if_pos c, if_pos c]
              · rw [if_neg c, if_neg c, if_neg c]), last _ (by rw [e4]; exact Int.min_comm _ _)]
            exact ih
          · rw [if_neg c] at e4
            refine ev_f c (ev_t (by omega) (ev_t (by rw [mkP_len]; omega) ?_))
            rw [w_succ hi (by omega), mkP_rd hi, Int.toNat_natCast]
            dsimp only
            rw [if_neg (Nat.lt_irrefl i)]
            refine ev_call (spec_Min_eq _ _) ?_
            rw [mkP_set, last _ (by rw [e4, Int.add_zero]; exact Int.min_comm _ _)]
            exact ih
        · refine Ev.step (fun k => by rw [spec_ShareGreen.l2]) (ev_f (by omega) ?_)
          rw [mkP_congr (g' := gr2 l p d s) (fun j hj => if_pos hj)]
          exact Ev.now _
  · rw [shV_f (fun h => hD h.2)]
    have e : areD l d = false := by cases q : areD l d with
      | true => exact absurd q hD
      | false => rfl
    rw [e]
    exact it
end Go.Proofs.Ytdkmmefmhfbgkaa.U
