/- The row of lights, how many are green, the longest wait: the program's way and the reference's. -/
import Derived.Test.YtbpnbflfpgakmaaURow
namespace Go.Proofs.Ytbpnbflfpgakmaa.U
open Go.RowKit Go.Proofs.YtbpnbflfpgakmaaW.PrintWords Go.Proofs.YtbpnbflfpgakmaaW.PrintLast Go.Proofs.Ytbpnbflfpgakmaa.P
theorem spec_rowJ {l : List S58} {p : List S51} (w : PW l p) (h : plan l p = true) (id : Int) (hf : 0 ≤ impl_FindPath.ix id l 0) : ∀ d i, i + d = p.length → Ev (fun k => spec_l9Row.l0 k l p id (rowN l p id i) (i : Int)) (rowN l p id p.length)
  | 0, i, hi => by
    have e : i = p.length := by omega
    subst e
    refine Ev.step (fun k => by rw [spec_l9Row.l0]) ?_
    exact ev_f (by omega) (Ev.now _)
  | d + 1, i, hi => by
    have hlt : i < p.length := by omega
    have hn := plan_len h
    have ih := spec_rowJ w h id hf d (i + 1) (by omega)
    have lb := long_bound h hlt
    have rl := rowN_len h id i (by omega)
    have cb := cyc_bound h i (by omega)
    refine Ev.step (fun k => by rw [spec_l9Row.l0]) ?_
    refine ev_t (by omega) ?_
    have e : rowN l p id i = rowN l p id i ++ seg l p id i 0 := by simp [seg]
    rw [e]
    refine ev_for0 (F := fun k s => spec_l9Row.l1 k l p id (rowN l p id i ++ seg l p id i s) (i : Int) (s : Int)) (longV l p (i : Int)).toNat (fun s hs ih2 => ?_) ?_
    · have hlen : (rowN l p id i ++ seg l p id i s).length < 17592186044416 := by rw [List.length_append, seg_len]; omega
      refine Ev.step (fun k => by rw [spec_l9Row.l1]) ?_
      refine Ev.bind (spec_long w h hlt) ?_
      refine ev_t (show (s : Int) < longV l p (i : Int) by omega) ?_
      refine Ev.bind (light_val w hlt (s : Int) id hf _ rfl (fp_id hf)).1 ?_
      refine ev_t hlen ?_
      rw [w_succ hs (by omega), List.append_assoc, ← seg_succ]
      exact ih2
    · refine Ev.step (fun k => by rw [spec_l9Row.l1]) ?_
      refine Ev.bind (spec_long w h hlt) ?_
      refine ev_f (show ¬ ((longV l p (i : Int)).toNat : Int) < longV l p (i : Int) by omega) ?_
      rw [w_succ hlt (by omega)]
      exact ih
theorem spec_row {l : List S58} {p : List S51} (w : PW l p) (id : Int) : Ev (fun k => spec_l9Row.f k l p id) (rowV l p id) := by
  have hl := w.hl
  have sp := spec_isPlan l p w.hl w.hp w.hx
  have sf := spec_findPath l id (by omega)
  unfold spec_l9Row.f
  refine ev_some (Ev.bind sp ?_)
  by_cases h : plan l p = true
  · refine ev_t h (Ev.bind sf ?_)
    by_cases hf : impl_FindPath.ix id l 0 < 0
    · rw [rowV_f (fun c => by have := c.2; omega), decide_eq_true hf]
      refine Ev.step (fun k => by rw [spec_l9Row.j0]) ?_
      exact ev_t rfl (Ev.now _)
    · rw [rowV_t ⟨h, by omega⟩, decide_eq_false hf]
      refine Ev.step (fun k => by rw [spec_l9Row.j0]) ?_
      exact ev_f (by decide) (spec_rowJ w h id (by omega) p.length 0 (by omega))
  · rw [rowV_f (fun c => h c.1)]
    exact ev_f h (Ev.step (fun k => by rw [spec_l9Row.j0]) (ev_t rfl (Ev.now _)))
theorem impl_greens_val {l : List S58} {p : List S51} (w : PW l p) (id : Int) : Ev (fun k => impl_greens.f k l p id) (grn (rowV l p id)) := by
  have ic := impl_cycle w
  unfold impl_greens.f
  refine ev_call (impl_findPath l id) ?_
  by_cases hf : impl_FindPath.ix id l 0 < 0
  · rw [rowV_f (fun c => by have := c.2; omega)]
    exact ev_t hf (Ev.now _)
  · refine ev_f hf (Ev.bind ic ?_)
    by_cases h : plan l p = true
    · have hr : hasRow l p id := ⟨h, by omega⟩
      obtain ⟨r1, r2, r3⟩ := rowV_len hr
      rw [cycV_t h, ← r1]
      refine ev_t (by omega) (ev_t (by omega) (ev_some ?_))
      have gl := grn_len (rowV l p id)
      rw [Int.toNat_natCast, List.length_replicate]
      have e0 : List.replicate (rowV l p id).length false = (grn (rowV l p id)).take 0 ++ List.replicate ((grn (rowV l p id)).length - 0) false := by rw [gl]; simp
      rw [e0]
      refine ev_for0 (F := fun k i => impl_greens.l0 k l p id ((grn (rowV l p id)).take i ++ List.replicate ((grn (rowV l p id)).length - i) false) ((rowV l p id).length : Int) (i : Int)) (rowV l p id).length (fun i hi ih => ?_) ?_
      · have hlen := fill_len (grn (rowV l p id)) false i (by omega)
        refine Ev.step (fun k => by rw [impl_greens.l0]) ?_
        refine ev_t (by omega) (Ev.bind (lightAt_val w (i : Int) id).2 (ev_t (by omega) (ev_t (by rw [hlen]; omega) ?_)))
        have e1 : (laV l p (i : Int) id == 1) = (grn (rowV l p id))[i]'(by omega) := by
          have g := grn_rd (rowV l p id) i hi
          rw [rdOf_at false _ i (by omega), rowV_rd' hr hi] at g
          rw [g]
          by_cases c : laV l p (i : Int) id = 1
          · rw [decide_eq_true c]; exact beq_iff_eq.mpr c
          · rw [decide_eq_false c]; exact beq_eq_false_iff_ne.mpr c
        rw [e1, Int.toNat_natCast, fill_set (grn (rowV l p id)) false i (by omega), w_succ hi (by omega)]
        exact ih
      · refine Ev.step (fun k => by rw [impl_greens.l0]) ?_
        refine ev_f (by omega) (ev_now ?_)
        rw [List.take_of_length_le (by omega), gl]; simp
    · rw [rowV_f (fun c => h c.1), cycV_f h]
      refine ev_t (by decide) (ev_t (by decide) (ev_some ?_))
      refine Ev.step (fun k => by rw [impl_greens.l0]) ?_
      exact ev_f (by simp) (Ev.now _)
noncomputable def greenV (l : List S58) (p : List S51) (id : Int) : Int := cnt (rowV l p id) (rowV l p id).length
theorem greenOf_val {l : List S58} {p : List S51} (w : PW l p) (id : Int) : Ev (fun k => spec_GreenOf.f k l p id) (greenV l p id) ∧ Ev (fun k => impl_GreenOf.f k l p id) (greenV l p id) := by
  have rl := rowV_le l p id
  have sr := spec_row w id
  have ig := impl_greens_val w id
  unfold spec_GreenOf.f impl_GreenOf.f greenV
  generalize rowV l p id = r at rl sr ig ⊢
  have gl := grn_len r
  refine ⟨Ev.bind sr ?_, Ev.bind ig ?_⟩
  · refine ev_for0 (F := fun k i => spec_GreenOf.l0 k (cnt r i) r (i : Int)) r.length (fun i hi ih => ?_) ?_
    · have cb := cnt_bound r i
      refine Ev.step (fun k => by rw [spec_GreenOf.l0]) ?_
      refine ev_t (by omega) (ev_t (by omega) ?_)
      rw [w_succ hi (by omega)]
      by_cases c : rd r (i : Int) = 1
      · rw [cnt_t c] at ih
        rw [w64 (n := cnt r i + 1) (by omega) (by omega)]
        exact ev_t c ih
      · rw [cnt_f c] at ih
        exact ev_f c ih
    · refine Ev.step (fun k => by rw [spec_GreenOf.l0]) ?_
      exact ev_f (by omega) (Ev.now _)
  · rw [gl]
    refine ev_for0 (F := fun k i => impl_GreenOf.l0 k (cnt r i) (grn r) (r.length : Int) (i : Int)) r.length (fun i hi ih => ?_) ?_
    · have cb := cnt_bound r i
      refine Ev.step (fun k => by rw [impl_GreenOf.l0]) ?_
      refine ev_t (by omega) (ev_t (by omega) (ev_t (by omega) ?_))
      rw [w_succ hi (by omega), grn_rd r i hi]
      by_cases c : rd r (i : Int) = 1
      · rw [cnt_t c] at ih
        rw [w64 (n := cnt r i + 1) (by omega) (by omega)]
        exact ev_dt c ih
      · rw [cnt_f c] at ih
        exact ev_df c ih
    · refine Ev.step (fun k => by rw [impl_GreenOf.l0]) ?_
      exact ev_f (by omega) (Ev.now _)
theorem tm_in {a n : Int} (h0 : 0 ≤ a) (hn : 0 < n) : 0 ≤ Int.tmod a n ∧ Int.tmod a n < n := ⟨Int.tmod_nonneg _ h0, Int.tmod_lt_of_pos _ hn⟩
theorem grn_rd' (r : List Int) {t : Int} (h0 : 0 ≤ t) (h1 : t < r.length) : rdOf false (grn r) t = decide (rd r t = 1) := by
  obtain ⟨n, rfl⟩ : ∃ n : Nat, t = (n : Int) := ⟨t.toNat, by omega⟩
  exact grn_rd r n (by omega)
theorem waitOf_val {l : List S58} {p : List S51} (w : PW l p) (id : Int) : Ev (fun k => spec_WaitOf.f k l p id) (waitV (rowV l p id)) ∧ Ev (fun k => impl_WaitOf.f k l p id) (waitV (rowV l p id)) := by
  have rl := rowV_le l p id
  have sr := spec_row w id
  have ig := impl_greens_val w id
  unfold spec_WaitOf.f impl_WaitOf.f
  generalize rowV l p id = r at rl sr ig ⊢
  have gl := grn_len r
  have e2 : wrap64 (2 * (r.length : Int)) = 2 * (r.length : Int) := w64 (by omega) (by omega)
  refine ⟨Ev.bind sr ?_, Ev.bind ig ?_⟩
  · refine ev_for0 (F := fun k i => spec_WaitOf.l0 k r (wb r i) (wn r i) (i : Int)) (2 * r.length) (fun i hi ih => ?_) ?_
    · have t := tm_in (a := (i : Int)) (n := (r.length : Int)) (by omega) (by omega)
      have nb := wn_bound r i
      refine Ev.step (fun k => by rw [spec_WaitOf.l0]) ?_
      refine ev_t (by rw [e2]; omega) (ev_f (by omega) (ev_t t.1 (ev_t t.2 ?_)))
      rw [w_succ hi (by omega)]
      by_cases c : rd r (Int.tmod (i : Int) (r.length : Int)) = 1
      · refine ev_t c (ev_call (spec_Max_eq _ _) ?_)
        rw [wb, wn_t c] at ih
        exact ih
      · refine ev_f c ?_
        rw [w64 (n := wn r i + 1) (by omega) (by omega)]
        refine ev_call (spec_Max_eq _ _) ?_
        rw [wb, wn_f c] at ih
        exact ih
    · refine Ev.step (fun k => by rw [spec_WaitOf.l0]) ?_
      refine ev_f (by rw [e2]; omega) (ev_call (spec_Min_eq _ _) (Ev.now _))
  · rw [gl, e2]
    refine ev_for0 (F := fun k i => impl_WaitOf.l0 k (grn r) (wb r i) (wn r i) (2 * (r.length : Int)) (i : Int)) (2 * r.length) (fun i hi ih => ?_) ?_
    · have t := tm_in (a := (i : Int)) (n := (r.length : Int)) (by omega) (by omega)
      have nb := wn_bound r i
      refine Ev.step (fun k => by rw [impl_WaitOf.l0]) ?_
      refine ev_t (by omega) ?_
      rw [gl]
      refine ev_f (by omega) (ev_t t.1 (ev_t t.2 ?_))
      rw [w_succ hi (by omega), grn_rd' r t.1 t.2]
      by_cases c : rd r (Int.tmod (i : Int) (r.length : Int)) = 1
      · refine ev_dt c ?_
        rw [wb, wn_t c] at ih
        rw [mx_eq]
        exact ih
      · refine ev_df c ?_
        rw [w64 (n := wn r i + 1) (by omega) (by omega), mx_eq]
        rw [wb, wn_f c] at ih
        exact ih
    · refine Ev.step (fun k => by rw [impl_WaitOf.l0]) ?_
      refine ev_f (by omega) (ev_now ?_)
      rw [mn_eq, gl]
      rfl
end Go.Proofs.Ytbpnbflfpgakmaa.U
