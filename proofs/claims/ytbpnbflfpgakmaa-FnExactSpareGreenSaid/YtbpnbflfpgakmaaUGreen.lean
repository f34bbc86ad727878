/- The share and the spare of green: the program's way and the reference's come to one answer. -/
import Derived.Test.YtbpnbflfpgakmaaFI11
import Derived.Test.YtbpnbflfpgakmaaFS11
import Derived.Test.YtbpnbflfpgakmaaULong
namespace Go.Proofs.Ytbpnbflfpgakmaa.U
open Go.RowKit Go.Proofs.YtbpnbflfpgakmaaW.PrintWords Go.Proofs.YtbpnbflfpgakmaaW.PrintLast Go.Proofs.Ytbpnbflfpgakmaa.P
theorem greenShare_ex {l : List S58} {p : List S51} (w : PW l p) (a : Int) : ∃ v, Ev (fun k => spec_GreenShare.f k l p a) v ∧ Ev (fun k => impl_GreenShare.f k l p a) v := by
  have hp := w.hp
  have sp := spec_isPlan l p w.hl w.hp w.hx
  have ip := impl_isPlan l p w.hl w.hp w.hx
  unfold spec_GreenShare.f impl_GreenShare.f
  by_cases h : plan l p = true
  · have hn := plan_len h
    have q := spec_l1In_eq a 0 (wrap64 ((p.length : Int) - 1))
    rw [w64 (n := (p.length : Int) - 1) (by omega) (by omega)] at q ⊢
    have sc := spec_cycle w
    have ic := impl_cycle w
    have cb := cyc_bound h p.length (by omega)
    have c0 : ¬ cycV l p = 0 := by rw [cycV_t h]; omega
    by_cases hr : 0 ≤ a ∧ a ≤ (p.length : Int) - 1
    · rw [decide_eq_true hr] at q
      exact ⟨_, Ev.bind sp (ev_t h (ev_call q (ev_t rfl (ev_t hr.1 (ev_t (by omega) (Ev.bind sc (ev_f c0 (Ev.now _)))))))), Ev.bind ip (ev_t h (ev_f (by omega) (ev_f (by omega) (ev_t hr.1 (ev_t (by omega) (Ev.bind ic (ev_f c0 (Ev.now _))))))))⟩
    · rw [decide_eq_false hr] at q
      refine ⟨0, Ev.bind sp (ev_t h (ev_call q (ev_f (by decide) (Ev.now _)))), Ev.bind ip (ev_t h (ev_ite (fun _ => Ev.now _) (fun c => ?_)))⟩
      exact ev_t (show a ≥ (p.length : Int) by omega) (Ev.now _)
  · exact ⟨0, Ev.bind sp (ev_f h (Ev.now _)), Ev.bind ip (ev_f h (Ev.now _))⟩
noncomputable def sg (l : List S58) (p : List S51) (a : Int) : Nat → Int
  | 0 => a
  | i + 1 => sg l p a i - leastG l (rd_T51 p (i : Int)).f0 - clN l p (i : Int)
theorem sg_bound (l : List S58) (p : List S51) (a : Int) : ∀ i : Nat, a - 12 * (i : Int) ≤ sg l p a i ∧ sg l p a i ≤ a
  | 0 => by simp [sg]
  | i + 1 => by
    have h1 := sg_bound l p a i
    have h2 := leastG_bound l (rd_T51 p (i : Int)).f0
    have h3 : 0 ≤ clN l p (i : Int) ∧ clN l p (i : Int) ≤ 5 := clearB_bound l _ _
    unfold sg
    omega
theorem spareGreen_ex {l : List S58} {p : List S51} (w : PW l p) (a : Int) : ∃ v, Ev (fun k => spec_SpareGreen.f k l p a) v ∧ Ev (fun k => impl_SpareGreen.f k l p a) v := by
  have hp := w.hp
  have hl := w.hl
  have sp := spec_isPlan l p w.hl w.hp w.hx
  have ip := impl_isPlan l p w.hl w.hp w.hx
  have st : Ev (fun k => spec_SpareGreen.j0 k l p a true) (-1) := Ev.step (fun k => by rw [spec_SpareGreen.j0]) (ev_t rfl (Ev.now _))
  have it : Ev (fun k => impl_SpareGreen.j0 k l p a true) (-1) := Ev.step (fun k => by rw [impl_SpareGreen.j0]) (ev_t rfl (Ev.now _))
  unfold spec_SpareGreen.f impl_SpareGreen.f
  by_cases h : plan l p = true
  · have hn := plan_len h
    have q1 := spec_l1In_eq a 1 1000
    have q2 := impl_InRange_eq a 1 1000
    by_cases hr : 1 ≤ a ∧ a ≤ 1000
    · rw [decide_eq_true hr] at q1 q2
      refine ⟨max (-1) (sg l p a p.length), Ev.bind sp (ev_t h (ev_call q1 ?_)), Ev.bind ip (ev_t h (ev_call q2 ?_))⟩
      · refine Ev.step (fun k => by rw [spec_SpareGreen.j0]) (ev_f (by decide) ?_)
        refine ev_for0 (F := fun k i => spec_SpareGreen.l0 k l p (sg l p a i) (i : Int)) p.length (fun i hi ih => ?_) ?_
        · have b := nx_bound hi
          have hxi := w.hx i hi
          have b1 := sg_bound l p a i
          have b2 := leastG_bound l (rd_T51 p (i : Int)).f0
          have b3 : 0 ≤ clN l p (i : Int) ∧ clN l p (i : Int) ≤ 5 := clearB_bound l _ _
          have e1 : wrap64 ((i : Int) + 1) = (i : Int) + 1 := w64 (by omega) (by omega)
          refine Ev.step (fun k => by rw [spec_SpareGreen.l0]) (ev_t (by omega) (ev_t (by omega) (Ev.bind (spec_leastGreen l _ (by omega) (by omega)) ?_)))
          rw [e1]
          refine ev_f (by omega) (ev_t b.1 (ev_t b.2 (Ev.bind (spec_clear_next w hi) ?_)))
          rw [w64 (n := sg l p a i - _) (by omega) (by omega), w64 (n := sg l p a i - _ - _) (by omega) (by omega)]
          exact ih
        · refine Ev.step (fun k => by rw [spec_SpareGreen.l0]) (ev_f (by omega) ?_)
          exact ev_call (spec_Max_eq _ _) (Ev.now _)
      · refine Ev.step (fun k => by rw [impl_SpareGreen.j0]) (ev_f (by decide) ?_)
        refine ev_for0 (F := fun k i => impl_SpareGreen.l0 k l p (sg l p a i) p (p.length : Int) (i : Int)) p.length (fun i hi ih => ?_) ?_
        · have hxi := w.hx i hi
          have b1 := sg_bound l p a i
          have b2 := leastG_bound l (rd_T51 p (i : Int)).f0
          have b3 : 0 ≤ clN l p (i : Int) ∧ clN l p (i : Int) ≤ 5 := clearB_bound l _ _
          have b4 := part_bound h hi
          have e2 : longV l p (i : Int) = (rd_T51 p (i : Int)).f1 + clN l p (i : Int) := rfl
          refine Ev.step (fun k => by rw [impl_SpareGreen.l0]) (ev_t (by omega) (ev_t (by omega) (ev_t (by omega) (Ev.bind (impl_long w h hi) (Ev.bind (impl_leastGreen l (rd_T51 p (i : Int)).f0 (by omega)) ?_)))))
          rw [w_succ hi (by omega), w64 (n := longV l p (i : Int) - _) (by omega) (by omega), w64 (n := longV l p (i : Int) - _ + _) (by omega) (by omega), w64 (n := sg l p a i - _) (by omega) (by omega)]
          have e3 : sg l p a i - (longV l p (i : Int) - (rd_T51 p (i : Int)).f1 + leastG l (rd_T51 p (i : Int)).f0) = sg l p a (i + 1) := by
            have e4 : sg l p a (i + 1) = sg l p a i - leastG l (rd_T51 p (i : Int)).f0 - clN l p (i : Int) := rfl
            omega
          rw [e3]
          exact ih
        · refine Ev.step (fun k => by rw [impl_SpareGreen.l0]) (ev_f (by omega) (ev_now ?_))
          rw [mx_eq]
          omega
    · rw [decide_eq_false hr] at q1 q2
      exact ⟨-1, Ev.bind sp (ev_t h (ev_call q1 st)), Ev.bind ip (ev_t h (ev_call q2 it))⟩
  · exact ⟨-1, Ev.bind sp (ev_f h st), Ev.bind ip (ev_f h it)⟩
end Go.Proofs.Ytbpnbflfpgakmaa.U
