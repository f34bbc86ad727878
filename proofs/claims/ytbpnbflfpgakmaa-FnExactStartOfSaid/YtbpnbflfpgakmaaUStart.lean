/- Where a part starts: the program's way and the reference's come to one answer. -/
import Derived.Test.YtbpnbflfpgakmaaULong
namespace Go.Proofs.Ytbpnbflfpgakmaa.U
open Go.RowKit Go.Proofs.YtbpnbflfpgakmaaW.PrintWords Go.Proofs.YtbpnbflfpgakmaaW.PrintLast Go.Proofs.Ytbpnbflfpgakmaa.P
theorem startOf_ex {l : List S58} {p : List S51} (w : PW l p) (a : Int) : ∃ v, Ev (fun k => spec_StartOf.f k l p a) v ∧ Ev (fun k => impl_StartOf.f k l p a) v := by
  have hp := w.hp
  have sp := spec_isPlan l p w.hl w.hp w.hx
  have ip := impl_isPlan l p w.hl w.hp w.hx
  have st : Ev (fun k => spec_StartOf.j0 k l p a true) (-1) := Ev.step (fun k => by rw [spec_StartOf.j0]) (ev_t rfl (Ev.now _))
  have it : Ev (fun k => impl_StartOf.j0 k l p a true) (-1) := Ev.step (fun k => by rw [impl_StartOf.j0]) (ev_t rfl (Ev.now _))
  unfold spec_StartOf.f impl_StartOf.f
  by_cases h : plan l p = true
  · have hn := plan_len h
    have q := spec_l1In_eq a 0 (wrap64 ((p.length : Int) - 1))
    rw [w64 (n := (p.length : Int) - 1) (by omega) (by omega)] at q ⊢
    by_cases hr : 0 ≤ a ∧ a ≤ (p.length : Int) - 1
    · rw [decide_eq_true hr] at q
      obtain ⟨n, rfl⟩ : ∃ n : Nat, a = (n : Int) := ⟨a.toNat, by omega⟩
      refine ⟨cyc l p n, Ev.bind sp (ev_t h (ev_call q ?_)), Ev.bind ip (ev_t h (ev_f (by omega) ?_))⟩
      · refine Ev.step (fun k => by rw [spec_StartOf.j0]) (ev_f (by decide) ?_)
        refine ev_for0 (F := fun k i => spec_StartOf.l0 k l p (n : Int) (cyc l p i) (i : Int)) n (fun i hi ih => ?_) ?_
        · have b1 := cyc_bound h i (by omega)
          have b2 := long_bound h (i := i) (by omega)
          refine Ev.step (fun k => by rw [spec_StartOf.l0]) (ev_t (by omega) (Ev.bind (spec_long w h (i := i) (by omega)) ?_))
          rw [w_succ (n := p.length) (by omega) (by omega), w64 (n := cyc l p i + _) (by omega) (by omega)]
          exact ih
        · refine Ev.step (fun k => by rw [spec_StartOf.l0]) ?_
          exact ev_f (by omega) (Ev.now _)
      · rw [decide_eq_false (show ¬ (n : Int) ≥ (p.length : Int) by omega)]
        refine Ev.step (fun k => by rw [impl_StartOf.j0]) (ev_f (by decide) ?_)
        refine ev_for0 (F := fun k i => impl_StartOf.l0 k l p (cyc l p i) (n : Int) (i : Int)) n (fun i hi ih => ?_) ?_
        · have b1 := cyc_bound h i (by omega)
          have b2 := long_bound h (i := i) (by omega)
          refine Ev.step (fun k => by rw [impl_StartOf.l0]) (ev_t (by omega) (Ev.bind (impl_long w h (i := i) (by omega)) ?_))
          rw [w_succ (n := p.length) (by omega) (by omega), w64 (n := cyc l p i + _) (by omega) (by omega)]
          exact ih
        · refine Ev.step (fun k => by rw [impl_StartOf.l0]) ?_
          exact ev_f (by omega) (Ev.now _)
    · rw [decide_eq_false hr] at q
      refine ⟨-1, Ev.bind sp (ev_t h (ev_call q st)), Ev.bind ip (ev_t h (ev_ite (fun _ => it) (fun c => ?_)))⟩
      rw [decide_eq_true (show a ≥ (p.length : Int) by omega)]
      exact it
  · exact ⟨-1, Ev.bind sp (ev_f h st), Ev.bind ip (ev_f h it)⟩
end Go.Proofs.Ytbpnbflfpgakmaa.U
