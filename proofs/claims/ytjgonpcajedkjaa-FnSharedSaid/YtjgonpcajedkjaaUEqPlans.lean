/- Are two plans one, have they one's stages: the program's way and the reference's. -/
import Derived.Test.YtjgonpcajedkjaaFX00d
import Derived.Test.YtjgonpcajedkjaaUEqInts
import Derived.Test.YtjgonpcajedkjaaURd
set_option linter.unusedVariables false
set_option linter.unusedSimpArgs false
namespace Go.Proofs.Ytjgonpcajedkjaa.U
open Go.RowKit Go.Proofs.YtjgonpcajedkjaaW.PrintWords Go.Proofs.YtjgonpcajedkjaaW.PrintLast Go.Proofs.Ytjgonpcajedkjaa.P
def epP (a b : List S85) (i : Nat) : Prop := (rd_T85 a (i : Int)).f1 = (rd_T85 b (i : Int)).f1 ∧ (rd_T85 a (i : Int)).f0 = (rd_T85 b (i : Int)).f0
noncomputable def epV (a b : List S85) : Bool := if (a.length : Int) = (b.length : Int) then (bo (∀ i, i < a.length → epP a b i) && true) else false
theorem impl_equalPlans (a b : List S85) (ha : a.length ≤ 1048576) (hx : ∀ i : Nat, i < a.length → (rd_T85 a (i : Int)).f0.length ≤ 1048576) (hy : ∀ i : Nat, i < b.length → (rd_T85 b (i : Int)).f0.length ≤ 1048576) : Ev (fun k => impl_EqualPlans.f k a b) (epV a b) := by
  unfold impl_EqualPlans.f epV
  by_cases hl : (a.length : Int) = (b.length : Int)
  · rw [if_pos hl]
    refine ev_t hl ?_
    refine ev_all (F := fun k i => impl_EqualPlans.l0 k a b (i : Int)) (epP a b) a.length (fun i hi hp r ih => ?_) (fun i hi hp => ?_) (fun _ => ?_)
    · have h1 := hx i hi
      have h2 := hy i (by omega)
      have q := slices_equal (rd_T85 a (i : Int)).f0 (rd_T85 b (i : Int)).f0 (by omega)
      rw [decide_eq_true hp.2] at q
      refine Ev.step (fun k => by rw [impl_EqualPlans.l0]) ?_
      refine ev_t (by omega) (ev_t (by omega) ?_)
      unfold impl_EqualPlans_1.f
      refine Ev.bind (ev_t hp.1 (Ev.bind q (Ev.now _))) (ev_t rfl ?_)
      rw [w_succ hi (by omega)]
      exact ih
    · have h1 := hx i hi
      have h2 := hy i (by omega)
      have q := slices_equal (rd_T85 a (i : Int)).f0 (rd_T85 b (i : Int)).f0 (by omega)
      refine Ev.step (fun k => by rw [impl_EqualPlans.l0]) ?_
      refine ev_t (by omega) (ev_t (by omega) ?_)
      unfold impl_EqualPlans_1.f
      have c0 : Ev (fun k => if (rd_T85 a (i : Int)).f1 = (rd_T85 b (i : Int)).f1 then ((slices_Equal_int_int.f k (rd_T85 a (i : Int)).f0 (rd_T85 b (i : Int)).f0).bind fun t => (some t)) else (some false)) false := by
        by_cases c : (rd_T85 a (i : Int)).f1 = (rd_T85 b (i : Int)).f1
        · rw [decide_eq_false (fun e => hp ⟨c, e⟩)] at q
          exact ev_t c (Ev.bind q (Ev.now _))
        · exact ev_f c (Ev.now _)
      exact Ev.bind c0 (ev_f (by decide) (Ev.now _))
    · refine Ev.step (fun k => by rw [impl_EqualPlans.l0]) ?_
      exact ev_f (by omega) (Ev.now _)
  · rw [if_neg hl]
    exact ev_f hl (Ev.now _)
def ssP (a b : List S85) (i : Nat) : Prop := (rd_T85 a (i : Int)).f0 = (rd_T85 b (i : Int)).f0
noncomputable def ssV (a b : List S85) : Bool := if (a.length : Int) = (b.length : Int) then (bo (∀ i, i < a.length → ssP a b i) && true) else false
theorem impl_sameStages (a b : List S85) (ha : a.length ≤ 1048576) (hx : ∀ i : Nat, i < a.length → (rd_T85 a (i : Int)).f0.length ≤ 1048576) (hy : ∀ i : Nat, i < b.length → (rd_T85 b (i : Int)).f0.length ≤ 1048576) : Ev (fun k => impl_SameStages.f k a b) (ssV a b) := by
  unfold impl_SameStages.f ssV
  by_cases hl : (a.length : Int) = (b.length : Int)
  · rw [if_pos hl]
    refine ev_t hl ?_
    refine ev_all (F := fun k i => impl_SameStages.l0 k a b (i : Int)) (ssP a b) a.length (fun i hi hp r ih => ?_) (fun i hi hp => ?_) (fun _ => ?_)
    · have h1 := hx i hi
      have h2 := hy i (by omega)
      have q := slices_equal (rd_T85 a (i : Int)).f0 (rd_T85 b (i : Int)).f0 (by omega)
      rw [decide_eq_true (show (rd_T85 a (i : Int)).f0 = (rd_T85 b (i : Int)).f0 from hp)] at q
      refine Ev.step (fun k => by rw [impl_SameStages.l0]) ?_
      refine ev_t (by omega) (ev_t (by omega) ?_)
      unfold impl_SameStages_1.f
      refine Ev.bind (Ev.bind q (Ev.now _)) (ev_t rfl ?_)
      rw [w_succ hi (by omega)]
      exact ih
    · have h1 := hx i hi
      have h2 := hy i (by omega)
      have q := slices_equal (rd_T85 a (i : Int)).f0 (rd_T85 b (i : Int)).f0 (by omega)
      rw [decide_eq_false (show ¬ (rd_T85 a (i : Int)).f0 = (rd_T85 b (i : Int)).f0 from hp)] at q
      refine Ev.step (fun k => by rw [impl_SameStages.l0]) ?_
      refine ev_t (by omega) (ev_t (by omega) ?_)
      unfold impl_SameStages_1.f
      exact Ev.bind (Ev.bind q (Ev.now _)) (ev_f (by decide) (Ev.now _))
    · refine Ev.step (fun k => by rw [impl_SameStages.l0]) ?_
      exact ev_f (by omega) (Ev.now _)
  · rw [if_neg hl]
    exact ev_f hl (Ev.now _)
end Go.Proofs.Ytjgonpcajedkjaa.U
