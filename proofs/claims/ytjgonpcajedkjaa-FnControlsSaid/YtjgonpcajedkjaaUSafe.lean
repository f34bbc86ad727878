/- Are the lights safe: the program's way and the reference's. -/
import Derived.Test.YtjgonpcajedkjaaFX00e
import Derived.Test.YtjgonpcajedkjaaUConf
import Derived.Test.YtjgonpcajedkjaaURd
set_option linter.unusedVariables false
set_option linter.unusedSimpArgs false
namespace Go.Proofs.Ytjgonpcajedkjaa.U
open Go.RowKit Go.Proofs.YtjgonpcajedkjaaW.PrintWords Go.Proofs.YtjgonpcajedkjaaW.PrintLast Go.Proofs.Ytjgonpcajedkjaa.P
def gIn (g : List Int) (i : Nat) : Prop := 0 ≤ rd g (i : Int) ∧ rd g (i : Int) ≤ 2
def gFree (l : List S50) (g : List Int) (i j : Nat) : Prop := rd g (i : Int) = 0 ∨ rd g (j : Int) = 0 ∨ conf (rd_T50 l (i : Int)) (rd_T50 l (j : Int)) = false
def gStep (l : List S50) (g : List Int) (i : Nat) : Prop := gIn g i ∧ ∀ j, j < i → gFree l g i j
noncomputable def safeL (l : List S50) (g : List Int) : Bool := if areP l = true ∧ g.length = l.length then bo (∀ i, i < l.length → gStep l g i) else false
theorem rd_takeP (d : List S50) (i j : Nat) (h : j < i) (hi : i ≤ d.length) : rd_T50 (d.take i) (j : Int) = rd_T50 d (j : Int) := by
  rw [rd50 _ j (by rw [List.length_take]; omega), rd50 _ j (by omega), List.getElem_take]
theorem impl_safe (l : List S50) (g : List Int) (h : l.length ≤ 9223372036854775807) : Ev (fun k => impl_IsSafeLights.f k l g) (safeL l g) := by
  unfold impl_IsSafeLights.f
  refine Ev.bind (impl_arePaths l h) ?_
  have jt : Ev (fun k => impl_IsSafeLights.j0 k l g true) false := Ev.step (fun k => by rw [impl_IsSafeLights.j0]) (ev_t rfl (Ev.now _))
  by_cases hp : areP l = true
  · by_cases hl : g.length = l.length
    · refine ev_t hp ?_
      have e : safeL l g = (bo (∀ i, i < l.length → gStep l g i) && true) := by unfold safeL; rw [if_pos ⟨hp, hl⟩, Bool.and_true]
      rw [e, show ((g.length : Int) != (l.length : Int)) = false by simp [hl]]
      refine Ev.step (fun k => by rw [impl_IsSafeLights.j0]) (ev_f (by decide) ?_)
      have run : ∀ (i j : Nat), i < l.length → j < i → ∀ r, (gFree l g i j → Ev (fun k => impl_IsSafeLights.l1 k l g (i : Int) l (l.length : Int) (i : Int) (l.take i) (i : Int) ((j + 1 : Nat) : Int) (rd_T50 l (i : Int)).f0 (rd_T50 l (i : Int)).f1 (rd_T50 l (i : Int)).f2 (rd_T50 l (i : Int)).f3) r) → (¬ gFree l g i j → r = false) → Ev (fun k => impl_IsSafeLights.l1 k l g (i : Int) l (l.length : Int) (i : Int) (l.take i) (i : Int) (j : Int) (rd_T50 l (i : Int)).f0 (rd_T50 l (i : Int)).f1 (rd_T50 l (i : Int)).f2 (rd_T50 l (i : Int)).f3) r := by
        intro i j hi hj r c1 c2
        have hlen : (l.take i).length = i := by rw [List.length_take]; omega
        have hr := rd_takeP l i j hj (by omega)
        refine Ev.step (fun k => by rw [impl_IsSafeLights.l1]) (ev_t (by omega) (ev_t (by omega) (ev_t (by rw [hlen]; omega) ?_)))
        rw [hr]
        refine Ev.bind (impl_conflict (rd_T50 l (i : Int)) (rd_T50 l (j : Int))) ?_
        rw [w_succ (n := l.length) (by omega) h]
        by_cases c : conf (rd_T50 l (i : Int)) (rd_T50 l (j : Int)) = true
        · refine ev_t c (ev_t (by omega) (ev_t (by omega) (ev_ite (fun d => c1 (.inl d)) (fun d => ev_t (by omega) (ev_ite (fun d2 => c1 (.inr (.inl d2))) (fun d2 => ?_))))))
          rw [c2 (fun hf => by rcases hf with hf | hf | hf; exact d hf; exact d2 hf; rw [hf] at c; cases c)]
          exact Ev.now _
        · exact ev_f c (c1 (.inr (.inr (by simpa using c))))
      have hin : ∀ i : Nat, i < l.length → ∀ r, ((∀ j, j < i → gFree l g i j) → Ev (fun k => impl_IsSafeLights.l0 k l g l (l.length : Int) ((i + 1 : Nat) : Int)) r) → Ev (fun k => impl_IsSafeLights.l1 k l g (i : Int) l (l.length : Int) (i : Int) (l.take i) (i : Int) 0 (rd_T50 l (i : Int)).f0 (rd_T50 l (i : Int)).f1 (rd_T50 l (i : Int)).f2 (rd_T50 l (i : Int)).f3) (bo (∀ j, j < i → gFree l g i j) && r) := by
        intro i hi r ih
        refine ev_all (F := fun k j => impl_IsSafeLights.l1 k l g (i : Int) l (l.length : Int) (i : Int) (l.take i) (i : Int) (j : Int) (rd_T50 l (i : Int)).f0 (rd_T50 l (i : Int)).f1 (rd_T50 l (i : Int)).f2 (rd_T50 l (i : Int)).f3) (gFree l g i) i (fun j hj c r ih => run i j hi hj r (fun _ => ih) (fun hn => absurd c hn)) (fun j hj c => run i j hi hj false (fun hc => absurd hc c) (fun _ => rfl)) (fun hall => ?_)
        refine Ev.step (fun k => by rw [impl_IsSafeLights.l1]) (ev_f (by omega) ?_)
        rw [w_succ hi h]
        exact ih hall
      have hout : ∀ i : Nat, i < l.length → ∀ r, (gIn g i → Ev (fun k => impl_IsSafeLights.l1 k l g (i : Int) l (l.length : Int) (i : Int) (l.take i) (i : Int) 0 (rd_T50 l (i : Int)).f0 (rd_T50 l (i : Int)).f1 (rd_T50 l (i : Int)).f2 (rd_T50 l (i : Int)).f3) r) → (¬ gIn g i → r = false) → Ev (fun k => impl_IsSafeLights.l0 k l g l (l.length : Int) (i : Int)) r := by
        intro i hi r c1 c2
        have hlen : (l.take i).length = i := by rw [List.length_take]; omega
        refine Ev.step (fun k => by rw [impl_IsSafeLights.l0]) (ev_t (by omega) (ev_t (by omega) (ev_t (by omega) (ev_t (by omega) (ev_call (impl_InRange_eq _ _ _) ?_)))))
        by_cases d : 0 ≤ rd g (i : Int) ∧ rd g (i : Int) ≤ 2
        · refine ev_dt d (ev_t (by omega) (ev_some ?_))
          rw [Int.toNat_natCast, hlen]
          exact c1 d
        · rw [c2 d]
          exact ev_df d (Ev.now _)
      refine ev_all (F := fun k i => impl_IsSafeLights.l0 k l g l (l.length : Int) (i : Int)) (gStep l g) l.length (fun i hi hc r ih => ?_) (fun i hi hc => ?_) (fun _ => ?_)
      · refine hout i hi r (fun _ => ?_) (fun hn => absurd hc.1 hn)
        have := hin i hi r (fun _ => ih)
        rw [bo_t hc.2, Bool.true_and] at this
        exact this
      · refine hout i hi false (fun hh => ?_) (fun _ => rfl)
        have := hin i hi false (fun hf => absurd ⟨hh, hf⟩ hc)
        rw [Bool.and_false] at this
        exact this
      · refine Ev.step (fun k => by rw [impl_IsSafeLights.l0]) ?_
        exact ev_f (by omega) (Ev.now _)
    · have e : safeL l g = false := by unfold safeL; rw [if_neg (fun hh => hl hh.2)]
      refine ev_t hp ?_
      rw [e, show ((g.length : Int) != (l.length : Int)) = true by simp; omega]
      exact jt
  · have e : safeL l g = false := by unfold safeL; rw [if_neg (fun hh => hp hh.1)]
    rw [e]
    exact ev_f hp jt
end Go.Proofs.Ytjgonpcajedkjaa.U
