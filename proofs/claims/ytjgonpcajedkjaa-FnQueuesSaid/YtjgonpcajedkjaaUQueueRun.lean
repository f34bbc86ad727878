/- A run of a queue: the program's way and the reference's. -/
import Derived.Test.YtjgonpcajedkjaaFX00b
import Derived.Test.YtjgonpcajedkjaaUQueue
set_option linter.unusedVariables false
set_option linter.unusedSimpArgs false
namespace Go.Proofs.Ytjgonpcajedkjaa.U
open Go.RowKit Go.Proofs.YtjgonpcajedkjaaW.PrintWords Go.Proofs.YtjgonpcajedkjaaW.PrintLast Go.Proofs.Ytjgonpcajedkjaa.P
def qs (a : List Int) (b : List Bool) : Nat → Int
  | 0 => 0
  | i + 1 => queueStep (qs a b i) (rd a (i : Int)) (rdOf false b (i : Int))
def ql (a : List Int) (b : List Bool) (n : Nat) : List Int := (List.range n).map (fun i => qs a b (i + 1))
theorem ql_len (a : List Int) (b : List Bool) (n : Nat) : (ql a b n).length = n := by simp [ql]
theorem ql_lt (a : List Int) (b : List Bool) {n : Nat} (h : n < 17592186044416) : (ql a b n).length < 17592186044416 := by rw [ql_len]; exact h
theorem ql_succ (a : List Int) (b : List Bool) (n : Nat) : ql a b (n + 1) = ql a b n ++ [queueStep (qs a b n) (rd a (n : Int)) (rdOf false b (n : Int))] := by
  unfold ql; rw [List.range_succ, List.map_append]; rfl
def qOk (a : List Int) (i : Nat) : Prop := 0 ≤ rd a (i : Int) ∧ rd a (i : Int) ≤ 10000
noncomputable def queueRun (a : List Int) (b : List Bool) : List Int := if bo (a.length = b.length ∧ a.length ≤ 1000 ∧ ∀ i, i < a.length → qOk a i) = true then ql a b a.length else []
theorem queueRun_t {a : List Int} {b : List Bool} (h : a.length = b.length ∧ a.length ≤ 1000 ∧ ∀ i, i < a.length → qOk a i) : queueRun a b = ql a b a.length := if_pos (bo_t h)
theorem queueRun_f {a : List Int} {b : List Bool} (h : ¬ (a.length = b.length ∧ a.length ≤ 1000 ∧ ∀ i, i < a.length → qOk a i)) : queueRun a b = [] := if_neg (by rw [bo_f h]; decide)
theorem queueRun_len (a : List Int) (b : List Bool) : (queueRun a b).length ≤ 1000 := by
  by_cases h : a.length = b.length ∧ a.length ≤ 1000 ∧ ∀ i, i < a.length → qOk a i
  · rw [queueRun_t h, ql_len]; exact h.2.1
  · rw [queueRun_f h]; simp
theorem impl_queueRun (a : List Int) (b : List Bool) (ha : a.length ≤ 1048576) : Ev (fun k => impl_QueueRun.f k a b) (queueRun a b) := by
  unfold impl_QueueRun.f
  refine ev_some ?_
  by_cases hl : a.length = b.length
  · refine ev_t (by omega) ?_
    by_cases hm : a.length ≤ 1000
    · rw [decide_eq_false (show ¬ (a.length : Int) > 1000 by omega)]
      refine Ev.step (fun k => by rw [impl_QueueRun.j0]) (ev_f (by decide) ?_)
      have go : ∀ i, i < a.length → qOk a i → ∀ r, Ev (fun k => impl_QueueRun.l0 k b (ql a b (i + 1)) (qs a b (i + 1)) a (a.length : Int) ((i + 1 : Nat) : Int)) r → Ev (fun k => impl_QueueRun.l0 k b (ql a b i) (qs a b i) a (a.length : Int) (i : Int)) r := by
        intro i hi ho r ih
        refine Ev.step (fun k => by rw [impl_QueueRun.l0]) (ev_t (by omega) (ev_t (by omega) (ev_t (by omega) (ev_call (impl_InRange_eq _ _ _) (ev_dt (show 0 ≤ rd a (i : Int) ∧ rd a (i : Int) ≤ 10000 from ho) ?_)))))
        refine ev_t (by omega) (Ev.bind (impl_queueStep _ _ _) (ev_t (ql_lt a b (n := i) (by omega)) ?_))
        rw [w_succ hi (by omega), ← ql_succ]
        exact ih
      by_cases hall : ∀ i, i < a.length → qOk a i
      · rw [queueRun_t ⟨hl, hm, hall⟩]
        refine ev_for0 (F := fun k i => impl_QueueRun.l0 k b (ql a b i) (qs a b i) a (a.length : Int) (i : Int)) a.length (fun i hi ih => go i hi (hall i hi) _ ih) ?_
        refine Ev.step (fun k => by rw [impl_QueueRun.l0]) ?_
        exact ev_f (by omega) (Ev.now _)
      · rw [queueRun_f (fun h => hall h.2.2)]
        obtain ⟨m, hm, h1, h2⟩ := first_fail a.length hall
        refine ev_for0 (F := fun k i => impl_QueueRun.l0 k b (ql a b i) (qs a b i) a (a.length : Int) (i : Int)) m (fun i hi ih => go i (by omega) (h2 i hi) _ ih) ?_
        refine Ev.step (fun k => by rw [impl_QueueRun.l0]) ?_
        exact ev_t (by omega) (ev_t (by omega) (ev_t (by omega) (ev_call (impl_InRange_eq _ _ _) (ev_df (show ¬ (0 ≤ rd a (m : Int) ∧ rd a (m : Int) ≤ 10000) from h1) (Ev.now _)))))
    · rw [queueRun_f (fun h => hm h.2.1), decide_eq_true (show (a.length : Int) > 1000 by omega)]
      exact Ev.step (fun k => by rw [impl_QueueRun.j0]) (ev_t rfl (Ev.now _))
  · rw [queueRun_f (fun h => hl h.1)]
    refine ev_f (by omega) ?_
    exact Ev.step (fun k => by rw [impl_QueueRun.j0]) (ev_t rfl (Ev.now _))
end Go.Proofs.Ytjgonpcajedkjaa.U
