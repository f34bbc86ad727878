/- When calls are served: the program's way and the reference's. -/
import Derived.Test.YtjgonpcajedkjaaFX00d
import Derived.Test.YtjgonpcajedkjaaUNext
set_option linter.unusedVariables false
set_option linter.unusedSimpArgs false
namespace Go.Proofs.Ytjgonpcajedkjaa.U
open Go.RowKit Go.Proofs.YtjgonpcajedkjaaW.PrintWords Go.Proofs.YtjgonpcajedkjaaW.PrintLast Go.Proofs.Ytjgonpcajedkjaa.P
/-- When call i is served. -/
noncomputable def sv (l : List S50) (p : List S85) (c : List S114) (i : Nat) : Int := ngV (rowV l p (rd_T114 c (i : Int)).f0) (rd_T114 c (i : Int)).f1
theorem sv_bound (l : List S50) (p : List S85) (c : List S114) (i : Nat) : -1 ≤ sv l p c i ∧ sv l p c i ≤ 100390 := ngV_bound _ _ (rowV_le _ _ _)
noncomputable def svN (l : List S50) (p : List S85) (c : List S114) (n : Nat) : List Int := (List.range n).map (sv l p c)
theorem svN_len (l : List S50) (p : List S85) (c : List S114) (n : Nat) : (svN l p c n).length = n := by simp [svN]
theorem svN_succ (l : List S50) (p : List S85) (c : List S114) (n : Nat) : svN l p c (n + 1) = svN l p c n ++ [sv l p c n] := by
  unfold svN; rw [List.range_succ, List.map_append]; rfl
theorem svN_rd (l : List S50) (p : List S85) (c : List S114) (n i : Nat) (h : i < n) : rd (svN l p c n) (i : Int) = sv l p c i := by
  rw [rd_at _ i (by rw [svN_len]; exact h)]
  simp [svN]
theorem impl_servedAt {l : List S50} {p : List S85} (w : PW l p) (c : List S114) (hc : c.length ≤ 1048576) : Ev (fun k => impl_ServedAt.f k l p c) (svN l p c c.length) := by
  unfold impl_ServedAt.f
  refine ev_for0 (F := fun k i => impl_ServedAt.l0 k l p (svN l p c i) c (c.length : Int) (i : Int)) c.length (fun i hi ih => ?_) ?_
  · refine Ev.step (fun k => by rw [impl_ServedAt.l0]) ?_
    refine ev_t (by omega) (ev_t (by omega) (ev_t (by omega) (Ev.bind (impl_nextGreen w _ _) (ev_t (by rw [svN_len]; omega) ?_))))
    rw [w_succ hi (by omega)]
    rw [svN_succ] at ih
    exact ih
  · refine Ev.step (fun k => by rw [impl_ServedAt.l0]) ?_
    exact ev_f (by omega) (Ev.now _)
/-- Call i is served within the bound. -/
def inP (l : List S50) (p : List S85) (c : List S114) (b : Int) (i : Nat) : Prop := 0 ≤ sv l p c i ∧ wrap64 (sv l p c i - (rd_T114 c (i : Int)).f1) ≤ b
noncomputable def inV (l : List S50) (p : List S85) (c : List S114) (b : Int) : Bool := bo (∀ i, i < c.length → inP l p c b i) && true
theorem impl_isWithin {l : List S50} {p : List S85} (w : PW l p) (c : List S114) (hc : c.length ≤ 1048576) (b : Int) : Ev (fun k => impl_IsWithin.f k l p c b) (inV l p c b) := by
  unfold impl_IsWithin.f inV
  have hs := svN_len l p c c.length
  refine Ev.bind (impl_servedAt w c hc) ?_
  rw [hs]
  refine ev_all (F := fun k i => impl_IsWithin.l0 k c b (svN l p c c.length) (c.length : Int) (i : Int)) (inP l p c b) c.length (fun i hi hp r ih => ?_) (fun i hi hp => ?_) (fun _ => ?_)
  · obtain ⟨p1, p2⟩ := hp
    refine Ev.step (fun k => by rw [impl_IsWithin.l0]) ?_
    refine ev_t (by omega) (ev_t (by omega) ?_)
    rw [hs, svN_rd l p c _ i hi]
    refine ev_t (by omega) (ev_f (by omega) (ev_t (by omega) (ev_f (by omega) ?_)))
    rw [w_succ hi (by omega)]
    exact ih
  · have sb := sv_bound l p c i
    refine Ev.step (fun k => by rw [impl_IsWithin.l0]) ?_
    refine ev_t (by omega) (ev_t (by omega) ?_)
    rw [hs, svN_rd l p c _ i hi]
    refine ev_t (by omega) (ev_ite (fun _ => Ev.now _) (fun h1 => ev_t (by omega) ?_))
    exact ev_t (show wrap64 (sv l p c i - (rd_T114 c (i : Int)).f1) > b from Int.not_le.1 (fun h2 => hp ⟨by omega, h2⟩)) (Ev.now _)
  · refine Ev.step (fun k => by rw [impl_IsWithin.l0]) ?_
    exact ev_f (by omega) (Ev.now _)
end Go.Proofs.Ytjgonpcajedkjaa.U
