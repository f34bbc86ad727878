/- When calls are served: the program's way and the reference's. -/
import Derived.Test.YtdkmmefmhfbgkaaGreatFX00c
import Derived.Test.YtdkmmefmhfbgkaaGreatUNext
set_option linter.unusedVariables false
set_option linter.unusedSimpArgs false
namespace Go.Proofs.YtdkmmefmhfbgkaaGreat.U
open Go.RowKit Go.Proofs.YtdkmmefmhfbgkaaGreatW.PrintWords Go.Proofs.YtdkmmefmhfbgkaaGreatW.PrintLast Go.Proofs.YtdkmmefmhfbgkaaGreat.P
/-- When call i is served. -/
noncomputable def sv (l : List S69) (p : List S72) (c : List S65) (i : Nat) : Int := ngV (rowV l p (rd_T65 c (i : Int)).f0) (rd_T65 c (i : Int)).f1
noncomputable def svN (l : List S69) (p : List S72) (c : List S65) (n : Nat) : List Int := (List.range n).map (sv l p c)
theorem svN_len (l : List S69) (p : List S72) (c : List S65) (n : Nat) : (svN l p c n).length = n := by simp [svN]
theorem svN_succ (l : List S69) (p : List S72) (c : List S65) (n : Nat) : svN l p c (n + 1) = svN l p c n ++ [sv l p c n] := by
  unfold svN; rw [List.range_succ, List.map_append]; rfl
theorem svN_rd (l : List S69) (p : List S72) (c : List S65) (n i : Nat) (h : i < n) : rd (svN l p c n) (i : Int) = sv l p c i := by
  rw [rd_at _ i (by rw [svN_len]; exact h)]
  simp [svN]
theorem impl_servedAt {l : List S69} {p : List S72} (w : PW l p) (c : List S65) (hc : c.length ≤ 1048576) : Ev (fun k => impl_ServedAt.f k l p c) (svN l p c c.length) := by
  unfold impl_ServedAt.f
  refine ev_for0 (F := fun k i => impl_ServedAt.l0 k l p (svN l p c i) c (c.length : Int) (i : Int)) c.length (fun i hi ih => ?_) ?_
  · refine Ev.step (fun k => by rw [impl_ServedAt.l0]) ?_
    refine ev_t (by omega) (ev_t (by omega) (ev_t (by omega) (Ev.bind (impl_nextGreen w _ _) (ev_t (by rw [svN_len]; omega) ?_))))
    rw [w_succ hi (by omega)]
    rw [svN_succ] at ih
    exact ih
  · refine Ev.step (fun k => by rw [impl_ServedAt.l0]) ?_
    exact ev_f (by omega) (Ev.now _)
end Go.Proofs.YtdkmmefmhfbgkaaGreat.U
