/- Lemmas on the laws' own helpers: copies, comparisons, sizes. Written by genul.py. -/
import Derived.Test.YtdkmmefmhfbgkaaFX00
import Derived.Test.YtdkmmefmhfbgkaaURd
import Derived.Test.YtdkmmefmhfbgkaaULInt
set_option linter.unusedVariables false
set_option linter.unusedSimpArgs false
namespace Go.Proofs.Ytdkmmefmhfbgkaa.U
open Go.RowKit Go.Proofs.YtdkmmefmhfbgkaaW.PrintWords Go.Proofs.YtdkmmefmhfbgkaaW.PrintLast Go.Proofs.YtdkmmefmhfbgkaaW.PrintMore Go.Proofs.Ytdkmmefmhfbgkaa.P Go.Proofs.Ytdkmmefmhfbgkaa.Open
theorem eqPart (x : S92) (h0 : x.f0.length ≤ 9223372036854775807) : Ev (fun k => laws_eqPart.f k x.f0 x.f1 x.f0 x.f1) true := by
  unfold laws_eqPart.f
  refine Ev.bind (eqIntS _ h0) (ev_t rfl ?_)
  refine ev_t rfl ?_
  exact Ev.now _
theorem eqPartS (l : List S92) (h : l.length ≤ 9223372036854775807) (hs : ∀ x ∈ l, x.f0.length ≤ 9223372036854775807) : Ev (fun k => laws_eqPartS.f k l l) true := by
  unfold laws_eqPartS.f
  refine ev_t rfl ?_
  refine ev_for0 (F := fun k i => laws_eqPartS.l0 k l l (i : Int)) l.length ?_ ?_
  · intro i hi ih
    refine Ev.step (fun k => by rw [laws_eqPartS.l0]) ?_
    refine ev_t (by omega) (ev_t (by omega) (ev_t (by omega) ?_))
    refine Ev.bind (eqPart _ (by rw [rd92 l i hi]; exact hs _ (List.getElem_mem hi))) (ev_t rfl ?_)
    rw [w_succ hi h]
    exact ih
  · exact Ev.step (fun k => by rw [laws_eqPartS.l0]) (ev_f (by omega) (Ev.now _))
end Go.Proofs.Ytdkmmefmhfbgkaa.U
