/- FnExactTotalGreen, the pure side: the program's TotalGreen and the reference's are one function. -/
import Derived.Test.YtdgeeokningcnaaFCFnExactTotalGreen
import Derived.Test.YtdgeeokningcnaaULPart
import Derived.Test.YtdgeeokningcnaaFI11
import Derived.Test.YtdgeeokningcnaaFS11
import Derived.Test.YtdgeeokningcnaaUBase
namespace Go.Proofs.Ytdgeeokningcnaa.U
open Go.RowKit Go.Proofs.YtdgeeokningcnaaW.PrintWords Go.Proofs.YtdgeeokningcnaaW.PrintLast Go.Proofs.Ytdgeeokningcnaa.P Go.Proofs.Ytdgeeokningcnaa.Open
def gclamp (x : S99) : Int := max 0 (min x.f1 1000)
theorem gclamp_bound (x : S99) : 0 ≤ gclamp x ∧ gclamp x ≤ 1000 := by unfold gclamp; omega
theorem spec_totalGreen (l : List S99) (h : l.length ≤ 1048576) : Ev (fun k => spec_TotalGreen.f k l) (psum gclamp l l.length) := by
  unfold spec_TotalGreen.f
  rw [← psum_zero gclamp l]
  refine ev_for0 (F := fun k i => spec_TotalGreen.l0 k l (psum gclamp l i) (i : Int)) l.length (fun i hi ih => ?_) ?_
  · obtain ⟨b1, b2⟩ := psum_bound l (f := gclamp) (fun x _ => gclamp_bound x) i (by omega)
    obtain ⟨b3, b4⟩ := gclamp_bound l[i]
    refine Ev.step (fun k => by rw [spec_TotalGreen.l0]) (ev_t (by omega) (ev_t (by omega) ?_))
    rw [rd99 l i hi]
    refine ev_call (spec_Min_eq _ _) (ev_call (spec_Max_eq _ _) ?_)
    rw [show max 0 (min 1000 l[i].f1) = gclamp l[i] by unfold gclamp; omega, w64 (by omega) (by omega), w_succ hi (by omega), ← psum_succ _ l i hi]
    exact ih
  · exact Ev.step (fun k => by rw [spec_TotalGreen.l0]) (ev_f (by omega) (Ev.now _))
theorem impl_totalGreen (l : List S99) (h : l.length ≤ 1048576) : Ev (fun k => impl_TotalGreen.f k l) (psum gclamp l l.length) := by
  unfold impl_TotalGreen.f
  rw [← psum_zero gclamp l]
  refine ev_for0 (F := fun k i => impl_TotalGreen.l0 k (psum gclamp l i) l (l.length : Int) (i : Int)) l.length (fun i hi ih => ?_) ?_
  · obtain ⟨b1, b2⟩ := psum_bound l (f := gclamp) (fun x _ => gclamp_bound x) i (by omega)
    obtain ⟨b3, b4⟩ := gclamp_bound l[i]
    refine Ev.step (fun k => by rw [impl_TotalGreen.l0]) (ev_t (by omega) (ev_t (by omega) (ev_t (by omega) ?_)))
    rw [rd99 l i hi, mx_eq, mn_eq, show max 0 (min l[i].f1 1000) = gclamp l[i] from rfl, w64 (n := psum gclamp l i + _) (by omega) (by omega), w_succ hi (by omega), ← psum_succ _ l i hi]
    exact ih
  · exact Ev.step (fun k => by rw [impl_TotalGreen.l0]) (ev_f (by omega) (Ev.now _))
theorem FnExactTotalGreen : ∀ (x0 : List (S98)), (okL okS98) x0 → ∃ k, laws_FnExactTotalGreen.f k x0 = some true := by
  intro l hok
  refine Ev.rounds ?_
  unfold laws_FnExactTotalGreen.f
  refine Ev.bind (szPartS l 1048576 (by omega) (by omega) (by simpa [maxLen] using hok.1) (fun x hx => by simpa [maxLen] using (hok.2 x hx).1.1)) ?_
  by_cases hs : (szP l : Int) ≤ 1048576
  · rw [if_pos hs]
    obtain ⟨hl, hx⟩ := szP_le (l := l) (by omega : szP l ≤ 1048576)
    refine ev_f (by omega) ?_
    have hm : (l.map cPart).length = l.length := List.length_map ..
    refine Ev.bind (toPartS l hl hx) (Ev.bind (spec_totalGreen _ (by omega)) (Ev.bind (toPartS l hl hx) (Ev.bind (impl_totalGreen _ (by omega)) (ev_t rfl ?_))))
    exact Ev.bind (toPartS l hl hx) (Ev.bind (eqPartS _ (by omega) (cPart_len hx)) (ev_t rfl (Ev.now _)))
  · rw [if_neg hs]
    exact ev_t (by omega) (Ev.now _)
end Go.Proofs.Ytdgeeokningcnaa.U
