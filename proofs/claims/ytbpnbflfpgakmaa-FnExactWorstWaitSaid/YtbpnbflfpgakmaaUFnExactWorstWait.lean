/- FnExactWorstWait, the pure side: the program's WorstWait and the reference's are one function. -/
import Derived.Test.YtbpnbflfpgakmaaFCFnExactWorstWait
import Derived.Test.YtbpnbflfpgakmaaUGc
import Derived.Test.YtbpnbflfpgakmaaULInt
import Derived.Test.YtbpnbflfpgakmaaULPath
import Derived.Test.YtbpnbflfpgakmaaULPart
import Derived.Test.YtbpnbflfpgakmaaArgs
namespace Go.Proofs.Ytbpnbflfpgakmaa.U
open Go.RowKit Go.Proofs.YtbpnbflfpgakmaaW.PrintWords Go.Proofs.YtbpnbflfpgakmaaW.PrintLast Go.Proofs.Ytbpnbflfpgakmaa.P Go.Proofs.Ytbpnbflfpgakmaa.Open
theorem FnExactWorstWait : ∀ (x0 : List (S60)) (x1 : List (S49)), (okL okS60) x0 → (okL okS49) x1 → ∃ k, laws_FnExactWorstWait.f k x0 x1 = some true := by
  intro l p hok hok1
  refine Ev.rounds ?_
  unfold laws_FnExactWorstWait.f
  refine ev_call (szPathS l 1048576 (by omega) (by omega) (by simpa [maxLen] using hok.1)) ?_
  by_cases h1 : (l.length : Int) ≤ 1048576
  · rw [if_pos h1]
    refine ev_f (by omega) (Ev.bind (szPartS p _ (by omega) (by omega) (by simpa [maxLen] using hok1.1) (fun x hx => by simpa [maxLen] using (hok1.2 x hx).1.1)) ?_)
    by_cases h2 : (szP p : Int) ≤ 1048576 - (l.length : Int)
    · rw [if_pos h2]
      obtain ⟨hl, hx⟩ := szP_le (l := p) (by omega : szP p ≤ 1048576)
      have tl := toPathS l (by omega)
      have tp := toPartS p hl hx
      have ep := eqPartS (p.map cPart) (by rw [List.length_map]; omega) (cPart_len hx)
      have m1 : (l.map cPath).length = l.length := List.length_map ..
      have m2 : (p.map cPart).length = p.length := List.length_map ..
      have hq : ∀ i : Nat, i < (p.map cPart).length → (rd_T51 (p.map cPart) (i : Int)).f0.length ≤ 1048576 := fun i hi => by
        rw [rd51 _ i hi, List.getElem_map]
        exact hx _ (List.getElem_mem _)
      generalize l.map cPath = a at tl m1
      generalize p.map cPart = b at tp m2 hq ep
      have w : PW a b := ⟨by omega, by omega, hq⟩
      obtain ⟨s1, s2⟩ := worstWait_val w
      refine ev_f (by omega) (Ev.bind tl (Ev.bind tp (Ev.bind s1 (Ev.bind tl (Ev.bind tp (Ev.bind s2 (ev_t rfl ?_)))))))
      exact Ev.bind tl (Ev.bind (eqPathS a (by omega)) (ev_t rfl (Ev.bind tp (Ev.bind ep (ev_t rfl (Ev.now _))))))
    · rw [if_neg h2]
      exact ev_t (by omega) (Ev.now _)
  · rw [if_neg h1]
    exact ev_t (by omega) (Ev.now _)
end Go.Proofs.Ytbpnbflfpgakmaa.U
