/- FnExactLightsAt, the pure side: the program's LightsAt and the reference's are one function. -/
import Derived.Test.YtbpnbflfpgakmaaFX00d
import Derived.Test.YtbpnbflfpgakmaaUGc
import Derived.Test.YtbpnbflfpgakmaaULInt
import Derived.Test.YtbpnbflfpgakmaaULPath
import Derived.Test.YtbpnbflfpgakmaaULPart
import Derived.Test.YtbpnbflfpgakmaaUMPath
import Derived.Test.YtbpnbflfpgakmaaUMInt
import Derived.Test.YtbpnbflfpgakmaaUPMark
import Derived.Test.YtbpnbflfpgakmaaArgs
set_option linter.unusedVariables false
set_option linter.unusedSimpArgs false
namespace Go.Proofs.Ytbpnbflfpgakmaa.U
open Go.RowKit Go.Proofs.YtbpnbflfpgakmaaW.PrintWords Go.Proofs.YtbpnbflfpgakmaaW.PrintLast Go.Proofs.Ytbpnbflfpgakmaa.P Go.Proofs.Ytbpnbflfpgakmaa.Open
theorem FnExactLightsAt : ∀ (x0 : List (S60)) (x1 : List (S49)) (x2 : Int), (okL okS60) x0 → (okL okS49) x1 → okI x2 → ∃ k, laws_FnExactLightsAt.f k x0 x1 x2 = some true := by
  intro l p a2 hok hok1 _
  refine Ev.rounds ?_
  unfold laws_FnExactLightsAt.f
  refine ev_call (szPathS l 1048576 (by omega) (by omega) (by simpa [maxLen] using hok.1)) ?_
  by_cases h1 : (l.length : Int) ≤ 1048576
  · rw [if_pos h1]
    refine ev_f (by omega) (Ev.bind (szPartS p _ (by omega) (by omega) (by simpa [maxLen] using hok1.1) (fun x hx => by simpa [maxLen] using (hok1.2 x hx).1.1)) ?_)
    by_cases h2 : (szP p : Int) ≤ 1048576 - (l.length : Int)
    · rw [if_pos h2]
      obtain ⟨hl, hx⟩ := szP_le (l := p) (by omega : szP p ≤ 1048576)
      have tl := toPathS l (by omega)
      have tp := toPartS p hl hx
      have ep := eqPartS (p.map cPart) (by rw [List.length_map]; omega) (cPart_len hx)
      have m1 : (l.map cPath).length = l.length := List.length_map ..
      have m2 : (p.map cPart).length = p.length := List.length_map ..
      have hq : ∀ i : Nat, i < (p.map cPart).length → (rd_T51 (p.map cPart) (i : Int)).f0.length ≤ 1048576 := fun i hi => by
        rw [rd51 _ i hi, List.getElem_map]
        exact hx _ (List.getElem_mem _)
      generalize l.map cPath = a at tl m1
      generalize p.map cPart = b at tp m2 hq ep
      have w : PW a b := ⟨by omega, by omega, hq⟩
      obtain ⟨s1, s2⟩ := lightsAt_val w a2
      have hv := lightsV_len a b a2 a.length
      generalize lightsV a b a2 a.length = v at s1 s2 hv
      have e := eqIntS v (by omega)
      obtain ⟨y1, _, em1⟩ := markPathS a 1 (by omega) (by omega) (by omega)
      obtain ⟨v2, y2, em2, b1, b2⟩ := markPartS b (1 + 4 * a.length) (by omega) hq (by omega) (by omega)
      refine ev_f (by omega) (Ev.bind tl (Ev.bind tp (Ev.bind s1 (Ev.bind tl (Ev.bind tp (Ev.bind s2 (Ev.bind e (ev_t rfl ?_))))))))
      refine Ev.bind tl (Ev.bind (eqPathS a (by omega)) (ev_t rfl (Ev.bind tp (Ev.bind ep (ev_t rfl ?_)))))
      refine Ev.bind em1 (Ev.bind em2 (ev_f (show ¬ v2 < 0 by omega) (Ev.bind e ?_)))
      refine Ev.step (fun k => by rw [laws_FnExactLightsAt.j0]) ?_
      refine ev_f (by decide) ?_
      have hh := heldIntS v 1 (by omega) (by omega) (by omega)
      refine Ev.bind (markIntS v 1 (by omega) (by omega) (by omega)) (Ev.bind hh (ev_f (by omega) (ev_t rfl (Ev.bind tl (Ev.bind tp (Ev.bind s2 (Ev.bind e (ev_t rfl ?_))))))))
      exact Ev.bind hh (ev_f (by omega) (ev_t rfl (Ev.now _)))
    · rw [if_neg h2]
      exact ev_t (by omega) (Ev.now _)
  · rw [if_neg h1]
    exact ev_t (by omega) (Ev.now _)
end Go.Proofs.Ytbpnbflfpgakmaa.U
