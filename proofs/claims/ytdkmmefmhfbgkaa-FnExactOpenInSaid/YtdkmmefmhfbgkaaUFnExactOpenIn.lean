/- FnExactOpenIn, the pure side: the program's OpenIn and the reference's are one function. -/
import Derived.Test.YtdkmmefmhfbgkaaFX03
import Derived.Test.YtdkmmefmhfbgkaaUOpen
import Derived.Test.YtdkmmefmhfbgkaaUBMark
import Derived.Test.YtdkmmefmhfbgkaaULBool
import Derived.Test.YtdkmmefmhfbgkaaULInt
import Derived.Test.YtdkmmefmhfbgkaaULPath
import Derived.Test.YtdkmmefmhfbgkaaULPart
import Derived.Test.YtdkmmefmhfbgkaaUMPath
import Derived.Test.YtdkmmefmhfbgkaaUMInt
import Derived.Test.YtdkmmefmhfbgkaaUPMark
import Derived.Test.YtdkmmefmhfbgkaaArgs
set_option linter.unusedVariables false
set_option linter.unusedSimpArgs false
namespace Go.Proofs.Ytdkmmefmhfbgkaa.U
open Go.RowKit Go.Proofs.YtdkmmefmhfbgkaaW.PrintWords Go.Proofs.YtdkmmefmhfbgkaaW.PrintLast Go.Proofs.Ytdkmmefmhfbgkaa.P Go.Proofs.Ytdkmmefmhfbgkaa.Open
theorem FnExactOpenIn : ∀ (x0 : List (S91)) (x1 : List (S85)) (x2 : Int) (x3 : Int) (x4 : Int), (okL okS91) x0 → (okL okS85) x1 → okI x2 → okI x3 → okI x4 → ∃ k, laws_FnExactOpenIn.f k x0 x1 x2 x3 x4 = some true := by
  intro l p a2 a3 a4 hok hok1 _ _ _
  refine Ev.rounds ?_
  unfold laws_FnExactOpenIn.f
  refine ev_call (szPathS l 1048576 (by omega) (by omega) (by simpa [maxLen] using hok.1)) ?_
  by_cases h1 : (l.length : Int) ≤ 1048576
  · rw [if_pos h1]
    refine ev_f (by omega) (Ev.bind (szPartS p _ (by omega) (by omega) (by simpa [maxLen] using hok1.1) (fun x hx => by simpa [maxLen] using (hok1.2 x hx).1.1)) ?_)
    by_cases h2 : (szP p : Int) ≤ 1048576 - (l.length : Int)
    · rw [if_pos h2]
      obtain ⟨hl, hx⟩ := szP_le (l := p) (by omega : szP p ≤ 1048576)
      have tl := toPathS l (by omega)
      have tp := toPartS p hl hx
      have ep := eqPartS (p.map cPart) (by rw [List.length_map]; omega) (cPart_len hx)
      have m1 : (l.map cPath).length = l.length := List.length_map ..
      have m2 : (p.map cPart).length = p.length := List.length_map ..
      have hq : ∀ i : Nat, i < (p.map cPart).length → (rd_T92 (p.map cPart) (i : Int)).f0.length ≤ 1048576 := fun i hi => by
        rw [rd92 _ i hi, List.getElem_map]
        exact hx _ (List.getElem_mem _)
      generalize l.map cPath = a at tl m1
      generalize p.map cPart = b at tp m2 hq ep
      have w : PW a b := ⟨by omega, by omega, hq⟩
      have s1 := spec_openIn w a2 a3 a4
      have s2 := impl_openIn w a2 a3 a4
      have hv := opV_len (rowV a b a2) a3 a4
      generalize opV (rowV a b a2) a3 a4 = v at s1 s2 hv
      have e := eqBoolS v (by omega)
      obtain ⟨y1, _, em1⟩ := markPathS a 1 (by omega) (by omega) (by omega)
      obtain ⟨v2, y2, em2, b1, b2⟩ := markPartS b (1 + 4 * a.length) (by omega) hq (by omega) (by omega)
      refine ev_f (by omega) (Ev.bind tl (Ev.bind tp (Ev.bind s1 (Ev.bind tl (Ev.bind tp (Ev.bind s2 (Ev.bind e (ev_t rfl ?_))))))))
      refine Ev.bind tl (Ev.bind (eqPathS a (by omega)) (ev_t rfl (Ev.bind tp (Ev.bind ep (ev_t rfl ?_)))))
      refine Ev.bind em1 (Ev.bind em2 (ev_f (show ¬ v2 < 0 by omega) (Ev.bind e ?_)))
      refine Ev.step (fun k => by rw [laws_FnExactOpenIn.j0]) ?_
      refine ev_f (by decide) ?_
      have hh := heldBoolV v.length 1 (by omega) (by omega) (by omega)
      refine Ev.bind (markBoolV v 1 (by omega) (by omega) (by omega)) (Ev.bind hh (ev_f (by omega) (ev_t rfl (Ev.bind tl (Ev.bind tp (Ev.bind s2 (Ev.bind e (ev_t rfl ?_))))))))
      exact Ev.bind hh (ev_f (by omega) (ev_t rfl (Ev.now _)))
    · rw [if_neg h2]
      exact ev_t (by omega) (Ev.now _)
  · rw [if_neg h1]
    exact ev_t (by omega) (Ev.now _)
end Go.Proofs.Ytdkmmefmhfbgkaa.U
