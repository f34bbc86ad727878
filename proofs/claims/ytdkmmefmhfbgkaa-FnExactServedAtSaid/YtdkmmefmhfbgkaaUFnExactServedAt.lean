/- FnExactServedAt, the pure side: the program's ServedAt and the reference's are one function. -/
import Derived.Test.YtdkmmefmhfbgkaaFX04
import Derived.Test.YtdkmmefmhfbgkaaUHInt
import Derived.Test.YtdkmmefmhfbgkaaUServed
import Derived.Test.YtdkmmefmhfbgkaaULCall
import Derived.Test.YtdkmmefmhfbgkaaUMCall
import Derived.Test.YtdkmmefmhfbgkaaULInt
import Derived.Test.YtdkmmefmhfbgkaaULPath
import Derived.Test.YtdkmmefmhfbgkaaULPart
import Derived.Test.YtdkmmefmhfbgkaaUMPath
import Derived.Test.YtdkmmefmhfbgkaaUMInt
import Derived.Test.YtdkmmefmhfbgkaaUPMark
import Derived.Test.YtdkmmefmhfbgkaaArgs
set_option linter.unusedVariables false
set_option linter.unusedSimpArgs false
namespace Go.Proofs.Ytdkmmefmhfbgkaa.U
open Go.RowKit Go.Proofs.YtdkmmefmhfbgkaaW.PrintWords Go.Proofs.YtdkmmefmhfbgkaaW.PrintLast Go.Proofs.Ytdkmmefmhfbgkaa.P Go.Proofs.Ytdkmmefmhfbgkaa.Open
theorem FnExactServedAt : ∀ (x0 : List (S91)) (x1 : List (S85)) (x2 : List (S101)), (okL okS91) x0 → (okL okS85) x1 → (okL okS101) x2 → ∃ k, laws_FnExactServedAt.f k x0 x1 x2 = some true := by
  intro l p c hok hok1 hok2
  refine Ev.rounds ?_
  unfold laws_FnExactServedAt.f
  refine ev_call (szPathS l 1048576 (by omega) (by omega) (by simpa [maxLen] using hok.1)) ?_
  by_cases h1 : (l.length : Int) ≤ 1048576
  · rw [if_pos h1]
    refine ev_f (by omega) (Ev.bind (szPartS p _ (by omega) (by omega) (by simpa [maxLen] using hok1.1) (fun x hx => by simpa [maxLen] using (hok1.2 x hx).1.1)) ?_)
    by_cases h2 : (szP p : Int) ≤ 1048576 - (l.length : Int)
    · rw [if_pos h2]
      have hsz := szP_ge p
      refine ev_f (by omega) (ev_call (szCallS c _ (by omega) (by omega) (by simpa [maxLen] using hok2.1)) ?_)
      by_cases h3 : (c.length : Int) ≤ 1048576 - (l.length : Int) - szP p
      · rw [if_pos h3]
        refine ev_f (by omega) ?_
        obtain ⟨hl, hx⟩ := szP_le (l := p) (by omega : szP p ≤ 1048576)
        have tl := toPathS l (by omega)
        have tp := toPartS p hl hx
        have ep := eqPartS (p.map cPart) (by rw [List.length_map]; omega) (cPart_len hx)
        have m1 : (l.map cPath).length = l.length := List.length_map ..
        have m2 : (p.map cPart).length = p.length := List.length_map ..
        have hq : ∀ i : Nat, i < (p.map cPart).length → (rd_T92 (p.map cPart) (i : Int)).f0.length ≤ 1048576 := fun i hi => by
          rw [rd92 _ i hi, List.getElem_map]
          exact hx _ (List.getElem_mem _)
        generalize l.map cPath = a at tl m1
        generalize p.map cPart = b at tp m2 hq ep
        have w : PW a b := ⟨by omega, by omega, hq⟩
        have tc := toCallS c (by omega)
        have m3 : (c.map cCall).length = c.length := List.length_map ..
        generalize c.map cCall = d at tc m3
        have s1 := spec_servedAt w d (by omega)
        have s2 := impl_servedAt w d (by omega)
        have hv := svN_len a b d d.length
        generalize svN a b d d.length = v at s1 s2 hv
        have e := eqIntS v (by omega)
        obtain ⟨y1, _, em1⟩ := markPathS a 1 (by omega) (by omega) (by omega)
        obtain ⟨v2, y2, em2, b1, b2⟩ := markPartS b (1 + 4 * a.length) (by omega) hq (by omega) (by omega)
        obtain ⟨y3, _, em3⟩ := markCallS d v2 (by omega) (by omega) (by omega)
        refine Ev.bind tl (Ev.bind tp (Ev.bind tc (Ev.bind s1 (Ev.bind tl (Ev.bind tp (Ev.bind tc (Ev.bind s2 (Ev.bind e (ev_t rfl ?_)))))))))
        refine Ev.bind tl (Ev.bind (eqPathS a (by omega)) (ev_t rfl (Ev.bind tp (Ev.bind ep (ev_t rfl (Ev.bind tc (Ev.bind (eqCallS d (by omega)) (ev_t rfl ?_))))))))
        refine Ev.bind em1 (Ev.bind em2 (Ev.bind em3 (ev_f (show ¬ v2 + 2 * (d.length : Int) < 0 by omega) (Ev.bind e ?_))))
        refine Ev.step (fun k => by rw [laws_FnExactServedAt.j0]) ?_
        refine ev_f (by decide) ?_
        have hh := heldIntS v 1 (by omega) (by omega) (by omega)
        refine Ev.bind (markIntS v 1 (by omega) (by omega) (by omega)) (Ev.bind hh (ev_f (by omega) (ev_t rfl (Ev.bind tl (Ev.bind tp (Ev.bind tc (Ev.bind s2 (Ev.bind e (ev_t rfl ?_)))))))))
        exact Ev.bind hh (ev_f (by omega) (ev_t rfl (Ev.now _)))
      · rw [if_neg h3]
        exact ev_t (by omega) (Ev.now _)
    · rw [if_neg h2]
      exact ev_t (by omega) (Ev.now _)
  · rw [if_neg h1]
    exact ev_t (by omega) (Ev.now _)
end Go.Proofs.Ytdkmmefmhfbgkaa.U
