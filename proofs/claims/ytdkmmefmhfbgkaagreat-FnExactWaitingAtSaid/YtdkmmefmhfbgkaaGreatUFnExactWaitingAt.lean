/- FnExactWaitingAt, the pure side: the program's WaitingAt and the reference's are one function. -/
import Derived.Test.YtdkmmefmhfbgkaaGreatFX00d
import Derived.Test.YtdkmmefmhfbgkaaGreatUHInt
import Derived.Test.YtdkmmefmhfbgkaaGreatUWait
import Derived.Test.YtdkmmefmhfbgkaaGreatULCall
import Derived.Test.YtdkmmefmhfbgkaaGreatUMCall
import Derived.Test.YtdkmmefmhfbgkaaGreatULInt
import Derived.Test.YtdkmmefmhfbgkaaGreatULPath
import Derived.Test.YtdkmmefmhfbgkaaGreatULPart
import Derived.Test.YtdkmmefmhfbgkaaGreatUMPath
import Derived.Test.YtdkmmefmhfbgkaaGreatUMInt
import Derived.Test.YtdkmmefmhfbgkaaGreatUPMark
import Derived.Test.YtdkmmefmhfbgkaaGreatArgs
set_option linter.unusedVariables false
set_option linter.unusedSimpArgs false
namespace Go.Proofs.YtdkmmefmhfbgkaaGreat.U
open Go.RowKit Go.Proofs.YtdkmmefmhfbgkaaGreatW.PrintWords Go.Proofs.YtdkmmefmhfbgkaaGreatW.PrintLast Go.Proofs.YtdkmmefmhfbgkaaGreat.P Go.Proofs.YtdkmmefmhfbgkaaGreat.Open
theorem FnExactWaitingAt : ∀ (x0 : List (S71)) (x1 : List (S63)) (x2 : List (S75)) (x3 : Int), (okL okS71) x0 → (okL okS63) x1 → (okL okS75) x2 → okI x3 → ∃ k, laws_FnExactWaitingAt.f k x0 x1 x2 x3 = some true := by
  intro l p c t hok hok1 hok2 _
  refine ev_rounds ?_
  unfold laws_FnExactWaitingAt.f
  refine ev_call (szPathS l 1048576 (by omega) (by omega) (by simpa [maxLen] using hok.1)) ?_
  by_cases h1 : (l.length : Int) ≤ 1048576
  · rw [if_pos h1]
    refine ev_f (by omega) (Ev.bind (szPartS p _ (by omega) (by omega) (by simpa [maxLen] using hok1.1) (fun x hx => by simpa [maxLen] using (hok1.2 x hx).1.1)) ?_)
    by_cases h2 : (szP p : Int) ≤ 1048576 - (l.length : Int)
    · rw [if_pos h2]
      have hsz := szP_ge p
      refine ev_f (by omega) (ev_call (szCallS c _ (by omega) (by omega) (by simpa [maxLen] using hok2.1)) ?_)
      by_cases h3 : (c.length : Int) ≤ 1048576 - (l.length : Int) - szP p
      · rw [if_pos h3]
        refine ev_f (by omega) ?_
        obtain ⟨hl, hx⟩ := szP_le (l := p) (by omega : szP p ≤ 1048576)
        have tl := toPathS l (by omega)
        have tp := toPartS p hl hx
        have ep := eqPartS (p.map cPart) (by rw [List.length_map]; omega) (cPart_len hx)
        have m1 : (l.map cPath).length = l.length := List.length_map ..
        have m2 : (p.map cPart).length = p.length := List.length_map ..
        have hq : ∀ i : Nat, i < (p.map cPart).length → (rd_T72 (p.map cPart) (i : Int)).f0.length ≤ 1048576 := fun i hi => by
          rw [rd72 _ i hi, List.getElem_map]
          exact hx _ (List.getElem_mem _)
        generalize l.map cPath = a at tl m1
        generalize p.map cPart = b at tp m2 hq ep
        have w : PW a b := ⟨by omega, by omega, hq⟩
        have tc := toCallS c (by omega)
        have m3 : (c.map cCall).length = c.length := List.length_map ..
        generalize c.map cCall = d at tc m3
        have s1 := spec_waitingAt w d (by omega) t
        have s2 := impl_waitingAt w d (by omega) t
        have hv := wSet_len a b d t d.length
        generalize wSet a b d t d.length = v at s1 s2 hv
        have e := eqIntS v (by omega)
        obtain ⟨y1, _, em1⟩ := markPathS a 1 (by omega) (by omega) (by omega)
        obtain ⟨v2, y2, em2, b1, b2⟩ := markPartS b (1 + 4 * a.length) (by omega) hq (by omega) (by omega)
        obtain ⟨y3, _, em3⟩ := markCallS d v2 (by omega) (by omega) (by omega)
        refine Ev.bind tl (Ev.bind tp (Ev.bind tc (Ev.bind s1 (Ev.bind tl (Ev.bind tp (Ev.bind tc (Ev.bind s2 (Ev.bind e (ev_t rfl ?_)))))))))
        refine Ev.bind tl (Ev.bind (eqPathS a (by omega)) (ev_t rfl (Ev.bind tp (Ev.bind ep (ev_t rfl (Ev.bind tc (Ev.bind (eqCallS d (by omega)) (ev_t rfl ?_))))))))
        refine Ev.bind em1 (Ev.bind em2 (Ev.bind em3 (ev_f (show ¬ v2 + 2 * (d.length : Int) < 0 by omega) (Ev.bind e ?_))))
        refine Ev.step (fun k => by rw [laws_FnExactWaitingAt.j0]) ?_
        refine ev_f (by decide) ?_
        have hh := heldIntS v 1 (by omega) (by omega) (by omega)
        refine Ev.bind (markIntS v 1 (by omega) (by omega) (by omega)) (Ev.bind hh (ev_f (by omega) (ev_t rfl (Ev.bind tl (Ev.bind tp (Ev.bind tc (Ev.bind s2 (Ev.bind e (ev_t rfl ?_)))))))))
        exact Ev.bind hh (ev_f (by omega) (ev_t rfl (Ev.now _)))
      · rw [if_neg h3]
        exact ev_t (by omega) (Ev.now _)
    · rw [if_neg h2]
      exact ev_t (by omega) (Ev.now _)
  · rw [if_neg h1]
    exact ev_t (by omega) (Ev.now _)
end Go.Proofs.YtdkmmefmhfbgkaaGreat.U
