/- FnExactIsWithin, the pure side: the program's IsWithin and the reference's are one function. -/
import Derived.Test.YtdkmmefmhfbgkaaFX05
import Derived.Test.YtdkmmefmhfbgkaaUServed
import Derived.Test.YtdkmmefmhfbgkaaULCall
import Derived.Test.YtdkmmefmhfbgkaaULInt
import Derived.Test.YtdkmmefmhfbgkaaULPath
import Derived.Test.YtdkmmefmhfbgkaaULPart
import Derived.Test.YtdkmmefmhfbgkaaArgs
set_option linter.unusedVariables false
set_option linter.unusedSimpArgs false
namespace Go.Proofs.Ytdkmmefmhfbgkaa.U
open Go.RowKit Go.Proofs.YtdkmmefmhfbgkaaW.PrintWords Go.Proofs.YtdkmmefmhfbgkaaW.PrintLast Go.Proofs.Ytdkmmefmhfbgkaa.P Go.Proofs.Ytdkmmefmhfbgkaa.Open
theorem FnExactIsWithin : ∀ (x0 : List (S91)) (x1 : List (S85)) (x2 : List (S101)) (x3 : Int), (okL okS91) x0 → (okL okS85) x1 → (okL okS101) x2 → okI x3 → ∃ k, laws_FnExactIsWithin.f k x0 x1 x2 x3 = some true := by
  intro l p c a3 hok hok1 hok2 _
  refine Ev.rounds ?_
  unfold laws_FnExactIsWithin.f
  refine ev_call (szPathS l 1048576 (by omega) (by omega) (by simpa [maxLen] using hok.1)) ?_
  by_cases h1 : (l.length : Int) ≤ 1048576
  · rw [if_pos h1]
    refine ev_f (by omega) (Ev.bind (szPartS p _ (by omega) (by omega) (by simpa [maxLen] using hok1.1) (fun x hx => by simpa [maxLen] using (hok1.2 x hx).1.1)) ?_)
    by_cases h2 : (szP p : Int) ≤ 1048576 - (l.length : Int)
    · rw [if_pos h2]
      have hsz := szP_ge p
      refine ev_f (by omega) (ev_call (szCallS c _ (by omega) (by omega) (by simpa [maxLen] using hok2.1)) ?_)
      by_cases h3 : (c.length : Int) ≤ 1048576 - (l.length : Int) - szP p
      · rw [if_pos h3]
        refine ev_f (by omega) ?_
        obtain ⟨hl, hx⟩ := szP_le (l := p) (by omega : szP p ≤ 1048576)
        have tl := toPathS l (by omega)
        have tp := toPartS p hl hx
        have ep := eqPartS (p.map cPart) (by rw [List.length_map]; omega) (cPart_len hx)
        have m1 : (l.map cPath).length = l.length := List.length_map ..
        have m2 : (p.map cPart).length = p.length := List.length_map ..
        have hq : ∀ i : Nat, i < (p.map cPart).length → (rd_T92 (p.map cPart) (i : Int)).f0.length ≤ 1048576 := fun i hi => by
          rw [rd92 _ i hi, List.getElem_map]
          exact hx _ (List.getElem_mem _)
        generalize l.map cPath = a at tl m1
        generalize p.map cPart = b at tp m2 hq ep
        have w : PW a b := ⟨by omega, by omega, hq⟩
        have tc := toCallS c (by omega)
        have m3 : (c.map cCall).length = c.length := List.length_map ..
        generalize c.map cCall = d at tc m3
        have s1 := spec_isWithin w d (by omega) a3
        have s2 := impl_isWithin w d (by omega) a3
        generalize inV a b d a3 = v at s1 s2
        refine Ev.bind tl (Ev.bind tp (Ev.bind tc (Ev.bind s1 (Ev.bind tl (Ev.bind tp (Ev.bind tc (Ev.bind s2 (ev_f (by simp) ?_))))))))
        exact Ev.bind tl (Ev.bind (eqPathS a (by omega)) (ev_t rfl (Ev.bind tp (Ev.bind ep (ev_t rfl (Ev.bind tc (Ev.bind (eqCallS d (by omega)) (ev_t rfl (Ev.now _)))))))))
      · rw [if_neg h3]
        exact ev_t (by omega) (Ev.now _)
    · rw [if_neg h2]
      exact ev_t (by omega) (Ev.now _)
  · rw [if_neg h1]
    exact ev_t (by omega) (Ev.now _)
end Go.Proofs.Ytdkmmefmhfbgkaa.U
