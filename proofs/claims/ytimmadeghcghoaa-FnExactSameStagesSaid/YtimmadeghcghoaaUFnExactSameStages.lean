/- FnExactSameStages, the pure side: the program's SameStages and the reference's are one function. -/
import Derived.Test.YtimmadeghcghoaaFX03
import Derived.Test.YtimmadeghcghoaaUEqPlans
import Derived.Test.YtimmadeghcghoaaULInt
import Derived.Test.YtimmadeghcghoaaULPart
import Derived.Test.YtimmadeghcghoaaArgs
namespace Go.Proofs.Ytimmadeghcghoaa.U
open Go.RowKit Go.Proofs.YtimmadeghcghoaaW.PrintWords Go.Proofs.YtimmadeghcghoaaW.PrintLast Go.Proofs.Ytimmadeghcghoaa.P Go.Proofs.Ytimmadeghcghoaa.Open
theorem FnExactSameStages : ∀ (x0 : List (S81)) (x1 : List (S81)), (okL okS81) x0 → (okL okS81) x1 → ∃ k, laws_FnExactSameStages.f k x0 x1 = some true := by
  intro p q hok hok1
  refine Ev.rounds ?_
  unfold laws_FnExactSameStages.f
  refine Ev.bind (szPartS p 1048576 (by omega) (by omega) (by simpa [maxLen] using hok.1) (fun x hx => by simpa [maxLen] using (hok.2 x hx).1.1)) ?_
  by_cases h1 : (szP p : Int) ≤ 1048576
  · rw [if_pos h1]
    refine ev_f (by omega) (Ev.bind (szPartS q _ (by omega) (by omega) (by simpa [maxLen] using hok1.1) (fun x hx => by simpa [maxLen] using (hok1.2 x hx).1.1)) ?_)
    by_cases h2 : (szP q : Int) ≤ 1048576 - (szP p : Int)
    · rw [if_pos h2]
      obtain ⟨hp, hx⟩ := szP_le (l := p) (by omega : szP p ≤ 1048576)
      obtain ⟨hq, hy⟩ := szP_le (l := q) (by omega : szP q ≤ 1048576)
      have tp := toPartS p hp hx
      have tq := toPartS q hq hy
      have ep := eqPartS (p.map cPart) (by rw [List.length_map]; omega) (cPart_len hx)
      have eq := eqPartS (q.map cPart) (by rw [List.length_map]; omega) (cPart_len hy)
      have m1 : (p.map cPart).length = p.length := List.length_map ..
      have m2 : (q.map cPart).length = q.length := List.length_map ..
      have hp2 : ∀ i : Nat, i < (p.map cPart).length → (rd_T82 (p.map cPart) (i : Int)).f0.length ≤ 1048576 := fun i hi => by
        rw [rd82 _ i hi, List.getElem_map]
        exact hx _ (List.getElem_mem _)
      have hq2 : ∀ i : Nat, i < (q.map cPart).length → (rd_T82 (q.map cPart) (i : Int)).f0.length ≤ 1048576 := fun i hi => by
        rw [rd82 _ i hi, List.getElem_map]
        exact hy _ (List.getElem_mem _)
      generalize p.map cPart = a at tp m1 hp2 ep
      generalize q.map cPart = b at tq m2 hq2 eq
      have s1 := spec_sameStages a b (by omega) hp2 hq2
      have s2 := impl_sameStages a b (by omega) hp2 hq2
      generalize ssV a b = v at s1 s2
      refine ev_f (by omega) (Ev.bind tp (Ev.bind tq (Ev.bind s1 (Ev.bind tp (Ev.bind tq (Ev.bind s2 (ev_f (by simp) ?_)))))))
      exact Ev.bind tp (Ev.bind ep (ev_t rfl (Ev.bind tq (Ev.bind eq (ev_t rfl (Ev.now _))))))
    · rw [if_neg h2]
      exact ev_t (by omega) (Ev.now _)
  · rw [if_neg h1]
    exact ev_t (by omega) (Ev.now _)
end Go.Proofs.Ytimmadeghcghoaa.U
