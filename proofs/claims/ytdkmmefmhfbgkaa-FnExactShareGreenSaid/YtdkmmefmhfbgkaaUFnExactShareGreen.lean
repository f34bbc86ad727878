/- FnExactShareGreen, the pure side: the program's ShareGreen and the reference's are one function. -/
import Derived.Test.YtdkmmefmhfbgkaaFX00
import Derived.Test.YtdkmmefmhfbgkaaFX00d
import Derived.Test.YtdkmmefmhfbgkaaUSpecShare
import Derived.Test.YtdkmmefmhfbgkaaUPHeld
import Derived.Test.YtdkmmefmhfbgkaaUPMark
import Derived.Test.YtdkmmefmhfbgkaaULInt
import Derived.Test.YtdkmmefmhfbgkaaULPath
import Derived.Test.YtdkmmefmhfbgkaaULPart
import Derived.Test.YtdkmmefmhfbgkaaULDetector
import Derived.Test.YtdkmmefmhfbgkaaUMPath
import Derived.Test.YtdkmmefmhfbgkaaUMDetector
import Derived.Test.YtdkmmefmhfbgkaaArgs
set_option linter.unusedVariables false
set_option linter.unusedSimpArgs false
namespace Go.Proofs.Ytdkmmefmhfbgkaa.U
open Go.RowKit Go.Proofs.YtdkmmefmhfbgkaaW.PrintWords Go.Proofs.YtdkmmefmhfbgkaaW.PrintLast Go.Proofs.Ytdkmmefmhfbgkaa.P Go.Proofs.Ytdkmmefmhfbgkaa.Open
theorem shV_len {l : List S89} {p : List S92} (w : PW l p) (d : List S128) (a : Int) : (shV l p d a).1.length ≤ 1048576 ∧ ∀ x ∈ (shV l p d a).1, x.f0.length ≤ 1048576 := by
  have hp := w.hp
  by_cases h : shOk l p d a
  · rw [shV_t h]
    refine ⟨by show (mkP p _).length ≤ _; rw [mkP_len]; exact hp, fun x hx => ?_⟩
    obtain ⟨i, hi, rfl⟩ := List.mem_iff_getElem.1 hx
    have hi' : i < p.length := by
      have : (mkP p (gr2 l p d (spV l p a))).length = p.length := mkP_len p _
      exact this ▸ hi
    have e := mkP_rd (g := gr2 l p d (spV l p a)) hi'
    rw [rd92 _ i hi] at e
    rw [e]
    exact w.hx i hi'
  · rw [shV_f h]
    refine ⟨hp, fun x hx => ?_⟩
    obtain ⟨i, hi, rfl⟩ := List.mem_iff_getElem.1 hx
    have := w.hx i hi
    rw [rd92 p i hi] at this
    exact this
theorem FnExactShareGreen : ∀ (x0 : List (S91)) (x1 : List (S85)) (x2 : List (S130)) (x3 : Int), (okL okS91) x0 → (okL okS85) x1 → (okL okS130) x2 → okI x3 → ∃ k, laws_FnExactShareGreen.f k x0 x1 x2 x3 = some true := by
  intro l p d a3 hok hok1 hok2 _
  refine ev_rounds ?_
  unfold laws_FnExactShareGreen.f
  refine ev_call (szPathS l 1048576 (by omega) (by omega) (by simpa [maxLen] using hok.1)) ?_
  by_cases h1 : (l.length : Int) ≤ 1048576
  · rw [if_pos h1]
    refine ev_f (by omega) (Ev.bind (szPartS p _ (by omega) (by omega) (by simpa [maxLen] using hok1.1) (fun x hx => by simpa [maxLen] using (hok1.2 x hx).1.1)) ?_)
    by_cases h2 : (szP p : Int) ≤ 1048576 - (l.length : Int)
    · rw [if_pos h2]
      refine ev_f (by omega) (ev_call (szDetectorS d _ (by omega) (by omega) (by simpa [maxLen] using hok2.1)) ?_)
      by_cases h3 : (d.length : Int) ≤ 1048576 - (l.length : Int) - szP p
      · rw [if_pos h3]
        obtain ⟨hl, hx⟩ := szP_le (l := p) (by omega : szP p ≤ 1048576)
        have tl := toPathS l (by omega)
        have tp := toPartS p hl hx
        have td := toDetectorS d (by omega)
        have ep := eqPartS (p.map cPart) (by rw [List.length_map]; omega) (cPart_len hx)
        have m1 : (l.map cPath).length = l.length := List.length_map ..
        have m2 : (p.map cPart).length = p.length := List.length_map ..
        have m3 : (d.map cDetector).length = d.length := List.length_map ..
        have hq : ∀ i : Nat, i < (p.map cPart).length → (rd_T92 (p.map cPart) (i : Int)).f0.length ≤ 1048576 := fun i hi => by
          rw [rd92 _ i hi, List.getElem_map]
          exact hx _ (List.getElem_mem _)
        generalize l.map cPath = a at tl m1
        generalize p.map cPart = b at tp m2 hq ep
        generalize d.map cDetector = c at td m3
        have w : PW a b := ⟨by omega, by omega, hq⟩
        have s1 := spec_shareGreen w c (by omega) a3
        have s2 := impl_shareGreen w c (by omega) a3
        obtain ⟨v1, v2⟩ := shV_len w c a3
        generalize shV a b c a3 = v at s1 s2 v1 v2
        have ev := eqPartS v.1 (by omega) (fun x hx => by have := v2 x hx; omega)
        obtain ⟨y1, _, em1⟩ := markPathS a 1 (by omega) (by omega) (by omega)
        obtain ⟨n2, y2, em2, q0, q1⟩ := markPartS b (1 + 4 * (a.length : Int)) (by omega) (fun j hj => hq j hj) (by omega) (by omega)
        obtain ⟨y3, _, em3⟩ := markDetectorS c n2 (by omega) (by omega) (by omega)
        have mk : Ev (fun k => laws_markPartS.f k v.1 1) (pnd v.1 1, pmk v.1 1) := by
          unfold laws_markPartS.f
          exact mark_run v.1 [] 1 v2 (by decide) (by simp; omega) (by omega)
        have hd : Ev (fun k => laws_heldPartS.f k (pmk v.1 1) 1) (pnd v.1 1) := by
          unfold laws_heldPartS.f
          exact held_run v.1 [] 1 v2 (by decide) (by simp; omega) (by omega)
        have pb := pnd_le v.1 1 v2
        have tail : Ev (fun k => laws_FnExactShareGreen.j1 k l p d a3 v.1 v.2 v.1 false) true := by
          refine Ev.step (fun k => by rw [laws_FnExactShareGreen.j1]) (ev_f (by decide) ?_)
          refine Ev.bind mk (Ev.bind hd (ev_f (show ¬ pnd v.1 1 < 0 by omega) (ev_t rfl ?_)))
          refine Ev.bind tl (Ev.bind tp (Ev.bind td (Ev.bind s2 (Ev.bind ev (ev_t rfl ?_)))))
          rw [show (v.2 != v.2) = false by simp]
          exact Ev.step (fun k => by rw [laws_FnExactShareGreen.j2]) (ev_f (by decide) (Ev.bind hd (ev_f (show ¬ pnd v.1 1 < 0 by omega) (ev_t rfl (Ev.now _)))))
        refine ev_f (by omega) (Ev.bind tl (Ev.bind tp (Ev.bind td (Ev.bind s1 (Ev.bind tl (Ev.bind tp (Ev.bind td (Ev.bind s2 (Ev.bind ev (ev_t rfl ?_))))))))))
        rw [show (v.2 != v.2) = false by simp]
        refine Ev.step (fun k => by rw [laws_FnExactShareGreen.j0]) (ev_f (by decide) ?_)
        refine Ev.bind tl (Ev.bind (eqPathS a (by omega)) (ev_t rfl (Ev.bind tp (Ev.bind ep (ev_t rfl (Ev.bind td (Ev.bind (eqDetectorS c (by omega)) (ev_t rfl ?_))))))))
        refine Ev.bind em1 (Ev.bind em2 (Ev.bind em3 ?_))
        refine ev_f (by omega) (Ev.bind ev (ev_t rfl ?_))
        rw [show (v.2 != v.2) = false by simp]
        exact tail
      · rw [if_neg h3]
        exact ev_t (by omega) (Ev.now _)
    · rw [if_neg h2]
      exact ev_t (by omega) (Ev.now _)
  · rw [if_neg h1]
    exact ev_t (by omega) (Ev.now _)
end Go.Proofs.Ytdkmmefmhfbgkaa.U
