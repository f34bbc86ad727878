/- FnExactBlindPaths, the pure side: the program's BlindPaths and the reference's are one function. -/
import Derived.Test.YtimmadeghcghoaaFCFnExactBlindPaths
import Derived.Test.YtimmadeghcghoaaUBlind
import Derived.Test.YtimmadeghcghoaaULInt
import Derived.Test.YtimmadeghcghoaaULPath
import Derived.Test.YtimmadeghcghoaaULDetector
import Derived.Test.YtimmadeghcghoaaArgs
namespace Go.Proofs.Ytimmadeghcghoaa.U
open Go.RowKit Go.Proofs.YtimmadeghcghoaaW.PrintWords Go.Proofs.YtimmadeghcghoaaW.PrintLast Go.Proofs.Ytimmadeghcghoaa.P Go.Proofs.Ytimmadeghcghoaa.Open
theorem FnExactBlindPaths : ∀ (x0 : List (S92)) (x1 : List (S100)), (okL okS92) x0 → (okL okS100) x1 → ∃ k, laws_FnExactBlindPaths.f k x0 x1 = some true := by
  intro l w hok hok1
  refine Ev.rounds ?_
  unfold laws_FnExactBlindPaths.f
  refine ev_call (szPathS l 1048576 (by omega) (by omega) (by simpa [maxLen] using hok.1)) ?_
  by_cases h1 : (l.length : Int) ≤ 1048576
  · rw [if_pos h1]
    refine ev_f (by omega) (ev_call (szDetectorS w _ (by omega) (by omega) (by simpa [maxLen] using hok1.1)) ?_)
    by_cases h2 : (w.length : Int) ≤ 1048576 - (l.length : Int)
    · rw [if_pos h2]
      have tl := toPathS l (by omega)
      have tw := toDetectorS w (by omega)
      have m1 : (l.map cPath).length = l.length := List.length_map ..
      have m2 : (w.map cDetector).length = w.length := List.length_map ..
      generalize l.map cPath = p at tl m1
      generalize w.map cDetector = d at tw m2
      have hq := blind_len p d p.length
      have sq := spec_blindPaths p d (by omega) (by omega)
      have iq := impl_blindPaths p d (by omega)
      have e := eqIntS (blind p d p.length) (by omega)
      obtain ⟨y1, _, em1⟩ := markPathS p 1 (by omega) (by omega) (by omega)
      obtain ⟨y2, _, em2⟩ := markDetectorS d (1 + 4 * p.length) (by omega) (by omega) (by omega)
      refine ev_f (by omega) (Ev.bind tl (Ev.bind tw (Ev.bind sq (Ev.bind tl (Ev.bind tw (Ev.bind iq (Ev.bind e (ev_t rfl (Ev.bind tl (Ev.bind (eqPathS p (by omega)) (ev_t rfl (Ev.bind tw (Ev.bind (eqDetectorS d (by omega)) (ev_t rfl ?_))))))))))))))
      refine Ev.bind em1 (Ev.bind em2 (ev_f (by show ¬ (1 + 4 * (p.length : Int) + 4 * d.length < 0); omega) (Ev.bind e ?_)))
      refine Ev.step (fun k => by rw [laws_FnExactBlindPaths.j0]) (ev_f (by decide) ?_)
      have hh := heldIntS (blind p d p.length) 1 (by omega) (by omega) (by omega)
      refine Ev.bind (markIntS (blind p d p.length) 1 (by omega) (by omega) (by omega)) (Ev.bind hh (ev_f (by omega) (ev_t rfl (Ev.bind tl (Ev.bind tw (Ev.bind iq (Ev.bind e (ev_t rfl ?_))))))))
      exact Ev.bind hh (ev_f (by omega) (ev_t rfl (Ev.now _)))
    · rw [if_neg h2]
      exact ev_t (by omega) (Ev.now _)
  · rw [if_neg h1]
    exact ev_t (by omega) (Ev.now _)
end Go.Proofs.Ytimmadeghcghoaa.U
