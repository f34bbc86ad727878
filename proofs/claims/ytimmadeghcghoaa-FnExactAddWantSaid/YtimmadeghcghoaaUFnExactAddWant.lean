/- FnExactAddWant, the pure side: the program's AddWant and the reference's are one function. -/
import Derived.Test.YtimmadeghcghoaaFX00c
import Derived.Test.YtimmadeghcghoaaULWant
import Derived.Test.YtimmadeghcghoaaULPath
import Derived.Test.YtimmadeghcghoaaUMWant
import Derived.Test.YtimmadeghcghoaaUMPath
import Derived.Test.YtimmadeghcghoaaUWMark
import Derived.Test.YtimmadeghcghoaaUAddWant
import Derived.Test.YtimmadeghcghoaaArgs
set_option linter.unusedVariables false
set_option linter.unusedSimpArgs false
namespace Go.Proofs.Ytimmadeghcghoaa.U
open Go.RowKit Go.Proofs.YtimmadeghcghoaaW.PrintWords Go.Proofs.YtimmadeghcghoaaW.PrintLast Go.Proofs.Ytimmadeghcghoaa.P Go.Proofs.Ytimmadeghcghoaa.Open
theorem awV_len (l : List S90) (w : List S87) (a : Int) : (awV l w a).1.length ≤ w.length + 1 := by
  unfold awV
  split
  · exact Nat.le_of_eq (insW_len a w)
  · exact Nat.le_succ _
theorem FnExactAddWant : ∀ (x0 : List (S92)) (x1 : List (S94)) (x2 : Int), (okL okS92) x0 → (okL okS94) x1 → okI x2 → ∃ k, laws_FnExactAddWant.f k x0 x1 x2 = some true := by
  intro l w a hok hok1 _
  refine Ev.rounds ?_
  unfold laws_FnExactAddWant.f
  refine ev_call (szPathS l 1048576 (by omega) (by omega) (by simpa [maxLen] using hok.1)) ?_
  by_cases h1 : (l.length : Int) ≤ 1048576
  · rw [if_pos h1]
    refine ev_f (by omega) (ev_call (szWantS w _ (by omega) (by omega) (by simpa [maxLen] using hok1.1)) ?_)
    by_cases h2 : (w.length : Int) ≤ 1048576 - (l.length : Int)
    · rw [if_pos h2]
      have tl := toPathS l (by omega)
      have tw := toWantS w (by omega)
      have m1 : (l.map cPath).length = l.length := List.length_map ..
      have m2 : (w.map cWant).length = w.length := List.length_map ..
      generalize l.map cPath = p at tl m1
      generalize w.map cWant = q at tw m2
      have s1 := spec_addWant p q a (by omega) (by omega)
      have s2 := impl_addWant p q a (by omega) (by omega)
      have v1 := awV_len p q a
      generalize awV p q a = v at s1 s2 v1
      have e := eqWantS v.1 (by omega)
      obtain ⟨y1, _, em1⟩ := markPathS p 1 (by omega) (by omega) (by omega)
      obtain ⟨y2, _, em2⟩ := markWantS q (1 + 4 * p.length) (by omega) (by omega) (by omega)
      refine ev_f (by omega) (Ev.bind tl (Ev.bind tw (Ev.bind s1 (Ev.bind tl (Ev.bind tw (Ev.bind s2 (Ev.bind e (ev_t rfl ?_))))))))
      refine Ev.step (fun k => by rw [laws_FnExactAddWant.j0]) ?_
      refine ev_f (by simp) ?_
      refine Ev.bind tl (Ev.bind (eqPathS p (by omega)) (ev_t rfl (Ev.bind tw (Ev.bind (eqWantS q (by omega)) (ev_t rfl ?_)))))
      refine Ev.bind em1 (Ev.bind em2 (ev_f (by show ¬ (1 + 4 * (p.length : Int) + 2 * (q.length : Int) < 0); omega) (Ev.bind e (ev_t rfl ?_))))
      refine Ev.step (fun k => by rw [laws_FnExactAddWant.j1]) ?_
      refine ev_f (by simp) ?_
      have hh := heldWantV v.1.length 1 (by omega) (by omega) (by omega)
      refine Ev.bind (markWantV v.1 1 (by omega) (by omega) (by omega)) (Ev.bind hh (ev_f (by omega) (ev_t rfl (Ev.bind tl (Ev.bind tw (Ev.bind s2 (Ev.bind e (ev_t rfl ?_))))))))
      refine Ev.step (fun k => by rw [laws_FnExactAddWant.j2]) ?_
      refine ev_f (by simp) ?_
      exact Ev.bind hh (ev_f (by omega) (ev_t rfl (Ev.now _)))
    · rw [if_neg h2]
      exact ev_t (by omega) (Ev.now _)
  · rw [if_neg h1]
    exact ev_t (by omega) (Ev.now _)
end Go.Proofs.Ytimmadeghcghoaa.U
