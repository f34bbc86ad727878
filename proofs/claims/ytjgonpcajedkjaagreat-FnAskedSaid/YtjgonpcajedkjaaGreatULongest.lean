/- The longest want outside a stage: the program's LongestWant and the reference's. -/
import Derived.Test.YtjgonpcajedkjaaGreatFX00d
import Derived.Test.YtjgonpcajedkjaaGreatURd
import Derived.Test.YtjgonpcajedkjaaGreatUHas
set_option linter.unusedVariables false
set_option linter.unusedSimpArgs false
namespace Go.Proofs.YtjgonpcajedkjaaGreat.U
open Go.RowKit Go.Proofs.YtjgonpcajedkjaaGreatW.PrintWords Go.Proofs.YtjgonpcajedkjaaGreatW.PrintLast Go.Proofs.YtjgonpcajedkjaaGreat.P Go.Proofs.YtjgonpcajedkjaaGreat.Open
/-- The place of the longest want among the first i that are not in the stage, or -1. -/
def bestIx (l:List S39) (st:List Int):Nat→Int
  | 0=>-1
  | i + 1=>if (rd_T39 l i).f0∈st then bestIx l st i else if bestIx l st i < 0 then i else if (rd_T39 l i).f1 > (rd_T39 l (bestIx l st i)).f1 then i else bestIx l st i
theorem bestIx_bound (l:List S39) (st:List Int):∀ i,-1≤bestIx l st i∧bestIx l st i < i
  | 0=>by simp [bestIx]
  | i + 1=>by
    have:=bestIx_bound l st i
    unfold bestIx
    split
    · omega
    · split
      · omega
      · split <;> omega
def longest (l:List S39) (st:List Int):Int:=if bestIx l st l.length < 0 then 0 else (rd_T39 l (bestIx l st l.length)).f0
def bP (l:List S39) (b:Int):Int:=if b < 0 then 0 else (rd_T39 l b).f0
def bW (l:List S39) (b:Int):Int:=if b < 0 then 0 else (rd_T39 l b).f1
theorem impl_longest (l:List S39) (st:List Int) (h:l.length≤1048576) (hs:st.length≤1048576):Ev (fun k=>impl_LongestWant.f k l st) (longest l st):=by
  unfold impl_LongestWant.f
  refine ev_for0 (F:=fun k i=>impl_LongestWant.l0 k st (decide (0≤bestIx l st i)) l (l.length:Int) (i:Int) (bP l (bestIx l st i)) (bW l (bestIx l st i))) l.length (fun i hi ih=>?_) ?_
  · have hb:=bestIx_bound l st i
    refine Ev.step (fun k=>by rw [impl_LongestWant.l0]) (ev_t (by omega) (ev_t (by omega) (ev_t (by omega) (Ev.bind (slices_contains st _ (by omega)) ?_))))
    rw [w_succ hi (by omega)]
    have hi0:¬ ((i:Int) < 0):=by omega
    unfold bestIx at ih
    by_cases h1:(rd_T39 l i).f0∈st
    · rw [if_pos h1] at ih
      exact ev_dt h1 ih
    · rw [if_neg h1] at ih
      refine ev_df h1 ?_
      by_cases h2:bestIx l st i < 0
      · rw [if_pos h2] at ih
        refine ev_df (by omega) ?_
        unfold bP bW at ih
        rw [if_neg hi0,if_neg hi0,decide_eq_true (by omega)] at ih
        exact ih
      · rw [if_neg h2] at ih
        refine ev_dt (by omega) ?_
        by_cases h3:(rd_T39 l i).f1 > (rd_T39 l (bestIx l st i)).f1
        · rw [if_pos h3] at ih
          refine ev_t (by unfold bW;rw [if_neg h2];exact h3) ?_
          unfold bP bW at ih
          rw [if_neg hi0,if_neg hi0,decide_eq_true (by omega)] at ih
          exact ih
        · rw [if_neg h3] at ih
          exact ev_f (by unfold bW;rw [if_neg h2];exact h3) ih
  · refine Ev.step (fun k=>by rw [impl_LongestWant.l0]) ?_
    exact ev_f (by omega) (ev_now rfl)
end Go.Proofs.YtjgonpcajedkjaaGreat.U
