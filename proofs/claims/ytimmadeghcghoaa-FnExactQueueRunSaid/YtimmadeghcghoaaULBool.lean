/- Lemmas on the laws' own helpers: copies, comparisons, sizes. Written by genul.py. -/
import Derived.Test.YtimmadeghcghoaaFLBool
import Derived.Test.YtimmadeghcghoaaURd
set_option linter.unusedVariables false
set_option linter.unusedSimpArgs false
namespace Go.Proofs.Ytimmadeghcghoaa.U
open Go.RowKit Go.Proofs.YtimmadeghcghoaaW.PrintWords Go.Proofs.YtimmadeghcghoaaW.PrintLast Go.Proofs.YtimmadeghcghoaaW.PrintMore Go.Proofs.Ytimmadeghcghoaa.P Go.Proofs.Ytimmadeghcghoaa.Open
theorem toBoolS (l : List Bool) (h : l.length ≤ 1048576) : Ev (fun k => laws_toBoolS.f k l) l := by
  unfold laws_toBoolS.f
  refine ev_t (by omega) (ev_t (by omega) ?_)
  rw [Int.toNat_natCast]
  refine ev_for0 (F := fun k i => laws_toBoolS.l0 k l (l.take i ++ List.replicate (l.length - i) false) (i : Int)) (r := l) l.length ?_ ?_
  · intro i hi ih
    refine Ev.step (fun k => by rw [laws_toBoolS.l0]) ?_
    refine ev_t (by omega) (ev_t (by omega) (ev_t (by rw [fill_len _ _ _ (by omega)]; omega) ?_))
    rw [Int.toNat_natCast, rdOf_at false l i hi, fill_set l false i hi, w_succ hi (by omega)]
    exact ih
  · refine Ev.step (fun k => by rw [laws_toBoolS.l0]) (ev_f (by omega) (ev_now ?_))
    simp
theorem eqBoolS (l : List Bool) (h : l.length ≤ 9223372036854775807) : Ev (fun k => laws_eqBoolS.f k l l) true := by
  unfold laws_eqBoolS.f
  refine ev_t rfl ?_
  refine ev_for0 (F := fun k i => laws_eqBoolS.l0 k l l (i : Int)) l.length ?_ ?_
  · intro i hi ih
    refine Ev.step (fun k => by rw [laws_eqBoolS.l0]) ?_
    refine ev_t (by omega) (ev_t (by omega) (ev_t (by omega) (ev_f (by simp) ?_)))
    rw [w_succ hi h]
    exact ih
  · exact Ev.step (fun k => by rw [laws_eqBoolS.l0]) (ev_f (by omega) (Ev.now _))
theorem markBoolS_loop (n : Nat) (hn : n ≤ 1099511627776) : ∀ (d i : Nat) (a : Int) (y : List Bool), i + d = n → y.length = n → 0 ≤ a → a + 1 * d ≤ 4611686018427387904 → Ends (fun k => laws_markBoolS.l0 k y a (i : Int)) (a + 1 * d) n
  | 0, i, a, y, hi, hy, h0, h1 => Ends.step (fun k => by rw [laws_markBoolS.l0]) (Ends.f (by omega) (Ends.now hy (by omega)))
  | d + 1, i, a, y, hi, hy, h0, h1 => by
    refine Ends.step (fun k => by rw [laws_markBoolS.l0]) ?_
    refine Ends.t (by omega) ?_
    refine Ends.t (by omega) ?_
    rw [w_succ (n := n) (by omega) (by omega), w64 (n := a + 1) (by omega) (by omega)]
    rw [show a + 1 * ((d + 1 : Nat) : Int) = a + 1 + 1 * (d : Int) by omega]
    exact markBoolS_loop n hn d (i + 1) _ _ (by omega) (by simpa using hy) (by omega) (by omega)
theorem markBoolS (y : List Bool) (a : Int) (h : y.length ≤ 1099511627776) (h0 : 0 ≤ a) (h1 : a ≤ 1099511627776) : Ends (fun k => laws_markBoolS.f k y a) (a + 1 * y.length) y.length := by
  unfold laws_markBoolS.f
  exact markBoolS_loop y.length h y.length 0 a y (by omega) rfl h0 (by omega)
end Go.Proofs.Ytimmadeghcghoaa.U
