/- Lemmas on the laws' own helpers: copies, comparisons, sizes. Written by genul.py. -/
import Derived.Test.YtdkmmefmhfbgkaaGreatFX00
import Derived.Test.YtdkmmefmhfbgkaaGreatFX00b
import Derived.Test.YtdkmmefmhfbgkaaGreatFX00d
import Derived.Test.YtdkmmefmhfbgkaaGreatURd
set_option linter.unusedVariables false
set_option linter.unusedSimpArgs false
namespace Go.Proofs.YtdkmmefmhfbgkaaGreat.U
open Go.RowKit Go.Proofs.YtdkmmefmhfbgkaaGreatW.PrintWords Go.Proofs.YtdkmmefmhfbgkaaGreatW.PrintLast Go.Proofs.YtdkmmefmhfbgkaaGreatW.PrintMore Go.Proofs.YtdkmmefmhfbgkaaGreat.P Go.Proofs.YtdkmmefmhfbgkaaGreat.Open
theorem toIntS (l:List Int) (h:l.length≤1048576):Ev (fun k=>laws_toIntS.f k l) l:=by
  unfold laws_toIntS.f
  refine ev_t (by omega) (ev_t (by omega) ?_)
  rw [Int.toNat_natCast]
  refine ev_for0 (F:=fun k i=>laws_toIntS.l0 k l (l.take i ++ List.replicate (l.length - i) 0) (i:Int)) (r:=l) l.length ?_ ?_
  · intro i hi ih
    refine Ev.step (fun k=>by rw [laws_toIntS.l0]) ?_
    refine ev_t (by omega) (ev_t (by omega) (ev_t (by rw [fill_len _ _ _ (by omega)];omega) ?_))
    rw [Int.toNat_natCast,rd_at l i hi,fill_set l 0 i hi,w_succ hi (by omega)]
    exact ih
  · refine Ev.step (fun k=>by rw [laws_toIntS.l0]) (ev_f (by omega) (ev_now ?_))
    simp
theorem eqIntS (l:List Int) (h:l.length≤9223372036854775807):Ev (fun k=>laws_eqIntS.f k l l) true:=by
  unfold laws_eqIntS.f
  refine ev_t rfl ?_
  refine ev_for0 (F:=fun k i=>laws_eqIntS.l0 k l l (i:Int)) l.length ?_ ?_
  · intro i hi ih
    refine Ev.step (fun k=>by rw [laws_eqIntS.l0]) ?_
    refine ev_t (by omega) (ev_t (by omega) (ev_t (by omega) (ev_t rfl ?_)))
    rw [w_succ hi h]
    exact ih
  · exact Ev.step (fun k=>by rw [laws_eqIntS.l0]) (ev_f (by omega) (Ev.now _))
theorem szIntS (l:List Int) (a:Int) (h0:0≤a) (h1:a≤1048576) (hl:l.length≤9223372036854775807):laws_szIntS.f l a=some (if (l.length:Int)≤a then a - l.length else -1):=by
  unfold laws_szIntS.f
  rw [w64 (by omega) (by omega)]
  by_cases h:(l.length:Int)≤a
  · rw [if_neg (by omega),if_pos h]
  · rw [if_pos (by omega),if_neg h]
end Go.Proofs.YtdkmmefmhfbgkaaGreat.U
