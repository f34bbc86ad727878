/- Lemmas on the laws' own helpers: copies, comparisons, sizes. Written by genul.py. -/
import Derived.Test.YtdkmmefmhfbgkaaGreatFX00
import Derived.Test.YtdkmmefmhfbgkaaGreatURd
set_option linter.unusedVariables false
set_option linter.unusedSimpArgs false
namespace Go.Proofs.YtdkmmefmhfbgkaaGreat.U
open Go.RowKit Go.Proofs.YtdkmmefmhfbgkaaGreatW.PrintWords Go.Proofs.YtdkmmefmhfbgkaaGreatW.PrintLast Go.Proofs.YtdkmmefmhfbgkaaGreatW.PrintMore Go.Proofs.YtdkmmefmhfbgkaaGreat.P Go.Proofs.YtdkmmefmhfbgkaaGreat.Open
def cPath (x:S71):S69:=⟨x.f0,x.f1,x.f2,x.f3⟩
theorem toPathS (l:List S71) (h:l.length≤1048576):Ev (fun k=>laws_toPathS.f k l) (l.map cPath):=by
  unfold laws_toPathS.f
  refine ev_t (by omega) (ev_t (by omega) ?_)
  have hm:(l.map cPath).length=l.length:=List.length_map ..
  rw [Int.toNat_natCast,← hm]
  refine ev_for0 (F:=fun k i=>laws_toPathS.l0 k l ((l.map cPath).take i ++ List.replicate ((l.map cPath).length - i) z69) (i:Int)) (r:=l.map cPath) l.length ?_ ?_
  · intro i hi ih
    refine Ev.step (fun k=>by rw [laws_toPathS.l0]) ?_
    refine ev_t (by omega) (ev_t (by omega) (ev_call rfl (ev_t (by rw [fill_len _ _ _ (by omega)];omega) ?_)))
    have e:List.set ((l.map cPath).take i ++ List.replicate ((l.map cPath).length - i) z69) ((i:Int)).toNat (cPath (rd_T71 l (i:Int)))=(l.map cPath).take (i + 1) ++ List.replicate ((l.map cPath).length - (i + 1)) z69:=by
      rw [Int.toNat_natCast,rd71 l i hi]
      have e:=fill_set (l.map cPath) z69 i (by omega)
      rw [List.getElem_map] at e
      exact e
    refine Ev.congr (fun k=>?_) ih
    show laws_toPathS.l0 k l (List.set _ _ (cPath (rd_T71 l (i:Int)))) (wrap64 ((i:Int) + 1))=_
    rw [e,w_succ hi (by omega)]
  · refine Ev.step (fun k=>by rw [laws_toPathS.l0]) (ev_f (by omega) (ev_now ?_))
    rw [← hm,List.take_length];simp
theorem eqPath (x:S69):laws_eqPath.f x.f0 x.f1 x.f2 x.f3 x.f0 x.f1 x.f2 x.f3=some true:=by unfold laws_eqPath.f;simp
theorem eqPathS (l:List S69) (h:l.length≤9223372036854775807):Ev (fun k=>laws_eqPathS.f k l l) true:=by
  unfold laws_eqPathS.f
  refine ev_t rfl ?_
  refine ev_for0 (F:=fun k i=>laws_eqPathS.l0 k l l (i:Int)) l.length ?_ ?_
  · intro i hi ih
    refine Ev.step (fun k=>by rw [laws_eqPathS.l0]) ?_
    refine ev_t (by omega) (ev_t (by omega) (ev_t (by omega) ?_))
    refine ev_call (eqPath _) (ev_t rfl ?_)
    rw [w_succ hi h]
    exact ih
  · exact Ev.step (fun k=>by rw [laws_eqPathS.l0]) (ev_f (by omega) (Ev.now _))
theorem szPathS (l:List S71) (a:Int) (h0:0≤a) (h1:a≤1048576) (hl:l.length≤9223372036854775807):laws_szPathS.f l a=some (if (l.length:Int)≤a then a - l.length else -1):=by
  unfold laws_szPathS.f
  rw [w64 (by omega) (by omega)]
  by_cases h:(l.length:Int)≤a
  · rw [if_neg (by omega),if_pos h]
  · rw [if_pos (by omega),if_neg h]
end Go.Proofs.YtdkmmefmhfbgkaaGreat.U
