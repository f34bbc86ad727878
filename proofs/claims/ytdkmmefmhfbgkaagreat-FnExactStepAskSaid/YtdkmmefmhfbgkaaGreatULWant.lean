/- Lemmas on the laws' own helpers: copies, comparisons, sizes. Written by genul.py. -/
import Derived.Test.YtdkmmefmhfbgkaaGreatFX00
import Derived.Test.YtdkmmefmhfbgkaaGreatFX00b
import Derived.Test.YtdkmmefmhfbgkaaGreatFX00d
import Derived.Test.YtdkmmefmhfbgkaaGreatURd
set_option linter.unusedVariables false
set_option linter.unusedSimpArgs false
namespace Go.Proofs.YtdkmmefmhfbgkaaGreat.U
open Go.RowKit Go.Proofs.YtdkmmefmhfbgkaaGreatW.PrintWords Go.Proofs.YtdkmmefmhfbgkaaGreatW.PrintLast Go.Proofs.YtdkmmefmhfbgkaaGreatW.PrintMore Go.Proofs.YtdkmmefmhfbgkaaGreat.P Go.Proofs.YtdkmmefmhfbgkaaGreat.Open
def cWant (x:S95):S92:=⟨x.f0,x.f1⟩
theorem toWantS (l:List S95) (h:l.length≤1048576):Ev (fun k=>laws_toWantS.f k l) (l.map cWant):=by
  unfold laws_toWantS.f
  refine ev_t (by omega) (ev_t (by omega) ?_)
  have hm:(l.map cWant).length=l.length:=List.length_map ..
  rw [Int.toNat_natCast,← hm]
  refine ev_for0 (F:=fun k i=>laws_toWantS.l0 k l ((l.map cWant).take i ++ List.replicate ((l.map cWant).length - i) z92) (i:Int)) (r:=l.map cWant) l.length ?_ ?_
  · intro i hi ih
    refine Ev.step (fun k=>by rw [laws_toWantS.l0]) ?_
    refine ev_t (by omega) (ev_t (by omega) (ev_call rfl (ev_t (by rw [fill_len _ _ _ (by omega)];omega) ?_)))
    have e:List.set ((l.map cWant).take i ++ List.replicate ((l.map cWant).length - i) z92) ((i:Int)).toNat (cWant (rd_T95 l (i:Int)))=(l.map cWant).take (i + 1) ++ List.replicate ((l.map cWant).length - (i + 1)) z92:=by
      rw [Int.toNat_natCast,rd95 l i hi]
      have e:=fill_set (l.map cWant) z92 i (by omega)
      rw [List.getElem_map] at e
      exact e
    refine Ev.congr (fun k=>?_) ih
    show laws_toWantS.l0 k l (List.set _ _ (cWant (rd_T95 l (i:Int)))) (wrap64 ((i:Int) + 1))=_
    rw [e,w_succ hi (by omega)]
  · refine Ev.step (fun k=>by rw [laws_toWantS.l0]) (ev_f (by omega) (ev_now ?_))
    rw [← hm,List.take_length];simp
theorem eqWant (x:S92):laws_eqWant.f x.f0 x.f1 x.f0 x.f1=some true:=by unfold laws_eqWant.f;simp
theorem eqWantS (l:List S92) (h:l.length≤9223372036854775807):Ev (fun k=>laws_eqWantS.f k l l) true:=by
  unfold laws_eqWantS.f
  refine ev_t rfl ?_
  refine ev_for0 (F:=fun k i=>laws_eqWantS.l0 k l l (i:Int)) l.length ?_ ?_
  · intro i hi ih
    refine Ev.step (fun k=>by rw [laws_eqWantS.l0]) ?_
    refine ev_t (by omega) (ev_t (by omega) (ev_t (by omega) ?_))
    refine ev_call (eqWant _) (ev_t rfl ?_)
    rw [w_succ hi h]
    exact ih
  · exact Ev.step (fun k=>by rw [laws_eqWantS.l0]) (ev_f (by omega) (Ev.now _))
theorem szWantS (l:List S95) (a:Int) (h0:0≤a) (h1:a≤1048576) (hl:l.length≤9223372036854775807):laws_szWantS.f l a=some (if (l.length:Int)≤a then a - l.length else -1):=by
  unfold laws_szWantS.f
  rw [w64 (by omega) (by omega)]
  by_cases h:(l.length:Int)≤a
  · rw [if_neg (by omega),if_pos h]
  · rw [if_pos (by omega),if_neg h]
end Go.Proofs.YtdkmmefmhfbgkaaGreat.U
