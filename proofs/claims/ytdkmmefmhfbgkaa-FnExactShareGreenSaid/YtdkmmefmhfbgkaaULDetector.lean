/- Lemmas on the laws' own helpers: copies, comparisons, sizes. Written by genul.py. -/
import Derived.Test.YtdkmmefmhfbgkaaFX00
import Derived.Test.YtdkmmefmhfbgkaaFX00b
import Derived.Test.YtdkmmefmhfbgkaaFX00d
import Derived.Test.YtdkmmefmhfbgkaaURd
set_option linter.unusedVariables false
set_option linter.unusedSimpArgs false
namespace Go.Proofs.Ytdkmmefmhfbgkaa.U
open Go.RowKit Go.Proofs.YtdkmmefmhfbgkaaW.PrintWords Go.Proofs.YtdkmmefmhfbgkaaW.PrintLast Go.Proofs.YtdkmmefmhfbgkaaW.PrintMore Go.Proofs.Ytdkmmefmhfbgkaa.P Go.Proofs.Ytdkmmefmhfbgkaa.Open
def cDetector (x : S130) : S128 := ⟨x.f0, x.f1, x.f2, x.f3⟩
theorem toDetectorS (l : List S130) (h : l.length ≤ 1048576) : Ev (fun k => laws_toDetectorS.f k l) (l.map cDetector) := by
  unfold laws_toDetectorS.f
  refine ev_t (by omega) (ev_t (by omega) ?_)
  have hm : (l.map cDetector).length = l.length := List.length_map ..
  rw [Int.toNat_natCast, ← hm]
  refine ev_for0 (F := fun k i => laws_toDetectorS.l0 k l ((l.map cDetector).take i ++ List.replicate ((l.map cDetector).length - i) z128) (i : Int)) (r := l.map cDetector) l.length ?_ ?_
  · intro i hi ih
    refine Ev.step (fun k => by rw [laws_toDetectorS.l0]) ?_
    refine ev_t (by omega) (ev_t (by omega) (ev_call rfl (ev_t (by rw [fill_len _ _ _ (by omega)]; omega) ?_)))
    have e : List.set ((l.map cDetector).take i ++ List.replicate ((l.map cDetector).length - i) z128) ((i : Int)).toNat (cDetector (rd_T130 l (i : Int))) = (l.map cDetector).take (i + 1) ++ List.replicate ((l.map cDetector).length - (i + 1)) z128 := by
      rw [Int.toNat_natCast, rd130 l i hi]
      have e := fill_set (l.map cDetector) z128 i (by omega)
      rw [List.getElem_map] at e
      exact e
    refine Ev.congr (fun k => ?_) ih
    show laws_toDetectorS.l0 k l (List.set _ _ (cDetector (rd_T130 l (i : Int)))) (wrap64 ((i : Int) + 1)) = _
    rw [e, w_succ hi (by omega)]
  · refine Ev.step (fun k => by rw [laws_toDetectorS.l0]) (ev_f (by omega) (ev_now ?_))
    rw [← hm, List.take_length]; simp
theorem eqDetector (x : S128) : laws_eqDetector.f x.f0 x.f1 x.f2 x.f3 x.f0 x.f1 x.f2 x.f3 = some true := by unfold laws_eqDetector.f; simp
theorem eqDetectorS (l : List S128) (h : l.length ≤ 9223372036854775807) : Ev (fun k => laws_eqDetectorS.f k l l) true := by
  unfold laws_eqDetectorS.f
  refine ev_t rfl ?_
  refine ev_for0 (F := fun k i => laws_eqDetectorS.l0 k l l (i : Int)) l.length ?_ ?_
  · intro i hi ih
    refine Ev.step (fun k => by rw [laws_eqDetectorS.l0]) ?_
    refine ev_t (by omega) (ev_t (by omega) (ev_t (by omega) ?_))
    refine ev_call (eqDetector _) (ev_t rfl ?_)
    rw [w_succ hi h]
    exact ih
  · exact Ev.step (fun k => by rw [laws_eqDetectorS.l0]) (ev_f (by omega) (Ev.now _))
theorem szDetectorS (l : List S130) (a : Int) (h0 : 0 ≤ a) (h1 : a ≤ 1048576) (hl : l.length ≤ 9223372036854775807) : laws_szDetectorS.f l a = some (if (l.length : Int) ≤ a then a - l.length else -1) := by
  unfold laws_szDetectorS.f
  rw [w64 (by omega) (by omega)]
  by_cases h : (l.length : Int) ≤ a
  · rw [if_neg (by omega), if_pos h]
  · rw [if_pos (by omega), if_neg h]
end Go.Proofs.Ytdkmmefmhfbgkaa.U
