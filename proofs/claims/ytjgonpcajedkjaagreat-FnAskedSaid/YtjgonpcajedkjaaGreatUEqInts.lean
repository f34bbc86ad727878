/- Are two lists of numbers equal: the program's way and the reference's. -/
import Derived.Test.YtjgonpcajedkjaaGreatFX00b
import Derived.Test.YtjgonpcajedkjaaGreatFX00d
import Derived.Test.YtjgonpcajedkjaaGreatEv
set_option linter.unusedVariables false
set_option linter.unusedSimpArgs false
namespace Go.Proofs.YtjgonpcajedkjaaGreat.U
open Go.RowKit Go.Proofs.YtjgonpcajedkjaaGreatW.PrintWords Go.Proofs.YtjgonpcajedkjaaGreatW.PrintLast Go.Proofs.YtjgonpcajedkjaaGreat.P
theorem eq_of_at {l l':List Int} (hl:l.length=l'.length) (h:∀ i,i < l.length→rd l (i:Int)=rd l' (i:Int)):l=l' :=
  List.ext_getElem hl (fun i h1 h2=>by have:=h i h1;rwa [rd_at l i h1,rd_at l' i h2] at this)
theorem spec_eqInts (l l':List Int) (h:l.length≤9223372036854775807):Ev (fun k=>spec_EqualInts.f k l l') (decide (l=l')):=by
  unfold spec_EqualInts.f
  refine ev_ite (fun hl=>?_) (fun hl=>ev_now (decide_eq_false (fun e=>hl (by rw [e]))).symm)
  have hl':l.length=l'.length:=by omega
  have e:decide (l=l')=(bo (∀ i,i < l.length→rd l (i:Int)=rd l' (i:Int)) && true):=by
    rw [Bool.and_true,← bo_decide]
    exact bo_congr ⟨fun hh i _=>by rw [hh],fun hh=>eq_of_at hl' hh⟩
  rw [e]
  refine ev_all (F:=fun k i=>spec_EqualInts.l0 k l l' (i:Int)) (fun i=>rd l (i:Int)=rd l' (i:Int)) l.length (fun i hi hp r ih=>?_) (fun i hi hp=>?_) (fun _=>?_)
  · refine Ev.step (fun k=>by rw [spec_EqualInts.l0]) (ev_t (by omega) (ev_t (by omega) (ev_t (by omega) (ev_t hp ?_))))
    rw [w_succ hi h];exact ih
  · exact Ev.step (fun k=>by rw [spec_EqualInts.l0]) (ev_t (by omega) (ev_t (by omega) (ev_t (by omega) (ev_f hp (Ev.now _)))))
  · exact Ev.step (fun k=>by rw [spec_EqualInts.l0]) (ev_f (by omega) (Ev.now _))
theorem slices_equal (l l':List Int) (h:l.length≤9223372036854775807):Ev (fun k=>slices_Equal_int_int.f k l l') (decide (l=l')):=by
  unfold slices_Equal_int_int.f
  refine ev_ite (fun hl=>?_) (fun hl=>ev_now (decide_eq_false (fun e=>hl (by rw [e]))).symm)
  have hl':l.length=l'.length:=by omega
  have e:decide (l=l')=(bo (∀ i,i < l.length→rd l (i:Int)=rd l' (i:Int)) && true):=by
    rw [Bool.and_true,← bo_decide]
    exact bo_congr ⟨fun hh i _=>by rw [hh],fun hh=>eq_of_at hl' hh⟩
  rw [e]
  refine ev_all (F:=fun k i=>slices_Equal_int_int.l0 k l l' (l.length:Int) (i:Int)) (fun i=>rd l (i:Int)=rd l' (i:Int)) l.length (fun i hi hp r ih=>?_) (fun i hi hp=>?_) (fun _=>?_)
  · refine Ev.step (fun k=>by rw [slices_Equal_int_int.l0]) (ev_t (by omega) (ev_t (by omega) (ev_t (by omega) (ev_t (by omega) (ev_t hp ?_)))))
    rw [w_succ hi h];exact ih
  · exact Ev.step (fun k=>by rw [slices_Equal_int_int.l0]) (ev_t (by omega) (ev_t (by omega) (ev_t (by omega) (ev_t (by omega) (ev_f hp (Ev.now _))))))
  · exact Ev.step (fun k=>by rw [slices_Equal_int_int.l0]) (ev_f (by omega) (Ev.now _))
end Go.Proofs.YtjgonpcajedkjaaGreat.U
