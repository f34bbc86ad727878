/- Lemmas on the laws' own helpers: copies, comparisons, sizes. Written by genul.py. -/
import Derived.Test.YtdkmmefmhfbgkaaGreatFX00d
import Derived.Test.YtdkmmefmhfbgkaaGreatURd
import Derived.Test.YtdkmmefmhfbgkaaGreatUMInt
set_option linter.unusedVariables false
set_option linter.unusedSimpArgs false
namespace Go.Proofs.YtdkmmefmhfbgkaaGreat.U
open Go.RowKit Go.Proofs.YtdkmmefmhfbgkaaGreatW.PrintWords Go.Proofs.YtdkmmefmhfbgkaaGreatW.PrintLast Go.Proofs.YtdkmmefmhfbgkaaGreatW.PrintMore Go.Proofs.YtdkmmefmhfbgkaaGreat.P Go.Proofs.YtdkmmefmhfbgkaaGreat.Open
theorem heldIntS (l:List Int) (a:Int) (ha:0≤a) (ha1:a≤1152921504606846976) (h:l.length≤1099511627776):Ev (fun k=>laws_heldIntS.f k (marks l a l.length) a) (a + l.length):=by
  unfold laws_heldIntS.f
  have hm:=marks_len l a l.length
  have e:Ev (fun k=>laws_heldIntS.l0 k (marks l a l.length) (a + ((0:Nat):Int)) ((0:Nat):Int)) (a + l.length):=by
    refine ev_for0 (F:=fun k i=>laws_heldIntS.l0 k (marks l a l.length) (a + (i:Int)) (i:Int)) l.length (fun i hi ih=>?_) ?_
    · refine Ev.step (fun k=>by rw [laws_heldIntS.l0]) (ev_t (by rw [hm];omega) (ev_t (by omega) (ev_t (marks_rd l a _ i hi hi) ?_)))
      rw [w_succ hi (by omega),w64 (by omega) (by omega),show a + (i:Int) + 1=a + ((i + 1:Nat):Int) by omega]
      exact ih
    · exact Ev.step (fun k=>by rw [laws_heldIntS.l0]) (ev_f (by rw [hm];omega) (Ev.now _))
  have e0:a + ((0:Nat):Int)=a:=by omega
  rw [e0] at e
  exact e
end Go.Proofs.YtdkmmefmhfbgkaaGreat.U
