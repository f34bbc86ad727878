/- Marks in a control's rows. -/
import Derived.Test.YtdkmmefmhfbgkaaGreatFX00d
import Derived.Test.YtdkmmefmhfbgkaaGreatUHInt
import Derived.Test.YtdkmmefmhfbgkaaGreatUMInt
set_option linter.unusedVariables false
set_option linter.unusedSimpArgs false
namespace Go.Proofs.YtdkmmefmhfbgkaaGreat.U
open Go.RowKit Go.Proofs.YtdkmmefmhfbgkaaGreatW.PrintWords Go.Proofs.YtdkmmefmhfbgkaaGreatW.PrintLast Go.Proofs.YtdkmmefmhfbgkaaGreat.P
theorem markC (x:List Int) (b:Int) (y:List Int) (d a:Int) (h0:0≤a) (h1:a≤1073741824) (hx:x.length≤1048576) (hy:y.length≤1048576):Ev (fun k=>laws_markControl.f k x b y d a) (a + x.length + y.length,marks x a x.length,marks y (a + x.length) y.length):=by
  unfold laws_markControl.f
  exact Ev.bind (markIntS x a (by omega) (by omega) (by omega)) (Ev.bind (markIntS y (a + x.length) (by omega) (by omega) (by omega)) (Ev.now _))
theorem heldC (x:List Int) (b:Int) (y:List Int) (d a:Int) (h0:0≤a) (h1:a≤1073741824) (hx:x.length≤1048576) (hy:y.length≤1048576):Ev (fun k=>laws_heldControl.f k (marks x a x.length) b (marks y (a + x.length) y.length) d a) (a + x.length + y.length):=by
  unfold laws_heldControl.f
  refine Ev.bind (heldIntS x a (by omega) (by omega) (by omega)) (ev_f (by omega) (Ev.bind (heldIntS y (a + x.length) (by omega) (by omega) (by omega)) (ev_f (by omega) (Ev.now _))))
end Go.Proofs.YtdkmmefmhfbgkaaGreat.U
