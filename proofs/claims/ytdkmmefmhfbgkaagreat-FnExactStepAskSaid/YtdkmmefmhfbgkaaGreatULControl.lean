/- Lemmas on the laws' own helpers: copies, comparisons, sizes. Written by genul.py. -/
import Derived.Test.YtdkmmefmhfbgkaaGreatFX00
import Derived.Test.YtdkmmefmhfbgkaaGreatFX00b
import Derived.Test.YtdkmmefmhfbgkaaGreatFX00d
import Derived.Test.YtdkmmefmhfbgkaaGreatURd
import Derived.Test.YtdkmmefmhfbgkaaGreatULInt
set_option linter.unusedVariables false
set_option linter.unusedSimpArgs false
namespace Go.Proofs.YtdkmmefmhfbgkaaGreat.U
open Go.RowKit Go.Proofs.YtdkmmefmhfbgkaaGreatW.PrintWords Go.Proofs.YtdkmmefmhfbgkaaGreatW.PrintLast Go.Proofs.YtdkmmefmhfbgkaaGreatW.PrintMore Go.Proofs.YtdkmmefmhfbgkaaGreat.P Go.Proofs.YtdkmmefmhfbgkaaGreat.Open
def cControl (x:S46):S50:=⟨x.f0,x.f1,x.f2,x.f3⟩
theorem toControl (x:S46) (h0:x.f0.length≤1048576) (h1:x.f2.length≤1048576):Ev (fun k=>laws_toControl.f k x.f0 x.f1 x.f2 x.f3) (x.f0,x.f1,x.f2,x.f3):=by
  unfold laws_toControl.f
  refine Ev.bind (toIntS _ h0) ?_
  refine Ev.bind (toIntS _ h1) ?_
  exact Ev.now _
theorem eqControl (x:S50) (h0:x.f0.length≤9223372036854775807) (h1:x.f2.length≤9223372036854775807):Ev (fun k=>laws_eqControl.f k x.f0 x.f1 x.f2 x.f3 x.f0 x.f1 x.f2 x.f3) true:=by
  unfold laws_eqControl.f
  refine Ev.bind (eqIntS _ h0) (ev_t rfl ?_)
  refine ev_t rfl ?_
  refine Ev.bind (eqIntS _ h1) (ev_t rfl ?_)
  refine ev_t rfl ?_
  exact Ev.now _
def szC (x:S46):Nat:=x.f0.length + x.f2.length
theorem szControl (x:S46) (a:Int) (h0:0≤a) (h1:a≤1048576) (hl:x.f0.length≤9223372036854775807) (hl2:x.f2.length≤9223372036854775807):laws_szControl.f x.f0 x.f1 x.f2 x.f3 a=some (if (szC x:Int)≤a then a - szC x else -1):=by
  unfold laws_szControl.f szC
  rw [szIntS _ _ h0 h1 hl,Option.bind_some]
  by_cases h:(x.f0.length:Int)≤a
  · rw [if_pos h,if_neg (by omega),szIntS _ _ (by omega) (by omega) hl2,Option.bind_some]
    by_cases h2:(x.f2.length:Int)≤a - x.f0.length
    · rw [if_pos h2,if_neg (by omega),if_pos (by omega)];congr 1;omega
    · rw [if_neg h2,if_pos (by omega),if_neg (by omega)]
  · rw [if_neg h,if_pos (by omega),if_neg (by omega)]
end Go.Proofs.YtdkmmefmhfbgkaaGreat.U
