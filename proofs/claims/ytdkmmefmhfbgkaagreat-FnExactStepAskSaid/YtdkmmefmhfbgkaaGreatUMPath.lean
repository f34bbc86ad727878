/- Lemmas on the laws' own helpers: copies, comparisons, sizes. Written by genul.py. -/
import Derived.Test.YtdkmmefmhfbgkaaGreatFX00
import Derived.Test.YtdkmmefmhfbgkaaGreatURd
set_option linter.unusedVariables false
set_option linter.unusedSimpArgs false
namespace Go.Proofs.YtdkmmefmhfbgkaaGreat.U
open Go.RowKit Go.Proofs.YtdkmmefmhfbgkaaGreatW.PrintWords Go.Proofs.YtdkmmefmhfbgkaaGreatW.PrintLast Go.Proofs.YtdkmmefmhfbgkaaGreatW.PrintMore Go.Proofs.YtdkmmefmhfbgkaaGreat.P Go.Proofs.YtdkmmefmhfbgkaaGreat.Open
theorem markPathS_loop (n:Nat) (hn:n≤1099511627776):∀ (d i:Nat) (a:Int) (y:List S69),i + d=n→y.length=n→0≤a→a + 4 * d≤4611686018427387904→Ends (fun k=>laws_markPathS.l0 k y a (i:Int)) (a + 4 * d) n
  | 0,i,a,y,hi,hy,h0,h1=>Ends.step (fun k=>by rw [laws_markPathS.l0]) (Ends.f (by omega) (Ends.now hy (by omega)))
  | d + 1,i,a,y,hi,hy,h0,h1=>by
    refine Ends.step (fun k=>by rw [laws_markPathS.l0]) ?_
    refine Ends.t (by omega) ?_
    refine Ends.t (by omega) ?_
    refine Ends.some ?_
    refine Ends.some ?_
    refine Ends.some ?_
    rw [w_succ (n:=n) (by omega) (by omega),w64 (n:=a + 1) (by omega) (by omega),w64 (n:=a + 1 + 1) (by omega) (by omega),w64 (n:=a + 1 + 1 + 1) (by omega) (by omega),w64 (n:=a + 1 + 1 + 1 + 1) (by omega) (by omega)]
    rw [show a + 4 * ((d + 1:Nat):Int)=a + 1 + 1 + 1 + 1 + 4 * (d:Int) by omega]
    exact markPathS_loop n hn d (i + 1) _ _ (by omega) (by simpa using hy) (by omega) (by omega)
theorem markPathS (y:List S69) (a:Int) (h:y.length≤1099511627776) (h0:0≤a) (h1:a≤1152921504606846976):Ends (fun k=>laws_markPathS.f k y a) (a + 4 * y.length) y.length:=by
  unfold laws_markPathS.f
  exact markPathS_loop y.length h y.length 0 a y (by omega) rfl h0 (by omega)
end Go.Proofs.YtdkmmefmhfbgkaaGreat.U
