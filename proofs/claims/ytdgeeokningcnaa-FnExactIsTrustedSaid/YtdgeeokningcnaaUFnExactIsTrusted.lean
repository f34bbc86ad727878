/- FnExactIsTrusted, the pure side: the program's IsTrusted and the reference's are one function. -/
import Derived.Test.YtdgeeokningcnaaFCFnExactIsTrusted
import Derived.Test.YtdgeeokningcnaaEv
import Derived.Test.YtdgeeokningcnaaArgs
namespace Go.Proofs.Ytdgeeokningcnaa.U
open Go.RowKit Go.Proofs.YtdgeeokningcnaaW.PrintWords Go.Proofs.YtdgeeokningcnaaW.PrintLast Go.Proofs.Ytdgeeokningcnaa.P Go.Proofs.Ytdgeeokningcnaa.Open
theorem FnExactIsTrusted : ∀ (x0 : S23), okS23 x0 → laws_FnExactIsTrusted.f x0.f0 x0.f1 x0.f2 x0.f3 = some true := by
  intro x _
  unfold laws_FnExactIsTrusted.f laws_toDetector.f spec_IsTrusted.f impl_IsTrusted.f
  cases x.f3 <;> simp
end Go.Proofs.Ytdgeeokningcnaa.U
