/- FnExactPrioEnds, the pure side: the program's PrioEnds and the reference's are one function. -/
import Derived.Test.YtdgeeokningcnaaFCFnExactPrioEnds
import Derived.Test.YtdgeeokningcnaaEv
import Derived.Test.YtdgeeokningcnaaArgs
namespace Go.Proofs.Ytdgeeokningcnaa.U
open Go.RowKit Go.Proofs.YtdgeeokningcnaaW.PrintWords Go.Proofs.YtdgeeokningcnaaW.PrintLast Go.Proofs.Ytdgeeokningcnaa.P Go.Proofs.Ytdgeeokningcnaa.Open
theorem FnExactPrioEnds : ∀ (x0 : S29), okS29 x0 → laws_FnExactPrioEnds.f x0.f0 x0.f1 = some true := by
  intro x _
  unfold laws_FnExactPrioEnds.f laws_toPrio.f spec_PrioEnds.f impl_PrioEnds.f
  by_cases h : x.f0 = 0 <;> simp [h]
end Go.Proofs.Ytdgeeokningcnaa.U
