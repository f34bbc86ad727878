/- Lemmas on the laws' own helpers: copies, comparisons, sizes. Written by genul.py. -/
import Derived.Test.YtjgonpcajedkjaaGreatEv
import Derived.Test.YtjgonpcajedkjaaGreatArgs
set_option linter.unusedVariables false
set_option linter.unusedSimpArgs false
namespace Go.Proofs.YtjgonpcajedkjaaGreat.U
open Go.RowKit Go.Proofs.YtjgonpcajedkjaaGreatW.PrintWords Go.Proofs.YtjgonpcajedkjaaGreatW.PrintLast Go.Proofs.YtjgonpcajedkjaaGreatW.PrintMore Go.Proofs.YtjgonpcajedkjaaGreat.P Go.Proofs.YtjgonpcajedkjaaGreat.Open
theorem rd39 (l:List S39) (i:Nat) (h:i < l.length):rd_T39 l (i:Int)=l[i]:=by
  unfold rd_T39;simp [List.getD_eq_getElem?_getD,List.getElem?_eq_getElem h]
end Go.Proofs.YtjgonpcajedkjaaGreat.U
