/- Lemmas on the laws' own helpers: copies, comparisons, sizes. Written by genul.py. -/
import Derived.Test.YtdkmmefmhfbgkaaGreatEv
import Derived.Test.YtdkmmefmhfbgkaaGreatArgs
set_option linter.unusedVariables false
set_option linter.unusedSimpArgs false
namespace Go.Proofs.YtdkmmefmhfbgkaaGreat.U
open Go.RowKit Go.Proofs.YtdkmmefmhfbgkaaGreatW.PrintWords Go.Proofs.YtdkmmefmhfbgkaaGreatW.PrintLast Go.Proofs.YtdkmmefmhfbgkaaGreatW.PrintMore Go.Proofs.YtdkmmefmhfbgkaaGreat.P Go.Proofs.YtdkmmefmhfbgkaaGreat.Open
theorem rd71 (l:List S71) (i:Nat) (h:i < l.length):rd_T71 l (i:Int)=l[i]:=by
  unfold rd_T71;simp [List.getD_eq_getElem?_getD,List.getElem?_eq_getElem h]
theorem rd95 (l:List S95) (i:Nat) (h:i < l.length):rd_T95 l (i:Int)=l[i]:=by
  unfold rd_T95;simp [List.getD_eq_getElem?_getD,List.getElem?_eq_getElem h]
theorem rd92 (l:List S92) (i:Nat) (h:i < l.length):rd_T92 l (i:Int)=l[i]:=by
  unfold rd_T92;simp [List.getD_eq_getElem?_getD,List.getElem?_eq_getElem h]
end Go.Proofs.YtdkmmefmhfbgkaaGreat.U
