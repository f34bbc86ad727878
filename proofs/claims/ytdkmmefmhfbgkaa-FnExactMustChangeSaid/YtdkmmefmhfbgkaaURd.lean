/- Lemmas on the laws' own helpers: copies, comparisons, sizes. Written by genul.py. -/
import Derived.Test.YtdkmmefmhfbgkaaEv
import Derived.Test.YtdkmmefmhfbgkaaArgs
set_option linter.unusedVariables false
set_option linter.unusedSimpArgs false
namespace Go.Proofs.Ytdkmmefmhfbgkaa.U
open Go.RowKit Go.Proofs.YtdkmmefmhfbgkaaW.PrintWords Go.Proofs.YtdkmmefmhfbgkaaW.PrintLast Go.Proofs.YtdkmmefmhfbgkaaW.PrintMore Go.Proofs.Ytdkmmefmhfbgkaa.P Go.Proofs.Ytdkmmefmhfbgkaa.Open
theorem rd91 (l : List S91) (i : Nat) (h : i < l.length) : rd_T91 l (i : Int) = l[i] := by
  unfold rd_T91; simp [List.getD_eq_getElem?_getD, List.getElem?_eq_getElem h]
theorem rd89 (l : List S89) (i : Nat) (h : i < l.length) : rd_T89 l (i : Int) = l[i] := by
  unfold rd_T89; simp [List.getD_eq_getElem?_getD, List.getElem?_eq_getElem h]
theorem rd117 (l : List S117) (i : Nat) (h : i < l.length) : rd_T117 l (i : Int) = l[i] := by
  unfold rd_T117; simp [List.getD_eq_getElem?_getD, List.getElem?_eq_getElem h]
theorem rd115 (l : List S115) (i : Nat) (h : i < l.length) : rd_T115 l (i : Int) = l[i] := by
  unfold rd_T115; simp [List.getD_eq_getElem?_getD, List.getElem?_eq_getElem h]
end Go.Proofs.Ytdkmmefmhfbgkaa.U
