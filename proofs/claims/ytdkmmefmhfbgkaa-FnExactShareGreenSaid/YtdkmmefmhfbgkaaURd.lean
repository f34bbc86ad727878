/- Lemmas on the laws' own helpers: copies, comparisons, sizes. Written by genul.py. -/
import Derived.Test.YtdkmmefmhfbgkaaEv
import Derived.Test.YtdkmmefmhfbgkaaArgs
set_option linter.unusedVariables false
set_option linter.unusedSimpArgs false
namespace Go.Proofs.Ytdkmmefmhfbgkaa.U
open Go.RowKit Go.Proofs.YtdkmmefmhfbgkaaW.PrintWords Go.Proofs.YtdkmmefmhfbgkaaW.PrintLast Go.Proofs.YtdkmmefmhfbgkaaW.PrintMore Go.Proofs.Ytdkmmefmhfbgkaa.P Go.Proofs.Ytdkmmefmhfbgkaa.Open
theorem rd91 (l : List S91) (i : Nat) (h : i < l.length) : rd_T91 l (i : Int) = l[i] := by
  unfold rd_T91; simp [List.getD_eq_getElem?_getD, List.getElem?_eq_getElem h]
theorem rd130 (l : List S130) (i : Nat) (h : i < l.length) : rd_T130 l (i : Int) = l[i] := by
  unfold rd_T130; simp [List.getD_eq_getElem?_getD, List.getElem?_eq_getElem h]
theorem rd128 (l : List S128) (i : Nat) (h : i < l.length) : rd_T128 l (i : Int) = l[i] := by
  unfold rd_T128; simp [List.getD_eq_getElem?_getD, List.getElem?_eq_getElem h]
theorem rd85 (l : List S85) (i : Nat) (h : i < l.length) : rd_T85 l (i : Int) = l[i] := by
  unfold rd_T85; simp [List.getD_eq_getElem?_getD, List.getElem?_eq_getElem h]
theorem rd92 (l : List S92) (i : Nat) (h : i < l.length) : rd_T92 l (i : Int) = l[i] := by
  unfold rd_T92; simp [List.getD_eq_getElem?_getD, List.getElem?_eq_getElem h]
end Go.Proofs.Ytdkmmefmhfbgkaa.U
