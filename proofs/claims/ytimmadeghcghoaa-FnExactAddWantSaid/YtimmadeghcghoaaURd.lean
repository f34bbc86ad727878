/- Lemmas on the laws' own helpers: copies, comparisons, sizes. Written by genul.py. -/
import Derived.Test.YtimmadeghcghoaaEv
import Derived.Test.YtimmadeghcghoaaArgs
set_option linter.unusedVariables false
set_option linter.unusedSimpArgs false
namespace Go.Proofs.Ytimmadeghcghoaa.U
open Go.RowKit Go.Proofs.YtimmadeghcghoaaW.PrintWords Go.Proofs.YtimmadeghcghoaaW.PrintLast Go.Proofs.YtimmadeghcghoaaW.PrintMore Go.Proofs.Ytimmadeghcghoaa.P Go.Proofs.Ytimmadeghcghoaa.Open
theorem rd92 (l : List S92) (i : Nat) (h : i < l.length) : rd_T92 l (i : Int) = l[i] := by
  unfold rd_T92; simp [List.getD_eq_getElem?_getD, List.getElem?_eq_getElem h]
theorem rd90 (l : List S90) (i : Nat) (h : i < l.length) : rd_T90 l (i : Int) = l[i] := by
  unfold rd_T90; simp [List.getD_eq_getElem?_getD, List.getElem?_eq_getElem h]
theorem rd94 (l : List S94) (i : Nat) (h : i < l.length) : rd_T94 l (i : Int) = l[i] := by
  unfold rd_T94; simp [List.getD_eq_getElem?_getD, List.getElem?_eq_getElem h]
theorem rd87 (l : List S87) (i : Nat) (h : i < l.length) : rd_T87 l (i : Int) = l[i] := by
  unfold rd_T87; simp [List.getD_eq_getElem?_getD, List.getElem?_eq_getElem h]
end Go.Proofs.Ytimmadeghcghoaa.U
