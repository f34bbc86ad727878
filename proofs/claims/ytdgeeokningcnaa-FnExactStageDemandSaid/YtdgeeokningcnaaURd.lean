/- Lemmas on the laws' own helpers: copies, comparisons, sizes. Written by genul.py. -/
import Derived.Test.YtdgeeokningcnaaEv
import Derived.Test.YtdgeeokningcnaaArgs
set_option linter.unusedVariables false
set_option linter.unusedSimpArgs false
namespace Go.Proofs.Ytdgeeokningcnaa.U
open Go.RowKit Go.Proofs.YtdgeeokningcnaaW.PrintWords Go.Proofs.YtdgeeokningcnaaW.PrintLast Go.Proofs.YtdgeeokningcnaaW.PrintMore Go.Proofs.Ytdgeeokningcnaa.P Go.Proofs.Ytdgeeokningcnaa.Open
theorem rd94 (l : List S94) (i : Nat) (h : i < l.length) : rd_T94 l (i : Int) = l[i] := by
  unfold rd_T94; simp [List.getD_eq_getElem?_getD, List.getElem?_eq_getElem h]
theorem rd92 (l : List S92) (i : Nat) (h : i < l.length) : rd_T92 l (i : Int) = l[i] := by
  unfold rd_T92; simp [List.getD_eq_getElem?_getD, List.getElem?_eq_getElem h]
theorem rd23 (l : List S23) (i : Nat) (h : i < l.length) : rd_T23 l (i : Int) = l[i] := by
  unfold rd_T23; simp [List.getD_eq_getElem?_getD, List.getElem?_eq_getElem h]
theorem rd25 (l : List S25) (i : Nat) (h : i < l.length) : rd_T25 l (i : Int) = l[i] := by
  unfold rd_T25; simp [List.getD_eq_getElem?_getD, List.getElem?_eq_getElem h]
theorem rd88 (l : List S88) (i : Nat) (h : i < l.length) : rd_T88 l (i : Int) = l[i] := by
  unfold rd_T88; simp [List.getD_eq_getElem?_getD, List.getElem?_eq_getElem h]
theorem rd86 (l : List S86) (i : Nat) (h : i < l.length) : rd_T86 l (i : Int) = l[i] := by
  unfold rd_T86; simp [List.getD_eq_getElem?_getD, List.getElem?_eq_getElem h]
theorem rd98 (l : List S98) (i : Nat) (h : i < l.length) : rd_T98 l (i : Int) = l[i] := by
  unfold rd_T98; simp [List.getD_eq_getElem?_getD, List.getElem?_eq_getElem h]
theorem rd99 (l : List S99) (i : Nat) (h : i < l.length) : rd_T99 l (i : Int) = l[i] := by
  unfold rd_T99; simp [List.getD_eq_getElem?_getD, List.getElem?_eq_getElem h]
end Go.Proofs.Ytdgeeokningcnaa.U
