/- The small functions: ranges, the greater and the smaller of two. -/
import Derived.Test.YtjgonpcajedkjaaGreatFX00
import Derived.Test.YtjgonpcajedkjaaGreatFX00b
import Derived.Test.YtjgonpcajedkjaaGreatFX00c
import Derived.Test.YtjgonpcajedkjaaGreatEv
set_option linter.unusedVariables false
set_option linter.unusedSimpArgs false
namespace Go.Proofs.YtjgonpcajedkjaaGreat.U
open Go.RowKit Go.Proofs.YtjgonpcajedkjaaGreatW.PrintWords Go.Proofs.YtjgonpcajedkjaaGreatW.PrintLast Go.Proofs.YtjgonpcajedkjaaGreat.P
theorem spec_l1In_eq (a b c:Int):spec_l1In.f a b c=some (decide (b≤a∧a≤c)):=by
  unfold spec_l1In.f
  by_cases h:a≥b
  · rw [if_pos h];congr 1;simp;omega
  · rw [if_neg h];congr 1;simp;omega
theorem impl_InRange_eq (a b c:Int):impl_InRange.f a b c=some (decide (b≤a∧a≤c)):=by
  unfold impl_InRange.f
  by_cases h:b≤a
  · rw [if_pos h];congr 1;simp;omega
  · rw [if_neg h];congr 1;simp;omega
theorem spec_Max_eq (a b:Int):spec_Max.f a b=some (max a b):=by
  unfold spec_Max.f
  by_cases h:b > a
  · rw [if_pos h];congr 1;omega
  · rw [if_neg h];congr 1;omega
theorem spec_Min_eq (a b:Int):spec_Min.f a b=some (min a b):=by
  unfold spec_Min.f
  by_cases h:b < a
  · rw [if_pos h];congr 1;omega
  · rw [if_neg h];congr 1;omega
theorem mx_eq (a b:Int):mx a b=max a b:=by unfold mx;omega
theorem mn_eq (a b:Int):mn a b=min a b:=by unfold mn;omega
end Go.Proofs.YtjgonpcajedkjaaGreat.U
