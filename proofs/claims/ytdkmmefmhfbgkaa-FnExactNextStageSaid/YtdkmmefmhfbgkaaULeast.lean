/- The least green of a stage: the program's way and the reference's. -/
import Derived.Test.YtdkmmefmhfbgkaaFX00c
import Derived.Test.YtdkmmefmhfbgkaaUFind
set_option linter.unusedVariables false
set_option linter.unusedSimpArgs false
namespace Go.Proofs.Ytdkmmefmhfbgkaa.U
open Go.RowKit Go.Proofs.YtdkmmefmhfbgkaaW.PrintWords Go.Proofs.YtdkmmefmhfbgkaaW.PrintLast Go.Proofs.Ytdkmmefmhfbgkaa.P
def isWalk (l : List S89) (id : Int) : Prop := 0 ≤ impl_FindPath.ix id l 0 ∧ (rd_T89 l (impl_FindPath.ix id l 0)).f1 = 2
noncomputable def leastG (l : List S89) (st : List Int) : Int := if bo (∀ i : Nat, i < st.length → ¬ isWalk l (rd st (i : Int))) = true then 5 else 7
theorem leastG_t {l : List S89} {st : List Int} (h : ∀ i : Nat, i < st.length → ¬ isWalk l (rd st (i : Int))) : leastG l st = 5 := if_pos (bo_t h)
theorem leastG_f {l : List S89} {st : List Int} (h : ¬ ∀ i : Nat, i < st.length → ¬ isWalk l (rd st (i : Int))) : leastG l st = 7 := if_neg (by rw [bo_f h]; decide)
end Go.Proofs.Ytdkmmefmhfbgkaa.U
