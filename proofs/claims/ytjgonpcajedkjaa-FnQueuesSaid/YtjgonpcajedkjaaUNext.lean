/- The next green second, the worst wait, all lights of a second: the program's way and the reference's. -/
import Derived.Test.YtjgonpcajedkjaaUTimes
set_option linter.unusedVariables false
set_option linter.unusedSimpArgs false
namespace Go.Proofs.Ytjgonpcajedkjaa.U
open Go.RowKit Go.Proofs.YtjgonpcajedkjaaW.PrintWords Go.Proofs.YtjgonpcajedkjaaW.PrintLast Go.Proofs.Ytjgonpcajedkjaa.P
/-- The longest of the first i paths' waits. -/
noncomputable def wwN (l : List S50) (p : List S85) : Nat → Int
  | 0 => 0
  | i + 1 => max (wwN l p i) (waitV (rowV l p (rd_T50 l (i : Int)).f0))
theorem wwN_none {l : List S50} {p : List S85} (h : ¬ plan l p = true) : ∀ i, wwN l p i = 0
  | 0 => rfl
  | i + 1 => by
    rw [wwN, wwN_none h i, rowV_f (fun c => h c.1)]
    rfl
/-- All lights of a second. -/
noncomputable def lightsV (l : List S50) (p : List S85) (a : Int) (n : Nat) : List Int := (List.range n).map (fun i : Nat => laV l p a (rd_T50 l (i : Int)).f0)
theorem lightsV_len (l : List S50) (p : List S85) (a : Int) (n : Nat) : (lightsV l p a n).length = n := by simp [lightsV]
theorem lightsV_succ (l : List S50) (p : List S85) (a : Int) (n : Nat) : lightsV l p a (n + 1) = lightsV l p a n ++ [laV l p a (rd_T50 l (n : Int)).f0] := by
  unfold lightsV; rw [List.range_succ, List.map_append]; rfl
end Go.Proofs.Ytjgonpcajedkjaa.U
