/- The paths without a trusted count: the program's way and the reference's. -/
import Derived.Test.YtjgonpcajedkjaaFX00b
import Derived.Test.YtjgonpcajedkjaaUTrust
set_option linter.unusedVariables false
set_option linter.unusedSimpArgs false
namespace Go.Proofs.Ytjgonpcajedkjaa.U
open Go.RowKit Go.Proofs.YtjgonpcajedkjaaW.PrintWords Go.Proofs.YtjgonpcajedkjaaW.PrintLast Go.Proofs.Ytjgonpcajedkjaa.P
def blind (l : List S50) (d : List S120) : Nat → List Int
  | 0 => []
  | i + 1 => if impl_trusted.ix (rd_T50 l (i : Int)).f0 d 0 < 0 then blind l d i ++ [(rd_T50 l (i : Int)).f0] else blind l d i
theorem blind_t {l : List S50} {d : List S120} {i : Nat} (h : impl_trusted.ix (rd_T50 l (i : Int)).f0 d 0 < 0) : blind l d (i + 1) = blind l d i ++ [(rd_T50 l (i : Int)).f0] := by rw [blind, if_pos h]
theorem blind_f {l : List S50} {d : List S120} {i : Nat} (h : ¬ impl_trusted.ix (rd_T50 l (i : Int)).f0 d 0 < 0) : blind l d (i + 1) = blind l d i := by rw [blind, if_neg h]
theorem blind_len (l : List S50) (d : List S120) : ∀ i, (blind l d i).length ≤ i
  | 0 => by simp [blind]
  | i + 1 => by
    have := blind_len l d i
    by_cases h : impl_trusted.ix (rd_T50 l (i : Int)).f0 d 0 < 0
    · rw [blind_t h, List.length_append]; simp; omega
    · rw [blind_f h]; omega
theorem impl_trusted_eq (d : List S120) (id : Int) : impl_trusted.f d id = some (impl_trusted.ix id d 0) := rfl
theorem impl_blindPaths (l : List S50) (d : List S120) (h : l.length ≤ 1048576) : Ev (fun k => impl_BlindPaths.f k l d) (blind l d l.length) := by
  unfold impl_BlindPaths.f
  refine ev_for0 (F := fun k i => impl_BlindPaths.l0 k d (blind l d i) l (l.length : Int) (i : Int)) l.length (fun i hi ih => ?_) ?_
  · have hb := blind_len l d i
    have hb2 : (blind l d i).length < 17592186044416 := by omega
    refine Ev.step (fun k => by rw [impl_BlindPaths.l0]) (ev_t (by omega) (ev_t (by omega) (ev_t (by omega) (ev_call (impl_trusted_eq d _) ?_))))
    rw [w_succ hi (by omega)]
    by_cases c : impl_trusted.ix (rd_T50 l (i : Int)).f0 d 0 < 0
    · rw [blind_t c] at ih
      exact ev_t c (ev_t hb2 ih)
    · rw [blind_f c] at ih
      exact ev_f c ih
  · refine Ev.step (fun k => by rw [impl_BlindPaths.l0]) ?_
    exact ev_f (by omega) (Ev.now _)
end Go.Proofs.Ytjgonpcajedkjaa.U
