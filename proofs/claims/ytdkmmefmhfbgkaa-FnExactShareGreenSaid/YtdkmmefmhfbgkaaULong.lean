/- How long a part of a plan lasts, the cycle, where a part starts: the program's way and the reference's. -/
import Derived.Test.YtdkmmefmhfbgkaaFX00b
import Derived.Test.YtdkmmefmhfbgkaaFX00d
import Derived.Test.YtdkmmefmhfbgkaaUPlan
import Derived.Test.YtdkmmefmhfbgkaaUClear
set_option linter.unusedVariables false
set_option linter.unusedSimpArgs false
namespace Go.Proofs.Ytdkmmefmhfbgkaa.U
open Go.RowKit Go.Proofs.YtdkmmefmhfbgkaaW.PrintWords Go.Proofs.YtdkmmefmhfbgkaaW.PrintLast Go.Proofs.Ytdkmmefmhfbgkaa.P
theorem leastG_bound (l : List S89) (s : List Int) : 5 ≤ leastG l s ∧ leastG l s ≤ 7 := by
  by_cases h : ∀ i : Nat, i < s.length → ¬ isWalk l (rd s (i : Int))
  · rw [leastG_t h]; omega
  · rw [leastG_f h]; omega
/-- Lists of a size that fits, and a plan in form. -/
structure PW (l : List S89) (p : List S92) : Prop where
  hl : l.length ≤ 1048576
  hp : p.length ≤ 1048576
  hx : ∀ i : Nat, i < p.length → (rd_T92 p (i : Int)).f0.length ≤ 1048576
def nx (p : List S92) (i : Int) : Int := Int.tmod (i + 1) (p.length : Int)
theorem nx_bound {p : List S92} {i : Nat} (hi : i < p.length) : 0 ≤ nx p (i : Int) ∧ nx p (i : Int) < p.length :=
  ⟨Int.tmod_nonneg _ (by omega), Int.tmod_lt_of_pos _ (by omega)⟩
noncomputable def clN (l : List S89) (p : List S92) (i : Int) : Int := clearB l (rd_T92 p i).f0 (rd_T92 p (nx p i)).f0
noncomputable def longV (l : List S89) (p : List S92) (i : Int) : Int := (rd_T92 p i).f1 + clN l p i
theorem spec_clear_next {l : List S89} {p : List S92} (w : PW l p) {i : Nat} (hi : i < p.length) : Ev (fun k => spec_ClearBetween.f k l (rd_T92 p (i : Int)).f0 (rd_T92 p (nx p (i : Int))).f0) (clN l p (i : Int)) := by
  have b := nx_bound hi
  have h2 := w.hx (nx p (i : Int)).toNat (by omega)
  rw [Int.toNat_of_nonneg b.1] at h2
  exact spec_clearBetween l _ _ w.hl (w.hx i hi) h2
theorem impl_clear_next {l : List S89} {p : List S92} (w : PW l p) {i : Nat} (hi : i < p.length) : Ev (fun k => impl_ClearBetween.f k l (rd_T92 p (i : Int)).f0 (rd_T92 p (nx p (i : Int))).f0) (clN l p (i : Int)) := by
  have b := nx_bound hi
  have h2 := w.hx (nx p (i : Int)).toNat (by omega)
  rw [Int.toNat_of_nonneg b.1] at h2
  exact impl_clearBetween l _ _ w.hl (w.hx i hi) h2
theorem part_bound {l : List S89} {p : List S92} (h : plan l p = true) {i : Nat} (hi : i < p.length) : 5 ≤ (rd_T92 p (i : Int)).f1 ∧ (rd_T92 p (i : Int)).f1 ≤ 60 := by
  obtain ⟨_, _, h3, h4⟩ := plan_at h hi
  have := leastG_bound l (rd_T92 p (i : Int)).f0
  omega
theorem long_bound {l : List S89} {p : List S92} (h : plan l p = true) {i : Nat} (hi : i < p.length) : 5 ≤ longV l p (i : Int) ∧ longV l p (i : Int) ≤ 65 := by
  have h1 := part_bound h hi
  have h2 := clearB_bound l (rd_T92 p (i : Int)).f0 (rd_T92 p (nx p (i : Int))).f0
  unfold longV clN
  omega
theorem impl_long {l : List S89} {p : List S92} (w : PW l p) (h : plan l p = true) {i : Nat} (hi : i < p.length) : Ev (fun k => impl_longOf.f k l p (i : Int)) (longV l p (i : Int)) := by
  have b := nx_bound hi
  have lb := long_bound h hi
  have hp := w.hp
  have hn : impl_nextStage.f p (i : Int) = some (rd_T92 p (nx p (i : Int))).f0 := by
    unfold impl_nextStage.f
    rw [w64 (n := (i : Int) + 1) (by omega) (by omega), if_neg (by omega), if_pos (show 0 ≤ Int.tmod ((i : Int) + 1) (p.length : Int) from b.1), if_pos (show Int.tmod ((i : Int) + 1) (p.length : Int) < (p.length : Int) from b.2)]
    rfl
  unfold impl_longOf.f
  refine ev_t (by omega) (ev_t (by omega) (ev_call hn (Ev.bind (impl_clear_next w hi) ?_)))
  exact ev_now (w64 (n := longV l p (i : Int)) (by omega) (by omega))
end Go.Proofs.Ytdkmmefmhfbgkaa.U
