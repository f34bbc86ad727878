/- Green seconds of a cycle, how long one waits between them, and lights that are safe. -/
import Derived.Test.YtjgonpcajedkjaaFX00b
import Derived.Test.YtjgonpcajedkjaaUTimes
import Derived.Test.YtjgonpcajedkjaaUNext
import Derived.Test.YtjgonpcajedkjaaUSafe
import Derived.Test.YtjgonpcajedkjaaUStage
import Derived.Test.YtjgonpcajedkjaaUHelp
set_option linter.unusedVariables false
set_option linter.unusedSimpArgs false
namespace Go.Proofs.Ytjgonpcajedkjaa.U
open Go.RowKit Go.Proofs.YtjgonpcajedkjaaW.PrintWords Go.Proofs.YtjgonpcajedkjaaW.PrintLast Go.Proofs.Ytjgonpcajedkjaa.P
/-- How many of the first k seconds, cycle after cycle, are green. -/
def gs (r : List Int) : Nat → Int
  | 0 => 0
  | k + 1 => if rd r (Int.tmod (k : Int) (r.length : Int)) = 1 then gs r k + 1 else gs r k
theorem gcnt_ge (r : List Int) (a : Nat) : ∀ n : Nat, (∀ i : Nat, a ≤ i → i < a + n → rd r (i : Int) = 1) → gcnt r a + n ≤ gcnt r (a + n)
  | 0, _ => by simp
  | n + 1, h => by
    have h1 := gcnt_ge r a n (fun i h2 h3 => h i h2 (by omega))
    have h4 := h (a + n) (by omega) (by omega)
    rw [show a + (n + 1) = a + n + 1 by omega, gcnt_t h4]; omega
theorem gcnt_mono (r : List Int) (a : Nat) : ∀ n : Nat, gcnt r a ≤ gcnt r (a + n)
  | 0 => Int.le_refl _
  | n + 1 => by
    have h1 := gcnt_mono r a n
    rw [show a + (n + 1) = a + n + 1 by omega]
    by_cases c : rd r ((a + n : Nat) : Int) = 1
    · rw [gcnt_t c]; omega
    · rw [gcnt_f c]; exact h1
theorem green_ge {l : List S50} {p : List S85} (hp : plan l p = true) {m : Nat} (hm : m < p.length) {id : Int} (hr : hasRow l p id) (hid : id ∈ (rd_T85 p (m : Int)).f0) : 5 ≤ greenV l p id := by
  have rl := rowV_len hr
  have pb := part_bound hp hm
  have cb := cyc_bound hp m (by omega)
  have cm := cyc_mono hp (p.length - (m + 1)) (m + 1) (by omega)
  rw [show m + 1 + (p.length - (m + 1)) = p.length by omega, cyc_succ] at cm
  have ce : longV l p (m : Int) = (rd_T85 p (m : Int)).f1 + clN l p (m : Int) := rfl
  have c0 : 0 ≤ clN l p (m : Int) := (clearB_bound l _ _).1
  have g1 := gcnt_ge (rowV l p id) (cyc l p m).toNat 5 (fun i h1 h2 => by
    have e : (i : Int) = cyc l p m + ((i : Int) - cyc l p m) := by omega
    rw [e, rowV_t hr, rowN_rd hp id (by omega) (by omega) p.length hm (Nat.le_refl _)]
    exact lv_1 hid (.inl (by omega)))
  have g2 := gcnt_mono (rowV l p id) ((cyc l p m).toNat + 5) ((rowV l p id).length - ((cyc l p m).toNat + 5))
  rw [show (cyc l p m).toNat + 5 + ((rowV l p id).length - ((cyc l p m).toNat + 5)) = (rowV l p id).length by omega] at g2
  have g3 := (gcnt_bound (rowV l p id) (cyc l p m).toNat).1
  unfold greenV
  omega
theorem in_stage {l : List S50} {p : List S85} (hp : plan l p = true) {k : Nat} (hk : k < l.length) : ∃ m : Nat, m < p.length ∧ (rd_T50 l (k : Int)).f0 ∈ (rd_T85 p (m : Int)).f0 := by
  have pl := plan_len hp
  rw [plan_t (by omega), Bool.and_eq_true] at hp
  have h2 := hp.2
  unfold cov at h2
  simp only [Bool.and_eq_true] at h2
  have h3 := bo_iff.1 h2.2.1 k hk
  unfold cvC at h3
  obtain ⟨j, h4, h5⟩ := (cf_iff _ _ _).1 h3
  rw [stgs_len] at h4
  rw [stgs_rd p j h4] at h5
  exact ⟨j, h4, h5⟩
end Go.Proofs.Ytjgonpcajedkjaa.U
