/- Printed by myprint.py (wip/tools) over the kit's print: what Go's functions compute, and that they do. Lean checks it. -/
import Derived.Test.YtimmadeghcghoaaF0
import Derived.Test.YtimmadeghcghoaaFI05
namespace Go.Proofs.Ytimmadeghcghoaa.P
open Go.RowKit Go.Proofs.YtimmadeghcghoaaW.PrintWords Go.Proofs.YtimmadeghcghoaaW.PrintLast Go.Proofs.YtimmadeghcghoaaW.PrintMore Go.Proofs.Ytimmadeghcghoaa.Sq
attribute [local go_sem] max2_int min2_int max_two min_two max_three min_three max_four min_four
set_option linter.unusedVariables false
set_option linter.unusedSimpArgs false

/-! ### impl_LeastGreen: function 103 -/
def impl_LeastGreen.l0 : Nat → List (S90) → List Int → Int → Int → Option (Int)
  | 0, _, _, _, _ => none
  | k + 1, x0, x8, x9, x10 => if x10 < x9 then (if 0 ≤ x10 then (if x10 < (x8.length : Int) then ((impl_FindPath.f x0 (rd x8 x10)).bind fun t838 => (if t838 ≥ 0 then (if 0 ≤ t838 then (if t838 < (x0.length : Int) then (if ((rd_T90 x0 t838).f1) = 2 then (some 7) else (impl_LeastGreen.l0 k x0 x8 x9 (wrap64 (x10 + 1)))) else (none)) else (none)) else (impl_LeastGreen.l0 k x0 x8 x9 (wrap64 (x10 + 1))))) else (none)) else (none)) else (some 5)
def impl_LeastGreen.f (k : Nat) (l0 : List (S90)) (l1 : List Int) : Option (Int) := impl_LeastGreen.l0 k l0 l1 (l1.length : Int) 0
theorem impl_LeastGreen.mono_l : ∀ k, (∀ y0 y1 y2 y3, LeO (impl_LeastGreen.l0 k y0 y1 y2 y3) (impl_LeastGreen.l0 (k + 1) y0 y1 y2 y3))
  | 0 => fun _ _ _ _ r h => by simp [impl_LeastGreen.l0] at h
  | k + 1 => by
    have ih0 := impl_LeastGreen.mono_l k
    · intro y0 y1 y2 y3
      unfold impl_LeastGreen.l0
      repeat' first | (with_reducible first | exact LeO.refl _ | exact LeO.none _ | refine LeO.ite ?_ ?_ | refine LeO.bind ?_ (fun _ => ?_) | exact ih0 _ _ _ _) | exact LeO.none _ | refine LeO.ite ?_ ?_ | refine LeO.bind ?_ (fun _ => ?_) | exact ih0 _ _ _ _
theorem impl_LeastGreen.mono : ∀ a0 a1 k, LeO (impl_LeastGreen.f k a0 a1) (impl_LeastGreen.f (k + 1) a0 a1) := by
  intro a0 a1 k
  have ih0 := impl_LeastGreen.mono_l k
  unfold impl_LeastGreen.f
  repeat' first | (with_reducible first | exact LeO.refl _ | exact LeO.none _ | refine LeO.ite ?_ ?_ | refine LeO.bind ?_ (fun _ => ?_) | exact ih0 _ _ _ _) | exact LeO.none _ | refine LeO.ite ?_ ?_ | refine LeO.bind ?_ (fun _ => ?_) | exact ih0 _ _ _ _
set_option maxHeartbeats 8000000 in
set_option maxRecDepth 100000 in
theorem impl_LeastGreen.calls (k : Nat) (A0 : Option Addr) (c0 : Nat) (l0 : List (S90)) (A1 : Option Addr) (c1 : Nat) (l1 : List Int) (r : Int) (w : World) (hr0 : Kd.C k90 w A0 l0.length l0) (hc0 : l0.length ≤ c0) (hr1 : Kd.C (Kd.int .i64) w A1 l1.length l1) (hc1 : l1.length ≤ c1) (h : impl_LeastGreen.f k l0 l1 = some r) :
    Calls Try.prog 103 #[.slice A0 l0.length c0, .slice A1 l1.length c1] w fun e w' => e = .returned (.int .i64 r) ∧ Below w.heap.size w w' := by
  have HR0 := Aside0.mk hr0
  have HC0 := Aside0.mk hc0
  clear hr0 hc0
  have HR1 := Aside0.mk hr1
  have HC1 := Aside0.mk hc1
  clear hr1 hc1
  have HB := Aside0.mk (Below.refl w.heap.size w)
  have H : (impl_LeastGreen.l0 k l0 l1 (l1.length : Int) 0) = some r := h
  clear h
  have H' := Aside0.mk H
  clear H
  go_enter Try.func103, Try.ntmps103
  go_wp2
  go_loopg [10] k (fun kq v10 w' => ∃ (x10_1 : Int), v10 = .int .i64 x10_1 ∧ Aside0 (impl_LeastGreen.l0 kq l0 l1 (l1.length : Int) x10_1 = some r) ∧ Aside0 (kq ≤ k) ∧ Aside0 (Below w.heap.size w w'))
  case atStart => exact ⟨(0), rS, H', ⟨Nat.le_refl _⟩, ⟨bA⟩⟩
  case round =>
    clear H'
    try clear c1
    try clear p2
    obtain ⟨x10_1, rfl, HA, HK1, HB⟩ := hrel
    cases gk with
    | zero => exact absurd HA.out (by simp [impl_LeastGreen.l0])
    | succ k1 =>
      have H := HA.out
      clear HA
      simp only [impl_LeastGreen.l0] at H
      by_cases c3 : x10_1 < (l1.length : Int)
      · rw [if_pos c3] at H
        have c3b0 : decide (x10_1 < (l1.length : Int)) = true := decide_eq_true c3
        clear c3
        have c4 : 0 ≤ x10_1 := ifN H
        replace H := ifT H
        have c4b0 : decide (0 ≤ x10_1) = true := decide_eq_true c4
        clear c4
        have c5 : x10_1 < (l1.length : Int) := ifN H
        replace H := ifT H
        have c5b0 : decide (x10_1 < (l1.length : Int)) = true := decide_eq_true c5
        clear c5
        obtain ⟨t838, A6, H⟩ := bindE H
        try dsimp only at H
        by_cases c7 : t838 ≥ 0
        · rw [if_pos c7] at H
          have c7b0 : decide (0 ≤ t838) = true := decide_eq_true c7
          clear c7
          have c8 : 0 ≤ t838 := ifN H
          replace H := ifT H
          have c8b0 : decide (0 ≤ t838) = true := decide_eq_true c8
          clear c8
          have c9 : t838 < (l0.length : Int) := ifN H
          replace H := ifT H
          have c9b0 : decide (t838 < (l0.length : Int)) = true := decide_eq_true c9
          clear c9
          by_cases c10 : ((rd_T90 l0 t838).f1) = 2
          · rw [if_pos c10] at H
            have c10b0 : (((rd_T90 l0 t838).f1) == 2) = true := beq_iff_eq.mpr c10
            have c10b1 : (((rd_T90 l0 t838).f1) != 2) = false := bne_eq_false_iff_eq.mpr c10
            clear c10
            obtain rfl := Option.some.inj H
            have p837 : 0 ≤ (x10_1 : Int) := dA
            have q837 : x10_1 < (l1.length : Int) := dA
            obtain ⟨ad837, e837, hx837_0⟩ := Kd.at_int HR1.out x10_1 p837 q837
            cases e837
            replace hx837_0 := hC HB hx837_0
            replace p837 := eq_true p837
            replace q837 := eq_true q837
            go_wp2_with (first | ((with_reducible refine gate_callee (f := 84) rfl ?_); refine gL (some 16) Try.func84 #[.slice A0 l0.length c0, .int .i64 (rd l1 x10_1)] ?_; (with_reducible refine (impl_FindPath.calls _ _ l0 (rd l1 x10_1) t838 _ ?side1 ?side2 A6.out).mono ?_); (case side1 => exact cB HR0); (case side2 => exact HC0.out); rintro e w11 ⟨rfl, hb⟩; refine ⟨_, rfl, ?_⟩; replace HB := Aside0.mk (below_step bA hb); (try clear hb); (try clear hb2); (try clear hk); (try clear hi); have p839 : 0 ≤ (t838 : Int) := dA; have q839 : t838 < (l0.length : Int) := dA; obtain ⟨ad839, e839, hx839_0, hx839_1, hx839_2, hx839_3⟩ := at_T90 HR0.out t838 p839 q839; cases e839; replace hx839_0 := hC HB hx839_0; replace hx839_1 := hC HB hx839_1; replace hx839_2 := hC HB hx839_2; replace hx839_3 := hC HB hx839_3; replace p839 := eq_true p839; replace q839 := eq_true q839))
            go_ret
            exact ⟨rA, bA⟩
          · rw [if_neg c10] at H
            have c10b0 : (((rd_T90 l0 t838).f1) == 2) = false := beq_eq_false_iff_ne.mpr c10
            have c10b1 : (((rd_T90 l0 t838).f1) != 2) = true := bne_iff_ne.mpr c10
            have H' := Aside0.mk H
            clear H
            have p837 : 0 ≤ (x10_1 : Int) := dA
            have q837 : x10_1 < (l1.length : Int) := dA
            obtain ⟨ad837, e837, hx837_0⟩ := Kd.at_int HR1.out x10_1 p837 q837
            cases e837
            replace hx837_0 := hC HB hx837_0
            replace p837 := eq_true p837
            replace q837 := eq_true q837
            go_wp2_with (first | ((with_reducible refine gate_callee (f := 84) rfl ?_); refine gL (some 16) Try.func84 #[.slice A0 l0.length c0, .int .i64 (rd l1 x10_1)] ?_; (with_reducible refine (impl_FindPath.calls _ _ l0 (rd l1 x10_1) t838 _ ?side1 ?side2 A6.out).mono ?_); (case side1 => exact cB HR0); (case side2 => exact HC0.out); rintro e w12 ⟨rfl, hb⟩; refine ⟨_, rfl, ?_⟩; replace HB := Aside0.mk (below_step bA hb); (try clear hb); (try clear hb2); (try clear hk); (try clear hi); have p839 : 0 ≤ (t838 : Int) := dA; have q839 : t838 < (l0.length : Int) := dA; obtain ⟨ad839, e839, hx839_0, hx839_1, hx839_2, hx839_3⟩ := at_T90 HR0.out t838 p839 q839; cases e839; replace hx839_0 := hC HB hx839_0; replace hx839_1 := hC HB hx839_1; replace hx839_2 := hC HB hx839_2; replace hx839_3 := hC HB hx839_3; replace p839 := eq_true p839; replace q839 := eq_true q839))
            go_roundg k1
            case measure => have := HK1.out; omega
            case rel => exact ⟨(wrap64 (x10_1 + 1)), rS, H', ⟨by have := HK1.out; omega⟩, ⟨bA⟩⟩
        · rw [if_neg c7] at H
          have c7b0 : decide (0 ≤ t838) = false := decide_eq_false c7
          clear c7
          have H' := Aside0.mk H
          clear H
          have p837 : 0 ≤ (x10_1 : Int) := dA
          have q837 : x10_1 < (l1.length : Int) := dA
          obtain ⟨ad837, e837, hx837_0⟩ := Kd.at_int HR1.out x10_1 p837 q837
          cases e837
          replace hx837_0 := hC HB hx837_0
          replace p837 := eq_true p837
          replace q837 := eq_true q837
          go_wp2_with (first | ((with_reducible refine gate_callee (f := 84) rfl ?_); refine gL (some 16) Try.func84 #[.slice A0 l0.length c0, .int .i64 (rd l1 x10_1)] ?_; (with_reducible refine (impl_FindPath.calls _ _ l0 (rd l1 x10_1) t838 _ ?side1 ?side2 A6.out).mono ?_); (case side1 => exact cB HR0); (case side2 => exact HC0.out); rintro e w13 ⟨rfl, hb⟩; refine ⟨_, rfl, ?_⟩; replace HB := Aside0.mk (below_step bA hb); (try clear hb); (try clear hb2); (try clear hk); (try clear hi)))
          go_roundg k1
          case measure => have := HK1.out; omega
          case rel => exact ⟨(wrap64 (x10_1 + 1)), rS, H', ⟨by have := HK1.out; omega⟩, ⟨bA⟩⟩
      · rw [if_neg c3] at H
        have c3b0 : decide (x10_1 < (l1.length : Int)) = false := decide_eq_false c3
        clear c3
        obtain rfl := Option.some.inj H
        go_wp2
        go_ret
        exact ⟨rA, bA⟩

end Go.Proofs.Ytimmadeghcghoaa.P
