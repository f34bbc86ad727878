/- Printed by myprint.py (wip/tools) over the kit's print: what Go's functions compute, and that they do. Lean checks it. -/
import Derived.Test.YtbpnbflfpgakmaaF0
import Derived.Test.YtbpnbflfpgakmaaFI01
import Derived.Test.YtbpnbflfpgakmaaFI08
import Derived.Test.YtbpnbflfpgakmaaFI09
namespace Go.Proofs.Ytbpnbflfpgakmaa.P
open Go.RowKit Go.Proofs.YtbpnbflfpgakmaaW.PrintWords Go.Proofs.YtbpnbflfpgakmaaW.PrintLast Go.Proofs.YtbpnbflfpgakmaaW.PrintMore Go.Proofs.Ytbpnbflfpgakmaa.Sq
attribute [local go_sem] max2_int min2_int max_two min_two max_three min_three max_four min_four
set_option linter.unusedVariables false
set_option linter.unusedSimpArgs false

/-! ### impl_NextGreen: function 47 -/
def impl_NextGreen.l0 : Nat → Int → List Bool → Int → Int → Option (Int)
  | 0, _, _, _, _ => none
  | k + 1, x3, x9, x19, x20 => if x20 < x19 then (if (x9.length : Int) = 0 then (none) else (if 0 ≤ (Int.tmod (wrap64 (x3 + x20)) (x9.length : Int)) then (if (Int.tmod (wrap64 (x3 + x20)) (x9.length : Int)) < (x9.length : Int) then (if rdOf false x9 (Int.tmod (wrap64 (x3 + x20)) (x9.length : Int)) = true then (some (wrap64 (x3 + x20))) else (impl_NextGreen.l0 k x3 x9 x19 (wrap64 (x20 + 1)))) else (none)) else (none))) else (some (-1))
def impl_NextGreen.f (k : Nat) (l0 : List (S58)) (l1 : List (S51)) (a2 : Int) (a3 : Int) : Option (Int) := (impl_greens.f k l0 l1 a2).bind fun t735 => ((impl_InRange.f a3 0 100000).bind fun t738 => (if t738 = true then (impl_NextGreen.l0 k a3 t735 (t735.length : Int) 0) else (some (-1))))
theorem impl_NextGreen.mono_l : ∀ k, (∀ y0 y1 y2 y3, LeO (impl_NextGreen.l0 k y0 y1 y2 y3) (impl_NextGreen.l0 (k + 1) y0 y1 y2 y3))
  | 0 => fun _ _ _ _ r h => by simp [impl_NextGreen.l0] at h
  | k + 1 => by
    have ih0 := impl_NextGreen.mono_l k
    · intro y0 y1 y2 y3
      unfold impl_NextGreen.l0
      repeat' first | (with_reducible first | exact LeO.refl _ | exact LeO.none _ | refine LeO.ite ?_ ?_ | refine LeO.bind ?_ (fun _ => ?_) | exact ih0 _ _ _ _ | exact impl_greens.mono _ _ _ _) | exact LeO.none _ | refine LeO.ite ?_ ?_ | refine LeO.bind ?_ (fun _ => ?_) | exact ih0 _ _ _ _ | exact impl_greens.mono _ _ _ _
theorem impl_NextGreen.mono : ∀ a0 a1 a2 a3 k, LeO (impl_NextGreen.f k a0 a1 a2 a3) (impl_NextGreen.f (k + 1) a0 a1 a2 a3) := by
  intro a0 a1 a2 a3 k
  have ih0 := impl_NextGreen.mono_l k
  unfold impl_NextGreen.f
  repeat' first | (with_reducible first | exact LeO.refl _ | exact LeO.none _ | refine LeO.ite ?_ ?_ | refine LeO.bind ?_ (fun _ => ?_) | exact ih0 _ _ _ _ | exact impl_greens.mono _ _ _ _) | exact LeO.none _ | refine LeO.ite ?_ ?_ | refine LeO.bind ?_ (fun _ => ?_) | exact ih0 _ _ _ _ | exact impl_greens.mono _ _ _ _
set_option maxHeartbeats 8000000 in
set_option maxRecDepth 100000 in
theorem impl_NextGreen.calls (k : Nat) (A0 : Option Addr) (c0 : Nat) (l0 : List (S58)) (A1 : Option Addr) (c1 : Nat) (l1 : List (S51)) (a2 : Int) (a3 : Int) (r : Int) (w : World) (hr0 : Kd.C k58 w A0 l0.length l0) (hc0 : l0.length ≤ c0) (hr1 : Kd.C k51 w A1 l1.length l1) (hc1 : l1.length ≤ c1) (h : impl_NextGreen.f k l0 l1 a2 a3 = some r) :
    Calls Try.prog 47 #[.slice A0 l0.length c0, .slice A1 l1.length c1, .int .i64 a2, .int .i64 a3] w fun e w' => e = .returned (.int .i64 r) ∧ Below w.heap.size w w' := by
  have HR0 := Aside0.mk hr0
  have HC0 := Aside0.mk hc0
  clear hr0 hc0
  have HR1 := Aside0.mk hr1
  have HC1 := Aside0.mk hc1
  clear hr1 hc1
  have HB := Aside0.mk (Below.refl w.heap.size w)
  have H : ((impl_greens.f k l0 l1 a2).bind fun t735 => ((impl_InRange.f a3 0 100000).bind fun t738 => (if t738 = true then (impl_NextGreen.l0 k a3 t735 (t735.length : Int) 0) else (some (-1))))) = some r := h
  clear h
  obtain ⟨t735, A5, H⟩ := bindE H
  try dsimp only at H
  obtain ⟨t738, A6, H⟩ := bindE H
  try dsimp only at H
  by_cases c7 : t738 = true
  · subst c7
    have H1 : (impl_NextGreen.l0 k a3 t735 (t735.length : Int) 0) = some r := by rw [if_pos rfl] at H; exact H
    clear H
    have H := H1
    clear H1
    have H' := Aside0.mk H
    clear H
    go_enter Try.func47, Try.ntmps47
    go_wp2_with (first | ((with_reducible refine gate_callee (f := 73) rfl ?_); refine gL (some 14) Try.func73 #[.slice A0 l0.length c0, .slice A1 l1.length c1, .int .i64 a2] ?_; (with_reducible refine (impl_greens.calls k _ _ l0 _ _ l1 a2 t735 _ ?side1 ?side2 ?side3 ?side4 A5.out).mono ?_); (case side1 => exact cO HR0); (case side2 => exact HC0.out); (case side3 => exact cO HR1); (case side4 => exact HC1.out); rintro e w8 ⟨v736, rfl, ho0, hb⟩; refine ⟨_, rfl, ?_⟩; have HO737 := Aside0.mk (Kd.R_lower ho0 (below_size bA)); replace HB := Aside0.mk (below_step bA hb); (try clear hb); (try clear hb2); (try clear hk); (try clear hi); (try clear ho0)) | ((with_reducible refine gate_callee (f := 58) rfl ?_); refine gL (some 16) Try.func58 #[.int .i64 a3, .int .i64 0, .int .i64 100000] ?_; (with_reducible refine (impl_InRange.calls a3 0 100000 true _ A6.out).mono ?_); rintro e w' ⟨rfl, ⟨nd, rfl⟩⟩; refine ⟨_, rfl, ?_⟩; obtain ⟨Ao9, co9, eo9⟩ := Kd.R_slice HO737.out; subst eo9))
    go_loopg [20] k (fun kq v20 w' => ∃ (x20_1 : Int), v20 = .int .i64 x20_1 ∧ Aside0 (impl_NextGreen.l0 kq a3 t735 (t735.length : Int) x20_1 = some r) ∧ Aside0 (kq ≤ k) ∧ Aside0 (Kd.R Kd.bool 4 w' w.heap.size (fun _ => True) (.slice Ao9 t735.length co9) t735) ∧ Aside0 (Below w.heap.size w w'))
    case atStart => exact ⟨(0), rS, H', ⟨Nat.le_refl _⟩, ⟨rK HO737⟩, ⟨bA⟩⟩
    case round =>
      clear H'
      try clear c1
      try clear p2
      try clear c4
      try clear c5
      try clear c7
      obtain ⟨x20_1, rfl, HA, HK1, HO_9, HB⟩ := hrel
      cases gk with
      | zero => exact absurd HA.out (by simp [impl_NextGreen.l0])
      | succ k1 =>
        have H := HA.out
        clear HA
        simp only [impl_NextGreen.l0] at H
        by_cases c10 : x20_1 < (t735.length : Int)
        · rw [if_pos c10] at H
          have c10b0 : decide (x20_1 < (t735.length : Int)) = true := decide_eq_true c10
          clear c10
          have c11 : ¬ ((t735.length : Int) = 0) := ifN' H
          replace H := ifT' H
          have c11b0 : ((t735.length : Int) == 0) = false := beq_eq_false_iff_ne.mpr c11
          have c11b1 : ((t735.length : Int) != 0) = true := bne_iff_ne.mpr c11
          have c11b2 : ¬ (t735 = []) := fun h_ => c11 (by rw [h_]; rfl)
          obtain ⟨ji12, hji12⟩ : ∃ j_ : Int, (Int.tmod (wrap64 (a3 + x20_1)) (t735.length : Int)) = j_ := ⟨_, rfl⟩
          replace H : (if 0 ≤ (ji12) then (if (ji12) < (t735.length : Int) then (if rdOf false t735 (ji12) = true then (some (wrap64 (a3 + x20_1))) else (impl_NextGreen.l0 k1 a3 t735 (t735.length : Int) (wrap64 (x20_1 + 1)))) else (none)) else (none)) = some r := by first | (rw [hji12] at H; exact H) | (simp only [hji12] at H ⊢; exact H)
          have c13 : 0 ≤ (ji12) := ifN H
          replace H := ifT H
          have c13b0 : decide (0 ≤ (ji12)) = true := decide_eq_true c13
          clear c13
          have c14 : (ji12) < (t735.length : Int) := ifN H
          replace H := ifT H
          have c14b0 : decide ((ji12) < (t735.length : Int)) = true := decide_eq_true c14
          clear c14
          obtain ⟨bq15, hbq15⟩ : ∃ b_ : Bool, b_ = (rdOf false t735 (ji12)) := ⟨_, rfl⟩
          replace H : (if bq15 = true then (some (wrap64 (a3 + x20_1))) else (impl_NextGreen.l0 k1 a3 t735 (t735.length : Int) (wrap64 (x20_1 + 1)))) = some r := by rw [← hbq15] at H; exact H
          have Nbq15 := Aside0.mk hbq15
          clear hbq15
          by_cases c16 : bq15 = true
          · subst c16
            have H1 : (some (wrap64 (a3 + x20_1))) = some r := by rw [if_pos rfl] at H; exact H
            clear H
            have H := H1
            clear H1
            obtain rfl := Option.some.inj H
            have p739 : 0 ≤ ((ji12) : Int) := dA
            have q739 : (ji12) < (t735.length : Int) := dA
            obtain ⟨ad739, e739, hx739_0⟩ := Kd.at_bool (Kd.R_reads' HO_9.out).2.2 (ji12) p739 q739
            (try rw [← Nbq15.out] at hx739_0)
            cases e739
            replace p739 := eq_true p739
            replace q739 := eq_true q739
            go_wp2
            go_ret
            exact ⟨by first | rfl | (simp [errW_none, errW_some] <;> rfl) | (simp only [← hji12]; first | rfl | (simp [errW_none, errW_some] <;> rfl)) | (simp [*, errW_none, errW_some] <;> rfl), bA⟩
          · replace c16 := Bool.eq_false_iff.mpr c16
            subst c16
            have H1 : (impl_NextGreen.l0 k1 a3 t735 (t735.length : Int) (wrap64 (x20_1 + 1))) = some r := by rw [if_neg (show ¬ (false = true) by decide)] at H; exact H
            clear H
            have H := H1
            clear H1
            have H' := Aside0.mk H
            clear H
            have p739 : 0 ≤ ((ji12) : Int) := dA
            have q739 : (ji12) < (t735.length : Int) := dA
            obtain ⟨ad739, e739, hx739_0⟩ := Kd.at_bool (Kd.R_reads' HO_9.out).2.2 (ji12) p739 q739
            (try rw [← Nbq15.out] at hx739_0)
            cases e739
            replace p739 := eq_true p739
            replace q739 := eq_true q739
            go_wp2
            go_roundg k1
            case measure => have := HK1.out; omega
            case rel => exact ⟨(wrap64 (x20_1 + 1)), rS, H', ⟨by have := HK1.out; omega⟩, ⟨rK HO_9⟩, ⟨bA⟩⟩
        · rw [if_neg c10] at H
          have c10b0 : decide (x20_1 < (t735.length : Int)) = false := decide_eq_false c10
          clear c10
          obtain rfl := Option.some.inj H
          go_wp2
          go_ret
          exact ⟨rA, bA⟩
  · replace c7 := Bool.eq_false_iff.mpr c7
    subst c7
    have H1 : (some (-1)) = some r := by rw [if_neg (show ¬ (false = true) by decide)] at H; exact H
    clear H
    have H := H1
    clear H1
    obtain rfl := Option.some.inj H
    go_enter Try.func47, Try.ntmps47
    go_wp2_with (first | ((with_reducible refine gate_callee (f := 73) rfl ?_); refine gL (some 14) Try.func73 #[.slice A0 l0.length c0, .slice A1 l1.length c1, .int .i64 a2] ?_; (with_reducible refine (impl_greens.calls k _ _ l0 _ _ l1 a2 t735 _ ?side1 ?side2 ?side3 ?side4 A5.out).mono ?_); (case side1 => exact cO HR0); (case side2 => exact HC0.out); (case side3 => exact cO HR1); (case side4 => exact HC1.out); rintro e w17 ⟨v736, rfl, ho0, hb⟩; refine ⟨_, rfl, ?_⟩; have HO737 := Aside0.mk (Kd.R_lower ho0 (below_size bA)); replace HB := Aside0.mk (below_step bA hb); (try clear hb); (try clear hb2); (try clear hk); (try clear hi); (try clear ho0)) | ((with_reducible refine gate_callee (f := 58) rfl ?_); refine gL (some 16) Try.func58 #[.int .i64 a3, .int .i64 0, .int .i64 100000] ?_; (with_reducible refine (impl_InRange.calls a3 0 100000 false _ A6.out).mono ?_); rintro e w' ⟨rfl, ⟨nd, rfl⟩⟩; refine ⟨_, rfl, ?_⟩))
    go_ret
    exact ⟨rA, bA⟩

/-! ### impl_WorstWait: function 49 -/
def impl_WorstWait.l0 : Nat → List (S58) → List (S51) → Int → List (S58) → Int → Int → Option (Int)
  | 0, _, _, _, _, _, _ => none
  | k + 1, x0, x1, x5, x13, x14, x15 => if x15 < x14 then (if 0 ≤ x15 then (if x15 < (x13.length : Int) then ((impl_WaitOf.f k x0 x1 ((rd_T58 x13 x15).f0)).bind fun t770 => (impl_WorstWait.l0 k x0 x1 (mx x5 t770) x13 x14 (wrap64 (x15 + 1)))) else (none)) else (none)) else (some x5)
def impl_WorstWait.f (k : Nat) (l0 : List (S58)) (l1 : List (S51)) : Option (Int) := (impl_IsPlan.f k l0 l1).bind fun t767 => (if t767 = true then (impl_WorstWait.l0 k l0 l1 0 l0 (l0.length : Int) 0) else (some 0))
theorem impl_WorstWait.mono_l : ∀ k, (∀ y0 y1 y2 y3 y4 y5, LeO (impl_WorstWait.l0 k y0 y1 y2 y3 y4 y5) (impl_WorstWait.l0 (k + 1) y0 y1 y2 y3 y4 y5))
  | 0 => fun _ _ _ _ _ _ r h => by simp [impl_WorstWait.l0] at h
  | k + 1 => by
    have ih0 := impl_WorstWait.mono_l k
    · intro y0 y1 y2 y3 y4 y5
      unfold impl_WorstWait.l0
      repeat' first | (with_reducible first | exact LeO.refl _ | exact LeO.none _ | refine LeO.ite ?_ ?_ | refine LeO.bind ?_ (fun _ => ?_) | exact ih0 _ _ _ _ _ _ | exact impl_IsPlan.mono _ _ _ | exact impl_WaitOf.mono _ _ _ _) | exact LeO.none _ | refine LeO.ite ?_ ?_ | refine LeO.bind ?_ (fun _ => ?_) | exact ih0 _ _ _ _ _ _ | exact impl_IsPlan.mono _ _ _ | exact impl_WaitOf.mono _ _ _ _
theorem impl_WorstWait.mono : ∀ a0 a1 k, LeO (impl_WorstWait.f k a0 a1) (impl_WorstWait.f (k + 1) a0 a1) := by
  intro a0 a1 k
  have ih0 := impl_WorstWait.mono_l k
  unfold impl_WorstWait.f
  repeat' first | (with_reducible first | exact LeO.refl _ | exact LeO.none _ | refine LeO.ite ?_ ?_ | refine LeO.bind ?_ (fun _ => ?_) | exact ih0 _ _ _ _ _ _ | exact impl_IsPlan.mono _ _ _ | exact impl_WaitOf.mono _ _ _ _) | exact LeO.none _ | refine LeO.ite ?_ ?_ | refine LeO.bind ?_ (fun _ => ?_) | exact ih0 _ _ _ _ _ _ | exact impl_IsPlan.mono _ _ _ | exact impl_WaitOf.mono _ _ _ _
set_option maxHeartbeats 8000000 in
set_option maxRecDepth 100000 in
theorem impl_WorstWait.calls (k : Nat) (A0 : Option Addr) (c0 : Nat) (l0 : List (S58)) (A1 : Option Addr) (c1 : Nat) (l1 : List (S51)) (r : Int) (w : World) (hr0 : Kd.C k58 w A0 l0.length l0) (hc0 : l0.length ≤ c0) (hr1 : Kd.C k51 w A1 l1.length l1) (hc1 : l1.length ≤ c1) (h : impl_WorstWait.f k l0 l1 = some r) :
    Calls Try.prog 49 #[.slice A0 l0.length c0, .slice A1 l1.length c1] w fun e w' => e = .returned (.int .i64 r) ∧ Below w.heap.size w w' := by
  have hu58 := Try.underlying58
  have HR0 := Aside0.mk hr0
  have HC0 := Aside0.mk hc0
  clear hr0 hc0
  have HR1 := Aside0.mk hr1
  have HC1 := Aside0.mk hc1
  clear hr1 hc1
  have HB := Aside0.mk (Below.refl w.heap.size w)
  have H : ((impl_IsPlan.f k l0 l1).bind fun t767 => (if t767 = true then (impl_WorstWait.l0 k l0 l1 0 l0 (l0.length : Int) 0) else (some 0))) = some r := h
  clear h
  obtain ⟨t767, A3, H⟩ := bindE H
  try dsimp only at H
  by_cases c4 : t767 = true
  · subst c4
    have H1 : (impl_WorstWait.l0 k l0 l1 0 l0 (l0.length : Int) 0) = some r := by rw [if_pos rfl] at H; exact H
    clear H
    have H := H1
    clear H1
    have H' := Aside0.mk H
    clear H
    go_enter Try.func49, Try.ntmps49
    go_wp2_with (first | ((with_reducible refine gate_callee (f := 20) rfl ?_); refine gL (some 10) Try.func20 #[.slice A0 l0.length c0, .slice A1 l1.length c1] ?_; (with_reducible refine (impl_IsPlan.calls k _ _ l0 (fun k_ => k_ < w.heap.size) _ _ l1 true _ ?side1 ?side2 ?side3 A3.out).mono ?_); (case side1 => exact cO HR0); (case side2 => exact HC0.out); (case side3 => exact Kd.V_mk HC1.out (Kd.F_below (Kd.C_F k51_heap HR1.out) bA)); rintro e w5 ⟨rfl, hb⟩; refine ⟨_, rfl, ?_⟩; replace HB := Aside0.mk (below_step bA hb); (try clear hb); (try clear hb2); (try clear hk); (try clear hi)))
    go_loopg [5, 15] k (fun kq v5 v15 w' => ∃ (x5_1 : Int) (x15_1 : Int), v5 = .int .i64 x5_1 ∧ v15 = .int .i64 x15_1 ∧ Aside0 (impl_WorstWait.l0 kq l0 l1 x5_1 l0 (l0.length : Int) x15_1 = some r) ∧ Aside0 (kq ≤ k) ∧ Aside0 (Below w.heap.size w w'))
    case atStart => exact ⟨(0), (0), rS, rS, H', ⟨Nat.le_refl _⟩, ⟨bA⟩⟩
    case round =>
      clear H'
      try clear c1
      try clear c2
      try clear p2
      try clear c4
      obtain ⟨x5_1, x15_1, rfl, rfl, HA, HK1, HB⟩ := hrel
      cases gk with
      | zero => exact absurd HA.out (by simp [impl_WorstWait.l0])
      | succ k1 =>
        have H := HA.out
        clear HA
        simp only [impl_WorstWait.l0] at H
        by_cases c6 : x15_1 < (l0.length : Int)
        · rw [if_pos c6] at H
          have c6b0 : decide (x15_1 < (l0.length : Int)) = true := decide_eq_true c6
          clear c6
          have c7 : 0 ≤ x15_1 := ifN H
          replace H := ifT H
          have c7b0 : decide (0 ≤ x15_1) = true := decide_eq_true c7
          clear c7
          have c8 : x15_1 < (l0.length : Int) := ifN H
          replace H := ifT H
          have c8b0 : decide (x15_1 < (l0.length : Int)) = true := decide_eq_true c8
          clear c8
          obtain ⟨t770, A9, H⟩ := bindE H
          try dsimp only at H
          obtain ⟨ji10, hji10⟩ : ∃ j_ : Int, (mx x5_1 t770) = j_ := ⟨_, rfl⟩
          replace H : (impl_WorstWait.l0 k1 l0 l1 ji10 l0 (l0.length : Int) (wrap64 (x15_1 + 1))) = some r := by first | (rw [hji10] at H; exact H) | (simp only [hji10] at H ⊢; exact H)
          (try rw [hji10] at A9)
          have hji10_ : (if x5_1 < t770 then t770 else x5_1) = ji10 := hji10
          have H' := Aside0.mk H
          clear H
          have p768 : 0 ≤ (x15_1 : Int) := dA
          have q768 : x15_1 < (l0.length : Int) := dA
          obtain ⟨ad768, e768, hx768_0, hx768_1, hx768_2, hx768_3⟩ := at_T58 HR0.out x15_1 p768 q768
          cases e768
          replace hx768_0 := hC HB hx768_0
          replace hx768_1 := hC HB hx768_1
          replace hx768_2 := hC HB hx768_2
          replace hx768_3 := hC HB hx768_3
          replace p768 := eq_true p768
          replace q768 := eq_true q768
          go_wp2_with (first | ((with_reducible refine gate_dst (N := 7) rfl ?_); refine bE (N := 7) (cs := #[.int .i64 0, .int .i64 0, .int .i64 0, .int .i64 0]) (t := 58) ?_; intro gb769 hg w11 hbox hb; have n0_ := Aside0.mk (below_step bA hb); have n1_ := Aside0.mk (hbox); have n2_ := Aside0.mk ((by rw [hg]; exact (below_size bA) : w.heap.size ≤ gb769)); have n3_ := Aside0.mk ((by rw [hg]; exact (below_size bA) : w.heap.size ≤ gb769)); clear HB; have HB := n0_; have BK769 := n1_; have GW769 := n2_; have GE769 := n3_; clear n0_ n1_ n2_ n3_; clear hb hbox hg; have hcz12_0 : w11.cell? ⟨gb769, 0, none⟩ = some (.int .i64 0) := (blk_cell BK769.out 0).trans rfl; have hcz12_1 : w11.cell? ⟨gb769, 1, none⟩ = some (.int .i64 0) := (blk_cell BK769.out 1).trans rfl; have hcz12_2 : w11.cell? ⟨gb769, 2, none⟩ = some (.int .i64 0) := (blk_cell BK769.out 2).trans rfl; have hcz12_3 : w11.cell? ⟨gb769, 3, none⟩ = some (.int .i64 0) := (blk_cell BK769.out 3).trans rfl; have hfz12_0 := blk_frozen BK769.out 0; have hfz12_1 := blk_frozen BK769.out 1; have hfz12_2 := blk_frozen BK769.out 2; have hfz12_3 := blk_frozen BK769.out 3) | ((with_reducible refine gate_callee (f := 45) rfl ?_); refine gL (some 24) Try.func45 #[.slice (some ad768) l0.length c0, .slice A1 l1.length c1, .int .i64 ((rd_T58 l0 x15_1).f0)] ?_; (with_reducible refine (impl_WaitOf.calls k1 _ _ l0 _ _ l1 ((rd_T58 l0 x15_1).f0) t770 _ ?side1 ?side2 ?side3 ?side4 A9.out).mono ?_); (case side1 => exact Kd.C_below HR0.out bG); (case side2 => exact HC0.out); (case side3 => exact Kd.C_below HR1.out bG); (case side4 => exact HC1.out); rintro e w13 ⟨rfl, hb⟩; refine ⟨_, rfl, ?_⟩; have n0_ := Aside0.mk (blk_below (g := gb769) (o := .cells #[.int .i64 ((rd_T58 l0 x15_1).f0), .int .i64 ((rd_T58 l0 x15_1).f1), .int .i64 ((rd_T58 l0 x15_1).f2), .int .i64 ((rd_T58 l0 x15_1).f3)] 58 (0, 0)) (by (with_reducible repeat (first | refine blk_drewN ?_ _ | refine blk_drew ?_ | refine blk_alloc ?_ _)); refine blk_put (cs := #[.int .i64 ((rd_T58 l0 x15_1).f0), .int .i64 ((rd_T58 l0 x15_1).f1), .int .i64 ((rd_T58 l0 x15_1).f2), .int .i64 0]) ?_ 3 _ rfl; (with_reducible repeat (first | refine blk_drewN ?_ _ | refine blk_drew ?_ | refine blk_alloc ?_ _)); refine blk_put (cs := #[.int .i64 ((rd_T58 l0 x15_1).f0), .int .i64 ((rd_T58 l0 x15_1).f1), .int .i64 0, .int .i64 0]) ?_ 2 _ rfl; (with_reducible repeat (first | refine blk_drewN ?_ _ | refine blk_drew ?_ | refine blk_alloc ?_ _)); refine blk_put (cs := #[.int .i64 ((rd_T58 l0 x15_1).f0), .int .i64 0, .int .i64 0, .int .i64 0]) ?_ 1 _ rfl; (with_reducible repeat (first | refine blk_drewN ?_ _ | refine blk_drew ?_ | refine blk_alloc ?_ _)); refine blk_put (cs := #[.int .i64 0, .int .i64 0, .int .i64 0, .int .i64 0]) ?_ 0 _ rfl; (with_reducible repeat (first | refine blk_drewN ?_ _ | refine blk_drew ?_ | refine blk_alloc ?_ _)); exact BK769.out) hb); have n1_ := Aside0.mk (below_step bG hb); clear BK769; clear HB; have BK769 := n0_; have HB := n1_; clear n0_ n1_; (try clear hb); (try clear hb2); (try clear hk); (try clear hi)))
          go_roundg k1
          case measure => have := HK1.out; omega
          case rel => exact ⟨(ji10), (wrap64 (x15_1 + 1)), (by first | rfl | (simp; done) | (simp only [← hji10] <;> (first | rfl | simp)) | (simp [*]; done)), rS, H', ⟨by have := HK1.out; omega⟩, ⟨bG⟩⟩
        · rw [if_neg c6] at H
          have c6b0 : decide (x15_1 < (l0.length : Int)) = false := decide_eq_false c6
          clear c6
          obtain rfl := Option.some.inj H
          go_wp2
          go_ret
          exact ⟨rA, bA⟩
  · replace c4 := Bool.eq_false_iff.mpr c4
    subst c4
    have H1 : (some 0) = some r := by rw [if_neg (show ¬ (false = true) by decide)] at H; exact H
    clear H
    have H := H1
    clear H1
    obtain rfl := Option.some.inj H
    go_enter Try.func49, Try.ntmps49
    go_wp2_with (first | ((with_reducible refine gate_callee (f := 20) rfl ?_); refine gL (some 10) Try.func20 #[.slice A0 l0.length c0, .slice A1 l1.length c1] ?_; (with_reducible refine (impl_IsPlan.calls k _ _ l0 (fun k_ => k_ < w.heap.size) _ _ l1 false _ ?side1 ?side2 ?side3 A3.out).mono ?_); (case side1 => exact cO HR0); (case side2 => exact HC0.out); (case side3 => exact Kd.V_mk HC1.out (Kd.F_below (Kd.C_F k51_heap HR1.out) bA)); rintro e w14 ⟨rfl, hb⟩; refine ⟨_, rfl, ?_⟩; replace HB := Aside0.mk (below_step bA hb); (try clear hb); (try clear hb2); (try clear hk); (try clear hi)))
    go_ret
    exact ⟨rA, bA⟩

end Go.Proofs.Ytbpnbflfpgakmaa.P
