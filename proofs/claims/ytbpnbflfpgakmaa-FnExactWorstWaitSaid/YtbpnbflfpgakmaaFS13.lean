/- Printed by myprint.py (wip/tools) over the kit's print: what Go's functions compute, and that they do. Lean checks it. -/
import Derived.Test.YtbpnbflfpgakmaaF0
import Derived.Test.YtbpnbflfpgakmaaFS01
import Derived.Test.YtbpnbflfpgakmaaFS09
namespace Go.Proofs.Ytbpnbflfpgakmaa.P
open Go.RowKit Go.Proofs.YtbpnbflfpgakmaaW.PrintWords Go.Proofs.YtbpnbflfpgakmaaW.PrintLast Go.Proofs.YtbpnbflfpgakmaaW.PrintMore Go.Proofs.Ytbpnbflfpgakmaa.Sq
attribute [local go_sem] max2_int min2_int max_two min_two max_three min_three max_four min_four
set_option linter.unusedVariables false
set_option linter.unusedSimpArgs false

/-! ### spec_NextGreen: function 46 -/
mutual
def spec_NextGreen.l0 : Nat → Int → List Int → Int → Option (Int)
  | 0, _, _, _ => none
  | k + 1, x3, x9, x10 => if x10 < (x9.length : Int) then ((spec_l1In.f x3 0 100000).bind fun t733 => (spec_NextGreen.j1 k x3 x9 x10 t733)) else (spec_NextGreen.j1 k x3 x9 x10 false)
def spec_NextGreen.j1 : Nat → Int → List Int → Int → Bool → Option (Int)
  | 0, _, _, _, _ => none
  | k + 1, x3, x9, x10, x22 => if x22 = true then (if (x9.length : Int) = 0 then (none) else (if 0 ≤ (Int.tmod (wrap64 (x3 + x10)) (x9.length : Int)) then (if (Int.tmod (wrap64 (x3 + x10)) (x9.length : Int)) < (x9.length : Int) then (if (rd x9 (Int.tmod (wrap64 (x3 + x10)) (x9.length : Int))) = 1 then (some (wrap64 (x3 + x10))) else (spec_NextGreen.l0 k x3 x9 (wrap64 (x10 + 1)))) else (none)) else (none))) else (some (-1))
end
def spec_NextGreen.f (k : Nat) (l0 : List (S58)) (l1 : List (S51)) (a2 : Int) (a3 : Int) : Option (Int) := (spec_l9Row.f k l0 l1 a2).bind fun t730 => (spec_NextGreen.l0 k a3 t730 0)
theorem spec_NextGreen.mono_l : ∀ k, (∀ y0 y1 y2, LeO (spec_NextGreen.l0 k y0 y1 y2) (spec_NextGreen.l0 (k + 1) y0 y1 y2)) ∧ (∀ y0 y1 y2 y3, LeO (spec_NextGreen.j1 k y0 y1 y2 y3) (spec_NextGreen.j1 (k + 1) y0 y1 y2 y3))
  | 0 => ⟨fun _ _ _ r h => by simp [spec_NextGreen.l0] at h, fun _ _ _ _ r h => by simp [spec_NextGreen.j1] at h⟩
  | k + 1 => by
    obtain ⟨ih0, ih1⟩ := spec_NextGreen.mono_l k
    refine ⟨?_, ?_⟩
    · intro y0 y1 y2
      unfold spec_NextGreen.l0
      repeat' first | (with_reducible first | exact LeO.refl _ | exact LeO.none _ | refine LeO.ite ?_ ?_ | refine LeO.bind ?_ (fun _ => ?_) | exact ih0 _ _ _ | exact ih1 _ _ _ _ | exact spec_l9Row.mono _ _ _ _) | exact LeO.none _ | refine LeO.ite ?_ ?_ | refine LeO.bind ?_ (fun _ => ?_) | exact ih0 _ _ _ | exact ih1 _ _ _ _ | exact spec_l9Row.mono _ _ _ _
    · intro y0 y1 y2 y3
      unfold spec_NextGreen.j1
      repeat' first | (with_reducible first | exact LeO.refl _ | exact LeO.none _ | refine LeO.ite ?_ ?_ | refine LeO.bind ?_ (fun _ => ?_) | exact ih0 _ _ _ | exact ih1 _ _ _ _ | exact spec_l9Row.mono _ _ _ _) | exact LeO.none _ | refine LeO.ite ?_ ?_ | refine LeO.bind ?_ (fun _ => ?_) | exact ih0 _ _ _ | exact ih1 _ _ _ _ | exact spec_l9Row.mono _ _ _ _
theorem spec_NextGreen.mono : ∀ a0 a1 a2 a3 k, LeO (spec_NextGreen.f k a0 a1 a2 a3) (spec_NextGreen.f (k + 1) a0 a1 a2 a3) := by
  intro a0 a1 a2 a3 k
  obtain ⟨ih0, ih1⟩ := spec_NextGreen.mono_l k
  unfold spec_NextGreen.f
  repeat' first | (with_reducible first | exact LeO.refl _ | exact LeO.none _ | refine LeO.ite ?_ ?_ | refine LeO.bind ?_ (fun _ => ?_) | exact ih0 _ _ _ | exact ih1 _ _ _ _ | exact spec_l9Row.mono _ _ _ _) | exact LeO.none _ | refine LeO.ite ?_ ?_ | refine LeO.bind ?_ (fun _ => ?_) | exact ih0 _ _ _ | exact ih1 _ _ _ _ | exact spec_l9Row.mono _ _ _ _
set_option maxHeartbeats 8000000 in
set_option maxRecDepth 100000 in
theorem spec_NextGreen.calls (k : Nat) (A0 : Option Addr) (c0 : Nat) (l0 : List (S58)) (A1 : Option Addr) (c1 : Nat) (l1 : List (S51)) (a2 : Int) (a3 : Int) (r : Int) (w : World) (hr0 : Kd.C k58 w A0 l0.length l0) (hc0 : l0.length ≤ c0) (hr1 : Kd.C k51 w A1 l1.length l1) (hc1 : l1.length ≤ c1) (h : spec_NextGreen.f k l0 l1 a2 a3 = some r) :
    Calls Try.prog 46 #[.slice A0 l0.length c0, .slice A1 l1.length c1, .int .i64 a2, .int .i64 a3] w fun e w' => e = .returned (.int .i64 r) ∧ Below w.heap.size w w' := by
  have HR0 := Aside0.mk hr0
  have HC0 := Aside0.mk hc0
  clear hr0 hc0
  have HR1 := Aside0.mk hr1
  have HC1 := Aside0.mk hc1
  clear hr1 hc1
  have HB := Aside0.mk (Below.refl w.heap.size w)
  have H : ((spec_l9Row.f k l0 l1 a2).bind fun t730 => (spec_NextGreen.l0 k a3 t730 0)) = some r := h
  clear h
  obtain ⟨t730, A5, H⟩ := bindE H
  try dsimp only at H
  have H' := Aside0.mk H
  clear H
  go_enter Try.func46, Try.ntmps46
  go_wp2_with (first | ((with_reducible refine gate_callee (f := 72) rfl ?_); refine gL (some 14) Try.func72 #[.slice A0 l0.length c0, .slice A1 l1.length c1, .int .i64 a2] ?_; (with_reducible refine (spec_l9Row.calls k _ _ l0 _ _ l1 a2 t730 _ ?side1 ?side2 ?side3 ?side4 A5.out).mono ?_); (case side1 => exact cO HR0); (case side2 => exact HC0.out); (case side3 => exact cO HR1); (case side4 => exact HC1.out); rintro e w6 ⟨v731, rfl, ho0, hb⟩; refine ⟨_, rfl, ?_⟩; have HO732 := Aside0.mk (Kd.R_lower ho0 (below_size bA)); replace HB := Aside0.mk (below_step bA hb); (try clear hb); (try clear hb2); (try clear hk); (try clear hi); (try clear ho0)))
  go_loopg [10] k (fun kq v10 w' => ∃ (x10_1 : Int), v10 = .int .i64 x10_1 ∧ Aside0 (spec_NextGreen.l0 kq a3 t730 x10_1 = some r) ∧ Aside0 (kq ≤ k) ∧ Aside0 (Kd.R (Kd.int .i64) 3 w' w.heap.size (fun _ => True) v731 t730) ∧ Aside0 (Below w.heap.size w w'))
  case atStart => exact ⟨(0), rS, H', ⟨Nat.le_refl _⟩, ⟨rK HO732⟩, ⟨bA⟩⟩
  case round =>
    clear H'
    try clear c1
    try clear p2
    try clear c4
    obtain ⟨x10_1, rfl, HA, HK1, HO_9, HB⟩ := hrel
    cases gk with
    | zero => exact absurd HA.out (by simp [spec_NextGreen.l0])
    | succ k1 =>
      have H := HA.out
      clear HA
      simp only [spec_NextGreen.l0] at H
      have HC7 := Aside0.mk H
      clear H
      go_upto_region 3 with (fail)
      go_cut [22] (fun v22 wc => ∃ (kq : Nat) (x22_6 : Bool), v22 = .bool x22_6 ∧ Aside0 (spec_NextGreen.j1 kq a3 t730 x10_1 x22_6 = some r) ∧ Aside0 (kq ≤ k1) ∧ Aside0 (Kd.R (Kd.int .i64) 3 wc w.heap.size (fun _ => True) v731 t730) ∧ Aside0 (Below w.heap.size w wc))
      case first =>
        have H := HC7.out
        clear HC7
        by_cases c8 : x10_1 < (t730.length : Int)
        · rw [if_pos c8] at H
          have c8b0 : decide (x10_1 < (t730.length : Int)) = true := decide_eq_true c8
          clear c8
          (first | rw [c8b0] | (simp only [i64_w, i32_w]; rw [c8b0]) | skip)
          obtain ⟨t733, A9, H⟩ := bindE H
          try dsimp only at H
          have H' := Aside0.mk H
          clear H
          obtain ⟨Ao10, co10, eo10⟩ := Kd.R_slice HO_9.out
          subst eo10
          go_wp2_with (first | (go_at_call 51; (with_reducible refine (spec_l1In.calls a3 0 100000 t733 _ A9.out).mono ?_); rintro e w' ⟨rfl, ⟨nd, rfl⟩⟩))
          go_meet
          case rel => exact ⟨_, (t733), rS, H', ⟨by have := HK1.out; first | omega | exact Nat.le_refl _⟩, ⟨rK HO_9⟩, ⟨bA⟩⟩
        · rw [if_neg c8] at H
          have c8b0 : decide (x10_1 < (t730.length : Int)) = false := decide_eq_false c8
          clear c8
          (first | rw [c8b0] | (simp only [i64_w, i32_w]; rw [c8b0]) | skip)
          have H' := Aside0.mk H
          clear H
          obtain ⟨Ao11, co11, eo11⟩ := Kd.R_slice HO_9.out
          subst eo11
          go_wp2
          go_meet
          case rel => exact ⟨_, (false), rS, H', ⟨by have := HK1.out; first | omega | exact Nat.le_refl _⟩, ⟨rK HO_9⟩, ⟨bA⟩⟩
      case rest =>
        clear HC7
        try clear c1
        try clear p2
        try clear c4
        try clear c7
        try clear c8
        try clear c8b0
        try clear p2
        obtain ⟨kq, x22_6, rfl, HA, HJ6, HO_9, HB⟩ := hcut
        cases kq with
        | zero => exact absurd HA.out (by simp [spec_NextGreen.j1])
        | succ kj6 =>
          have H := HA.out
          clear HA
          simp only [spec_NextGreen.j1] at H
          by_cases c12 : x22_6 = true
          · subst c12
            have H1 : (if (t730.length : Int) = 0 then (none) else (if 0 ≤ (Int.tmod (wrap64 (a3 + x10_1)) (t730.length : Int)) then (if (Int.tmod (wrap64 (a3 + x10_1)) (t730.length : Int)) < (t730.length : Int) then (if (rd t730 (Int.tmod (wrap64 (a3 + x10_1)) (t730.length : Int))) = 1 then (some (wrap64 (a3 + x10_1))) else (spec_NextGreen.l0 kj6 a3 t730 (wrap64 (x10_1 + 1)))) else (none)) else (none))) = some r := by rw [if_pos rfl] at H; exact H
            clear H
            have H := H1
            clear H1
            have c13 : ¬ ((t730.length : Int) = 0) := ifN' H
            replace H := ifT' H
            have c13b0 : ((t730.length : Int) == 0) = false := beq_eq_false_iff_ne.mpr c13
            have c13b1 : ((t730.length : Int) != 0) = true := bne_iff_ne.mpr c13
            have c13b2 : ¬ (t730 = []) := fun h_ => c13 (by rw [h_]; rfl)
            obtain ⟨ji14, hji14⟩ : ∃ j_ : Int, (Int.tmod (wrap64 (a3 + x10_1)) (t730.length : Int)) = j_ := ⟨_, rfl⟩
            replace H : (if 0 ≤ (ji14) then (if (ji14) < (t730.length : Int) then (if (rd t730 (ji14)) = 1 then (some (wrap64 (a3 + x10_1))) else (spec_NextGreen.l0 kj6 a3 t730 (wrap64 (x10_1 + 1)))) else (none)) else (none)) = some r := by first | (rw [hji14] at H; exact H) | (simp only [hji14] at H ⊢; exact H)
            have c15 : 0 ≤ (ji14) := ifN H
            replace H := ifT H
            have c15b0 : decide (0 ≤ (ji14)) = true := decide_eq_true c15
            clear c15
            have c16 : (ji14) < (t730.length : Int) := ifN H
            replace H := ifT H
            have c16b0 : decide ((ji14) < (t730.length : Int)) = true := decide_eq_true c16
            clear c16
            by_cases c17 : (rd t730 (ji14)) = 1
            · rw [if_pos c17] at H
              have c17b0 : ((rd t730 (ji14)) == 1) = true := beq_iff_eq.mpr c17
              have c17b1 : ((rd t730 (ji14)) != 1) = false := bne_eq_false_iff_eq.mpr c17
              clear c17
              obtain rfl := Option.some.inj H
              obtain ⟨Ao18, co18, eo18⟩ := Kd.R_slice HO_9.out
              subst eo18
              have p734 : 0 ≤ ((ji14) : Int) := dA
              have q734 : (ji14) < (t730.length : Int) := dA
              obtain ⟨ad734, e734, hx734_0⟩ := Kd.at_int (Kd.R_reads' HO_9.out).2.2 (ji14) p734 q734
              cases e734
              replace p734 := eq_true p734
              replace q734 := eq_true q734
              go_wp2
              go_ret
              exact ⟨by first | rfl | (simp [errW_none, errW_some] <;> rfl) | (simp only [← hji14]; first | rfl | (simp [errW_none, errW_some] <;> rfl)) | (simp [*, errW_none, errW_some] <;> rfl), bA⟩
            · rw [if_neg c17] at H
              have c17b0 : ((rd t730 (ji14)) == 1) = false := beq_eq_false_iff_ne.mpr c17
              have c17b1 : ((rd t730 (ji14)) != 1) = true := bne_iff_ne.mpr c17
              have H' := Aside0.mk H
              clear H
              obtain ⟨Ao19, co19, eo19⟩ := Kd.R_slice HO_9.out
              subst eo19
              have p734 : 0 ≤ ((ji14) : Int) := dA
              have q734 : (ji14) < (t730.length : Int) := dA
              obtain ⟨ad734, e734, hx734_0⟩ := Kd.at_int (Kd.R_reads' HO_9.out).2.2 (ji14) p734 q734
              cases e734
              replace p734 := eq_true p734
              replace q734 := eq_true q734
              go_wp2
              go_roundg kj6
              case measure => have := HK1.out; have := HJ6.out; omega
              case rel => exact ⟨(wrap64 (x10_1 + 1)), rS, H', ⟨by have := HK1.out; have := HJ6.out; omega⟩, ⟨rK HO_9⟩, ⟨bA⟩⟩
          · replace c12 := Bool.eq_false_iff.mpr c12
            subst c12
            have H1 : (some (-1)) = some r := by rw [if_neg (show ¬ (false = true) by decide)] at H; exact H
            clear H
            have H := H1
            clear H1
            obtain rfl := Option.some.inj H
            go_wp2
            go_ret
            exact ⟨rA, bA⟩

/-! ### spec_WorstWait: function 48 -/
def spec_WorstWait.l0 : Nat → List (S58) → List (S51) → Int → Int → Option (Int)
  | 0, _, _, _, _ => none
  | k + 1, x0, x1, x5, x6 => if x6 < (x0.length : Int) then (if 0 ≤ x6 then ((spec_WaitOf.f k x0 x1 ((rd_T58 x0 x6).f0)).bind fun t765 => ((spec_Max.f x5 t765).bind fun t766 => (spec_WorstWait.l0 k x0 x1 t766 (wrap64 (x6 + 1))))) else (none)) else (some x5)
def spec_WorstWait.f (k : Nat) (l0 : List (S58)) (l1 : List (S51)) : Option (Int) := spec_WorstWait.l0 k l0 l1 0 0
theorem spec_WorstWait.mono_l : ∀ k, (∀ y0 y1 y2 y3, LeO (spec_WorstWait.l0 k y0 y1 y2 y3) (spec_WorstWait.l0 (k + 1) y0 y1 y2 y3))
  | 0 => fun _ _ _ _ r h => by simp [spec_WorstWait.l0] at h
  | k + 1 => by
    have ih0 := spec_WorstWait.mono_l k
    · intro y0 y1 y2 y3
      unfold spec_WorstWait.l0
      repeat' first | (with_reducible first | exact LeO.refl _ | exact LeO.none _ | refine LeO.ite ?_ ?_ | refine LeO.bind ?_ (fun _ => ?_) | exact ih0 _ _ _ _ | exact spec_WaitOf.mono _ _ _ _) | exact LeO.none _ | refine LeO.ite ?_ ?_ | refine LeO.bind ?_ (fun _ => ?_) | exact ih0 _ _ _ _ | exact spec_WaitOf.mono _ _ _ _
theorem spec_WorstWait.mono : ∀ a0 a1 k, LeO (spec_WorstWait.f k a0 a1) (spec_WorstWait.f (k + 1) a0 a1) := by
  intro a0 a1 k
  have ih0 := spec_WorstWait.mono_l k
  unfold spec_WorstWait.f
  repeat' first | (with_reducible first | exact LeO.refl _ | exact LeO.none _ | refine LeO.ite ?_ ?_ | refine LeO.bind ?_ (fun _ => ?_) | exact ih0 _ _ _ _ | exact spec_WaitOf.mono _ _ _ _) | exact LeO.none _ | refine LeO.ite ?_ ?_ | refine LeO.bind ?_ (fun _ => ?_) | exact ih0 _ _ _ _ | exact spec_WaitOf.mono _ _ _ _
set_option maxHeartbeats 8000000 in
set_option maxRecDepth 100000 in
theorem spec_WorstWait.calls (k : Nat) (A0 : Option Addr) (c0 : Nat) (l0 : List (S58)) (A1 : Option Addr) (c1 : Nat) (l1 : List (S51)) (r : Int) (w : World) (hr0 : Kd.C k58 w A0 l0.length l0) (hc0 : l0.length ≤ c0) (hr1 : Kd.C k51 w A1 l1.length l1) (hc1 : l1.length ≤ c1) (h : spec_WorstWait.f k l0 l1 = some r) :
    Calls Try.prog 48 #[.slice A0 l0.length c0, .slice A1 l1.length c1] w fun e w' => e = .returned (.int .i64 r) ∧ Below w.heap.size w w' := by
  have HR0 := Aside0.mk hr0
  have HC0 := Aside0.mk hc0
  clear hr0 hc0
  have HR1 := Aside0.mk hr1
  have HC1 := Aside0.mk hc1
  clear hr1 hc1
  have HB := Aside0.mk (Below.refl w.heap.size w)
  have H : (spec_WorstWait.l0 k l0 l1 0 0) = some r := h
  clear h
  have H' := Aside0.mk H
  clear H
  go_enter Try.func48, Try.ntmps48
  go_wp2
  go_loopg [5, 6] k (fun kq v5 v6 w' => ∃ (x5_1 : Int) (x6_1 : Int), v5 = .int .i64 x5_1 ∧ v6 = .int .i64 x6_1 ∧ Aside0 (spec_WorstWait.l0 kq l0 l1 x5_1 x6_1 = some r) ∧ Aside0 (kq ≤ k) ∧ Aside0 (Below w.heap.size w w'))
  case atStart => exact ⟨(0), (0), rS, rS, H', ⟨Nat.le_refl _⟩, ⟨bA⟩⟩
  case round =>
    clear H'
    try clear c1
    try clear p2
    obtain ⟨x5_1, x6_1, rfl, rfl, HA, HK1, HB⟩ := hrel
    cases gk with
    | zero => exact absurd HA.out (by simp [spec_WorstWait.l0])
    | succ k1 =>
      have H := HA.out
      clear HA
      simp only [spec_WorstWait.l0] at H
      by_cases c3 : x6_1 < (l0.length : Int)
      · rw [if_pos c3] at H
        have c3b0 : decide (x6_1 < (l0.length : Int)) = true := decide_eq_true c3
        clear c3
        have c4 : 0 ≤ x6_1 := ifN H
        replace H := ifT H
        have c4b0 : decide (0 ≤ x6_1) = true := decide_eq_true c4
        clear c4
        obtain ⟨t765, A5, H⟩ := bindE H
        try dsimp only at H
        obtain ⟨t766, A6, H⟩ := bindE H
        try dsimp only at H
        have H' := Aside0.mk H
        clear H
        have p764 : 0 ≤ (x6_1 : Int) := dA
        have q764 : x6_1 < (l0.length : Int) := dA
        obtain ⟨ad764, e764, hx764_0, hx764_1, hx764_2, hx764_3⟩ := at_T58 HR0.out x6_1 p764 q764
        cases e764
        replace hx764_0 := hC HB hx764_0
        replace hx764_1 := hC HB hx764_1
        replace hx764_2 := hC HB hx764_2
        replace hx764_3 := hC HB hx764_3
        replace p764 := eq_true p764
        replace q764 := eq_true q764
        go_wp2_with (first | ((with_reducible refine gate_callee (f := 44) rfl ?_); refine gL (some 21) Try.func44 #[.slice (some ad764) l0.length c0, .slice A1 l1.length c1, .int .i64 ((rd_T58 l0 x6_1).f0)] ?_; (with_reducible refine (spec_WaitOf.calls k1 _ _ l0 _ _ l1 ((rd_T58 l0 x6_1).f0) t765 _ ?side1 ?side2 ?side3 ?side4 A5.out).mono ?_); (case side1 => exact cB HR0); (case side2 => exact HC0.out); (case side3 => exact cB HR1); (case side4 => exact HC1.out); rintro e w7 ⟨rfl, hb⟩; refine ⟨_, rfl, ?_⟩; replace HB := Aside0.mk (below_step bA hb); (try clear hb); (try clear hb2); (try clear hk); (try clear hi)) | ((with_reducible refine gate_callee (f := 67) rfl ?_); refine gL (some 22) Try.func67 #[.int .i64 x5_1, .int .i64 t765] ?_; (with_reducible refine (spec_Max.calls x5_1 t765 t766 _ A6.out).mono ?_); rintro e w' ⟨rfl, ⟨nd, rfl⟩⟩; refine ⟨_, rfl, ?_⟩))
        go_roundg k1
        case measure => have := HK1.out; omega
        case rel => exact ⟨(t766), (wrap64 (x6_1 + 1)), rS, rS, H', ⟨by have := HK1.out; omega⟩, ⟨bA⟩⟩
      · rw [if_neg c3] at H
        have c3b0 : decide (x6_1 < (l0.length : Int)) = false := decide_eq_false c3
        clear c3
        obtain rfl := Option.some.inj H
        go_wp2
        go_ret
        exact ⟨rA, bA⟩

end Go.Proofs.Ytbpnbflfpgakmaa.P
