/- Printed by myprint.py (wip/tools) over the kit's print: what Go's functions compute, and that they do. Lean checks it. -/
import Derived.Test.YtbpnbflfpgakmaaF0
import Derived.Test.YtbpnbflfpgakmaaFI01
import Derived.Test.YtbpnbflfpgakmaaFI05
import Derived.Test.YtbpnbflfpgakmaaFI07
import Derived.Test.YtbpnbflfpgakmaaFI08
import Derived.Test.YtbpnbflfpgakmaaFZHas
namespace Go.Proofs.Ytbpnbflfpgakmaa.P
open Go.RowKit Go.Proofs.YtbpnbflfpgakmaaW.PrintWords Go.Proofs.YtbpnbflfpgakmaaW.PrintLast Go.Proofs.YtbpnbflfpgakmaaW.PrintMore Go.Proofs.Ytbpnbflfpgakmaa.Sq
attribute [local go_sem] max2_int min2_int max_two min_two max_three min_three max_four min_four
set_option linter.unusedVariables false
set_option linter.unusedSimpArgs false

/-! ### impl_PartAt: function 32 -/
mutual
def impl_PartAt.j0 : Nat → List (S58) → List (S51) → Int → Int → Bool → Option (Int × Int)
  | 0, _, _, _, _, _ => none
  | k + 1, x0, x1, x2, x8, x20 => if x20 = true then (some ((-1), 0)) else (if x8 = 0 then (none) else (impl_PartAt.l0 k x0 x1 (Int.tmod x2 x8) 0))
def impl_PartAt.l0 : Nat → List (S58) → List (S51) → Int → Int → Option (Int × Int)
  | 0, _, _, _, _ => none
  | k + 1, x0, x1, x9, x10 => (impl_longOf.f k x0 x1 x10).bind fun t511 => (if x9 ≥ t511 then ((impl_longOf.f k x0 x1 x10).bind fun t512 => (impl_PartAt.l0 k x0 x1 (wrap64 (x9 - t512)) (wrap64 (x10 + 1)))) else (some (x10, x9)))
end
def impl_PartAt.f (k : Nat) (l0 : List (S58)) (l1 : List (S51)) (a2 : Int) : Option (Int × Int) := (impl_Cycle.f k l0 l1).bind fun t509 => (if t509 = 0 then (impl_PartAt.j0 k l0 l1 a2 t509 true) else ((impl_InRange.f a2 0 1000000).bind fun t510 => (impl_PartAt.j0 k l0 l1 a2 t509 (!t510))))
theorem impl_PartAt.mono_l : ∀ k, (∀ y0 y1 y2 y3 y4, LeO (impl_PartAt.j0 k y0 y1 y2 y3 y4) (impl_PartAt.j0 (k + 1) y0 y1 y2 y3 y4)) ∧ (∀ y0 y1 y2 y3, LeO (impl_PartAt.l0 k y0 y1 y2 y3) (impl_PartAt.l0 (k + 1) y0 y1 y2 y3))
  | 0 => ⟨fun _ _ _ _ _ r h => by simp [impl_PartAt.j0] at h, fun _ _ _ _ r h => by simp [impl_PartAt.l0] at h⟩
  | k + 1 => by
    obtain ⟨ih0, ih1⟩ := impl_PartAt.mono_l k
    refine ⟨?_, ?_⟩
    · intro y0 y1 y2 y3 y4
      unfold impl_PartAt.j0
      repeat' first | (with_reducible first | exact LeO.refl _ | exact LeO.none _ | refine LeO.ite ?_ ?_ | refine LeO.bind ?_ (fun _ => ?_) | exact ih0 _ _ _ _ _ | exact ih1 _ _ _ _ | exact impl_Cycle.mono _ _ _ | exact impl_longOf.mono _ _ _ _) | exact LeO.none _ | refine LeO.ite ?_ ?_ | refine LeO.bind ?_ (fun _ => ?_) | exact ih0 _ _ _ _ _ | exact ih1 _ _ _ _ | exact impl_Cycle.mono _ _ _ | exact impl_longOf.mono _ _ _ _
    · intro y0 y1 y2 y3
      unfold impl_PartAt.l0
      repeat' first | (with_reducible first | exact LeO.refl _ | exact LeO.none _ | refine LeO.ite ?_ ?_ | refine LeO.bind ?_ (fun _ => ?_) | exact ih0 _ _ _ _ _ | exact ih1 _ _ _ _ | exact impl_Cycle.mono _ _ _ | exact impl_longOf.mono _ _ _ _) | exact LeO.none _ | refine LeO.ite ?_ ?_ | refine LeO.bind ?_ (fun _ => ?_) | exact ih0 _ _ _ _ _ | exact ih1 _ _ _ _ | exact impl_Cycle.mono _ _ _ | exact impl_longOf.mono _ _ _ _
theorem impl_PartAt.mono : ∀ a0 a1 a2 k, LeO (impl_PartAt.f k a0 a1 a2) (impl_PartAt.f (k + 1) a0 a1 a2) := by
  intro a0 a1 a2 k
  obtain ⟨ih0, ih1⟩ := impl_PartAt.mono_l k
  unfold impl_PartAt.f
  repeat' first | (with_reducible first | exact LeO.refl _ | exact LeO.none _ | refine LeO.ite ?_ ?_ | refine LeO.bind ?_ (fun _ => ?_) | exact ih0 _ _ _ _ _ | exact ih1 _ _ _ _ | exact impl_Cycle.mono _ _ _ | exact impl_longOf.mono _ _ _ _) | exact LeO.none _ | refine LeO.ite ?_ ?_ | refine LeO.bind ?_ (fun _ => ?_) | exact ih0 _ _ _ _ _ | exact ih1 _ _ _ _ | exact impl_Cycle.mono _ _ _ | exact impl_longOf.mono _ _ _ _
set_option maxHeartbeats 8000000 in
set_option maxRecDepth 100000 in
theorem impl_PartAt.calls (k : Nat) (A0 : Option Addr) (c0 : Nat) (l0 : List (S58)) (A1 : Option Addr) (c1 : Nat) (l1 : List (S51)) (a2 : Int) (r1 : Int) (r2 : Int) (w : World) (hr0 : Kd.C k58 w A0 l0.length l0) (hc0 : l0.length ≤ c0) (hr1 : Kd.C k51 w A1 l1.length l1) (hc1 : l1.length ≤ c1) (h : impl_PartAt.f k l0 l1 a2 = some (r1, r2)) :
    Calls Try.prog 32 #[.slice A0 l0.length c0, .slice A1 l1.length c1, .int .i64 a2] w fun e w' => e = .returned (.tuple #[.int .i64 r1, .int .i64 r2]) ∧ Below w.heap.size w w' := by
  have HR0 := Aside0.mk hr0
  have HC0 := Aside0.mk hc0
  clear hr0 hc0
  have HR1 := Aside0.mk hr1
  have HC1 := Aside0.mk hc1
  clear hr1 hc1
  have HB := Aside0.mk (Below.refl w.heap.size w)
  have H : ((impl_Cycle.f k l0 l1).bind fun t509 => (if t509 = 0 then (impl_PartAt.j0 k l0 l1 a2 t509 true) else ((impl_InRange.f a2 0 1000000).bind fun t510 => (impl_PartAt.j0 k l0 l1 a2 t509 (!t510))))) = some (r1, r2) := h
  clear h
  obtain ⟨t509, A4, H⟩ := bindE H
  try dsimp only at H
  have HC5 := Aside0.mk H
  clear H
  go_enter Try.func32, Try.ntmps32
  go_upto_region 2 with (first | ((with_reducible refine gate_callee (f := 24) rfl ?_); refine gL (some 13) Try.func24 #[.slice A0 l0.length c0, .slice A1 l1.length c1] ?_; (with_reducible refine (impl_Cycle.calls k _ _ l0 _ _ l1 t509 _ ?side1 ?side2 ?side3 ?side4 A4.out).mono ?_); (case side1 => exact cO HR0); (case side2 => exact HC0.out); (case side3 => exact cO HR1); (case side4 => exact HC1.out); rintro e w6 ⟨rfl, hb⟩; refine ⟨_, rfl, ?_⟩; replace HB := Aside0.mk (below_step bA hb); (try clear hb); (try clear hb2); (try clear hk); (try clear hi)))
  (try simp only [Act.put, List.setIfInBounds_toArray, List.set_cons_zero, List.set_cons_succ])
  go_cut [20] (fun v20 wc => ∃ (kq : Nat) (x20_4 : Bool), v20 = .bool x20_4 ∧ Aside0 (impl_PartAt.j0 kq l0 l1 a2 t509 x20_4 = some (r1, r2)) ∧ Aside0 (kq ≤ k) ∧ Aside0 (Below w.heap.size w wc))
  case first =>
    have H := HC5.out
    clear HC5
    by_cases c7 : t509 = 0
    · rw [if_pos c7] at H
      have c7b0 : (t509 == 0) = true := beq_iff_eq.mpr c7
      have c7b1 : (t509 != 0) = false := bne_eq_false_iff_eq.mpr c7
      clear c7
      (first | rw [c7b0] | (simp only [i64_w, i32_w]; rw [c7b0]) | skip)
      have H' := Aside0.mk H
      clear H
      go_wp2
      go_meet
      case rel => exact ⟨_, (true), rS, H', ⟨by first | omega | exact Nat.le_refl _⟩, ⟨bA⟩⟩
    · rw [if_neg c7] at H
      have c7b0 : (t509 == 0) = false := beq_eq_false_iff_ne.mpr c7
      have c7b1 : (t509 != 0) = true := bne_iff_ne.mpr c7
      (first | rw [c7b0] | (simp only [i64_w, i32_w]; rw [c7b0]) | skip)
      obtain ⟨t510, A8, H⟩ := bindE H
      try dsimp only at H
      have H' := Aside0.mk H
      clear H
      go_wp2_with (first | (go_at_call 58; (with_reducible refine (impl_InRange.calls a2 0 1000000 t510 _ A8.out).mono ?_); rintro e w' ⟨rfl, ⟨nd, rfl⟩⟩))
      go_meet
      case rel => exact ⟨_, (!t510), rS, H', ⟨by first | omega | exact Nat.le_refl _⟩, ⟨bA⟩⟩
  case rest =>
    clear HC5
    try clear c1
    try clear c2
    try clear p2
    try clear c3
    try clear c7
    try clear c7b0
    try clear c7b1
    obtain ⟨kq, x20_4, rfl, HA, HJ4, HB⟩ := hcut
    cases kq with
    | zero => exact absurd HA.out (by simp [impl_PartAt.j0])
    | succ kj4 =>
      have H := HA.out
      clear HA
      simp only [impl_PartAt.j0] at H
      by_cases c9 : x20_4 = true
      · subst c9
        have H1 : (some ((-1), 0)) = some (r1, r2) := by rw [if_pos rfl] at H; exact H
        clear H
        have H := H1
        clear H1
        simp only [Option.some.injEq, Prod.mk.injEq] at H
        obtain ⟨rfl, rfl⟩ := H
        go_wp2
        go_ret2
        exact ⟨rA, bA⟩
      · replace c9 := Bool.eq_false_iff.mpr c9
        subst c9
        have H1 : (if t509 = 0 then (none) else (impl_PartAt.l0 kj4 l0 l1 (Int.tmod a2 t509) 0)) = some (r1, r2) := by rw [if_neg (show ¬ (false = true) by decide)] at H; exact H
        clear H
        have H := H1
        clear H1
        have c10 : ¬ (t509 = 0) := ifN' H
        replace H := ifT' H
        have c10b0 : (t509 == 0) = false := beq_eq_false_iff_ne.mpr c10
        have c10b1 : (t509 != 0) = true := bne_iff_ne.mpr c10
        have H' := Aside0.mk H
        clear H
        go_wp2
        go_loopg [9, 10] kj4 (fun kq v9 v10 w' => ∃ (x9_2 : Int) (x10_2 : Int), v9 = .int .i64 x9_2 ∧ v10 = .int .i64 x10_2 ∧ Aside0 (impl_PartAt.l0 kq l0 l1 x9_2 x10_2 = some (r1, r2)) ∧ Aside0 (kq ≤ kj4) ∧ Aside0 (Below w.heap.size w w'))
        case atStart => exact ⟨(Int.tmod a2 t509), (0), rS, rS, H', ⟨Nat.le_refl _⟩, ⟨bA⟩⟩
        case round =>
          clear H'
          try clear c1
          try clear c2
          try clear p2
          try clear c3
          try clear c7
          try clear c7b0
          try clear c7b1
          try clear c9
          try clear c10
          try clear c10b0
          try clear c10b1
          try clear p2
          obtain ⟨x9_2, x10_2, rfl, rfl, HA, HK2, HB⟩ := hrel
          cases gk with
          | zero => exact absurd HA.out (by simp [impl_PartAt.l0])
          | succ k2 =>
            have H := HA.out
            clear HA
            simp only [impl_PartAt.l0] at H
            obtain ⟨t511, A11, H⟩ := bindE H
            try dsimp only at H
            by_cases c12 : x9_2 ≥ t511
            · rw [if_pos c12] at H
              have c12b0 : decide (t511 ≤ x9_2) = true := decide_eq_true c12
              clear c12
              obtain ⟨t512, A13, H⟩ := bindE H
              try dsimp only at H
              have H' := Aside0.mk H
              clear H
              go_wp2_with (first | ((with_reducible refine gate_callee (f := 65) rfl ?_); refine gL (some 28) Try.func65 #[.slice A0 l0.length c0, .slice A1 l1.length c1, .int .i64 x10_2] ?_; (with_reducible refine (impl_longOf.calls k2 _ _ l0 _ _ l1 x10_2 t511 _ ?side1 ?side2 ?side3 ?side4 A11.out).mono ?_); (case side1 => exact cB HR0); (case side2 => exact HC0.out); (case side3 => exact cB HR1); (case side4 => exact HC1.out); rintro e w14 ⟨rfl, hb⟩; refine ⟨_, rfl, ?_⟩; replace HB := Aside0.mk (below_step bA hb); (try clear hb); (try clear hb2); (try clear hk); (try clear hi)) | ((with_reducible refine gate_callee (f := 65) rfl ?_); refine gL (some 34) Try.func65 #[.slice A0 l0.length c0, .slice A1 l1.length c1, .int .i64 x10_2] ?_; (with_reducible refine (impl_longOf.calls k2 _ _ l0 _ _ l1 x10_2 t512 _ ?side1 ?side2 ?side3 ?side4 A13.out).mono ?_); (case side1 => exact cB HR0); (case side2 => exact HC0.out); (case side3 => exact cB HR1); (case side4 => exact HC1.out); rintro e w15 ⟨rfl, hb⟩; refine ⟨_, rfl, ?_⟩; replace HB := Aside0.mk (below_step bA hb); (try clear hb); (try clear hb2); (try clear hk); (try clear hi)))
              go_roundg k2
              case measure => have := HJ4.out; have := HK2.out; omega
              case rel => exact ⟨(wrap64 (x9_2 - t512)), (wrap64 (x10_2 + 1)), rS, rS, H', ⟨by have := HJ4.out; have := HK2.out; omega⟩, ⟨bA⟩⟩
            · rw [if_neg c12] at H
              have c12b0 : decide (t511 ≤ x9_2) = false := decide_eq_false c12
              clear c12
              simp only [Option.some.injEq, Prod.mk.injEq] at H
              obtain ⟨rfl, rfl⟩ := H
              go_wp2_with (first | ((with_reducible refine gate_callee (f := 65) rfl ?_); refine gL (some 28) Try.func65 #[.slice A0 l0.length c0, .slice A1 l1.length c1, .int .i64 x10_2] ?_; (with_reducible refine (impl_longOf.calls k2 _ _ l0 _ _ l1 x10_2 t511 _ ?side1 ?side2 ?side3 ?side4 A11.out).mono ?_); (case side1 => exact cB HR0); (case side2 => exact HC0.out); (case side3 => exact cB HR1); (case side4 => exact HC1.out); rintro e w16 ⟨rfl, hb⟩; refine ⟨_, rfl, ?_⟩; replace HB := Aside0.mk (below_step bA hb); (try clear hb); (try clear hb2); (try clear hk); (try clear hi)))
              go_ret2
              exact ⟨rA, bA⟩

/-! ### impl_shown: function 71 -/
mutual
def impl_shown.j0 : Nat → List (S51) → Int → Int → Bool → Int → Int → Int → Int → Option (Int)
  | 0, _, _, _, _, _, _, _, _ => none
  | k + 1, x1, x9, x10, x30, x553000, x553001, x553002, x553003 => if x30 = true then (some 0) else (if 0 ≤ x9 then (if x9 < (x1.length : Int) then (if x10 < ((rd_T51 x1 x9).f1) then (impl_shown.j1 k x1 x9 x10 true x553000 x553001 x553002 x553003) else ((impl_nextStage.f x1 x9).bind fun t558 => ((slices_Contains_int_int.f k t558 x553000).bind fun t561 => (impl_shown.j1 k x1 x9 x10 t561 x553000 x553001 x553002 x553003)))) else (none)) else (none))
def impl_shown.j1 : Nat → List (S51) → Int → Int → Bool → Int → Int → Int → Int → Option (Int)
  | 0, _, _, _, _, _, _, _, _ => none
  | k + 1, x1, x9, x10, x31, x553000, x553001, x553002, x553003 => if x31 = true then (some 1) else (if 0 ≤ x9 then (if x9 < (x1.length : Int) then ((impl_ClearOf.f x553000 x553001 x553002 x553003).bind fun t563 => (if x10 < (wrap64 (((rd_T51 x1 x9).f1) + t563)) then (some 2) else (some 0))) else (none)) else (none))
end
def impl_shown.f (k : Nat) (l0 : List (S58)) (l1 : List (S51)) (a2 : Int) (a3_0 : Int) (a3_1 : Int) (a3_2 : Int) (a3_3 : Int) : Option (Int) := (impl_PartAt.f k l0 l1 a2).bind fun bt553 => (if bt553.1 < 0 then (impl_shown.j0 k l1 bt553.1 bt553.2 true a3_0 a3_1 a3_2 a3_3) else (if 0 ≤ bt553.1 then (if bt553.1 < (l1.length : Int) then ((slices_Contains_int_int.f k ((rd_T51 l1 bt553.1).f0) a3_0).bind fun t556 => (impl_shown.j0 k l1 bt553.1 bt553.2 (!t556) a3_0 a3_1 a3_2 a3_3)) else (none)) else (none)))
theorem impl_shown.mono_l : ∀ k, (∀ y0 y1 y2 y3 y4 y5 y6 y7, LeO (impl_shown.j0 k y0 y1 y2 y3 y4 y5 y6 y7) (impl_shown.j0 (k + 1) y0 y1 y2 y3 y4 y5 y6 y7)) ∧ (∀ y0 y1 y2 y3 y4 y5 y6 y7, LeO (impl_shown.j1 k y0 y1 y2 y3 y4 y5 y6 y7) (impl_shown.j1 (k + 1) y0 y1 y2 y3 y4 y5 y6 y7))
  | 0 => ⟨fun _ _ _ _ _ _ _ _ r h => by simp [impl_shown.j0] at h, fun _ _ _ _ _ _ _ _ r h => by simp [impl_shown.j1] at h⟩
  | k + 1 => by
    obtain ⟨ih0, ih1⟩ := impl_shown.mono_l k
    refine ⟨?_, ?_⟩
    · intro y0 y1 y2 y3 y4 y5 y6 y7
      unfold impl_shown.j0
      repeat' first | (with_reducible first | exact LeO.refl _ | exact LeO.none _ | refine LeO.ite ?_ ?_ | refine LeO.bind ?_ (fun _ => ?_) | exact ih0 _ _ _ _ _ _ _ _ | exact ih1 _ _ _ _ _ _ _ _ | exact impl_PartAt.mono _ _ _ _ | exact slices_Contains_int_int.mono _ _ _) | exact LeO.none _ | refine LeO.ite ?_ ?_ | refine LeO.bind ?_ (fun _ => ?_) | exact ih0 _ _ _ _ _ _ _ _ | exact ih1 _ _ _ _ _ _ _ _ | exact impl_PartAt.mono _ _ _ _ | exact slices_Contains_int_int.mono _ _ _
    · intro y0 y1 y2 y3 y4 y5 y6 y7
      unfold impl_shown.j1
      repeat' first | (with_reducible first | exact LeO.refl _ | exact LeO.none _ | refine LeO.ite ?_ ?_ | refine LeO.bind ?_ (fun _ => ?_) | exact ih0 _ _ _ _ _ _ _ _ | exact ih1 _ _ _ _ _ _ _ _ | exact impl_PartAt.mono _ _ _ _ | exact slices_Contains_int_int.mono _ _ _) | exact LeO.none _ | refine LeO.ite ?_ ?_ | refine LeO.bind ?_ (fun _ => ?_) | exact ih0 _ _ _ _ _ _ _ _ | exact ih1 _ _ _ _ _ _ _ _ | exact impl_PartAt.mono _ _ _ _ | exact slices_Contains_int_int.mono _ _ _
theorem impl_shown.mono : ∀ a0 a1 a2 a3 a4 a5 a6 k, LeO (impl_shown.f k a0 a1 a2 a3 a4 a5 a6) (impl_shown.f (k + 1) a0 a1 a2 a3 a4 a5 a6) := by
  intro a0 a1 a2 a3 a4 a5 a6 k
  obtain ⟨ih0, ih1⟩ := impl_shown.mono_l k
  unfold impl_shown.f
  repeat' first | (with_reducible first | exact LeO.refl _ | exact LeO.none _ | refine LeO.ite ?_ ?_ | refine LeO.bind ?_ (fun _ => ?_) | exact ih0 _ _ _ _ _ _ _ _ | exact ih1 _ _ _ _ _ _ _ _ | exact impl_PartAt.mono _ _ _ _ | exact slices_Contains_int_int.mono _ _ _) | exact LeO.none _ | refine LeO.ite ?_ ?_ | refine LeO.bind ?_ (fun _ => ?_) | exact ih0 _ _ _ _ _ _ _ _ | exact ih1 _ _ _ _ _ _ _ _ | exact impl_PartAt.mono _ _ _ _ | exact slices_Contains_int_int.mono _ _ _
def impl_shown.T2 : Bool × List (List Nat × List Nat) := (true, [([], []), ([0], [0]), ([1], [1]), ([2], [2]), ([2], [2]), ([3, 4, 2], [2, 3, 4]), ([5, 2], [2, 5]), ([6, 2], [2, 6]), ([2], [2]), ([8, 2], [2, 8]), ([7, 9, 2, 2], [2, 7, 9]), ([10, 2], [2, 10]), ([2, 11], [2, 11])])
def impl_shown.B2 : List Nat := [0, 1, 3, 7, 7, 31, 63, 127, 7, 263, 1023, 2047, 4095]
theorem impl_shown.tab2 : rtab .any (opsOf Try.f71 2) = impl_shown.T2 := by kernel_rfl
theorem impl_shown.bits2 : waitsOk impl_shown.T2.2 impl_shown.B2 = true := by kernel_rfl
def impl_shown.T4 : Bool × List (List Nat × List Nat) := (true, [([], []), ([], []), ([], []), ([1, 2], [1, 2]), ([3], [3]), ([4], [4]), ([0, 5], [0, 5]), ([6], [6]), ([7], [7]), ([7], [7]), ([8, 9, 7, 7], [7, 8, 9]), ([7], [7]), ([11, 7], [7, 11]), ([10, 12, 10, 7], [7, 10, 12]), ([7, 13], [7, 13]), ([14, 13], [14])])
def impl_shown.B4 : List Nat := [0, 0, 0, 6, 14, 30, 63, 127, 255, 255, 1023, 255, 2303, 8191, 16383, 32767]
theorem impl_shown.tab4 : rtab .any (opsOf Try.f71 4) = impl_shown.T4 := by kernel_rfl
theorem impl_shown.bits4 : waitsOk impl_shown.T4.2 impl_shown.B4 = true := by kernel_rfl
def impl_shown.T6 : Bool × List (List Nat × List Nat) := (true, [([], []), ([], []), ([], []), ([1, 2], [1, 2]), ([3], [3]), ([4], [4]), ([], []), ([6], [6]), ([5, 7], [5, 7]), ([0, 8], [0, 8]), ([9, 7], [9])])
def impl_shown.B6 : List Nat := [0, 0, 0, 6, 14, 30, 0, 64, 254, 511, 1023]
theorem impl_shown.tab6 : rtab .any (opsOf Try.f71 6) = impl_shown.T6 := by kernel_rfl
theorem impl_shown.bits6 : waitsOk impl_shown.T6.2 impl_shown.B6 = true := by kernel_rfl
set_option maxHeartbeats 8000000 in
set_option maxRecDepth 100000 in
theorem impl_shown.calls (k : Nat) (A0 : Option Addr) (c0 : Nat) (l0 : List (S58)) (A1 : Option Addr) (c1 : Nat) (l1 : List (S51)) (a2 : Int) (a3_0 : Int) (a3_1 : Int) (a3_2 : Int) (a3_3 : Int) (r : Int) (w : World) (hr0 : Kd.C k58 w A0 l0.length l0) (hc0 : l0.length ≤ c0) (hr1 : Kd.C k51 w A1 l1.length l1) (hc1 : l1.length ≤ c1) (h : impl_shown.f k l0 l1 a2 a3_0 a3_1 a3_2 a3_3 = some r) :
    Calls Try.prog 71 #[.slice A0 l0.length c0, .slice A1 l1.length c1, .int .i64 a2, .agg #[.int .i64 a3_0, .int .i64 a3_1, .int .i64 a3_2, .int .i64 a3_3]] w fun e w' => e = .returned (.int .i64 r) ∧ Below w.heap.size w w' := by
  have hu58 := Try.underlying58
  have HR0 := Aside0.mk hr0
  have HC0 := Aside0.mk hc0
  clear hr0 hc0
  have HR1 := Aside0.mk hr1
  have HC1 := Aside0.mk hc1
  clear hr1 hc1
  have HB := Aside0.mk (Below.refl w.heap.size w)
  have H : ((impl_PartAt.f k l0 l1 a2).bind fun bt553 => (if bt553.1 < 0 then (impl_shown.j0 k l1 bt553.1 bt553.2 true a3_0 a3_1 a3_2 a3_3) else (if 0 ≤ bt553.1 then (if bt553.1 < (l1.length : Int) then ((slices_Contains_int_int.f k ((rd_T51 l1 bt553.1).f0) a3_0).bind fun t556 => (impl_shown.j0 k l1 bt553.1 bt553.2 (!t556) a3_0 a3_1 a3_2 a3_3)) else (none)) else (none)))) = some r := h
  clear h
  obtain ⟨⟨t553, t554⟩, A5, H⟩ := bindE H
  try dsimp only at H
  have HC6 := Aside0.mk H
  clear H
  go_enter Try.func71, Try.ntmps71
  go_upto_region 2 with (first | ((with_reducible refine gate_dst (N := 7) rfl ?_); refine bE (N := 7) (cs := #[.int .i64 a3_0, .int .i64 a3_1, .int .i64 a3_2, .int .i64 a3_3]) (t := 58) ?_; intro gb552 hg w7 hbox hb; have n0_ := Aside0.mk (below_step bA hb); have n1_ := Aside0.mk (hbox); have n2_ := Aside0.mk ((by rw [hg]; exact (below_size bA) : w.heap.size ≤ gb552)); have n3_ := Aside0.mk ((by rw [hg]; exact (below_size bA) : w.heap.size ≤ gb552)); clear HB; have HB := n0_; have BK552 := n1_; have GW552 := n2_; have GE552 := n3_; clear n0_ n1_ n2_ n3_; clear hb hbox hg) | ((with_reducible refine gate_callee (f := 32) rfl ?_); refine gL (some 15) Try.func32 #[.slice A0 l0.length c0, .slice A1 l1.length c1, .int .i64 a2] ?_; (with_reducible refine (impl_PartAt.calls k _ _ l0 _ _ l1 a2 t553 t554 _ ?side1 ?side2 ?side3 ?side4 A5.out).mono ?_); (case side1 => exact cB HR0); (case side2 => exact HC0.out); (case side3 => exact cB HR1); (case side4 => exact HC1.out); rintro e w8 ⟨rfl, hb⟩; refine ⟨_, rfl, ?_⟩; replace BK552 := Aside0.mk (blk_below (g := gb552) (bK BK552) hb); replace HB := Aside0.mk (below_step bG hb); (try clear hb); (try clear hb2); (try clear hk); (try clear hi)))
  (try simp only [Act.put, List.setIfInBounds_toArray, List.set_cons_zero, List.set_cons_succ])
  go_cut [30] (fun v30 wc => ∃ (kq : Nat) (x30_5 : Bool), v30 = .bool x30_5 ∧ Aside0 (impl_shown.j0 kq l1 t553 t554 x30_5 a3_0 a3_1 a3_2 a3_3 = some r) ∧ Aside0 (kq ≤ k) ∧ Aside0 (wc.heap[gb552]? = some (.cells #[.int .i64 a3_0, .int .i64 a3_1, .int .i64 a3_2, .int .i64 a3_3] 58 (0, 0))) ∧ Aside0 (Below w.heap.size w wc))
  case first =>
    have H := HC6.out
    clear HC6
    by_cases c9 : t553 < 0
    · rw [if_pos c9] at H
      have c9b0 : decide (t553 < 0) = true := decide_eq_true c9
      clear c9
      (first | rw [c9b0] | (simp only [i64_w, i32_w]; rw [c9b0]) | skip)
      have H' := Aside0.mk H
      clear H
      try go_wp2
      replace BK552 := Aside0.mk (blk_drew BK552.out)
      have HBo := HB
      replace HB := Aside0.mk (below_drew1 HB.out)
      refine start_ (n := 13) (S := fun w' => True) (ds := []) (mb 13 0) (by kernel_rfl) rfl rfl trivial (fun hHeld => ?_); refine with_tabW impl_shown.tab2 impl_shown.bits2 (fun HT_ HW_ => ?_)
      generalize w8.drew = w10 at BK552 HB hHeld ⊢
      refine pA (i := 0) (N := some 18) (mb 13 1) HT_ ?_
      refine pA (i := 1) (N := some 19) (mb 13 3) HT_ ?_
      refine pA (i := 2) (N := some 20) (mb 13 7) HT_ ?_
      refine pU (i := 3) (N := some 21) (mb 13 15) HT_ ?_
      refine pU (i := 4) (N := some 22) (mb 13 31) HT_ ?_
      refine pU (i := 5) (N := some 23) (mb 13 63) HT_ ?_
      refine pU (i := 6) (N := some 24) (mb 13 127) HT_ ?_
      refine pU (i := 7) (N := some 25) (mb 13 255) HT_ ?_
      refine pU (i := 8) (N := some 26) (mb 13 511) HT_ ?_
      refine pU (i := 9) (N := some 27) (mb 13 1023) HT_ ?_
      refine pU (i := 10) (N := some 28) (mb 13 2047) HT_ ?_
      refine pU (i := 11) (N := some 29) (mb 13 4095) HT_ ?_
      refine pA (i := 12) (N := some 30) (mb 13 8191) HT_ ?_
      refine eA HT_ ?_
      try go_wp2
      go_meet
      case rel => exact ⟨_, (true), rS, H', ⟨by first | omega | exact Nat.le_refl _⟩, ⟨bK BK552⟩, ⟨bG⟩⟩
    · rw [if_neg c9] at H
      have c9b0 : decide (t553 < 0) = false := decide_eq_false c9
      clear c9
      (first | rw [c9b0] | (simp only [i64_w, i32_w]; rw [c9b0]) | skip)
      have c11 : 0 ≤ t553 := ifN H
      replace H := ifT H
      have c11b0 : decide (0 ≤ t553) = true := decide_eq_true c11
      clear c11
      have c12 : t553 < (l1.length : Int) := ifN H
      replace H := ifT H
      have c12b0 : decide (t553 < (l1.length : Int)) = true := decide_eq_true c12
      clear c12
      obtain ⟨t556, A13, H⟩ := bindE H
      try dsimp only at H
      have H' := Aside0.mk H
      clear H
      try go_wp2
      replace BK552 := Aside0.mk (blk_drew BK552.out)
      have HBo := HB
      replace HB := Aside0.mk (below_drew1 HB.out)
      have p555 : 0 ≤ (t553 : Int) := dA
      have q555 : t553 < (l1.length : Int) := dA
      obtain ⟨ad555, A555_0, c555_0, e555, hx555_0, hx555_1, hl555_0, hi555_0⟩ := at_T51 HR1.out t553 p555 q555
      have hw555_1 := hx555_1
      have hw555_0 := hx555_0
      cases e555
      replace hx555_0 := hC HB hx555_0
      replace hx555_1 := hC HB hx555_1
      have HR555_0 := Aside0.mk hi555_0
      have HC555_0 := Aside0.mk hl555_0
      clear hi555_0 hl555_0
      replace p555 := eq_true p555
      replace q555 := eq_true q555
      refine start_ (n := 13) (S := fun w' => w'.cell? ⟨gb552, 0, none⟩ = some (.int .i64 a3_0) ∧ w'.cell? ⟨gb552, 1, none⟩ = some (.int .i64 a3_1) ∧ w'.cell? ⟨gb552, 2, none⟩ = some (.int .i64 a3_2) ∧ w'.cell? ⟨gb552, 3, none⟩ = some (.int .i64 a3_3) ∧ w'.cell? (ad555.add ((t553).toNat * 2)) = some (.slice A555_0 ((rd_T51 l1 t553).f0).length c555_0) ∧ w'.cell? ⟨(ad555.add ((t553).toNat * 2)).block, (ad555.add ((t553).toNat * 2)).off + 1, none⟩ = some (.int .i64 ((rd_T51 l1 t553).f1))) (ds := []) (mb 13 0) (by kernel_rfl) rfl rfl ⟨(blk_cell BK552.out 0).trans rfl, (blk_cell BK552.out 1).trans rfl, (blk_cell BK552.out 2).trans rfl, (blk_cell BK552.out 3).trans rfl, (hC HB hw555_0), (hC HB hw555_1)⟩ (fun hHeld => ?_); refine with_tabW impl_shown.tab2 impl_shown.bits2 (fun HT_ HW_ => ?_)
      generalize w8.drew = w14 at BK552 HB HR555_0 hx555_0 hx555_1 hHeld ⊢
      refine pA (i := 0) (N := some 18) (mb 13 1) HT_ ?_
      refine pA (i := 1) (N := some 19) (mb 13 3) HT_ ?_
      refine pA (i := 2) (N := some 20) (mb 13 7) HT_ ?_
      refine pA (i := 3) (N := some 21) (mb 13 15) HT_ ?_
      refine pA (i := 4) (N := some 22) (mb 13 31) HT_ ?_
      refine pA (i := 5) (N := some 23) (mb 13 63) HT_ ?_
      refine pA (i := 6) (N := some 24) (mb 13 127) HT_ ?_
      refine pA (i := 8) (N := some 26) (mb 13 383) HT_ ?_
      refine tA6 (i := 7) (N := some 25) (mb 13 511) HT_ HW_ hHeld ?_
      refine tA6 (i := 9) (N := some 27) (mb 13 1023) HT_ HW_ hHeld ?_
      refine oA (i := 10) (N := some 28) (mb 13 2047) HT_ (fun K hK => ?_)
      refine gA Try.func89 #[.slice A555_0 ((rd_T51 l1 t553).f0).length c555_0, .int .i64 a3_0] ?_
      with_reducible refine (slices_Contains_int_int.calls k _ _ ((rd_T51 l1 t553).f0) a3_0 t556 _ ?side1 ?side2 A13.out).mono ?_
      (case side1 => exact cB HR555_0)
      (case side2 => exact HC555_0.out)
      rintro e w' ⟨rfl, ⟨nd, rfl⟩⟩
      refine ⟨_, rfl, ?_⟩
      refine hK.out _ _ ⟨(blk_cell BK552.out 0).trans rfl, (blk_cell BK552.out 1).trans rfl, (blk_cell BK552.out 2).trans rfl, (blk_cell BK552.out 3).trans rfl, (hC HB hw555_0), (hC HB hw555_1)⟩ (fun hHeld => ?_)
      clear hK K
      refine nA ?_
      refine pA (i := 11) (N := some 29) (mb 13 4095) HT_ ?_
      refine pA (i := 12) (N := some 30) (mb 13 8191) HT_ ?_
      refine eA HT_ ?_
      try go_wp2
      go_meet
      case rel => exact ⟨_, (!t556), rS, H', ⟨by first | omega | exact Nat.le_refl _⟩, ⟨bK BK552⟩, ⟨bG⟩⟩
  case rest =>
    clear HC6
    try clear c1
    try clear p2
    try clear c3
    try clear c5
    try clear p5
    try clear q5
    try clear hx5
    try clear c7
    try clear c8
    try clear c9
    try clear c9b0
    try clear c11
    try clear c11b0
    try clear c12
    try clear c12b0
    try clear hx555_0
    try clear hx555_1
    try clear p555
    try clear q555
    obtain ⟨kq, x30_5, rfl, HA, HJ5, BK552, HB⟩ := hcut
    cases kq with
    | zero => exact absurd HA.out (by simp [impl_shown.j0])
    | succ kj5 =>
      have H := HA.out
      clear HA
      simp only [impl_shown.j0] at H
      by_cases c15 : x30_5 = true
      · subst c15
        have H1 : (some 0) = some r := by rw [if_pos rfl] at H; exact H
        clear H
        have H := H1
        clear H1
        obtain rfl := Option.some.inj H
        go_wp2
        go_ret
        exact ⟨rA, bG⟩
      · replace c15 := Bool.eq_false_iff.mpr c15
        subst c15
        have H1 : (if 0 ≤ t553 then (if t553 < (l1.length : Int) then (if t554 < ((rd_T51 l1 t553).f1) then (impl_shown.j1 kj5 l1 t553 t554 true a3_0 a3_1 a3_2 a3_3) else ((impl_nextStage.f l1 t553).bind fun t558 => ((slices_Contains_int_int.f kj5 t558 a3_0).bind fun t561 => (impl_shown.j1 kj5 l1 t553 t554 t561 a3_0 a3_1 a3_2 a3_3)))) else (none)) else (none)) = some r := by rw [if_neg (show ¬ (false = true) by decide)] at H; exact H
        clear H
        have H := H1
        clear H1
        have HC16 := Aside0.mk H
        clear H
        go_upto_region 4 with (fail)
        go_cut [31] (fun v31 wc => ∃ (kq : Nat) (x31_15 : Bool), v31 = .bool x31_15 ∧ Aside0 (impl_shown.j1 kq l1 t553 t554 x31_15 a3_0 a3_1 a3_2 a3_3 = some r) ∧ Aside0 (kq ≤ kj5) ∧ Aside0 (wc.heap[gb552]? = some (.cells #[.int .i64 a3_0, .int .i64 a3_1, .int .i64 a3_2, .int .i64 a3_3] 58 (0, 0))) ∧ Aside0 (Below w.heap.size w wc))
        case first =>
          have H := HC16.out
          clear HC16
          have c17 : 0 ≤ t553 := ifN H
          replace H := ifT H
          have c17b0 : decide (0 ≤ t553) = true := decide_eq_true c17
          clear c17
          (first | rw [c17b0] | (simp only [i64_w, i32_w]; rw [c17b0]) | skip)
          have c18 : t553 < (l1.length : Int) := ifN H
          replace H := ifT H
          have c18b0 : decide (t553 < (l1.length : Int)) = true := decide_eq_true c18
          clear c18
          by_cases c19 : t554 < ((rd_T51 l1 t553).f1)
          · rw [if_pos c19] at H
            have c19b0 : decide (t554 < ((rd_T51 l1 t553).f1)) = true := decide_eq_true c19
            clear c19
            have H' := Aside0.mk H
            clear H
            try go_wp2
            replace BK552 := Aside0.mk (blk_drew BK552.out)
            have HBo := HB
            replace HB := Aside0.mk (below_drew1 HB.out)
            have p557 : 0 ≤ (t553 : Int) := dA
            have q557 : t553 < (l1.length : Int) := dA
            obtain ⟨ad557, A557_0, c557_0, e557, hx557_0, hx557_1, hl557_0, hi557_0⟩ := at_T51 HR1.out t553 p557 q557
            have hw557_1 := hx557_1
            have hw557_0 := hx557_0
            cases e557
            replace hx557_0 := hC HB hx557_0
            replace hx557_1 := hC HB hx557_1
            have HR557_0 := Aside0.mk hi557_0
            have HC557_0 := Aside0.mk hl557_0
            clear hi557_0 hl557_0
            replace p557 := eq_true p557
            replace q557 := eq_true q557
            refine start_ (n := 16) (S := fun w' => w'.cell? (ad557.add ((t553).toNat * 2)) = some (.slice A557_0 ((rd_T51 l1 t553).f0).length c557_0) ∧ w'.cell? ⟨(ad557.add ((t553).toNat * 2)).block, (ad557.add ((t553).toNat * 2)).off + 1, none⟩ = some (.int .i64 ((rd_T51 l1 t553).f1))) (ds := []) (mb 16 0) (by kernel_rfl) rfl rfl ⟨(hC HB hw557_0), (hC HB hw557_1)⟩ (fun hHeld => ?_); refine with_tabW impl_shown.tab4 impl_shown.bits4 (fun HT_ HW_ => ?_)
            generalize wc.drew = w20 at BK552 HB HR557_0 hx557_0 hx557_1 hHeld ⊢
            refine pA (i := 0) (N := some 32) (mb 16 1) HT_ ?_
            refine pA (i := 1) (N := some 33) (mb 16 3) HT_ ?_
            refine pA (i := 2) (N := some 34) (mb 16 7) HT_ ?_
            refine pA (i := 3) (N := some 35) (mb 16 15) HT_ ?_
            refine pA (i := 4) (N := some 36) (mb 16 31) HT_ ?_
            refine tA2 (i := 5) (N := some 37) (mb 16 63) HT_ HW_ hHeld ?_
            refine pA (i := 6) (N := some 38) (mb 16 127) HT_ ?_
            refine pA (i := 7) (N := some 39) (mb 16 255) HT_ ?_
            refine pU (i := 8) (N := some 40) (mb 16 511) HT_ ?_
            refine pU (i := 9) (N := some 41) (mb 16 1023) HT_ ?_
            refine pU (i := 10) (N := some 42) (mb 16 2047) HT_ ?_
            refine pU (i := 11) (N := some 43) (mb 16 4095) HT_ ?_
            refine pU (i := 12) (N := some 44) (mb 16 8191) HT_ ?_
            refine pU (i := 13) (N := some 45) (mb 16 16383) HT_ ?_
            refine pA (i := 14) (N := some 46) (mb 16 32767) HT_ ?_
            refine pA (i := 15) (N := some 31) (mb 16 65535) HT_ ?_
            refine eA HT_ ?_
            try go_wp2
            go_meet
            case rel => exact ⟨_, (true), rS, H', ⟨by have := HJ5.out; first | omega | exact Nat.le_refl _⟩, ⟨bK BK552⟩, ⟨bG⟩⟩
          · rw [if_neg c19] at H
            have c19b0 : decide (t554 < ((rd_T51 l1 t553).f1)) = false := decide_eq_false c19
            clear c19
            obtain ⟨t558, A21, H⟩ := bindE H
            try dsimp only at H
            obtain ⟨t561, A22, H⟩ := bindE H
            try dsimp only at H
            have H' := Aside0.mk H
            clear H
            try go_wp2
            replace BK552 := Aside0.mk (blk_drew BK552.out)
            have HBo := HB
            replace HB := Aside0.mk (below_drew1 HB.out)
            have p557 : 0 ≤ (t553 : Int) := dA
            have q557 : t553 < (l1.length : Int) := dA
            obtain ⟨ad557, A557_0, c557_0, e557, hx557_0, hx557_1, hl557_0, hi557_0⟩ := at_T51 HR1.out t553 p557 q557
            have hw557_1 := hx557_1
            have hw557_0 := hx557_0
            cases e557
            replace hx557_0 := hC HB hx557_0
            replace hx557_1 := hC HB hx557_1
            have HR557_0 := Aside0.mk hi557_0
            have HC557_0 := Aside0.mk hl557_0
            clear hi557_0 hl557_0
            replace p557 := eq_true p557
            replace q557 := eq_true q557
            refine start_ (n := 16) (S := fun w' => w'.cell? ⟨gb552, 0, none⟩ = some (.int .i64 a3_0) ∧ w'.cell? ⟨gb552, 1, none⟩ = some (.int .i64 a3_1) ∧ w'.cell? ⟨gb552, 2, none⟩ = some (.int .i64 a3_2) ∧ w'.cell? ⟨gb552, 3, none⟩ = some (.int .i64 a3_3) ∧ w'.cell? (ad557.add ((t553).toNat * 2)) = some (.slice A557_0 ((rd_T51 l1 t553).f0).length c557_0) ∧ w'.cell? ⟨(ad557.add ((t553).toNat * 2)).block, (ad557.add ((t553).toNat * 2)).off + 1, none⟩ = some (.int .i64 ((rd_T51 l1 t553).f1))) (ds := []) (mb 16 0) (by kernel_rfl) rfl rfl ⟨(blk_cell BK552.out 0).trans rfl, (blk_cell BK552.out 1).trans rfl, (blk_cell BK552.out 2).trans rfl, (blk_cell BK552.out 3).trans rfl, (hC HB hw557_0), (hC HB hw557_1)⟩ (fun hHeld => ?_); refine with_tabW impl_shown.tab4 impl_shown.bits4 (fun HT_ HW_ => ?_)
            generalize wc.drew = w23 at BK552 HB HR557_0 hx557_0 hx557_1 hHeld ⊢
            refine pA (i := 0) (N := some 32) (mb 16 1) HT_ ?_
            refine pA (i := 1) (N := some 33) (mb 16 3) HT_ ?_
            refine pA (i := 2) (N := some 34) (mb 16 7) HT_ ?_
            refine pA (i := 3) (N := some 35) (mb 16 15) HT_ ?_
            refine pA (i := 4) (N := some 36) (mb 16 31) HT_ ?_
            refine tA6 (i := 5) (N := some 37) (mb 16 63) HT_ HW_ hHeld ?_
            refine pA (i := 6) (N := some 38) (mb 16 127) HT_ ?_
            refine pA (i := 7) (N := some 39) (mb 16 255) HT_ ?_
            refine pA (i := 8) (N := some 40) (mb 16 511) HT_ ?_
            refine pA (i := 9) (N := some 41) (mb 16 1023) HT_ ?_
            refine pA (i := 11) (N := some 43) (mb 16 3071) HT_ ?_
            refine tA6 (i := 12) (N := some 44) (mb 16 7167) HT_ HW_ hHeld ?_
            refine oA (i := 10) (N := some 42) (mb 16 8191) HT_ (fun K hK => ?_)
            refine gA Try.func84 #[.slice (some ad557) l1.length c1, .int .i64 t553] ?_
            with_reducible refine (impl_nextStage.calls (fun k_ => k_ < w.heap.size) _ _ l1 t553 t558 _ ?side1 A21.out).mono ?_
            (case side1 => exact Kd.V_mk HC1.out (Kd.F_below (Kd.C_F k51_heap HR1.out) bG))
            rintro e w24 ⟨v559, rfl, ho0, hb⟩
            refine ⟨_, rfl, ?_⟩
            have HO560 := Aside0.mk (Kd.V_lower (Kd.V_mono (ok' := fun k_ => k_ ≠ gb552) ho0 (fun k_ hk_ => Or.elim hk_ (fun hs_ => fun e_ => Nat.not_le.2 hs_ (by rw [e_]; exact GW552.out)) (fun hn_ => (Kd.freshB (g := gb552) (o := .cells #[.int .i64 a3_0, .int .i64 a3_1, .int .i64 a3_2, .int .i64 a3_3] 58 (0, 0)) (bK BK552) k_ hn_)))) (below_size bG))
            replace BK552 := Aside0.mk (blk_below (g := gb552) (bK BK552) hb)
            replace HB := Aside0.mk (below_step bG hb)
            (try clear hb)
            (try clear hb2)
            (try clear hk)
            (try clear hi)
            (try clear ho0)
            obtain ⟨Ao25, co25, eo25⟩ := Kd.V_slice HO560.out
            (first | subst eo25 | (injection eo25 with f1_ f2_ f3_; have f4_ := f1_.symm; have f5_ := f3_.symm; clear f1_ f2_ f3_; subst f4_; subst f5_))
            refine hK.out _ _ ⟨(blk_cell BK552.out 0).trans rfl, (blk_cell BK552.out 1).trans rfl, (blk_cell BK552.out 2).trans rfl, (blk_cell BK552.out 3).trans rfl, (hC HB hw557_0), (hC HB hw557_1)⟩ (fun hHeld => ?_)
            clear hK K
            refine nA ?_
            refine oA (i := 13) (N := some 45) (mb 16 16383) HT_ (fun K hK => ?_)
            refine gA Try.func89 #[.slice Ao25 t558.length co25, .int .i64 a3_0] ?_
            with_reducible refine (slices_Contains_int_int.calls kj5 _ _ t558 a3_0 t561 _ ?side1 ?side2 A22.out).mono ?_
            (case side1 => repeat (first | exact (Kd.V_reads' HO560.out).2.2 | (with_reducible refine Kd.C_alloc ?_ _) | (with_reducible refine Kd.C_drewN ?_ _) | (with_reducible refine Kd.C_drew ?_)))
            (case side2 => exact (Kd.V_reads' HO560.out).2.1)
            rintro e w' ⟨rfl, ⟨nd, rfl⟩⟩
            refine ⟨_, rfl, ?_⟩
            refine hK.out _ _ ⟨(blk_cell BK552.out 0).trans rfl, (blk_cell BK552.out 1).trans rfl, (blk_cell BK552.out 2).trans rfl, (blk_cell BK552.out 3).trans rfl, (hC HB hw557_0), (hC HB hw557_1)⟩ (fun hHeld => ?_)
            clear hK K
            refine nA ?_
            refine pA (i := 14) (N := some 46) (mb 16 32767) HT_ ?_
            refine pA (i := 15) (N := some 31) (mb 16 65535) HT_ ?_
            refine eA HT_ ?_
            try go_wp2
            go_meet
            case rel => exact ⟨_, (t561), rS, H', ⟨by have := HJ5.out; first | omega | exact Nat.le_refl _⟩, ⟨bK BK552⟩, ⟨bG⟩⟩
        case rest =>
          clear HC16
          try clear c1
          try clear p2
          try clear c3
          try clear c5
          try clear p5
          try clear q5
          try clear hx5
          try clear c7
          try clear c8
          try clear c9
          try clear c9b0
          try clear c11
          try clear c11b0
          try clear c12
          try clear c12b0
          try clear c15
          try clear c17
          try clear c17b0
          try clear c18
          try clear c18b0
          try clear c19
          try clear c19b0
          try clear hx555_0
          try clear hx555_1
          try clear hx557_0
          try clear hx557_1
          try clear p2
          try clear p5
          try clear p555
          try clear p557
          try clear q5
          try clear q555
          try clear q557
          obtain ⟨kq, x31_15, rfl, HA, HJ15, BK552, HB⟩ := hcut
          cases kq with
          | zero => exact absurd HA.out (by simp [impl_shown.j1])
          | succ kj15 =>
            have H := HA.out
            clear HA
            simp only [impl_shown.j1] at H
            by_cases c26 : x31_15 = true
            · subst c26
              have H1 : (some 1) = some r := by rw [if_pos rfl] at H; exact H
              clear H
              have H := H1
              clear H1
              obtain rfl := Option.some.inj H
              go_wp2
              go_ret
              exact ⟨rA, bG⟩
            · replace c26 := Bool.eq_false_iff.mpr c26
              subst c26
              have H1 : (if 0 ≤ t553 then (if t553 < (l1.length : Int) then ((impl_ClearOf.f a3_0 a3_1 a3_2 a3_3).bind fun t563 => (if t554 < (wrap64 (((rd_T51 l1 t553).f1) + t563)) then (some 2) else (some 0))) else (none)) else (none)) = some r := by rw [if_neg (show ¬ (false = true) by decide)] at H; exact H
              clear H
              have H := H1
              clear H1
              have c27 : 0 ≤ t553 := ifN H
              replace H := ifT H
              have c27b0 : decide (0 ≤ t553) = true := decide_eq_true c27
              clear c27
              have c28 : t553 < (l1.length : Int) := ifN H
              replace H := ifT H
              have c28b0 : decide (t553 < (l1.length : Int)) = true := decide_eq_true c28
              clear c28
              obtain ⟨t563, A29, H⟩ := bindE H
              try dsimp only at H
              by_cases c30 : t554 < (wrap64 (((rd_T51 l1 t553).f1) + t563))
              · rw [if_pos c30] at H
                have c30b0 : decide (t554 < (wrap64 (((rd_T51 l1 t553).f1) + t563))) = true := decide_eq_true c30
                clear c30
                obtain rfl := Option.some.inj H
                try go_wp2
                replace BK552 := Aside0.mk (blk_drew BK552.out)
                have HBo := HB
                replace HB := Aside0.mk (below_drew1 HB.out)
                have p562 : 0 ≤ (t553 : Int) := dA
                have q562 : t553 < (l1.length : Int) := dA
                obtain ⟨ad562, A562_0, c562_0, e562, hx562_0, hx562_1, hl562_0, hi562_0⟩ := at_T51 HR1.out t553 p562 q562
                have hw562_1 := hx562_1
                have hw562_0 := hx562_0
                cases e562
                replace hx562_0 := hC HB hx562_0
                replace hx562_1 := hC HB hx562_1
                have HR562_0 := Aside0.mk hi562_0
                have HC562_0 := Aside0.mk hl562_0
                clear hi562_0 hl562_0
                replace p562 := eq_true p562
                replace q562 := eq_true q562
                refine start_ (n := 11) (S := fun w' => w'.cell? ⟨gb552, 0, none⟩ = some (.int .i64 a3_0) ∧ w'.cell? ⟨gb552, 1, none⟩ = some (.int .i64 a3_1) ∧ w'.cell? ⟨gb552, 2, none⟩ = some (.int .i64 a3_2) ∧ w'.cell? ⟨gb552, 3, none⟩ = some (.int .i64 a3_3) ∧ w'.cell? (ad562.add ((t553).toNat * 2)) = some (.slice A562_0 ((rd_T51 l1 t553).f0).length c562_0) ∧ w'.cell? ⟨(ad562.add ((t553).toNat * 2)).block, (ad562.add ((t553).toNat * 2)).off + 1, none⟩ = some (.int .i64 ((rd_T51 l1 t553).f1))) (ds := []) (mb 11 0) (by kernel_rfl) rfl rfl ⟨(blk_cell BK552.out 0).trans rfl, (blk_cell BK552.out 1).trans rfl, (blk_cell BK552.out 2).trans rfl, (blk_cell BK552.out 3).trans rfl, (hC HB hw562_0), (hC HB hw562_1)⟩ (fun hHeld => ?_); refine with_tabW impl_shown.tab6 impl_shown.bits6 (fun HT_ HW_ => ?_)
                generalize wc.drew = w31 at BK552 HB HR562_0 hx562_0 hx562_1 hHeld ⊢
                refine pA (i := 0) (N := some 48) (mb 11 1) HT_ ?_
                refine pA (i := 1) (N := some 49) (mb 11 3) HT_ ?_
                refine pA (i := 2) (N := some 50) (mb 11 7) HT_ ?_
                refine pA (i := 3) (N := some 51) (mb 11 15) HT_ ?_
                refine pA (i := 4) (N := some 52) (mb 11 31) HT_ ?_
                refine tA6 (i := 5) (N := some 53) (mb 11 63) HT_ HW_ hHeld ?_
                refine tA6 (i := 6) (N := some 54) (mb 11 127) HT_ HW_ hHeld ?_
                refine oA (i := 7) (N := some 55) (mb 11 255) HT_ (fun K hK => ?_)
                refine gA Try.func90 #[.agg #[.int .i64 a3_0, .int .i64 a3_1, .int .i64 a3_2, .int .i64 a3_3]] ?_
                with_reducible refine (impl_ClearOf.calls a3_0 a3_1 a3_2 a3_3 t563 _ A29.out).mono ?_
                rintro e w32 ⟨rfl, hb⟩
                refine ⟨_, rfl, ?_⟩
                replace BK552 := Aside0.mk (blk_below (g := gb552) (bK BK552) hb)
                replace HB := Aside0.mk (below_step bG hb)
                (try clear hb)
                (try clear hb2)
                (try clear hk)
                (try clear hi)
                refine hK.out _ _ ⟨(blk_cell BK552.out 0).trans rfl, (blk_cell BK552.out 1).trans rfl, (blk_cell BK552.out 2).trans rfl, (blk_cell BK552.out 3).trans rfl, (hC HB hw562_0), (hC HB hw562_1)⟩ (fun hHeld => ?_)
                clear hK K
                refine nA ?_
                refine pA (i := 8) (N := some 56) (mb 11 511) HT_ ?_
                refine pA (i := 9) (N := some 57) (mb 11 1023) HT_ ?_
                refine pA (i := 10) (N := some 47) (mb 11 2047) HT_ ?_
                refine eA HT_ ?_
                try go_wp2
                go_ret
                exact ⟨rA, bG⟩
              · rw [if_neg c30] at H
                have c30b0 : decide (t554 < (wrap64 (((rd_T51 l1 t553).f1) + t563))) = false := decide_eq_false c30
                clear c30
                obtain rfl := Option.some.inj H
                try go_wp2
                replace BK552 := Aside0.mk (blk_drew BK552.out)
                have HBo := HB
                replace HB := Aside0.mk (below_drew1 HB.out)
                have p562 : 0 ≤ (t553 : Int) := dA
                have q562 : t553 < (l1.length : Int) := dA
                obtain ⟨ad562, A562_0, c562_0, e562, hx562_0, hx562_1, hl562_0, hi562_0⟩ := at_T51 HR1.out t553 p562 q562
                have hw562_1 := hx562_1
                have hw562_0 := hx562_0
                cases e562
                replace hx562_0 := hC HB hx562_0
                replace hx562_1 := hC HB hx562_1
                have HR562_0 := Aside0.mk hi562_0
                have HC562_0 := Aside0.mk hl562_0
                clear hi562_0 hl562_0
                replace p562 := eq_true p562
                replace q562 := eq_true q562
                refine start_ (n := 11) (S := fun w' => w'.cell? ⟨gb552, 0, none⟩ = some (.int .i64 a3_0) ∧ w'.cell? ⟨gb552, 1, none⟩ = some (.int .i64 a3_1) ∧ w'.cell? ⟨gb552, 2, none⟩ = some (.int .i64 a3_2) ∧ w'.cell? ⟨gb552, 3, none⟩ = some (.int .i64 a3_3) ∧ w'.cell? (ad562.add ((t553).toNat * 2)) = some (.slice A562_0 ((rd_T51 l1 t553).f0).length c562_0) ∧ w'.cell? ⟨(ad562.add ((t553).toNat * 2)).block, (ad562.add ((t553).toNat * 2)).off + 1, none⟩ = some (.int .i64 ((rd_T51 l1 t553).f1))) (ds := []) (mb 11 0) (by kernel_rfl) rfl rfl ⟨(blk_cell BK552.out 0).trans rfl, (blk_cell BK552.out 1).trans rfl, (blk_cell BK552.out 2).trans rfl, (blk_cell BK552.out 3).trans rfl, (hC HB hw562_0), (hC HB hw562_1)⟩ (fun hHeld => ?_); refine with_tabW impl_shown.tab6 impl_shown.bits6 (fun HT_ HW_ => ?_)
                generalize wc.drew = w33 at BK552 HB HR562_0 hx562_0 hx562_1 hHeld ⊢
                refine pA (i := 0) (N := some 48) (mb 11 1) HT_ ?_
                refine pA (i := 1) (N := some 49) (mb 11 3) HT_ ?_
                refine pA (i := 2) (N := some 50) (mb 11 7) HT_ ?_
                refine pA (i := 3) (N := some 51) (mb 11 15) HT_ ?_
                refine pA (i := 4) (N := some 52) (mb 11 31) HT_ ?_
                refine tA6 (i := 5) (N := some 53) (mb 11 63) HT_ HW_ hHeld ?_
                refine tA6 (i := 6) (N := some 54) (mb 11 127) HT_ HW_ hHeld ?_
                refine oA (i := 7) (N := some 55) (mb 11 255) HT_ (fun K hK => ?_)
                refine gA Try.func90 #[.agg #[.int .i64 a3_0, .int .i64 a3_1, .int .i64 a3_2, .int .i64 a3_3]] ?_
                with_reducible refine (impl_ClearOf.calls a3_0 a3_1 a3_2 a3_3 t563 _ A29.out).mono ?_
                rintro e w34 ⟨rfl, hb⟩
                refine ⟨_, rfl, ?_⟩
                replace BK552 := Aside0.mk (blk_below (g := gb552) (bK BK552) hb)
                replace HB := Aside0.mk (below_step bG hb)
                (try clear hb)
                (try clear hb2)
                (try clear hk)
                (try clear hi)
                refine hK.out _ _ ⟨(blk_cell BK552.out 0).trans rfl, (blk_cell BK552.out 1).trans rfl, (blk_cell BK552.out 2).trans rfl, (blk_cell BK552.out 3).trans rfl, (hC HB hw562_0), (hC HB hw562_1)⟩ (fun hHeld => ?_)
                clear hK K
                refine nA ?_
                refine pA (i := 8) (N := some 56) (mb 11 511) HT_ ?_
                refine pA (i := 9) (N := some 57) (mb 11 1023) HT_ ?_
                refine pA (i := 10) (N := some 47) (mb 11 2047) HT_ ?_
                refine eA HT_ ?_
                try go_wp2
                go_ret
                exact ⟨rA, bG⟩

/-! ### impl_LightAt: function 34 -/
def impl_LightAt.f (k : Nat) (l0 : List (S58)) (l1 : List (S51)) (a2 : Int) (a3 : Int) : Option (Int) := (impl_FindPath.f l0 a3).bind fun t564 => (if t564 < 0 then (some 0) else (if 0 ≤ t564 then (if t564 < (l0.length : Int) then ((impl_shown.f k l0 l1 a2 ((rd_T58 l0 t564).f0) ((rd_T58 l0 t564).f1) ((rd_T58 l0 t564).f2) ((rd_T58 l0 t564).f3)).bind fun t566 => (some t566)) else (none)) else (none)))
theorem impl_LightAt.mono : ∀ a0 a1 a2 a3 k, LeO (impl_LightAt.f k a0 a1 a2 a3) (impl_LightAt.f (k + 1) a0 a1 a2 a3) := by
  intro a0 a1 a2 a3 k
  unfold impl_LightAt.f
  repeat' first | (with_reducible first | exact LeO.refl _ | exact LeO.none _ | refine LeO.ite ?_ ?_ | refine LeO.bind ?_ (fun _ => ?_) | exact impl_shown.mono _ _ _ _ _ _ _ _) | exact LeO.none _ | refine LeO.ite ?_ ?_ | refine LeO.bind ?_ (fun _ => ?_) | exact impl_shown.mono _ _ _ _ _ _ _ _
set_option maxHeartbeats 8000000 in
set_option maxRecDepth 100000 in
theorem impl_LightAt.calls (k : Nat) (A0 : Option Addr) (c0 : Nat) (l0 : List (S58)) (A1 : Option Addr) (c1 : Nat) (l1 : List (S51)) (a2 : Int) (a3 : Int) (r : Int) (w : World) (hr0 : Kd.C k58 w A0 l0.length l0) (hc0 : l0.length ≤ c0) (hr1 : Kd.C k51 w A1 l1.length l1) (hc1 : l1.length ≤ c1) (h : impl_LightAt.f k l0 l1 a2 a3 = some r) :
    Calls Try.prog 34 #[.slice A0 l0.length c0, .slice A1 l1.length c1, .int .i64 a2, .int .i64 a3] w fun e w' => e = .returned (.int .i64 r) ∧ Below w.heap.size w w' := by
  have hu58 := Try.underlying58
  have HR0 := Aside0.mk hr0
  have HC0 := Aside0.mk hc0
  clear hr0 hc0
  have HR1 := Aside0.mk hr1
  have HC1 := Aside0.mk hc1
  clear hr1 hc1
  have HB := Aside0.mk (Below.refl w.heap.size w)
  have H : ((impl_FindPath.f l0 a3).bind fun t564 => (if t564 < 0 then (some 0) else (if 0 ≤ t564 then (if t564 < (l0.length : Int) then ((impl_shown.f k l0 l1 a2 ((rd_T58 l0 t564).f0) ((rd_T58 l0 t564).f1) ((rd_T58 l0 t564).f2) ((rd_T58 l0 t564).f3)).bind fun t566 => (some t566)) else (none)) else (none)))) = some r := h
  clear h
  obtain ⟨t564, A5, H⟩ := bindE H
  try dsimp only at H
  by_cases c6 : t564 < 0
  · rw [if_pos c6] at H
    have c6b0 : decide (t564 < 0) = true := decide_eq_true c6
    clear c6
    obtain rfl := Option.some.inj H
    go_enter Try.func34, Try.ntmps34
    go_wp2_with (first | ((with_reducible refine gate_callee (f := 70) rfl ?_); refine gL (some 12) Try.func70 #[.slice A0 l0.length c0, .int .i64 a3] ?_; (with_reducible refine (impl_FindPath.calls _ _ l0 a3 t564 _ ?side1 ?side2 A5.out).mono ?_); (case side1 => exact cO HR0); (case side2 => exact HC0.out); rintro e w7 ⟨rfl, hb⟩; refine ⟨_, rfl, ?_⟩; replace HB := Aside0.mk (below_step bA hb); (try clear hb); (try clear hb2); (try clear hk); (try clear hi)))
    go_ret
    exact ⟨rA, bA⟩
  · rw [if_neg c6] at H
    have c6b0 : decide (t564 < 0) = false := decide_eq_false c6
    clear c6
    have c8 : 0 ≤ t564 := ifN H
    replace H := ifT H
    have c8b0 : decide (0 ≤ t564) = true := decide_eq_true c8
    clear c8
    have c9 : t564 < (l0.length : Int) := ifN H
    replace H := ifT H
    have c9b0 : decide (t564 < (l0.length : Int)) = true := decide_eq_true c9
    clear c9
    obtain ⟨t566, A10, H⟩ := bindE H
    try dsimp only at H
    obtain rfl := Option.some.inj H
    go_enter Try.func34, Try.ntmps34
    go_wp2_with (first | ((with_reducible refine gate_callee (f := 70) rfl ?_); refine gL (some 12) Try.func70 #[.slice A0 l0.length c0, .int .i64 a3] ?_; (with_reducible refine (impl_FindPath.calls _ _ l0 a3 t564 _ ?side1 ?side2 A5.out).mono ?_); (case side1 => exact cO HR0); (case side2 => exact HC0.out); rintro e w11 ⟨rfl, hb⟩; refine ⟨_, rfl, ?_⟩; replace HB := Aside0.mk (below_step bA hb); (try clear hb); (try clear hb2); (try clear hk); (try clear hi); have p565 : 0 ≤ (t564 : Int) := dA; have q565 : t564 < (l0.length : Int) := dA; obtain ⟨ad565, e565, hx565_0, hx565_1, hx565_2, hx565_3⟩ := at_T58 HR0.out t564 p565 q565; cases e565; replace hx565_0 := hC HB hx565_0; replace hx565_1 := hC HB hx565_1; replace hx565_2 := hC HB hx565_2; replace hx565_3 := hC HB hx565_3; replace p565 := eq_true p565; replace q565 := eq_true q565) | ((with_reducible refine gate_callee (f := 71) rfl ?_); refine gL (some 22) Try.func71 #[.slice (some ad565) l0.length c0, .slice A1 l1.length c1, .int .i64 a2, .agg #[.int .i64 ((rd_T58 l0 t564).f0), .int .i64 ((rd_T58 l0 t564).f1), .int .i64 ((rd_T58 l0 t564).f2), .int .i64 ((rd_T58 l0 t564).f3)]] ?_; (with_reducible refine (impl_shown.calls k _ _ l0 _ _ l1 a2 ((rd_T58 l0 t564).f0) ((rd_T58 l0 t564).f1) ((rd_T58 l0 t564).f2) ((rd_T58 l0 t564).f3) t566 _ ?side1 ?side2 ?side3 ?side4 A10.out).mono ?_); (case side1 => exact cB HR0); (case side2 => exact HC0.out); (case side3 => exact cB HR1); (case side4 => exact HC1.out); rintro e w12 ⟨rfl, hb⟩; refine ⟨_, rfl, ?_⟩; replace HB := Aside0.mk (below_step bA hb); (try clear hb); (try clear hb2); (try clear hk); (try clear hi)))
    go_ret
    exact ⟨rA, bA⟩

/-! ### impl_LightsAt: function 36 -/
def impl_LightsAt.l0 : Nat → List (S58) → List (S51) → Int → List Int → List (S58) → Int → Int → Option (List Int)
  | 0, _, _, _, _, _, _, _ => none
  | k + 1, x0, x1, x2, x7, x11, x12, x13 => if x13 < x12 then (if 0 ≤ x13 then (if x13 < (x11.length : Int) then ((impl_LightAt.f k x0 x1 x2 ((rd_T58 x11 x13).f0)).bind fun t604 => (if x7.length < 17592186044416 then (impl_LightsAt.l0 k x0 x1 x2 (x7 ++ [t604]) x11 x12 (wrap64 (x13 + 1))) else (none))) else (none)) else (none)) else (some x7)
def impl_LightsAt.f (k : Nat) (l0 : List (S58)) (l1 : List (S51)) (a2 : Int) : Option (List Int) := impl_LightsAt.l0 k l0 l1 a2 (([] : List Int)) l0 (l0.length : Int) 0
theorem impl_LightsAt.mono_l : ∀ k, (∀ y0 y1 y2 y3 y4 y5 y6, LeO (impl_LightsAt.l0 k y0 y1 y2 y3 y4 y5 y6) (impl_LightsAt.l0 (k + 1) y0 y1 y2 y3 y4 y5 y6))
  | 0 => fun _ _ _ _ _ _ _ r h => by simp [impl_LightsAt.l0] at h
  | k + 1 => by
    have ih0 := impl_LightsAt.mono_l k
    · intro y0 y1 y2 y3 y4 y5 y6
      unfold impl_LightsAt.l0
      repeat' first | (with_reducible first | exact LeO.refl _ | exact LeO.none _ | refine LeO.ite ?_ ?_ | refine LeO.bind ?_ (fun _ => ?_) | exact ih0 _ _ _ _ _ _ _ | exact impl_LightAt.mono _ _ _ _ _) | exact LeO.none _ | refine LeO.ite ?_ ?_ | refine LeO.bind ?_ (fun _ => ?_) | exact ih0 _ _ _ _ _ _ _ | exact impl_LightAt.mono _ _ _ _ _
theorem impl_LightsAt.mono : ∀ a0 a1 a2 k, LeO (impl_LightsAt.f k a0 a1 a2) (impl_LightsAt.f (k + 1) a0 a1 a2) := by
  intro a0 a1 a2 k
  have ih0 := impl_LightsAt.mono_l k
  unfold impl_LightsAt.f
  repeat' first | (with_reducible first | exact LeO.refl _ | exact LeO.none _ | refine LeO.ite ?_ ?_ | refine LeO.bind ?_ (fun _ => ?_) | exact ih0 _ _ _ _ _ _ _ | exact impl_LightAt.mono _ _ _ _ _) | exact LeO.none _ | refine LeO.ite ?_ ?_ | refine LeO.bind ?_ (fun _ => ?_) | exact ih0 _ _ _ _ _ _ _ | exact impl_LightAt.mono _ _ _ _ _
set_option maxHeartbeats 8000000 in
set_option maxRecDepth 100000 in
theorem impl_LightsAt.calls (k : Nat) (A0 : Option Addr) (c0 : Nat) (l0 : List (S58)) (A1 : Option Addr) (c1 : Nat) (l1 : List (S51)) (a2 : Int) (r : List Int) (w : World) (hr0 : Kd.C k58 w A0 l0.length l0) (hc0 : l0.length ≤ c0) (hr1 : Kd.C k51 w A1 l1.length l1) (hc1 : l1.length ≤ c1) (h : impl_LightsAt.f k l0 l1 a2 = some r) :
    Calls Try.prog 36 #[.slice A0 l0.length c0, .slice A1 l1.length c1, .int .i64 a2] w fun e w' => ∃ v0_ : Value, e = .returned (v0_) ∧ Kd.R (Kd.int .i64) 3 w' w.heap.size (fun _ => True) v0_ r ∧ Below w.heap.size w w' := by
  have hu58 := Try.underlying58
  have HR0 := Aside0.mk hr0
  have HC0 := Aside0.mk hc0
  clear hr0 hc0
  have HR1 := Aside0.mk hr1
  have HC1 := Aside0.mk hc1
  clear hr1 hc1
  have HB := Aside0.mk (Below.refl w.heap.size w)
  have H : (impl_LightsAt.l0 k l0 l1 a2 (([] : List Int)) l0 (l0.length : Int) 0) = some r := h
  clear h
  obtain ⟨y599, hy599⟩ : ∃ y_ : List Int, y_ = (([] : List Int)) := ⟨_, rfl⟩
  replace H : (impl_LightsAt.l0 k l0 l1 a2 y599 l0 (l0.length : Int) 0) = some r := by first | (rw [hy599]; with_reducible exact H) | (have H2_ := (Option.bind_some _ _).symm.trans H; rw [hy599]; with_reducible exact H2_) | (have H2_ := (Option.bind_some _ _).symm.trans H; with_reducible exact H2_) | with_reducible exact H | (rw [hy599]; exact H) | exact H
  have Ny599 := Aside0.mk hy599
  clear hy599
  have H' := Aside0.mk H
  clear H
  go_enter Try.func36, Try.ntmps36
  go_wp2_with (first | ((with_reducible refine gate_dst (N := 10) rfl ?_); refine Kd.R_lit (Kd.int .i64) _ 3 ?hg (N := 10) ?hd (xs := ([] : List Int)) (inner := []) (ok := fun _ => True) (okp := fun _ => True) ?hr ?hp (fun _ hk => hk) trivial (Below.refl _ _) (Nat.le_refl _) (by simp) ?_; (case hd => rfl); (case hg => rfl); (case hr => first | (go_simp; done) | (go_simp; rfl)); (case hp => exact (Reps.none _ _)); intro v600 w4 ho5 hb hg_ hnew_; clear hg_ hnew_; (first | rw [← Ny599.out] at ho5 | (simp only [Int.reduceToNat] at ho5; rw [← Ny599.out] at ho5)); have HO601 := Aside0.mk (Kd.R_lower ho5 (below_size bA)); replace HB := Aside0.mk (below_step bA hb); clear hb ho5))
  go_loopg [7, 13] k (fun kq v7 v13 w' => ∃ (x7_1 : List Int) (x13_1 : Int), v13 = .int .i64 x13_1 ∧ Aside0 (impl_LightsAt.l0 kq l0 l1 a2 x7_1 l0 (l0.length : Int) x13_1 = some r) ∧ Aside0 (kq ≤ k) ∧ Aside0 (Kd.R (Kd.int .i64) 3 w' w.heap.size (fun _ => True) v7 x7_1) ∧ Aside0 (Below w.heap.size w w'))
  case atStart => exact ⟨(y599), (0), rS, H', ⟨Nat.le_refl _⟩, ⟨rK HO601⟩, ⟨bA⟩⟩
  case round =>
    clear H'
    try clear c1
    try clear p2
    try clear c3
    obtain ⟨x7_1, x13_1, rfl, HA, HK1, HO_7, HB⟩ := hrel
    cases gk with
    | zero => exact absurd HA.out (by simp [impl_LightsAt.l0])
    | succ k1 =>
      have H := HA.out
      clear HA
      simp only [impl_LightsAt.l0] at H
      by_cases c6 : x13_1 < (l0.length : Int)
      · rw [if_pos c6] at H
        have c6b0 : decide (x13_1 < (l0.length : Int)) = true := decide_eq_true c6
        clear c6
        have c7 : 0 ≤ x13_1 := ifN H
        replace H := ifT H
        have c7b0 : decide (0 ≤ x13_1) = true := decide_eq_true c7
        clear c7
        have c8 : x13_1 < (l0.length : Int) := ifN H
        replace H := ifT H
        have c8b0 : decide (x13_1 < (l0.length : Int)) = true := decide_eq_true c8
        clear c8
        obtain ⟨t604, A9, H⟩ := bindE H
        try dsimp only at H
        have c10 : x7_1.length < 17592186044416 := ifN H
        replace H := ifT H
        have LMc10 := Aside0.mk c10
        clear c10
        obtain ⟨y605, hy605⟩ : ∃ y_ : List Int, y_ = (x7_1 ++ [t604]) := ⟨_, rfl⟩
        replace H : (impl_LightsAt.l0 k1 l0 l1 a2 y605 l0 (l0.length : Int) (wrap64 (x13_1 + 1))) = some r := by first | (rw [hy605]; with_reducible exact H) | (have H2_ := (Option.bind_some _ _).symm.trans H; rw [hy605]; with_reducible exact H2_) | (have H2_ := (Option.bind_some _ _).symm.trans H; with_reducible exact H2_) | with_reducible exact H | (rw [hy605]; exact H) | exact H
        have Ny605 := Aside0.mk hy605
        clear hy605
        have H' := Aside0.mk H
        clear H
        have p602 : 0 ≤ (x13_1 : Int) := dA
        have q602 : x13_1 < (l0.length : Int) := dA
        obtain ⟨ad602, e602, hx602_0, hx602_1, hx602_2, hx602_3⟩ := at_T58 HR0.out x13_1 p602 q602
        cases e602
        replace hx602_0 := hC HB hx602_0
        replace hx602_1 := hC HB hx602_1
        replace hx602_2 := hC HB hx602_2
        replace hx602_3 := hC HB hx602_3
        replace p602 := eq_true p602
        replace q602 := eq_true q602
        go_wp2_with (first | ((with_reducible refine gate_dst (N := 9) rfl ?_); refine bE (N := 9) (cs := #[.int .i64 0, .int .i64 0, .int .i64 0, .int .i64 0]) (t := 58) ?_; intro gb603 hg w11 hbox hb; have n0_ := Aside0.mk (Kd.R_below (rK HO_7) hb); have n1_ := Aside0.mk (below_step bA hb); have n2_ := Aside0.mk (hbox); have n3_ := Aside0.mk ((by rw [hg]; exact (below_size bA) : w.heap.size ≤ gb603)); have n4_ := Aside0.mk ((by rw [hg]; exact (below_size bA) : w.heap.size ≤ gb603)); clear HO_7; clear HB; have HO_7 := n0_; have HB := n1_; have BK603 := n2_; have GW603 := n3_; have GE603 := n4_; clear n0_ n1_ n2_ n3_ n4_; clear hb hbox hg; have hcz12_0 : w11.cell? ⟨gb603, 0, none⟩ = some (.int .i64 0) := (blk_cell BK603.out 0).trans rfl; have hcz12_1 : w11.cell? ⟨gb603, 1, none⟩ = some (.int .i64 0) := (blk_cell BK603.out 1).trans rfl; have hcz12_2 : w11.cell? ⟨gb603, 2, none⟩ = some (.int .i64 0) := (blk_cell BK603.out 2).trans rfl; have hcz12_3 : w11.cell? ⟨gb603, 3, none⟩ = some (.int .i64 0) := (blk_cell BK603.out 3).trans rfl; have hfz12_0 := blk_frozen BK603.out 0; have hfz12_1 := blk_frozen BK603.out 1; have hfz12_2 := blk_frozen BK603.out 2; have hfz12_3 := blk_frozen BK603.out 3) | ((with_reducible refine gate_callee (f := 34) rfl ?_); refine gL (some 23) Try.func34 #[.slice (some ad602) l0.length c0, .slice A1 l1.length c1, .int .i64 a2, .int .i64 ((rd_T58 l0 x13_1).f0)] ?_; (with_reducible refine (impl_LightAt.calls k1 _ _ l0 _ _ l1 a2 ((rd_T58 l0 x13_1).f0) t604 _ ?side1 ?side2 ?side3 ?side4 A9.out).mono ?_); (case side1 => exact Kd.C_below HR0.out bG); (case side2 => exact HC0.out); (case side3 => exact Kd.C_below HR1.out bG); (case side4 => exact HC1.out); rintro e w13 ⟨rfl, hb⟩; refine ⟨_, rfl, ?_⟩; have n0_ := Aside0.mk (Kd.R_below (by (with_reducible repeat (first | apply Kd.R_alloc | apply Kd.R_drewN | apply Kd.R_drew)); exact (Kd.R_mono (Kd.R_far (p := ⟨gb603, 3, none⟩) (Kd.R_far (p := ⟨gb603, 2, none⟩) (Kd.R_far (p := ⟨gb603, 1, none⟩) (Kd.R_far (p := ⟨gb603, 0, none⟩) (Kd.R_types HO_7.out BK603.out (by decide)) (fun _ hk => hk.2) (.int .i64 ((rd_T58 l0 x13_1).f0))) (fun _ hk => hk.2) (.int .i64 ((rd_T58 l0 x13_1).f1))) (fun _ hk => hk.2) (.int .i64 ((rd_T58 l0 x13_1).f2))) (fun _ hk => hk.2) (.int .i64 ((rd_T58 l0 x13_1).f3))) (fun _ h_ => h_.1))) hb); have n1_ := Aside0.mk (blk_below (g := gb603) (o := .cells #[.int .i64 ((rd_T58 l0 x13_1).f0), .int .i64 ((rd_T58 l0 x13_1).f1), .int .i64 ((rd_T58 l0 x13_1).f2), .int .i64 ((rd_T58 l0 x13_1).f3)] 58 (0, 0)) (by (with_reducible repeat (first | refine blk_drewN ?_ _ | refine blk_drew ?_ | refine blk_alloc ?_ _)); refine blk_put (cs := #[.int .i64 ((rd_T58 l0 x13_1).f0), .int .i64 ((rd_T58 l0 x13_1).f1), .int .i64 ((rd_T58 l0 x13_1).f2), .int .i64 0]) ?_ 3 _ rfl; (with_reducible repeat (first | refine blk_drewN ?_ _ | refine blk_drew ?_ | refine blk_alloc ?_ _)); refine blk_put (cs := #[.int .i64 ((rd_T58 l0 x13_1).f0), .int .i64 ((rd_T58 l0 x13_1).f1), .int .i64 0, .int .i64 0]) ?_ 2 _ rfl; (with_reducible repeat (first | refine blk_drewN ?_ _ | refine blk_drew ?_ | refine blk_alloc ?_ _)); refine blk_put (cs := #[.int .i64 ((rd_T58 l0 x13_1).f0), .int .i64 0, .int .i64 0, .int .i64 0]) ?_ 1 _ rfl; (with_reducible repeat (first | refine blk_drewN ?_ _ | refine blk_drew ?_ | refine blk_alloc ?_ _)); refine blk_put (cs := #[.int .i64 0, .int .i64 0, .int .i64 0, .int .i64 0]) ?_ 0 _ rfl; (with_reducible repeat (first | refine blk_drewN ?_ _ | refine blk_drew ?_ | refine blk_alloc ?_ _)); exact BK603.out) hb); have n2_ := Aside0.mk (below_step bG hb); clear HO_7; clear BK603; clear HB; have HO_7 := n0_; have BK603 := n1_; have HB := n2_; clear n0_ n1_ n2_; (try clear hb); (try clear hb2); (try clear hk); (try clear hi)) | ((with_reducible refine gate_builtin (b := .append) (xs := #[.tmp 17, .tmp 24]) rfl ?_); at_builtin; refine Kd.R_append (Kd.int .i64) (w0 := w) w.heap.size rfl (.tmp 17) (.tmp 24) 41 3 (.int .i64 0) 8 rfl Try.underlying41 info3 rfl (by decide) (by omega) u7 x7_1 t604 [.int .i64 t604] (fun _ => True) (fun _ => False) rfl rfl ?aP (fun _ hk => hk.elim) ?aF ?aO ?aB ?aS ?aL ?_; (case aP => exact rfl); (case aB => exact bG); (case aF => exact (fun _ _ => trivial)); (case aO => exact (rK HO_7)); (case aS => exact (below_size bG)); (case aL => have := LMc10.out; omega); intro v606 w14 ho hb hg hat; rw [← Ny605.out] at ho; have n0_ := Aside0.mk (blk_grown (g := gb603) (o := .cells #[.int .i64 ((rd_T58 l0 x13_1).f0), .int .i64 ((rd_T58 l0 x13_1).f1), .int .i64 ((rd_T58 l0 x13_1).f2), .int .i64 ((rd_T58 l0 x13_1).f3)] 58 (0, 0)) (bK BK603) hg (Kd.R_ne HO_7.out BK603.out (by decide))); have n1_ := Aside0.mk (hb); have n2_ := Aside0.mk (ho); clear BK603; clear HB; clear HO_7; have BK603 := n0_; have HB := n1_; have HO607 := n2_; clear n0_ n1_ n2_; clear ho hb hg hat))
        go_roundg k1
        case measure => have := HK1.out; omega
        case rel => exact ⟨(y605), (wrap64 (x13_1 + 1)), rS, H', ⟨by have := HK1.out; omega⟩, ⟨rK HO607⟩, ⟨bG⟩⟩
      · rw [if_neg c6] at H
        have c6b0 : decide (x13_1 < (l0.length : Int)) = false := decide_eq_false c6
        clear c6
        obtain rfl := Option.some.inj H
        go_wp2
        go_ret
        exact ⟨_, by first | rfl | (simp [errW_none, errW_some] <;> rfl) | (simp [*, errW_none, errW_some] <;> rfl), by (with_reducible repeat (first | apply Kd.R_alloc | apply Kd.R_drewN | apply Kd.R_drew)); exact HO_7.out, bA⟩

/-! ### impl_greens: function 73 -/
def impl_greens.l0 : Nat → List (S58) → List (S51) → Int → List Bool → Int → Int → Option (List Bool)
  | 0, _, _, _, _, _, _ => none
  | k + 1, x0, x1, x2, x7, x18, x19 => if x19 < x18 then ((impl_LightAt.f k x0 x1 x19 x2).bind fun t665 => (if 0 ≤ x19 then (if x19 < (x7.length : Int) then (impl_greens.l0 k x0 x1 x2 (x7.set (x19 : Int).toNat (t665 == 1)) x18 (wrap64 (x19 + 1))) else (none)) else (none))) else (some x7)
def impl_greens.f (k : Nat) (l0 : List (S58)) (l1 : List (S51)) (a2 : Int) : Option (List Bool) := (impl_FindPath.f l0 a2).bind fun t660 => (if t660 < 0 then (some ([] : List Bool)) else ((impl_Cycle.f k l0 l1).bind fun t661 => (if 0 ≤ t661 then (if (t661 : Int).toNat ≤ 281474976710656 then ((some (List.replicate (t661 : Int).toNat false : List Bool)).bind fun y662 => (impl_greens.l0 k l0 l1 a2 y662 (y662.length : Int) 0)) else (none)) else (none))))
theorem impl_greens.mono_l : ∀ k, (∀ y0 y1 y2 y3 y4 y5, LeO (impl_greens.l0 k y0 y1 y2 y3 y4 y5) (impl_greens.l0 (k + 1) y0 y1 y2 y3 y4 y5))
  | 0 => fun _ _ _ _ _ _ r h => by simp [impl_greens.l0] at h
  | k + 1 => by
    have ih0 := impl_greens.mono_l k
    · intro y0 y1 y2 y3 y4 y5
      unfold impl_greens.l0
      repeat' first | (with_reducible first | exact LeO.refl _ | exact LeO.none _ | refine LeO.ite ?_ ?_ | refine LeO.bind ?_ (fun _ => ?_) | exact ih0 _ _ _ _ _ _ | exact impl_Cycle.mono _ _ _ | exact impl_LightAt.mono _ _ _ _ _) | exact LeO.none _ | refine LeO.ite ?_ ?_ | refine LeO.bind ?_ (fun _ => ?_) | exact ih0 _ _ _ _ _ _ | exact impl_Cycle.mono _ _ _ | exact impl_LightAt.mono _ _ _ _ _
theorem impl_greens.mono : ∀ a0 a1 a2 k, LeO (impl_greens.f k a0 a1 a2) (impl_greens.f (k + 1) a0 a1 a2) := by
  intro a0 a1 a2 k
  have ih0 := impl_greens.mono_l k
  unfold impl_greens.f
  repeat' first | (with_reducible first | exact LeO.refl _ | exact LeO.none _ | refine LeO.ite ?_ ?_ | refine LeO.bind ?_ (fun _ => ?_) | exact ih0 _ _ _ _ _ _ | exact impl_Cycle.mono _ _ _ | exact impl_LightAt.mono _ _ _ _ _) | exact LeO.none _ | refine LeO.ite ?_ ?_ | refine LeO.bind ?_ (fun _ => ?_) | exact ih0 _ _ _ _ _ _ | exact impl_Cycle.mono _ _ _ | exact impl_LightAt.mono _ _ _ _ _
set_option maxHeartbeats 8000000 in
set_option maxRecDepth 100000 in
theorem impl_greens.calls (k : Nat) (A0 : Option Addr) (c0 : Nat) (l0 : List (S58)) (A1 : Option Addr) (c1 : Nat) (l1 : List (S51)) (a2 : Int) (r : List Bool) (w : World) (hr0 : Kd.C k58 w A0 l0.length l0) (hc0 : l0.length ≤ c0) (hr1 : Kd.C k51 w A1 l1.length l1) (hc1 : l1.length ≤ c1) (h : impl_greens.f k l0 l1 a2 = some r) :
    Calls Try.prog 73 #[.slice A0 l0.length c0, .slice A1 l1.length c1, .int .i64 a2] w fun e w' => ∃ v0_ : Value, e = .returned (v0_) ∧ Kd.R Kd.bool 4 w' w.heap.size (fun _ => True) v0_ r ∧ Below w.heap.size w w' := by
  have HR0 := Aside0.mk hr0
  have HC0 := Aside0.mk hc0
  clear hr0 hc0
  have HR1 := Aside0.mk hr1
  have HC1 := Aside0.mk hc1
  clear hr1 hc1
  have HB := Aside0.mk (Below.refl w.heap.size w)
  have H : ((impl_FindPath.f l0 a2).bind fun t660 => (if t660 < 0 then (some ([] : List Bool)) else ((impl_Cycle.f k l0 l1).bind fun t661 => (if 0 ≤ t661 then (if (t661 : Int).toNat ≤ 281474976710656 then ((some (List.replicate (t661 : Int).toNat false : List Bool)).bind fun y662 => (impl_greens.l0 k l0 l1 a2 y662 (y662.length : Int) 0)) else (none)) else (none))))) = some r := h
  clear h
  obtain ⟨t660, A4, H⟩ := bindE H
  try dsimp only at H
  by_cases c5 : t660 < 0
  · rw [if_pos c5] at H
    have c5b0 : decide (t660 < 0) = true := decide_eq_true c5
    clear c5
    obtain rfl := Option.some.inj H
    go_enter Try.func73, Try.ntmps73
    go_wp2_with (first | ((with_reducible refine gate_callee (f := 70) rfl ?_); refine gL (some 11) Try.func70 #[.slice A0 l0.length c0, .int .i64 a2] ?_; (with_reducible refine (impl_FindPath.calls _ _ l0 a2 t660 _ ?side1 ?side2 A4.out).mono ?_); (case side1 => exact cO HR0); (case side2 => exact HC0.out); rintro e w6 ⟨rfl, hb⟩; refine ⟨_, rfl, ?_⟩; replace HB := Aside0.mk (below_step bA hb); (try clear hb); (try clear hb2); (try clear hk); (try clear hi)))
    go_ret
    exact ⟨_, by first | rfl | (simp [errW_none, errW_some] <;> rfl) | (simp [*, errW_none, errW_some] <;> rfl), by first | exact Kd.R_nil _ _ _ _ _ | exact Kd.N_nil _ _ _ _ _ | exact Kd.V_nil _ _ _ _ _ | exact Kd.Q_nil _ _ _ _ _ | exact Kd.S_nil _ _ _ _ _, bA⟩
  · rw [if_neg c5] at H
    have c5b0 : decide (t660 < 0) = false := decide_eq_false c5
    clear c5
    obtain ⟨t661, A7, H⟩ := bindE H
    try dsimp only at H
    have c8 : 0 ≤ t661 := ifN H
    replace H := ifT H
    have c8b0 := eq_true c8
    have c8b1 : decide (0 ≤ t661) = true := decide_eq_true c8
    clear c8
    have c9 : (t661 : Int).toNat ≤ 281474976710656 := ifN H
    replace H := ifT H
    have c9b0 := eq_true c9
    have c9b1 : decide ((t661 : Int).toNat ≤ 281474976710656) = true := decide_eq_true c9
    clear c9
    obtain ⟨y662, hy662⟩ : ∃ y_ : List Bool, y_ = (List.replicate (t661 : Int).toNat false) := ⟨_, rfl⟩
    replace H : (impl_greens.l0 k l0 l1 a2 y662 (y662.length : Int) 0) = some r := by first | (rw [hy662]; with_reducible exact H) | (have H2_ := (Option.bind_some _ _).symm.trans H; rw [hy662]; with_reducible exact H2_) | (have H2_ := (Option.bind_some _ _).symm.trans H; with_reducible exact H2_) | with_reducible exact H | (rw [hy662]; exact H) | exact H
    have Ny662 := Aside0.mk hy662
    clear hy662
    have H' := Aside0.mk H
    clear H
    go_enter Try.func73, Try.ntmps73
    go_wp2_with (first | ((with_reducible refine gate_callee (f := 70) rfl ?_); refine gL (some 11) Try.func70 #[.slice A0 l0.length c0, .int .i64 a2] ?_; (with_reducible refine (impl_FindPath.calls _ _ l0 a2 t660 _ ?side1 ?side2 A4.out).mono ?_); (case side1 => exact cO HR0); (case side2 => exact HC0.out); rintro e w10 ⟨rfl, hb⟩; refine ⟨_, rfl, ?_⟩; replace HB := Aside0.mk (below_step bA hb); (try clear hb); (try clear hb2); (try clear hk); (try clear hi)) | ((with_reducible refine gate_callee (f := 24) rfl ?_); refine gL (some 15) Try.func24 #[.slice A0 l0.length c0, .slice A1 l1.length c1] ?_; (with_reducible refine (impl_Cycle.calls k _ _ l0 _ _ l1 t661 _ ?side1 ?side2 ?side3 ?side4 A7.out).mono ?_); (case side1 => exact cB HR0); (case side2 => exact HC0.out); (case side3 => exact cB HR1); (case side4 => exact HC1.out); rintro e w11 ⟨rfl, hb⟩; refine ⟨_, rfl, ?_⟩; replace HB := Aside0.mk (below_step bA hb); (try clear hb); (try clear hb2); (try clear hk); (try clear hi)) | ((with_reducible refine gate_dst (N := 16) rfl ?_); refine Kd.R_make Kd.bool _ 4 rfl (N := 16) rfl 68 _ _ rfl t661 rfl rfl Try.underlying68 (.bool false) 1 info4 rfl (by decide) (by omega) false (ok := fun _ => True) (okp := fun _ => True) rfl (fun _ hk => hk) trivial (dA) (Nat.le_trans (Nat.mul_le_mul_right _ (dA : t661.toNat ≤ 281474976710656)) (by omega)) (Below.refl _ _) (Nat.le_refl _) ?_; intro v663 w12 ho13 hb hg_ hnew_; clear hg_ hnew_; (first | rw [← Ny662.out] at ho13 | (simp only [Int.reduceToNat] at ho13; rw [← Ny662.out] at ho13)); have HO664 := Aside0.mk (Kd.R_lower ho13 (below_size bA)); replace HB := Aside0.mk (below_step bA hb); clear hb ho13; obtain ⟨Ao14, co14, eo14⟩ := Kd.R_slice HO664.out; subst eo14))
    go_loopg [19] k (fun kq v19 w' => ∃ (x7_1 : List Bool) (x19_1 : Int), v19 = .int .i64 x19_1 ∧ Aside0 (impl_greens.l0 kq l0 l1 a2 x7_1 (y662.length : Int) x19_1 = some r) ∧ Aside0 (kq ≤ k) ∧ Aside0 (Kd.R Kd.bool 4 w' w.heap.size (fun _ => True) (.slice Ao14 y662.length co14) x7_1) ∧ Aside0 (Below w.heap.size w w'))
    case atStart => exact ⟨(y662), (0), rS, H', ⟨Nat.le_refl _⟩, ⟨rK HO664⟩, ⟨bA⟩⟩
    case round =>
      clear H'
      try clear c1
      try clear c2
      try clear p2
      try clear c5
      try clear c5b0
      try clear c7
      try clear c8
      try clear c8b0
      try clear c8b1
      try clear c9
      try clear c9b0
      try clear c9b1
      obtain ⟨x7_1, x19_1, rfl, HA, HK1, HO_7, HB⟩ := hrel
      have hl7_1 := (Kd.R_reads' HO_7.out).1
      rw [hl7_1] at HO_7
      (try simp only [hl7_1])
      cases gk with
      | zero => exact absurd HA.out (by simp [impl_greens.l0])
      | succ k1 =>
        have H := HA.out
        clear HA
        simp only [impl_greens.l0] at H
        by_cases c15 : x19_1 < (y662.length : Int)
        · rw [if_pos c15] at H
          have c15b0 : decide (x19_1 < (y662.length : Int)) = true := decide_eq_true c15
          (try have c15b0x : decide (x19_1 < (x7_1.length : Int)) = true := (by rw [← hl7_1]; exact c15b0))
          clear c15
          obtain ⟨t665, A16, H⟩ := bindE H
          try dsimp only at H
          have c17 : 0 ≤ x19_1 := ifN H
          replace H := ifT H
          have c17b0 : decide (0 ≤ x19_1) = true := decide_eq_true c17
          clear c17
          have c18 : x19_1 < (x7_1.length : Int) := ifN H
          replace H := ifT H
          have c18b0 : decide (x19_1 < (x7_1.length : Int)) = true := decide_eq_true c18
          clear c18
          obtain ⟨y666, hy666⟩ : ∃ y_ : List Bool, y_ = (x7_1.set (x19_1 : Int).toNat (t665 == 1)) := ⟨_, rfl⟩
          replace H : (impl_greens.l0 k1 l0 l1 a2 y666 (y662.length : Int) (wrap64 (x19_1 + 1))) = some r := by first | (rw [hy666]; with_reducible exact H) | (have H2_ := (Option.bind_some _ _).symm.trans H; rw [hy666]; with_reducible exact H2_) | (have H2_ := (Option.bind_some _ _).symm.trans H; with_reducible exact H2_) | with_reducible exact H | (rw [hy666]; exact H) | exact H
          have Ny666 := Aside0.mk hy666
          clear hy666
          have H' := Aside0.mk H
          clear H
          go_wp2_with (first | ((with_reducible refine gate_callee (f := 34) rfl ?_); refine gL (some 28) Try.func34 #[.slice A0 l0.length c0, .slice A1 l1.length c1, .int .i64 x19_1, .int .i64 a2] ?_; (with_reducible refine (impl_LightAt.calls k1 _ _ l0 _ _ l1 x19_1 a2 t665 _ ?side1 ?side2 ?side3 ?side4 A16.out).mono ?_); (case side1 => exact cB HR0); (case side2 => exact HC0.out); (case side3 => exact cB HR1); (case side4 => exact HC1.out); rintro e w20 ⟨rfl, hb⟩; refine ⟨_, rfl, ?_⟩; replace HO_7 := Aside0.mk (Kd.R_below (rK HO_7) hb); replace HB := Aside0.mk (below_step bA hb); (try clear hb); (try clear hb2); (try clear hk); (try clear hi); have p19 : 0 ≤ (x19_1 : Int) := dA; have q19 : (x19_1 : Int) < ((x7_1.length : Int) : Int) := dA; obtain ⟨go19, co19, eo19, gb19, gl19, cl19, HG19⟩ := Kd.R_form HO_7.out (by omega); (first | cases eo19 | (injection eo19 with ea_ en_ ec_; (first | subst ea_ | (injection ea_ with ea_; subst ea_)); subst ec_; clear en_)); have GB19 := Aside0.mk gb19; have GG19 := Aside0.mk HG19; clear gb19 gl19 HG19; obtain ⟨hx19_0, hf19_0⟩ := Kd.R_celln false HO_7.out (x19_1 : Int) p19 q19; replace p19 := eq_true p19; replace q19 := eq_true q19; obtain ⟨hy21_, hz21_⟩ := Kd.R_celln false HO_7.out (x19_1 : Int) (dA) (dA); have HP21 := Kd.R_putg HO_7.out (x19_1 : Int) (t665 == 1)) | ((with_reducible refine gate_store (t := 4) (p := 30) rfl ?_); refine store_event (t := 4) (p := 30) (v := ?vo_w22) (w1 := (w20.setCell ⟨go19, (x19_1 : Int).toNat, none⟩ (.bool (t665 == 1)))) ?hg ?ho ?hn ?hr ?_; (case ho => rfl); (case hg => rfl); (case hn => rfl); (case hr => first | (go_simp; done) | (go_simp; rfl)); intro w22 hw; have hg : w20.grownBy w22 (some go19) := (by rw [hw]; exact HP21.2); have hp_ : Kd.R Kd.bool 4 w22 w.heap.size (fun _ => True) (.slice (some ⟨go19, 0, none⟩) x7_1.length co14) y666 := (by rw [hw, Ny666.out]; exact HP21.1); clear HP21; have n0_ := Aside0.mk (hp_); have n1_ := Aside0.mk ((by rw [hw]; exact below_set (HB.out) GB19.out : Below w.heap.size w w22)); clear HO_7; clear HB; have HO_7 := n0_; have HB := n1_; clear n0_ n1_; clear hg hw hp_))
          (try simp only [← hl7_1])
          go_roundg k1
          case measure => have := HK1.out; omega
          case rel => exact ⟨(y666), (wrap64 (x19_1 + 1)), rS, H', ⟨by have := HK1.out; omega⟩, ⟨by (try simp only [hl7_1]); (with_reducible repeat (first | apply Kd.R_alloc | apply Kd.R_drewN | apply Kd.R_drew)); exact HO_7.out⟩, ⟨bA⟩⟩
        · rw [if_neg c15] at H
          have c15b0 : decide (x19_1 < (y662.length : Int)) = false := decide_eq_false c15
          (try have c15b0x : decide (x19_1 < (x7_1.length : Int)) = false := (by rw [← hl7_1]; exact c15b0))
          clear c15
          obtain rfl := Option.some.inj H
          go_wp2
          go_ret
          exact ⟨_, by first | rfl | (simp [errW_none, errW_some] <;> rfl) | (simp [*, errW_none, errW_some] <;> rfl), by (with_reducible repeat (first | apply Kd.R_alloc | apply Kd.R_drewN | apply Kd.R_drew)); exact HO_7.out, bA⟩

/-! ### impl_GreenOf: function 43 -/
def impl_GreenOf.l0 : Nat → Int → List Bool → Int → Int → Option (Int)
  | 0, _, _, _, _ => none
  | k + 1, x7, x13, x14, x15 => if x15 < x14 then (if 0 ≤ x15 then (if x15 < (x13.length : Int) then (if rdOf false x13 x15 = true then (impl_GreenOf.l0 k (wrap64 (x7 + 1)) x13 x14 (wrap64 (x15 + 1))) else (impl_GreenOf.l0 k x7 x13 x14 (wrap64 (x15 + 1)))) else (none)) else (none)) else (some x7)
def impl_GreenOf.f (k : Nat) (l0 : List (S58)) (l1 : List (S51)) (a2 : Int) : Option (Int) := (impl_greens.f k l0 l1 a2).bind fun t667 => (impl_GreenOf.l0 k 0 t667 (t667.length : Int) 0)
theorem impl_GreenOf.mono_l : ∀ k, (∀ y0 y1 y2 y3, LeO (impl_GreenOf.l0 k y0 y1 y2 y3) (impl_GreenOf.l0 (k + 1) y0 y1 y2 y3))
  | 0 => fun _ _ _ _ r h => by simp [impl_GreenOf.l0] at h
  | k + 1 => by
    have ih0 := impl_GreenOf.mono_l k
    · intro y0 y1 y2 y3
      unfold impl_GreenOf.l0
      repeat' first | (with_reducible first | exact LeO.refl _ | exact LeO.none _ | refine LeO.ite ?_ ?_ | refine LeO.bind ?_ (fun _ => ?_) | exact ih0 _ _ _ _ | exact impl_greens.mono _ _ _ _) | exact LeO.none _ | refine LeO.ite ?_ ?_ | refine LeO.bind ?_ (fun _ => ?_) | exact ih0 _ _ _ _ | exact impl_greens.mono _ _ _ _
theorem impl_GreenOf.mono : ∀ a0 a1 a2 k, LeO (impl_GreenOf.f k a0 a1 a2) (impl_GreenOf.f (k + 1) a0 a1 a2) := by
  intro a0 a1 a2 k
  have ih0 := impl_GreenOf.mono_l k
  unfold impl_GreenOf.f
  repeat' first | (with_reducible first | exact LeO.refl _ | exact LeO.none _ | refine LeO.ite ?_ ?_ | refine LeO.bind ?_ (fun _ => ?_) | exact ih0 _ _ _ _ | exact impl_greens.mono _ _ _ _) | exact LeO.none _ | refine LeO.ite ?_ ?_ | refine LeO.bind ?_ (fun _ => ?_) | exact ih0 _ _ _ _ | exact impl_greens.mono _ _ _ _
set_option maxHeartbeats 8000000 in
set_option maxRecDepth 100000 in
theorem impl_GreenOf.calls (k : Nat) (A0 : Option Addr) (c0 : Nat) (l0 : List (S58)) (A1 : Option Addr) (c1 : Nat) (l1 : List (S51)) (a2 : Int) (r : Int) (w : World) (hr0 : Kd.C k58 w A0 l0.length l0) (hc0 : l0.length ≤ c0) (hr1 : Kd.C k51 w A1 l1.length l1) (hc1 : l1.length ≤ c1) (h : impl_GreenOf.f k l0 l1 a2 = some r) :
    Calls Try.prog 43 #[.slice A0 l0.length c0, .slice A1 l1.length c1, .int .i64 a2] w fun e w' => e = .returned (.int .i64 r) ∧ Below w.heap.size w w' := by
  have HR0 := Aside0.mk hr0
  have HC0 := Aside0.mk hc0
  clear hr0 hc0
  have HR1 := Aside0.mk hr1
  have HC1 := Aside0.mk hc1
  clear hr1 hc1
  have HB := Aside0.mk (Below.refl w.heap.size w)
  have H : ((impl_greens.f k l0 l1 a2).bind fun t667 => (impl_GreenOf.l0 k 0 t667 (t667.length : Int) 0)) = some r := h
  clear h
  obtain ⟨t667, A4, H⟩ := bindE H
  try dsimp only at H
  have H' := Aside0.mk H
  clear H
  go_enter Try.func43, Try.ntmps43
  go_wp2_with (first | ((with_reducible refine gate_callee (f := 73) rfl ?_); refine gL (some 13) Try.func73 #[.slice A0 l0.length c0, .slice A1 l1.length c1, .int .i64 a2] ?_; (with_reducible refine (impl_greens.calls k _ _ l0 _ _ l1 a2 t667 _ ?side1 ?side2 ?side3 ?side4 A4.out).mono ?_); (case side1 => exact cO HR0); (case side2 => exact HC0.out); (case side3 => exact cO HR1); (case side4 => exact HC1.out); rintro e w5 ⟨v668, rfl, ho0, hb⟩; refine ⟨_, rfl, ?_⟩; have HO669 := Aside0.mk (Kd.R_lower ho0 (below_size bA)); replace HB := Aside0.mk (below_step bA hb); (try clear hb); (try clear hb2); (try clear hk); (try clear hi); (try clear ho0); obtain ⟨Ao6, co6, eo6⟩ := Kd.R_slice HO669.out; subst eo6))
  go_loopg [7, 15] k (fun kq v7 v15 w' => ∃ (x7_1 : Int) (x15_1 : Int), v7 = .int .i64 x7_1 ∧ v15 = .int .i64 x15_1 ∧ Aside0 (impl_GreenOf.l0 kq x7_1 t667 (t667.length : Int) x15_1 = some r) ∧ Aside0 (kq ≤ k) ∧ Aside0 (Kd.R Kd.bool 4 w' w.heap.size (fun _ => True) (.slice Ao6 t667.length co6) t667) ∧ Aside0 (Below w.heap.size w w'))
  case atStart => exact ⟨(0), (0), rS, rS, H', ⟨Nat.le_refl _⟩, ⟨rK HO669⟩, ⟨bA⟩⟩
  case round =>
    clear H'
    try clear c1
    try clear p2
    try clear c4
    obtain ⟨x7_1, x15_1, rfl, rfl, HA, HK1, HO_13, HB⟩ := hrel
    cases gk with
    | zero => exact absurd HA.out (by simp [impl_GreenOf.l0])
    | succ k1 =>
      have H := HA.out
      clear HA
      simp only [impl_GreenOf.l0] at H
      by_cases c7 : x15_1 < (t667.length : Int)
      · rw [if_pos c7] at H
        have c7b0 : decide (x15_1 < (t667.length : Int)) = true := decide_eq_true c7
        clear c7
        have c8 : 0 ≤ x15_1 := ifN H
        replace H := ifT H
        have c8b0 : decide (0 ≤ x15_1) = true := decide_eq_true c8
        clear c8
        have c9 : x15_1 < (t667.length : Int) := ifN H
        replace H := ifT H
        have c9b0 : decide (x15_1 < (t667.length : Int)) = true := decide_eq_true c9
        clear c9
        obtain ⟨bq10, hbq10⟩ : ∃ b_ : Bool, b_ = (rdOf false t667 x15_1) := ⟨_, rfl⟩
        replace H : (if bq10 = true then (impl_GreenOf.l0 k1 (wrap64 (x7_1 + 1)) t667 (t667.length : Int) (wrap64 (x15_1 + 1))) else (impl_GreenOf.l0 k1 x7_1 t667 (t667.length : Int) (wrap64 (x15_1 + 1)))) = some r := by rw [← hbq10] at H; exact H
        have Nbq10 := Aside0.mk hbq10
        clear hbq10
        by_cases c11 : bq10 = true
        · subst c11
          have H1 : (impl_GreenOf.l0 k1 (wrap64 (x7_1 + 1)) t667 (t667.length : Int) (wrap64 (x15_1 + 1))) = some r := by rw [if_pos rfl] at H; exact H
          clear H
          have H := H1
          clear H1
          have H' := Aside0.mk H
          clear H
          have p670 : 0 ≤ (x15_1 : Int) := dA
          have q670 : x15_1 < (t667.length : Int) := dA
          obtain ⟨ad670, e670, hx670_0⟩ := Kd.at_bool (Kd.R_reads' HO_13.out).2.2 x15_1 p670 q670
          (try rw [← Nbq10.out] at hx670_0)
          cases e670
          replace p670 := eq_true p670
          replace q670 := eq_true q670
          go_wp2
          go_roundg k1
          case measure => have := HK1.out; omega
          case rel => exact ⟨(wrap64 (x7_1 + 1)), (wrap64 (x15_1 + 1)), rS, rS, H', ⟨by have := HK1.out; omega⟩, ⟨rK HO_13⟩, ⟨bA⟩⟩
        · replace c11 := Bool.eq_false_iff.mpr c11
          subst c11
          have H1 : (impl_GreenOf.l0 k1 x7_1 t667 (t667.length : Int) (wrap64 (x15_1 + 1))) = some r := by rw [if_neg (show ¬ (false = true) by decide)] at H; exact H
          clear H
          have H := H1
          clear H1
          have H' := Aside0.mk H
          clear H
          have p670 : 0 ≤ (x15_1 : Int) := dA
          have q670 : x15_1 < (t667.length : Int) := dA
          obtain ⟨ad670, e670, hx670_0⟩ := Kd.at_bool (Kd.R_reads' HO_13.out).2.2 x15_1 p670 q670
          (try rw [← Nbq10.out] at hx670_0)
          cases e670
          replace p670 := eq_true p670
          replace q670 := eq_true q670
          go_wp2
          go_roundg k1
          case measure => have := HK1.out; omega
          case rel => exact ⟨(x7_1), (wrap64 (x15_1 + 1)), rS, rS, H', ⟨by have := HK1.out; omega⟩, ⟨rK HO_13⟩, ⟨bA⟩⟩
      · rw [if_neg c7] at H
        have c7b0 : decide (x15_1 < (t667.length : Int)) = false := decide_eq_false c7
        clear c7
        obtain rfl := Option.some.inj H
        go_wp2
        go_ret
        exact ⟨rA, bA⟩

/-! ### impl_WaitOf: function 45 -/
def impl_WaitOf.l0 : Nat → List Bool → Int → Int → Int → Int → Option (Int)
  | 0, _, _, _, _, _ => none
  | k + 1, x7, x8, x9, x17, x18 => if x18 < x17 then (if (x7.length : Int) = 0 then (none) else (if 0 ≤ (Int.tmod x18 (x7.length : Int)) then (if (Int.tmod x18 (x7.length : Int)) < (x7.length : Int) then (if rdOf false x7 (Int.tmod x18 (x7.length : Int)) = true then (impl_WaitOf.l0 k x7 (mx x8 0) 0 x17 (wrap64 (x18 + 1))) else (impl_WaitOf.l0 k x7 (mx x8 (wrap64 (x9 + 1))) (wrap64 (x9 + 1)) x17 (wrap64 (x18 + 1)))) else (none)) else (none))) else (some (mn x8 (x7.length : Int)))
def impl_WaitOf.f (k : Nat) (l0 : List (S58)) (l1 : List (S51)) (a2 : Int) : Option (Int) := (impl_greens.f k l0 l1 a2).bind fun t702 => (impl_WaitOf.l0 k t702 0 0 (wrap64 (2 * (t702.length : Int))) 0)
theorem impl_WaitOf.mono_l : ∀ k, (∀ y0 y1 y2 y3 y4, LeO (impl_WaitOf.l0 k y0 y1 y2 y3 y4) (impl_WaitOf.l0 (k + 1) y0 y1 y2 y3 y4))
  | 0 => fun _ _ _ _ _ r h => by simp [impl_WaitOf.l0] at h
  | k + 1 => by
    have ih0 := impl_WaitOf.mono_l k
    · intro y0 y1 y2 y3 y4
      unfold impl_WaitOf.l0
      repeat' first | (with_reducible first | exact LeO.refl _ | exact LeO.none _ | refine LeO.ite ?_ ?_ | refine LeO.bind ?_ (fun _ => ?_) | exact ih0 _ _ _ _ _ | exact impl_greens.mono _ _ _ _) | exact LeO.none _ | refine LeO.ite ?_ ?_ | refine LeO.bind ?_ (fun _ => ?_) | exact ih0 _ _ _ _ _ | exact impl_greens.mono _ _ _ _
theorem impl_WaitOf.mono : ∀ a0 a1 a2 k, LeO (impl_WaitOf.f k a0 a1 a2) (impl_WaitOf.f (k + 1) a0 a1 a2) := by
  intro a0 a1 a2 k
  have ih0 := impl_WaitOf.mono_l k
  unfold impl_WaitOf.f
  repeat' first | (with_reducible first | exact LeO.refl _ | exact LeO.none _ | refine LeO.ite ?_ ?_ | refine LeO.bind ?_ (fun _ => ?_) | exact ih0 _ _ _ _ _ | exact impl_greens.mono _ _ _ _) | exact LeO.none _ | refine LeO.ite ?_ ?_ | refine LeO.bind ?_ (fun _ => ?_) | exact ih0 _ _ _ _ _ | exact impl_greens.mono _ _ _ _
set_option maxHeartbeats 8000000 in
set_option maxRecDepth 100000 in
theorem impl_WaitOf.calls (k : Nat) (A0 : Option Addr) (c0 : Nat) (l0 : List (S58)) (A1 : Option Addr) (c1 : Nat) (l1 : List (S51)) (a2 : Int) (r : Int) (w : World) (hr0 : Kd.C k58 w A0 l0.length l0) (hc0 : l0.length ≤ c0) (hr1 : Kd.C k51 w A1 l1.length l1) (hc1 : l1.length ≤ c1) (h : impl_WaitOf.f k l0 l1 a2 = some r) :
    Calls Try.prog 45 #[.slice A0 l0.length c0, .slice A1 l1.length c1, .int .i64 a2] w fun e w' => e = .returned (.int .i64 r) ∧ Below w.heap.size w w' := by
  have HR0 := Aside0.mk hr0
  have HC0 := Aside0.mk hc0
  clear hr0 hc0
  have HR1 := Aside0.mk hr1
  have HC1 := Aside0.mk hc1
  clear hr1 hc1
  have HB := Aside0.mk (Below.refl w.heap.size w)
  have H : ((impl_greens.f k l0 l1 a2).bind fun t702 => (impl_WaitOf.l0 k t702 0 0 (wrap64 (2 * (t702.length : Int))) 0)) = some r := h
  clear h
  obtain ⟨t702, A4, H⟩ := bindE H
  try dsimp only at H
  have H' := Aside0.mk H
  clear H
  go_enter Try.func45, Try.ntmps45
  go_wp2_with (first | ((with_reducible refine gate_callee (f := 73) rfl ?_); refine gL (some 14) Try.func73 #[.slice A0 l0.length c0, .slice A1 l1.length c1, .int .i64 a2] ?_; (with_reducible refine (impl_greens.calls k _ _ l0 _ _ l1 a2 t702 _ ?side1 ?side2 ?side3 ?side4 A4.out).mono ?_); (case side1 => exact cO HR0); (case side2 => exact HC0.out); (case side3 => exact cO HR1); (case side4 => exact HC1.out); rintro e w5 ⟨v703, rfl, ho0, hb⟩; refine ⟨_, rfl, ?_⟩; have HO704 := Aside0.mk (Kd.R_lower ho0 (below_size bA)); replace HB := Aside0.mk (below_step bA hb); (try clear hb); (try clear hb2); (try clear hk); (try clear hi); (try clear ho0); obtain ⟨Ao6, co6, eo6⟩ := Kd.R_slice HO704.out; subst eo6))
  go_loopg [8, 9, 18] k (fun kq v8 v9 v18 w' => ∃ (x8_1 : Int) (x9_1 : Int) (x18_1 : Int), v8 = .int .i64 x8_1 ∧ v9 = .int .i64 x9_1 ∧ v18 = .int .i64 x18_1 ∧ Aside0 (impl_WaitOf.l0 kq t702 x8_1 x9_1 (wrap64 (2 * (t702.length : Int))) x18_1 = some r) ∧ Aside0 (kq ≤ k) ∧ Aside0 (Kd.R Kd.bool 4 w' w.heap.size (fun _ => True) (.slice Ao6 t702.length co6) t702) ∧ Aside0 (Below w.heap.size w w'))
  case atStart => exact ⟨(0), (0), (0), rS, rS, rS, H', ⟨Nat.le_refl _⟩, ⟨rK HO704⟩, ⟨bA⟩⟩
  case round =>
    clear H'
    try clear c1
    try clear p2
    try clear c4
    try clear p6
    obtain ⟨x8_1, x9_1, x18_1, rfl, rfl, rfl, HA, HK1, HO_7, HB⟩ := hrel
    cases gk with
    | zero => exact absurd HA.out (by simp [impl_WaitOf.l0])
    | succ k1 =>
      have H := HA.out
      clear HA
      simp only [impl_WaitOf.l0] at H
      by_cases c7 : x18_1 < (wrap64 (2 * (t702.length : Int)))
      · rw [if_pos c7] at H
        have c7b0 : decide (x18_1 < (wrap64 (2 * (t702.length : Int)))) = true := decide_eq_true c7
        clear c7
        have c8 : ¬ ((t702.length : Int) = 0) := ifN' H
        replace H := ifT' H
        have c8b0 : ((t702.length : Int) == 0) = false := beq_eq_false_iff_ne.mpr c8
        have c8b1 : ((t702.length : Int) != 0) = true := bne_iff_ne.mpr c8
        have c8b2 : ¬ (t702 = []) := fun h_ => c8 (by rw [h_]; rfl)
        obtain ⟨ji9, hji9⟩ : ∃ j_ : Int, (Int.tmod x18_1 (t702.length : Int)) = j_ := ⟨_, rfl⟩
        replace H : (if 0 ≤ (ji9) then (if (ji9) < (t702.length : Int) then (if rdOf false t702 (ji9) = true then (impl_WaitOf.l0 k1 t702 (mx x8_1 0) 0 (wrap64 (2 * (t702.length : Int))) (wrap64 (x18_1 + 1))) else (impl_WaitOf.l0 k1 t702 (mx x8_1 (wrap64 (x9_1 + 1))) (wrap64 (x9_1 + 1)) (wrap64 (2 * (t702.length : Int))) (wrap64 (x18_1 + 1)))) else (none)) else (none)) = some r := by first | (rw [hji9] at H; exact H) | (simp only [hji9] at H ⊢; exact H)
        have c10 : 0 ≤ (ji9) := ifN H
        replace H := ifT H
        have c10b0 : decide (0 ≤ (ji9)) = true := decide_eq_true c10
        clear c10
        have c11 : (ji9) < (t702.length : Int) := ifN H
        replace H := ifT H
        have c11b0 : decide ((ji9) < (t702.length : Int)) = true := decide_eq_true c11
        clear c11
        obtain ⟨bq12, hbq12⟩ : ∃ b_ : Bool, b_ = (rdOf false t702 (ji9)) := ⟨_, rfl⟩
        replace H : (if bq12 = true then (impl_WaitOf.l0 k1 t702 (mx x8_1 0) 0 (wrap64 (2 * (t702.length : Int))) (wrap64 (x18_1 + 1))) else (impl_WaitOf.l0 k1 t702 (mx x8_1 (wrap64 (x9_1 + 1))) (wrap64 (x9_1 + 1)) (wrap64 (2 * (t702.length : Int))) (wrap64 (x18_1 + 1)))) = some r := by rw [← hbq12] at H; exact H
        have Nbq12 := Aside0.mk hbq12
        clear hbq12
        by_cases c13 : bq12 = true
        · subst c13
          have H1 : (impl_WaitOf.l0 k1 t702 (mx x8_1 0) 0 (wrap64 (2 * (t702.length : Int))) (wrap64 (x18_1 + 1))) = some r := by rw [if_pos rfl] at H; exact H
          clear H
          have H := H1
          clear H1
          obtain ⟨ji14, hji14⟩ : ∃ j_ : Int, (mx x8_1 0) = j_ := ⟨_, rfl⟩
          replace H : (impl_WaitOf.l0 k1 t702 ji14 0 (wrap64 (2 * (t702.length : Int))) (wrap64 (x18_1 + 1))) = some r := by first | (rw [hji14] at H; exact H) | (simp only [hji14] at H ⊢; exact H)
          have hji14_ : (if x8_1 < 0 then 0 else x8_1) = ji14 := hji14
          have H' := Aside0.mk H
          clear H
          have p705 : 0 ≤ ((ji9) : Int) := dA
          have q705 : (ji9) < (t702.length : Int) := dA
          obtain ⟨ad705, e705, hx705_0⟩ := Kd.at_bool (Kd.R_reads' HO_7.out).2.2 (ji9) p705 q705
          (try rw [← Nbq12.out] at hx705_0)
          cases e705
          replace p705 := eq_true p705
          replace q705 := eq_true q705
          go_wp2
          go_roundg k1
          case measure => have := HK1.out; omega
          case rel => exact ⟨(ji14), (0), (wrap64 (x18_1 + 1)), (by first | rfl | (simp; done) | (simp only [← hji14] <;> (first | rfl | simp)) | (simp [*]; done)), rS, rS, H', ⟨by have := HK1.out; omega⟩, ⟨rK HO_7⟩, ⟨bA⟩⟩
        · replace c13 := Bool.eq_false_iff.mpr c13
          subst c13
          have H1 : (impl_WaitOf.l0 k1 t702 (mx x8_1 (wrap64 (x9_1 + 1))) (wrap64 (x9_1 + 1)) (wrap64 (2 * (t702.length : Int))) (wrap64 (x18_1 + 1))) = some r := by rw [if_neg (show ¬ (false = true) by decide)] at H; exact H
          clear H
          have H := H1
          clear H1
          obtain ⟨ji15, hji15⟩ : ∃ j_ : Int, (mx x8_1 (wrap64 (x9_1 + 1))) = j_ := ⟨_, rfl⟩
          replace H : (impl_WaitOf.l0 k1 t702 ji15 (wrap64 (x9_1 + 1)) (wrap64 (2 * (t702.length : Int))) (wrap64 (x18_1 + 1))) = some r := by first | (rw [hji15] at H; exact H) | (simp only [hji15] at H ⊢; exact H)
          have hji15_ : (if x8_1 < (wrap64 (x9_1 + 1)) then (wrap64 (x9_1 + 1)) else x8_1) = ji15 := hji15
          have H' := Aside0.mk H
          clear H
          have p705 : 0 ≤ ((ji9) : Int) := dA
          have q705 : (ji9) < (t702.length : Int) := dA
          obtain ⟨ad705, e705, hx705_0⟩ := Kd.at_bool (Kd.R_reads' HO_7.out).2.2 (ji9) p705 q705
          (try rw [← Nbq12.out] at hx705_0)
          cases e705
          replace p705 := eq_true p705
          replace q705 := eq_true q705
          go_wp2
          go_roundg k1
          case measure => have := HK1.out; omega
          case rel => exact ⟨(ji15), (wrap64 (x9_1 + 1)), (wrap64 (x18_1 + 1)), (by first | rfl | (simp; done) | (simp only [← hji15] <;> (first | rfl | simp)) | (simp [*]; done)), rS, rS, H', ⟨by have := HK1.out; omega⟩, ⟨rK HO_7⟩, ⟨bA⟩⟩
      · rw [if_neg c7] at H
        have c7b0 : decide (x18_1 < (wrap64 (2 * (t702.length : Int)))) = false := decide_eq_false c7
        clear c7
        obtain ⟨ji16, hji16⟩ : ∃ j_ : Int, (mn x8_1 (t702.length : Int)) = j_ := ⟨_, rfl⟩
        replace H : (some ji16) = some r := by first | (rw [hji16] at H; exact H) | (simp only [hji16] at H ⊢; exact H)
        have hji16_ : (if (t702.length : Int) < x8_1 then (t702.length : Int) else x8_1) = ji16 := hji16
        obtain rfl := Option.some.inj H
        go_wp2
        go_ret
        exact ⟨by first | rfl | (simp [errW_none, errW_some] <;> rfl) | (simp only [← hji16]; first | rfl | (simp [errW_none, errW_some] <;> rfl)) | (simp [*, errW_none, errW_some] <;> rfl), bA⟩

end Go.Proofs.Ytbpnbflfpgakmaa.P
