/- Printed by myprint.py (wip/tools) over the kit's print: what Go's functions compute, and that they do. Lean checks it. -/
import Derived.Test.YtimmadeghcghoaaF0
import Derived.Test.YtimmadeghcghoaaFI01
import Derived.Test.YtimmadeghcghoaaFI05
namespace Go.Proofs.Ytimmadeghcghoaa.P
open Go.RowKit Go.Proofs.YtimmadeghcghoaaW.PrintWords Go.Proofs.YtimmadeghcghoaaW.PrintLast Go.Proofs.YtimmadeghcghoaaW.PrintMore Go.Proofs.Ytimmadeghcghoaa.Sq
attribute [local go_sem] max2_int min2_int max_two min_two max_three min_three max_four min_four
set_option linter.unusedVariables false
set_option linter.unusedSimpArgs false

/-! ### impl_AreDetectors: function 42 -/
mutual
def impl_AreDetectors.j0 : Nat → List (S90) → List (S98) → Bool → Option (Bool)
  | 0, _, _, _ => none
  | k + 1, x0, x1, x16 => if x16 = true then (some false) else (impl_AreDetectors.l0 k x0 x1 x1 (x1.length : Int) 0)
def impl_AreDetectors.l0 : Nat → List (S90) → List (S98) → List (S98) → Int → Int → Option (Bool)
  | 0, _, _, _, _, _ => none
  | k + 1, x0, x1, x17, x18, x19 => if x19 < x18 then (if 0 ≤ x19 then (if x19 < (x17.length : Int) then ((impl_FindPath.f x0 ((rd_T98 x17 x19).f0)).bind fun t376 => (if t376 < 0 then (impl_AreDetectors.j2 k x0 x1 x19 x17 x18 x19 true ((rd_T98 x17 x19).f0) ((rd_T98 x17 x19).f1) ((rd_T98 x17 x19).f2) ((rd_T98 x17 x19).f3)) else ((impl_InRange.f ((rd_T98 x17 x19).f1) 0 1000).bind fun t377 => (if t377 = true then ((impl_InRange.f ((rd_T98 x17 x19).f2) 0 100000).bind fun t378 => (impl_AreDetectors.j2 k x0 x1 x19 x17 x18 x19 (!t378) ((rd_T98 x17 x19).f0) ((rd_T98 x17 x19).f1) ((rd_T98 x17 x19).f2) ((rd_T98 x17 x19).f3))) else (impl_AreDetectors.j2 k x0 x1 x19 x17 x18 x19 true ((rd_T98 x17 x19).f0) ((rd_T98 x17 x19).f1) ((rd_T98 x17 x19).f2) ((rd_T98 x17 x19).f3)))))) else (none)) else (none)) else (some true)
def impl_AreDetectors.j2 : Nat → List (S90) → List (S98) → Int → List (S98) → Int → Int → Bool → Int → Int → Int → Bool → Option (Bool)
  | 0, _, _, _, _, _, _, _, _, _, _, _ => none
  | k + 1, x0, x1, x5, x17, x18, x19, x40, x376000, x376001, x376002, x376003 => if x40 = true then (some false) else (if 0 ≤ x5 then (if x5 ≤ (x1.length : Int) then ((some (x1.take (x5 : Int).toNat : List (S98))).bind fun y379 => (impl_AreDetectors.l1 k x0 x1 x17 x18 x19 y379 (y379.length : Int) 0 x376000 x376001 x376002 x376003)) else (none)) else (none))
def impl_AreDetectors.l1 : Nat → List (S90) → List (S98) → List (S98) → Int → Int → List (S98) → Int → Int → Int → Int → Int → Bool → Option (Bool)
  | 0, _, _, _, _, _, _, _, _, _, _, _, _ => none
  | k + 1, x0, x1, x17, x18, x19, x43, x44, x45, x376000, x376001, x376002, x376003 => if x45 < x44 then (if 0 ≤ x45 then (if x45 < (x43.length : Int) then (if x376000 = ((rd_T98 x43 x45).f0) then (some false) else (impl_AreDetectors.l1 k x0 x1 x17 x18 x19 x43 x44 (wrap64 (x45 + 1)) x376000 x376001 x376002 x376003)) else (none)) else (none)) else (impl_AreDetectors.l0 k x0 x1 x17 x18 (wrap64 (x19 + 1)))
end
def impl_AreDetectors.f (k : Nat) (l0 : List (S90)) (l1 : List (S98)) : Option (Bool) := (impl_ArePaths.f k l0).bind fun t373 => (if t373 = true then (impl_AreDetectors.j0 k l0 l1 (decide ((l1.length : Int) > 12))) else (impl_AreDetectors.j0 k l0 l1 true))
theorem impl_AreDetectors.mono_l : ∀ k, (∀ y0 y1 y2, LeO (impl_AreDetectors.j0 k y0 y1 y2) (impl_AreDetectors.j0 (k + 1) y0 y1 y2)) ∧ (∀ y0 y1 y2 y3 y4, LeO (impl_AreDetectors.l0 k y0 y1 y2 y3 y4) (impl_AreDetectors.l0 (k + 1) y0 y1 y2 y3 y4)) ∧ (∀ y0 y1 y2 y3 y4 y5 y6 y7 y8 y9 y10, LeO (impl_AreDetectors.j2 k y0 y1 y2 y3 y4 y5 y6 y7 y8 y9 y10) (impl_AreDetectors.j2 (k + 1) y0 y1 y2 y3 y4 y5 y6 y7 y8 y9 y10)) ∧ (∀ y0 y1 y2 y3 y4 y5 y6 y7 y8 y9 y10 y11, LeO (impl_AreDetectors.l1 k y0 y1 y2 y3 y4 y5 y6 y7 y8 y9 y10 y11) (impl_AreDetectors.l1 (k + 1) y0 y1 y2 y3 y4 y5 y6 y7 y8 y9 y10 y11))
  | 0 => ⟨fun _ _ _ r h => by simp [impl_AreDetectors.j0] at h, fun _ _ _ _ _ r h => by simp [impl_AreDetectors.l0] at h, fun _ _ _ _ _ _ _ _ _ _ _ r h => by simp [impl_AreDetectors.j2] at h, fun _ _ _ _ _ _ _ _ _ _ _ _ r h => by simp [impl_AreDetectors.l1] at h⟩
  | k + 1 => by
    obtain ⟨ih0, ih1, ih2, ih3⟩ := impl_AreDetectors.mono_l k
    refine ⟨?_, ?_, ?_, ?_⟩
    · intro y0 y1 y2
      unfold impl_AreDetectors.j0
      repeat' first | (with_reducible first | exact LeO.refl _ | exact LeO.none _ | refine LeO.ite ?_ ?_ | refine LeO.bind ?_ (fun _ => ?_) | exact ih0 _ _ _ | exact ih1 _ _ _ _ _ | exact ih2 _ _ _ _ _ _ _ _ _ _ _ | exact ih3 _ _ _ _ _ _ _ _ _ _ _ _ | exact impl_ArePaths.mono _ _) | exact LeO.none _ | refine LeO.ite ?_ ?_ | refine LeO.bind ?_ (fun _ => ?_) | exact ih0 _ _ _ | exact ih1 _ _ _ _ _ | exact ih2 _ _ _ _ _ _ _ _ _ _ _ | exact ih3 _ _ _ _ _ _ _ _ _ _ _ _ | exact impl_ArePaths.mono _ _
    · intro y0 y1 y2 y3 y4
      unfold impl_AreDetectors.l0
      repeat' first | (with_reducible first | exact LeO.refl _ | exact LeO.none _ | refine LeO.ite ?_ ?_ | refine LeO.bind ?_ (fun _ => ?_) | exact ih0 _ _ _ | exact ih1 _ _ _ _ _ | exact ih2 _ _ _ _ _ _ _ _ _ _ _ | exact ih3 _ _ _ _ _ _ _ _ _ _ _ _ | exact impl_ArePaths.mono _ _) | exact LeO.none _ | refine LeO.ite ?_ ?_ | refine LeO.bind ?_ (fun _ => ?_) | exact ih0 _ _ _ | exact ih1 _ _ _ _ _ | exact ih2 _ _ _ _ _ _ _ _ _ _ _ | exact ih3 _ _ _ _ _ _ _ _ _ _ _ _ | exact impl_ArePaths.mono _ _
    · intro y0 y1 y2 y3 y4 y5 y6 y7 y8 y9 y10
      unfold impl_AreDetectors.j2
      repeat' first | (with_reducible first | exact LeO.refl _ | exact LeO.none _ | refine LeO.ite ?_ ?_ | refine LeO.bind ?_ (fun _ => ?_) | exact ih0 _ _ _ | exact ih1 _ _ _ _ _ | exact ih2 _ _ _ _ _ _ _ _ _ _ _ | exact ih3 _ _ _ _ _ _ _ _ _ _ _ _ | exact impl_ArePaths.mono _ _) | exact LeO.none _ | refine LeO.ite ?_ ?_ | refine LeO.bind ?_ (fun _ => ?_) | exact ih0 _ _ _ | exact ih1 _ _ _ _ _ | exact ih2 _ _ _ _ _ _ _ _ _ _ _ | exact ih3 _ _ _ _ _ _ _ _ _ _ _ _ | exact impl_ArePaths.mono _ _
    · intro y0 y1 y2 y3 y4 y5 y6 y7 y8 y9 y10 y11
      unfold impl_AreDetectors.l1
      repeat' first | (with_reducible first | exact LeO.refl _ | exact LeO.none _ | refine LeO.ite ?_ ?_ | refine LeO.bind ?_ (fun _ => ?_) | exact ih0 _ _ _ | exact ih1 _ _ _ _ _ | exact ih2 _ _ _ _ _ _ _ _ _ _ _ | exact ih3 _ _ _ _ _ _ _ _ _ _ _ _ | exact impl_ArePaths.mono _ _) | exact LeO.none _ | refine LeO.ite ?_ ?_ | refine LeO.bind ?_ (fun _ => ?_) | exact ih0 _ _ _ | exact ih1 _ _ _ _ _ | exact ih2 _ _ _ _ _ _ _ _ _ _ _ | exact ih3 _ _ _ _ _ _ _ _ _ _ _ _ | exact impl_ArePaths.mono _ _
theorem impl_AreDetectors.mono : ∀ a0 a1 k, LeO (impl_AreDetectors.f k a0 a1) (impl_AreDetectors.f (k + 1) a0 a1) := by
  intro a0 a1 k
  obtain ⟨ih0, ih1, ih2, ih3⟩ := impl_AreDetectors.mono_l k
  unfold impl_AreDetectors.f
  repeat' first | (with_reducible first | exact LeO.refl _ | exact LeO.none _ | refine LeO.ite ?_ ?_ | refine LeO.bind ?_ (fun _ => ?_) | exact ih0 _ _ _ | exact ih1 _ _ _ _ _ | exact ih2 _ _ _ _ _ _ _ _ _ _ _ | exact ih3 _ _ _ _ _ _ _ _ _ _ _ _ | exact impl_ArePaths.mono _ _) | exact LeO.none _ | refine LeO.ite ?_ ?_ | refine LeO.bind ?_ (fun _ => ?_) | exact ih0 _ _ _ | exact ih1 _ _ _ _ _ | exact ih2 _ _ _ _ _ _ _ _ _ _ _ | exact ih3 _ _ _ _ _ _ _ _ _ _ _ _ | exact impl_ArePaths.mono _ _
set_option maxHeartbeats 8000000 in
set_option maxRecDepth 100000 in
theorem impl_AreDetectors.calls (k : Nat) (A0 : Option Addr) (c0 : Nat) (l0 : List (S90)) (A1 : Option Addr) (c1 : Nat) (l1 : List (S98)) (r : Bool) (w : World) (hr0 : Kd.C k90 w A0 l0.length l0) (hc0 : l0.length ≤ c0) (hr1 : Kd.C k98 w A1 l1.length l1) (hc1 : l1.length ≤ c1) (h : impl_AreDetectors.f k l0 l1 = some r) :
    Calls Try.prog 42 #[.slice A0 l0.length c0, .slice A1 l1.length c1] w fun e w' => e = .returned (.bool r) ∧ Below w.heap.size w w' := by
  have hu98 := Try.underlying98
  have HR0 := Aside0.mk hr0
  have HC0 := Aside0.mk hc0
  clear hr0 hc0
  have HR1 := Aside0.mk hr1
  have HC1 := Aside0.mk hc1
  clear hr1 hc1
  have HB := Aside0.mk (Below.refl w.heap.size w)
  have H : ((impl_ArePaths.f k l0).bind fun t373 => (if t373 = true then (impl_AreDetectors.j0 k l0 l1 (decide ((l1.length : Int) > 12))) else (impl_AreDetectors.j0 k l0 l1 true))) = some r := h
  clear h
  have HC3 := Aside0.mk H
  clear H
  go_enter Try.func42, Try.ntmps42
  go_upto_region 1 with (fail)
  go_cut [16] (fun v16 wc => ∃ (kq : Nat) (x16_2 : Bool), v16 = .bool x16_2 ∧ Aside0 (impl_AreDetectors.j0 kq l0 l1 x16_2 = some r) ∧ Aside0 (kq ≤ k) ∧ Aside0 (Below w.heap.size w wc))
  case first =>
    have H := HC3.out
    clear HC3
    obtain ⟨t373, A4, H⟩ := bindE H
    try dsimp only at H
    by_cases c5 : t373 = true
    · subst c5
      have H1 : (impl_AreDetectors.j0 k l0 l1 (decide ((l1.length : Int) > 12))) = some r := by rw [if_pos rfl] at H; exact H
      clear H
      have H := H1
      clear H1
      have H' := Aside0.mk H
      clear H
      go_wp2_with (first | ((with_reducible refine gate_callee (f := 83) rfl ?_); refine gL (some 10) Try.func83 #[.slice A0 l0.length c0] ?_; (with_reducible refine (impl_ArePaths.calls k _ _ l0 true _ ?side1 ?side2 A4.out).mono ?_); (case side1 => exact cB HR0); (case side2 => exact HC0.out); rintro e w6 ⟨rfl, hb⟩; refine ⟨_, rfl, ?_⟩; replace HB := Aside0.mk (below_step bA hb); (try clear hb); (try clear hb2); (try clear hk); (try clear hi)))
      go_meet
      case rel => exact ⟨_, (decide ((l1.length : Int) > 12)), rS, H', ⟨by first | omega | exact Nat.le_refl _⟩, ⟨bA⟩⟩
    · replace c5 := Bool.eq_false_iff.mpr c5
      subst c5
      have H1 : (impl_AreDetectors.j0 k l0 l1 true) = some r := by rw [if_neg (show ¬ (false = true) by decide)] at H; exact H
      clear H
      have H := H1
      clear H1
      have H' := Aside0.mk H
      clear H
      go_wp2_with (first | ((with_reducible refine gate_callee (f := 83) rfl ?_); refine gL (some 10) Try.func83 #[.slice A0 l0.length c0] ?_; (with_reducible refine (impl_ArePaths.calls k _ _ l0 false _ ?side1 ?side2 A4.out).mono ?_); (case side1 => exact cB HR0); (case side2 => exact HC0.out); rintro e w7 ⟨rfl, hb⟩; refine ⟨_, rfl, ?_⟩; replace HB := Aside0.mk (below_step bA hb); (try clear hb); (try clear hb2); (try clear hk); (try clear hi)))
      go_meet
      case rel => exact ⟨_, (true), rS, H', ⟨by first | omega | exact Nat.le_refl _⟩, ⟨bA⟩⟩
  case rest =>
    clear HC3
    try clear c1
    try clear p2
    try clear c4
    try clear c5
    obtain ⟨kq, x16_2, rfl, HA, HJ2, HB⟩ := hcut
    cases kq with
    | zero => exact absurd HA.out (by simp [impl_AreDetectors.j0])
    | succ kj2 =>
      have H := HA.out
      clear HA
      simp only [impl_AreDetectors.j0] at H
      by_cases c8 : x16_2 = true
      · subst c8
        have H1 : (some false) = some r := by rw [if_pos rfl] at H; exact H
        clear H
        have H := H1
        clear H1
        obtain rfl := Option.some.inj H
        go_wp2
        go_ret
        exact ⟨rA, bA⟩
      · replace c8 := Bool.eq_false_iff.mpr c8
        subst c8
        have H1 : (impl_AreDetectors.l0 kj2 l0 l1 l1 (l1.length : Int) 0) = some r := by rw [if_neg (show ¬ (false = true) by decide)] at H; exact H
        clear H
        have H := H1
        clear H1
        have H' := Aside0.mk H
        clear H
        go_wp2
        go_loopg [19] kj2 (fun kq v19 w' => ∃ (x19_2 : Int), v19 = .int .i64 x19_2 ∧ Aside0 (impl_AreDetectors.l0 kq l0 l1 l1 (l1.length : Int) x19_2 = some r) ∧ Aside0 (kq ≤ kj2) ∧ Aside0 (Below w.heap.size w w'))
        case atStart => exact ⟨(0), rS, H', ⟨Nat.le_refl _⟩, ⟨bA⟩⟩
        case round =>
          clear H'
          try clear c1
          try clear p2
          try clear c4
          try clear c5
          try clear c8
          try clear p2
          obtain ⟨x19_2, rfl, HA, HK2, HB⟩ := hrel
          cases gk with
          | zero => exact absurd HA.out (by simp [impl_AreDetectors.l0])
          | succ k2 =>
            have H := HA.out
            clear HA
            simp only [impl_AreDetectors.l0] at H
            by_cases c9 : x19_2 < (l1.length : Int)
            · rw [if_pos c9] at H
              have c9b0 : decide (x19_2 < (l1.length : Int)) = true := decide_eq_true c9
              clear c9
              have c10 : 0 ≤ x19_2 := ifN H
              replace H := ifT H
              have c10b0 : decide (0 ≤ x19_2) = true := decide_eq_true c10
              clear c10
              have c11 : x19_2 < (l1.length : Int) := ifN H
              replace H := ifT H
              have c11b0 : decide (x19_2 < (l1.length : Int)) = true := decide_eq_true c11
              clear c11
              have HC12 := Aside0.mk H
              clear H
              have p374 : 0 ≤ (x19_2 : Int) := dA
              have q374 : x19_2 < (l1.length : Int) := dA
              obtain ⟨ad374, e374, hx374_0, hx374_1, hx374_2, hx374_3⟩ := at_T98 HR1.out x19_2 p374 q374
              cases e374
              replace hx374_0 := hC HB hx374_0
              replace hx374_1 := hC HB hx374_1
              replace hx374_2 := hC HB hx374_2
              replace hx374_3 := hC HB hx374_3
              replace p374 := eq_true p374
              replace q374 := eq_true q374
              go_upto_region 6 with (first | ((with_reducible refine gate_dst (N := 6) rfl ?_); (try (refine gate_guard (by rfl) ?_; dsimp only)); refine bE (N := 6) (cs := #[.int .i64 0, .int .i64 0, .int .i64 0, .bool false]) (t := 98) ?_; intro gb375 hg w13 hbox hb; have n0_ := Aside0.mk (below_step bA hb); have n1_ := Aside0.mk (hbox); have n2_ := Aside0.mk ((by rw [hg]; exact (below_size bA) : w.heap.size ≤ gb375)); have n3_ := Aside0.mk ((by rw [hg]; exact (below_size bA) : w.heap.size ≤ gb375)); clear HB; have HB := n0_; have BK375 := n1_; have GW375 := n2_; have GE375 := n3_; clear n0_ n1_ n2_ n3_; clear hb hbox hg; obtain ⟨hcz14_0, hcz14_1, hcz14_2, hcz14_3, hfz14_0, hfz14_1, hfz14_2, hfz14_3⟩ := blkc4 BK375))
              (try simp only [Act.put, List.setIfInBounds_toArray, List.set_cons_zero, List.set_cons_succ])
              go_cut [40] (fun v40 wc => ∃ (kq : Nat) (x40_11 : Bool), v40 = .bool x40_11 ∧ Aside0 (impl_AreDetectors.j2 kq l0 l1 x19_2 l1 (l1.length : Int) x19_2 x40_11 ((rd_T98 l1 x19_2).f0) ((rd_T98 l1 x19_2).f1) ((rd_T98 l1 x19_2).f2) ((rd_T98 l1 x19_2).f3) = some r) ∧ Aside0 (kq ≤ k2) ∧ Aside0 (wc.heap[gb375]? = some (.cells #[.int .i64 ((rd_T98 l1 x19_2).f0), .int .i64 ((rd_T98 l1 x19_2).f1), .int .i64 ((rd_T98 l1 x19_2).f2), .bool ((rd_T98 l1 x19_2).f3)] 98 (0, 0))) ∧ Aside0 (Below w.heap.size w wc))
              case first =>
                have H := HC12.out
                clear HC12
                obtain ⟨t376, A15, H⟩ := bindE H
                try dsimp only at H
                by_cases c16 : t376 < 0
                · rw [if_pos c16] at H
                  have c16b0 : decide (t376 < 0) = true := decide_eq_true c16
                  clear c16
                  (first | rw [c16b0] | (simp only [i64_w, i32_w]; rw [c16b0]) | skip)
                  have H' := Aside0.mk H
                  clear H
                  obtain ⟨hcz17_0, hcz17_1, hcz17_2, hcz17_3, hfz17_0, hfz17_1, hfz17_2, hfz17_3⟩ := blkc4 BK375
                  go_wp2_with (first | ((with_reducible refine gate_callee (f := 84) rfl ?_); refine gL (some 27) Try.func84 #[.slice A0 l0.length c0, .int .i64 ((rd_T98 l1 x19_2).f0)] ?_; (with_reducible refine (impl_FindPath.calls _ _ l0 ((rd_T98 l1 x19_2).f0) t376 _ ?side1 ?side2 A15.out).mono ?_); (case side1 => exact Kd.C_below HR0.out bG); (case side2 => exact HC0.out); rintro e w18 ⟨rfl, hb⟩; refine ⟨_, rfl, ?_⟩; have n0_ := Aside0.mk (blk_below (g := gb375) (o := .cells #[.int .i64 ((rd_T98 l1 x19_2).f0), .int .i64 ((rd_T98 l1 x19_2).f1), .int .i64 ((rd_T98 l1 x19_2).f2), .bool ((rd_T98 l1 x19_2).f3)] 98 (0, 0)) (by (with_reducible repeat (first | refine blk_drewN ?_ _ | refine blk_drew ?_ | refine blk_alloc ?_ _)); refine blk_put (cs := #[.int .i64 ((rd_T98 l1 x19_2).f0), .int .i64 ((rd_T98 l1 x19_2).f1), .int .i64 ((rd_T98 l1 x19_2).f2), .bool false]) ?_ 3 _ rfl; (with_reducible repeat (first | refine blk_drewN ?_ _ | refine blk_drew ?_ | refine blk_alloc ?_ _)); refine blk_put (cs := #[.int .i64 ((rd_T98 l1 x19_2).f0), .int .i64 ((rd_T98 l1 x19_2).f1), .int .i64 0, .bool false]) ?_ 2 _ rfl; (with_reducible repeat (first | refine blk_drewN ?_ _ | refine blk_drew ?_ | refine blk_alloc ?_ _)); refine blk_put (cs := #[.int .i64 ((rd_T98 l1 x19_2).f0), .int .i64 0, .int .i64 0, .bool false]) ?_ 1 _ rfl; (with_reducible repeat (first | refine blk_drewN ?_ _ | refine blk_drew ?_ | refine blk_alloc ?_ _)); refine blk_put (cs := #[.int .i64 0, .int .i64 0, .int .i64 0, .bool false]) ?_ 0 _ rfl; (with_reducible repeat (first | refine blk_drewN ?_ _ | refine blk_drew ?_ | refine blk_alloc ?_ _)); exact BK375.out) hb); have n1_ := Aside0.mk (below_step bG hb); clear BK375; clear HB; have BK375 := n0_; have HB := n1_; clear n0_ n1_; (try clear hb); (try clear hb2); (try clear hk); (try clear hi)))
                  go_meet
                  case rel => exact ⟨_, (true), rS, H', ⟨by have := HJ2.out; have := HK2.out; first | omega | exact Nat.le_refl _⟩, ⟨bK BK375⟩, ⟨bG⟩⟩
                · rw [if_neg c16] at H
                  have c16b0 : decide (t376 < 0) = false := decide_eq_false c16
                  clear c16
                  (first | rw [c16b0] | (simp only [i64_w, i32_w]; rw [c16b0]) | skip)
                  obtain ⟨t377, A19, H⟩ := bindE H
                  try dsimp only at H
                  by_cases c20 : t377 = true
                  · subst c20
                    have H1 : ((impl_InRange.f ((rd_T98 l1 x19_2).f2) 0 100000).bind fun t378 => (impl_AreDetectors.j2 k2 l0 l1 x19_2 l1 (l1.length : Int) x19_2 (!t378) ((rd_T98 l1 x19_2).f0) ((rd_T98 l1 x19_2).f1) ((rd_T98 l1 x19_2).f2) ((rd_T98 l1 x19_2).f3))) = some r := by rw [if_pos rfl] at H; exact H
                    clear H
                    have H := H1
                    clear H1
                    obtain ⟨t378, A21, H⟩ := bindE H
                    try dsimp only at H
                    have H' := Aside0.mk H
                    clear H
                    obtain ⟨hcz22_0, hcz22_1, hcz22_2, hcz22_3, hfz22_0, hfz22_1, hfz22_2, hfz22_3⟩ := blkc4 BK375
                    go_wp2_with (first | ((with_reducible refine gate_callee (f := 84) rfl ?_); refine gL (some 27) Try.func84 #[.slice A0 l0.length c0, .int .i64 ((rd_T98 l1 x19_2).f0)] ?_; (with_reducible refine (impl_FindPath.calls _ _ l0 ((rd_T98 l1 x19_2).f0) t376 _ ?side1 ?side2 A15.out).mono ?_); (case side1 => exact Kd.C_below HR0.out bG); (case side2 => exact HC0.out); rintro e w23 ⟨rfl, hb⟩; refine ⟨_, rfl, ?_⟩; have n0_ := Aside0.mk (blk_below (g := gb375) (o := .cells #[.int .i64 ((rd_T98 l1 x19_2).f0), .int .i64 ((rd_T98 l1 x19_2).f1), .int .i64 ((rd_T98 l1 x19_2).f2), .bool ((rd_T98 l1 x19_2).f3)] 98 (0, 0)) (by (with_reducible repeat (first | refine blk_drewN ?_ _ | refine blk_drew ?_ | refine blk_alloc ?_ _)); refine blk_put (cs := #[.int .i64 ((rd_T98 l1 x19_2).f0), .int .i64 ((rd_T98 l1 x19_2).f1), .int .i64 ((rd_T98 l1 x19_2).f2), .bool false]) ?_ 3 _ rfl; (with_reducible repeat (first | refine blk_drewN ?_ _ | refine blk_drew ?_ | refine blk_alloc ?_ _)); refine blk_put (cs := #[.int .i64 ((rd_T98 l1 x19_2).f0), .int .i64 ((rd_T98 l1 x19_2).f1), .int .i64 0, .bool false]) ?_ 2 _ rfl; (with_reducible repeat (first | refine blk_drewN ?_ _ | refine blk_drew ?_ | refine blk_alloc ?_ _)); refine blk_put (cs := #[.int .i64 ((rd_T98 l1 x19_2).f0), .int .i64 0, .int .i64 0, .bool false]) ?_ 1 _ rfl; (with_reducible repeat (first | refine blk_drewN ?_ _ | refine blk_drew ?_ | refine blk_alloc ?_ _)); refine blk_put (cs := #[.int .i64 0, .int .i64 0, .int .i64 0, .bool false]) ?_ 0 _ rfl; (with_reducible repeat (first | refine blk_drewN ?_ _ | refine blk_drew ?_ | refine blk_alloc ?_ _)); exact BK375.out) hb); have n1_ := Aside0.mk (below_step bG hb); clear BK375; clear HB; have BK375 := n0_; have HB := n1_; clear n0_ n1_; (try clear hb); (try clear hb2); (try clear hk); (try clear hi); have hcz24_0 : w23.cell? ⟨gb375, 0, none⟩ = some (.int .i64 ((rd_T98 l1 x19_2).f0)) := (blk_cell BK375.out 0).trans rfl; have hcz24_1 : w23.cell? ⟨gb375, 1, none⟩ = some (.int .i64 ((rd_T98 l1 x19_2).f1)) := (blk_cell BK375.out 1).trans rfl; have hcz24_2 : w23.cell? ⟨gb375, 2, none⟩ = some (.int .i64 ((rd_T98 l1 x19_2).f2)) := (blk_cell BK375.out 2).trans rfl; have hcz24_3 : w23.cell? ⟨gb375, 3, none⟩ = some (.bool ((rd_T98 l1 x19_2).f3)) := (blk_cell BK375.out 3).trans rfl; have hfz24_0 := blk_frozen BK375.out 0; have hfz24_1 := blk_frozen BK375.out 1; have hfz24_2 := blk_frozen BK375.out 2; have hfz24_3 := blk_frozen BK375.out 3) | (go_at_call 69; (with_reducible refine (impl_InRange.calls ((rd_T98 l1 x19_2).f1) 0 1000 true _ A19.out).mono ?_); rintro e w' ⟨rfl, ⟨nd, rfl⟩⟩) | (go_at_call 69; (with_reducible refine (impl_InRange.calls ((rd_T98 l1 x19_2).f2) 0 100000 t378 _ A21.out).mono ?_); rintro e w' ⟨rfl, ⟨nd, rfl⟩⟩))
                    go_meet
                    case rel => exact ⟨_, (!t378), rS, H', ⟨by have := HJ2.out; have := HK2.out; first | omega | exact Nat.le_refl _⟩, ⟨bK BK375⟩, ⟨bG⟩⟩
                  · replace c20 := Bool.eq_false_iff.mpr c20
                    subst c20
                    have H1 : (impl_AreDetectors.j2 k2 l0 l1 x19_2 l1 (l1.length : Int) x19_2 true ((rd_T98 l1 x19_2).f0) ((rd_T98 l1 x19_2).f1) ((rd_T98 l1 x19_2).f2) ((rd_T98 l1 x19_2).f3)) = some r := by rw [if_neg (show ¬ (false = true) by decide)] at H; exact H
                    clear H
                    have H := H1
                    clear H1
                    have H' := Aside0.mk H
                    clear H
                    obtain ⟨hcz25_0, hcz25_1, hcz25_2, hcz25_3, hfz25_0, hfz25_1, hfz25_2, hfz25_3⟩ := blkc4 BK375
                    go_wp2_with (first | ((with_reducible refine gate_callee (f := 84) rfl ?_); refine gL (some 27) Try.func84 #[.slice A0 l0.length c0, .int .i64 ((rd_T98 l1 x19_2).f0)] ?_; (with_reducible refine (impl_FindPath.calls _ _ l0 ((rd_T98 l1 x19_2).f0) t376 _ ?side1 ?side2 A15.out).mono ?_); (case side1 => exact Kd.C_below HR0.out bG); (case side2 => exact HC0.out); rintro e w26 ⟨rfl, hb⟩; refine ⟨_, rfl, ?_⟩; have n0_ := Aside0.mk (blk_below (g := gb375) (o := .cells #[.int .i64 ((rd_T98 l1 x19_2).f0), .int .i64 ((rd_T98 l1 x19_2).f1), .int .i64 ((rd_T98 l1 x19_2).f2), .bool ((rd_T98 l1 x19_2).f3)] 98 (0, 0)) (by (with_reducible repeat (first | refine blk_drewN ?_ _ | refine blk_drew ?_ | refine blk_alloc ?_ _)); refine blk_put (cs := #[.int .i64 ((rd_T98 l1 x19_2).f0), .int .i64 ((rd_T98 l1 x19_2).f1), .int .i64 ((rd_T98 l1 x19_2).f2), .bool false]) ?_ 3 _ rfl; (with_reducible repeat (first | refine blk_drewN ?_ _ | refine blk_drew ?_ | refine blk_alloc ?_ _)); refine blk_put (cs := #[.int .i64 ((rd_T98 l1 x19_2).f0), .int .i64 ((rd_T98 l1 x19_2).f1), .int .i64 0, .bool false]) ?_ 2 _ rfl; (with_reducible repeat (first | refine blk_drewN ?_ _ | refine blk_drew ?_ | refine blk_alloc ?_ _)); refine blk_put (cs := #[.int .i64 ((rd_T98 l1 x19_2).f0), .int .i64 0, .int .i64 0, .bool false]) ?_ 1 _ rfl; (with_reducible repeat (first | refine blk_drewN ?_ _ | refine blk_drew ?_ | refine blk_alloc ?_ _)); refine blk_put (cs := #[.int .i64 0, .int .i64 0, .int .i64 0, .bool false]) ?_ 0 _ rfl; (with_reducible repeat (first | refine blk_drewN ?_ _ | refine blk_drew ?_ | refine blk_alloc ?_ _)); exact BK375.out) hb); have n1_ := Aside0.mk (below_step bG hb); clear BK375; clear HB; have BK375 := n0_; have HB := n1_; clear n0_ n1_; (try clear hb); (try clear hb2); (try clear hk); (try clear hi); have hcz27_0 : w26.cell? ⟨gb375, 0, none⟩ = some (.int .i64 ((rd_T98 l1 x19_2).f0)) := (blk_cell BK375.out 0).trans rfl; have hcz27_1 : w26.cell? ⟨gb375, 1, none⟩ = some (.int .i64 ((rd_T98 l1 x19_2).f1)) := (blk_cell BK375.out 1).trans rfl; have hcz27_2 : w26.cell? ⟨gb375, 2, none⟩ = some (.int .i64 ((rd_T98 l1 x19_2).f2)) := (blk_cell BK375.out 2).trans rfl; have hcz27_3 : w26.cell? ⟨gb375, 3, none⟩ = some (.bool ((rd_T98 l1 x19_2).f3)) := (blk_cell BK375.out 3).trans rfl; have hfz27_0 := blk_frozen BK375.out 0; have hfz27_1 := blk_frozen BK375.out 1; have hfz27_2 := blk_frozen BK375.out 2; have hfz27_3 := blk_frozen BK375.out 3) | (go_at_call 69; (with_reducible refine (impl_InRange.calls ((rd_T98 l1 x19_2).f1) 0 1000 false _ A19.out).mono ?_); rintro e w' ⟨rfl, ⟨nd, rfl⟩⟩))
                    go_meet
                    case rel => exact ⟨_, (true), rS, H', ⟨by have := HJ2.out; have := HK2.out; first | omega | exact Nat.le_refl _⟩, ⟨bK BK375⟩, ⟨bG⟩⟩
              case rest =>
                clear HC12
                try clear c1
                try clear c2
                try clear p2
                try clear p3
                try clear q3
                try clear hx3
                try clear c4
                try clear c5
                try clear c8
                try clear c9
                try clear c9b0
                try clear c10
                try clear c10b0
                try clear c11
                try clear c11b0
                try clear c16
                try clear c16b0
                try clear c20
                try clear hcz14_0
                try clear hcz14_1
                try clear hcz14_2
                try clear hcz14_3
                try clear hcz17_0
                try clear hcz17_1
                try clear hcz17_2
                try clear hcz17_3
                try clear hcz22_0
                try clear hcz22_1
                try clear hcz22_2
                try clear hcz22_3
                try clear hcz24_0
                try clear hcz24_1
                try clear hcz24_2
                try clear hcz24_3
                try clear hcz25_0
                try clear hcz25_1
                try clear hcz25_2
                try clear hcz25_3
                try clear hcz27_0
                try clear hcz27_1
                try clear hcz27_2
                try clear hcz27_3
                try clear hfz14_0
                try clear hfz14_1
                try clear hfz14_2
                try clear hfz14_3
                try clear hfz17_0
                try clear hfz17_1
                try clear hfz17_2
                try clear hfz17_3
                try clear hfz22_0
                try clear hfz22_1
                try clear hfz22_2
                try clear hfz22_3
                try clear hfz24_0
                try clear hfz24_1
                try clear hfz24_2
                try clear hfz24_3
                try clear hfz25_0
                try clear hfz25_1
                try clear hfz25_2
                try clear hfz25_3
                try clear hfz27_0
                try clear hfz27_1
                try clear hfz27_2
                try clear hfz27_3
                try clear hx374_0
                try clear hx374_1
                try clear hx374_2
                try clear hx374_3
                try clear p2
                try clear p374
                try clear q374
                obtain ⟨kq, x40_11, rfl, HA, HJ11, BK375, HB⟩ := hcut
                cases kq with
                | zero => exact absurd HA.out (by simp [impl_AreDetectors.j2])
                | succ kj11 =>
                  have H := HA.out
                  clear HA
                  simp only [impl_AreDetectors.j2] at H
                  by_cases c28 : x40_11 = true
                  · subst c28
                    have H1 : (some false) = some r := by rw [if_pos rfl] at H; exact H
                    clear H
                    have H := H1
                    clear H1
                    obtain rfl := Option.some.inj H
                    go_wp2
                    go_ret
                    exact ⟨rA, bG⟩
                  · replace c28 := Bool.eq_false_iff.mpr c28
                    subst c28
                    have H1 : (if 0 ≤ x19_2 then (if x19_2 ≤ (l1.length : Int) then ((some (l1.take (x19_2 : Int).toNat : List (S98))).bind fun y379 => (impl_AreDetectors.l1 kj11 l0 l1 l1 (l1.length : Int) x19_2 y379 (y379.length : Int) 0 ((rd_T98 l1 x19_2).f0) ((rd_T98 l1 x19_2).f1) ((rd_T98 l1 x19_2).f2) ((rd_T98 l1 x19_2).f3))) else (none)) else (none)) = some r := by rw [if_neg (show ¬ (false = true) by decide)] at H; exact H
                    clear H
                    have H := H1
                    clear H1
                    have c29 : 0 ≤ x19_2 := ifN H
                    replace H := ifT H
                    have c29b0 := eq_true c29
                    have c29b1 : decide (0 ≤ x19_2) = true := decide_eq_true c29
                    clear c29
                    have c30 : x19_2 ≤ (l1.length : Int) := ifN H
                    replace H := ifT H
                    have c30b0 := eq_true c30
                    have c30b1 : decide (x19_2 ≤ (l1.length : Int)) = true := decide_eq_true c30
                    clear c30
                    obtain ⟨y379, hy379⟩ : ∃ y_ : List (S98), y_ = (l1.take (x19_2 : Int).toNat) := ⟨_, rfl⟩
                    replace H : (impl_AreDetectors.l1 kj11 l0 l1 l1 (l1.length : Int) x19_2 y379 (y379.length : Int) 0 ((rd_T98 l1 x19_2).f0) ((rd_T98 l1 x19_2).f1) ((rd_T98 l1 x19_2).f2) ((rd_T98 l1 x19_2).f3)) = some r := by first | (rw [hy379]; with_reducible exact H) | (have H2_ := (Option.bind_some _ _).symm.trans H; rw [hy379]; with_reducible exact H2_) | (have H2_ := (Option.bind_some _ _).symm.trans H; with_reducible exact H2_) | with_reducible exact H | (rw [hy379]; exact H) | exact H
                    have Ny379 := Aside0.mk hy379
                    clear hy379
                    have H' := Aside0.mk H
                    clear H
                    have q31 : (x19_2 : Int) ≤ ((l1.length : Int) : Int) := dA
                    obtain ⟨i031, hi031, _, hsz31, _⟩ := info_parts info98
                    have hroom31 : l1.length ≤ c1 := HC1.out
                    have hC31 : Kd.C k98 _ (some ad374) l1.length l1 := HR1.out
                    have hcut31 := cut_to (P := Try.prog) 53 98 .i64 Try.underlying53 hi031 (some ad374) l1.length c1 x19_2 (dA) q31 hroom31
                    have hr31 := Kd.C_take (m := (x19_2 : Int).toNat) hC31 (by omega)
                    have hy31 : y379.length = (x19_2 : Int).toNat := (by rw [Ny379.out, List.length_take]; omega)
                    rw [← Ny379.out] at hr31
                    rw [← hy31] at hcut31
                    have HR382 := Aside0.mk hr31
                    have HC382 := Aside0.mk (show y379.length ≤ c1 from by omega)
                    clear hr31 hC31 hroom31 hi031 hsz31
                    have KY31 := Aside0.mk hy31
                    clear hy31
                    replace q31 := eq_true q31
                    go_wp2
                    go_loopg [45] kj11 (fun kq v45 w' => ∃ (x45_4 : Int), v45 = .int .i64 x45_4 ∧ Aside0 (impl_AreDetectors.l1 kq l0 l1 l1 (l1.length : Int) x19_2 y379 (y379.length : Int) x45_4 ((rd_T98 l1 x19_2).f0) ((rd_T98 l1 x19_2).f1) ((rd_T98 l1 x19_2).f2) ((rd_T98 l1 x19_2).f3) = some r) ∧ Aside0 (kq ≤ kj11) ∧ Aside0 (w'.heap[gb375]? = some (.cells #[.int .i64 ((rd_T98 l1 x19_2).f0), .int .i64 ((rd_T98 l1 x19_2).f1), .int .i64 ((rd_T98 l1 x19_2).f2), .bool ((rd_T98 l1 x19_2).f3)] 98 (0, 0))) ∧ Aside0 (Below w.heap.size w w'))
                    case atStart => exact ⟨(0), rS, H', ⟨Nat.le_refl _⟩, ⟨bK BK375⟩, ⟨bG⟩⟩
                    case round =>
                      clear H'
                      try clear c1
                      try clear c2
                      try clear p2
                      try clear c3
                      try clear p3
                      try clear q3
                      try clear hx3
                      try clear c4
                      try clear c5
                      try clear c8
                      try clear c9
                      try clear c9b0
                      try clear c10
                      try clear c10b0
                      try clear c11
                      try clear c11b0
                      try clear c16
                      try clear c16b0
                      try clear c20
                      try clear c28
                      try clear c29
                      try clear c29b0
                      try clear c29b1
                      try clear c30
                      try clear c30b0
                      try clear c30b1
                      try clear q31
                      try clear hcz14_0
                      try clear hcz14_1
                      try clear hcz14_2
                      try clear hcz14_3
                      try clear hcz17_0
                      try clear hcz17_1
                      try clear hcz17_2
                      try clear hcz17_3
                      try clear hcz22_0
                      try clear hcz22_1
                      try clear hcz22_2
                      try clear hcz22_3
                      try clear hcz24_0
                      try clear hcz24_1
                      try clear hcz24_2
                      try clear hcz24_3
                      try clear hcz25_0
                      try clear hcz25_1
                      try clear hcz25_2
                      try clear hcz25_3
                      try clear hcz27_0
                      try clear hcz27_1
                      try clear hcz27_2
                      try clear hcz27_3
                      try clear hfz14_0
                      try clear hfz14_1
                      try clear hfz14_2
                      try clear hfz14_3
                      try clear hfz17_0
                      try clear hfz17_1
                      try clear hfz17_2
                      try clear hfz17_3
                      try clear hfz22_0
                      try clear hfz22_1
                      try clear hfz22_2
                      try clear hfz22_3
                      try clear hfz24_0
                      try clear hfz24_1
                      try clear hfz24_2
                      try clear hfz24_3
                      try clear hfz25_0
                      try clear hfz25_1
                      try clear hfz25_2
                      try clear hfz25_3
                      try clear hfz27_0
                      try clear hfz27_1
                      try clear hfz27_2
                      try clear hfz27_3
                      try clear hx374_0
                      try clear hx374_1
                      try clear hx374_2
                      try clear hx374_3
                      try clear p2
                      try clear p3
                      try clear p374
                      try clear q3
                      try clear q31
                      try clear q374
                      obtain ⟨x45_4, rfl, HA, HK4, BK375, HB⟩ := hrel
                      cases gk with
                      | zero => exact absurd HA.out (by simp [impl_AreDetectors.l1])
                      | succ k4 =>
                        have H := HA.out
                        clear HA
                        simp only [impl_AreDetectors.l1] at H
                        by_cases c32 : x45_4 < (y379.length : Int)
                        · rw [if_pos c32] at H
                          have c32b0 : decide (x45_4 < (y379.length : Int)) = true := decide_eq_true c32
                          clear c32
                          have c33 : 0 ≤ x45_4 := ifN H
                          replace H := ifT H
                          have c33b0 : decide (0 ≤ x45_4) = true := decide_eq_true c33
                          clear c33
                          have c34 : x45_4 < (y379.length : Int) := ifN H
                          replace H := ifT H
                          have c34b0 : decide (x45_4 < (y379.length : Int)) = true := decide_eq_true c34
                          clear c34
                          by_cases c35 : ((rd_T98 l1 x19_2).f0) = ((rd_T98 y379 x45_4).f0)
                          · rw [if_pos c35] at H
                            have c35b0 : (((rd_T98 l1 x19_2).f0) == ((rd_T98 y379 x45_4).f0)) = true := beq_iff_eq.mpr c35
                            have c35b1 : (((rd_T98 l1 x19_2).f0) != ((rd_T98 y379 x45_4).f0)) = false := bne_eq_false_iff_eq.mpr c35
                            clear c35
                            obtain rfl := Option.some.inj H
                            have p383 : 0 ≤ (x45_4 : Int) := dA
                            have q383 : x45_4 < (y379.length : Int) := dA
                            obtain ⟨ad383, e383, hx383_0, hx383_1, hx383_2, hx383_3⟩ := at_T98 HR382.out x45_4 p383 q383
                            obtain rfl : ad374 = ad383 := (by injection e383)
                            replace hx383_0 := hC HB hx383_0
                            replace hx383_1 := hC HB hx383_1
                            replace hx383_2 := hC HB hx383_2
                            replace hx383_3 := hC HB hx383_3
                            replace p383 := eq_true p383
                            replace q383 := eq_true q383
                            go_wp2_with (first | ((with_reducible refine gate_dst (N := 8) rfl ?_); (try (refine gate_guard (by rfl) ?_; dsimp only)); refine bE (N := 8) (cs := #[.int .i64 0, .int .i64 0, .int .i64 0, .bool false]) (t := 98) ?_; intro gb384 hg w36 hbox hb; have n0_ := Aside0.mk (blk_below (g := gb375) (bK BK375) hb); have n1_ := Aside0.mk (below_step bG hb); have n2_ := Aside0.mk (hbox); have n3_ := Aside0.mk ((by rw [hg]; exact (below_size bG) : w.heap.size ≤ gb384)); have n4_ := Aside0.mk ((by rw [hg]; exact (below_size bG) : w.heap.size ≤ gb384)); have n5_ := Aside0.mk ((by rw [hg]; exact Nat.ne_of_lt (blk_lt (g := gb375) (o := .cells #[.int .i64 ((rd_T98 l1 x19_2).f0), .int .i64 ((rd_T98 l1 x19_2).f1), .int .i64 ((rd_T98 l1 x19_2).f2), .bool ((rd_T98 l1 x19_2).f3)] 98 (0, 0)) (bK BK375)) : gb375 ≠ gb384)); have n6_ := Aside0.mk ((by rw [hg]; exact Nat.ne_of_gt (blk_lt (g := gb375) (o := .cells #[.int .i64 ((rd_T98 l1 x19_2).f0), .int .i64 ((rd_T98 l1 x19_2).f1), .int .i64 ((rd_T98 l1 x19_2).f2), .bool ((rd_T98 l1 x19_2).f3)] 98 (0, 0)) (bK BK375)) : gb384 ≠ gb375)); clear BK375; clear HB; have BK375 := n0_; have HB := n1_; have BK384 := n2_; have GW384 := n3_; have GE384 := n4_; have NB375_384 := n5_; have NB384_375 := n6_; clear n0_ n1_ n2_ n3_ n4_ n5_ n6_; clear hb hbox hg; have hnb37 := NB384_375.out; have hnc37 := NB375_384.out; obtain ⟨hcz38_0, hcz38_1, hcz38_2, hcz38_3, hfz38_0, hfz38_1, hfz38_2, hfz38_3⟩ := blkc4 BK384; obtain ⟨hcz39_0, hcz39_1, hcz39_2, hcz39_3, hfz39_0, hfz39_1, hfz39_2, hfz39_3⟩ := blkc4 BK375))
                            go_ret
                            exact ⟨rA, bG⟩
                          · rw [if_neg c35] at H
                            have c35b0 : (((rd_T98 l1 x19_2).f0) == ((rd_T98 y379 x45_4).f0)) = false := beq_eq_false_iff_ne.mpr c35
                            have c35b1 : (((rd_T98 l1 x19_2).f0) != ((rd_T98 y379 x45_4).f0)) = true := bne_iff_ne.mpr c35
                            have H' := Aside0.mk H
                            clear H
                            have p383 : 0 ≤ (x45_4 : Int) := dA
                            have q383 : x45_4 < (y379.length : Int) := dA
                            obtain ⟨ad383, e383, hx383_0, hx383_1, hx383_2, hx383_3⟩ := at_T98 HR382.out x45_4 p383 q383
                            obtain rfl : ad374 = ad383 := (by injection e383)
                            replace hx383_0 := hC HB hx383_0
                            replace hx383_1 := hC HB hx383_1
                            replace hx383_2 := hC HB hx383_2
                            replace hx383_3 := hC HB hx383_3
                            replace p383 := eq_true p383
                            replace q383 := eq_true q383
                            go_wp2_with (first | ((with_reducible refine gate_dst (N := 8) rfl ?_); (try (refine gate_guard (by rfl) ?_; dsimp only)); refine bE (N := 8) (cs := #[.int .i64 0, .int .i64 0, .int .i64 0, .bool false]) (t := 98) ?_; intro gb384 hg w40 hbox hb; have n0_ := Aside0.mk (blk_below (g := gb375) (bK BK375) hb); have n1_ := Aside0.mk (below_step bG hb); have n2_ := Aside0.mk (hbox); have n3_ := Aside0.mk ((by rw [hg]; exact (below_size bG) : w.heap.size ≤ gb384)); have n4_ := Aside0.mk ((by rw [hg]; exact (below_size bG) : w.heap.size ≤ gb384)); have n5_ := Aside0.mk ((by rw [hg]; exact Nat.ne_of_lt (blk_lt (g := gb375) (o := .cells #[.int .i64 ((rd_T98 l1 x19_2).f0), .int .i64 ((rd_T98 l1 x19_2).f1), .int .i64 ((rd_T98 l1 x19_2).f2), .bool ((rd_T98 l1 x19_2).f3)] 98 (0, 0)) (bK BK375)) : gb375 ≠ gb384)); have n6_ := Aside0.mk ((by rw [hg]; exact Nat.ne_of_gt (blk_lt (g := gb375) (o := .cells #[.int .i64 ((rd_T98 l1 x19_2).f0), .int .i64 ((rd_T98 l1 x19_2).f1), .int .i64 ((rd_T98 l1 x19_2).f2), .bool ((rd_T98 l1 x19_2).f3)] 98 (0, 0)) (bK BK375)) : gb384 ≠ gb375)); clear BK375; clear HB; have BK375 := n0_; have HB := n1_; have BK384 := n2_; have GW384 := n3_; have GE384 := n4_; have NB375_384 := n5_; have NB384_375 := n6_; clear n0_ n1_ n2_ n3_ n4_ n5_ n6_; clear hb hbox hg; have hnb41 := NB384_375.out; have hnc41 := NB375_384.out; obtain ⟨hcz42_0, hcz42_1, hcz42_2, hcz42_3, hfz42_0, hfz42_1, hfz42_2, hfz42_3⟩ := blkc4 BK384; obtain ⟨hcz43_0, hcz43_1, hcz43_2, hcz43_3, hfz43_0, hfz43_1, hfz43_2, hfz43_3⟩ := blkc4 BK375))
                            go_roundg k4
                            case measure => have := HJ2.out; have := HK2.out; have := HJ11.out; have := HK4.out; omega
                            case rel => exact ⟨(wrap64 (x45_4 + 1)), rS, H', ⟨by have := HJ2.out; have := HK2.out; have := HJ11.out; have := HK4.out; omega⟩, ⟨by (with_reducible repeat (first | refine blk_drewN ?_ _ | refine blk_drew ?_ | refine blk_alloc ?_ _)); refine blk_far ?_ NB375_384.out _; (with_reducible repeat (first | refine blk_drewN ?_ _ | refine blk_drew ?_ | refine blk_alloc ?_ _)); refine blk_far ?_ NB375_384.out _; (with_reducible repeat (first | refine blk_drewN ?_ _ | refine blk_drew ?_ | refine blk_alloc ?_ _)); refine blk_far ?_ NB375_384.out _; (with_reducible repeat (first | refine blk_drewN ?_ _ | refine blk_drew ?_ | refine blk_alloc ?_ _)); refine blk_far ?_ NB375_384.out _; (with_reducible repeat (first | refine blk_drewN ?_ _ | refine blk_drew ?_ | refine blk_alloc ?_ _)); exact BK375.out⟩, ⟨bG⟩⟩
                        · rw [if_neg c32] at H
                          have c32b0 : decide (x45_4 < (y379.length : Int)) = false := decide_eq_false c32
                          clear c32
                          have H' := Aside0.mk H
                          clear H
                          go_wp2
                          go_roundg k4
                          case measure => have := HJ2.out; have := HK2.out; have := HJ11.out; have := HK4.out; omega
                          case rel => exact ⟨(wrap64 (x19_2 + 1)), rS, H', ⟨by have := HJ2.out; have := HK2.out; have := HJ11.out; have := HK4.out; omega⟩, ⟨bG⟩⟩
            · rw [if_neg c9] at H
              have c9b0 : decide (x19_2 < (l1.length : Int)) = false := decide_eq_false c9
              clear c9
              obtain rfl := Option.some.inj H
              go_wp2
              go_ret
              exact ⟨rA, bA⟩

/-! ### impl_trusted: function 90 -/
set_option maxHeartbeats 8000000 in
set_option maxRecDepth 100000 in
theorem impl_trusted.isT (a b c : Int) (d : Bool) (w : World) :
    Calls Try.prog 118 #[.agg #[.int .i64 a, .int .i64 b, .int .i64 c, .bool d]] w fun e w' => e = .returned (.bool (!d && decide (c ≤ 900))) ∧ Below w.heap.size w w' := by
  have hu := Try.underlying98
  cases d with
  | true =>
    go_enter Try.func118, Try.ntmps118
    go_wp2
    go_ret
    exact ⟨rfl, (Below.refl _ _).alloc (Nat.le_refl _) _⟩
  | false =>
    go_enter Try.func118, Try.ntmps118
    go_wp2
    go_ret
    exact ⟨by simp, (Below.refl _ _).alloc (Nat.le_refl _) _⟩
def impl_trusted.q (id : Int) (x : S98) : Bool := decide (x.f0 = id) && (!x.f3 && decide (x.f2 ≤ 900))
set_option maxHeartbeats 400000 in
set_option maxRecDepth 100000 in
theorem impl_trusted.clo (id : Int) (g : Nat) (x : S98) (w : World) (hc : w.cell? ⟨g, 0, none⟩ = some (.int .i64 id)) :
    Calls Try.prog 117 #[.agg #[.int .i64 x.f0, .int .i64 x.f1, .int .i64 x.f2, .bool x.f3], .pointer (some ⟨g, 0, none⟩)] w fun e w' => e = .returned (.bool (impl_trusted.q id x)) ∧ Below w.heap.size w w' := by
  have hu := Try.underlying98
  have hg : g < w.heap.size := World.block_lt_of_cell? w _ hc
  by_cases h0 : x.f0 = id
  · have h0b : (x.f0 == id) = true := beq_iff_eq.mpr h0
    have h0c : decide (x.f0 = id) = true := decide_eq_true h0
    have HQ := Aside0.mk h0
    clear h0
    go_enter Try.func117, Try.ntmps117
    go_wp2_with (go_at_call 118; refine (impl_trusted.isT _ _ _ _ _).mono ?_; rintro e w1 ⟨rfl, hb1⟩)
    go_ret
    exact ⟨by simp [impl_trusted.q, HQ.out], below_step (below_alloc (Below.refl _ _) _) hb1⟩
  · have h0b : (x.f0 == id) = false := beq_eq_false_iff_ne.mpr h0
    have h0c : decide (x.f0 = id) = false := decide_eq_false h0
    have HQ := Aside0.mk h0
    clear h0
    go_enter Try.func117, Try.ntmps117
    go_wp2
    go_ret
    exact ⟨by simp [impl_trusted.q, HQ.out], (Below.refl _ _).alloc (Nat.le_refl _) _⟩
def impl_trusted.ix (id : Int) : List S98 → Int → Int
  | [], _ => -1
  | x :: l, i => if impl_trusted.q id x = true then i else impl_trusted.ix id l (i + 1)
theorem impl_trusted.ix_hit (id : Int) : ∀ (l : List S98) (i : Int) (m : Nat) (hm : m < l.length), (∀ j (hj : j < m), impl_trusted.q id (l[j]'(by omega)) = false) → impl_trusted.q id l[m] = true → impl_trusted.ix id l i = i + m
  | [], i, m, hm, _, _ => absurd hm (by simp)
  | p :: l, i, 0, hm, _, h => by
    unfold impl_trusted.ix
    rw [if_pos (show impl_trusted.q id p = true from h)]
    simp
  | p :: l, i, m + 1, hm, hne, h => by
    unfold impl_trusted.ix
    have h2 : impl_trusted.q id p = false := hne 0 (by omega)
    rw [if_neg (by rw [h2]; decide), impl_trusted.ix_hit id l (i + 1) m (by simpa using hm) (fun j hj => hne (j + 1) (by omega)) h]
    omega
theorem impl_trusted.ix_miss (id : Int) : ∀ (l : List S98) (i : Int), (∀ j (hj : j < l.length), impl_trusted.q id l[j] = false) → impl_trusted.ix id l i = -1
  | [], i, _ => rfl
  | p :: l, i, h => by
    unfold impl_trusted.ix
    have h2 : impl_trusted.q id p = false := h 0 (by simp)
    rw [if_neg (by rw [h2]; decide), impl_trusted.ix_miss id l (i + 1) (fun j hj => h (j + 1) (by simpa using hj))]
theorem impl_trusted.rd_ (l : List S98) (j : Nat) (hj : j < l.length) : rd_T98 l (j : Int) = l[j] := by
  unfold rd_T98; simp [List.getD_eq_getElem?_getD, List.getElem?_eq_getElem hj]
set_option maxHeartbeats 4000000 in
set_option maxRecDepth 100000 in
theorem impl_trusted.idx (id : Int) (g : Nat) (A0 : Option Addr) (c0 : Nat) (l0 : List S98) (w : World) (hr0 : Kd.C k98 w A0 l0.length l0) (hc0 : l0.length ≤ c0) (hc : w.cell? ⟨g, 0, none⟩ = some (.int .i64 id)) :
    Calls Try.prog 116 #[.slice A0 l0.length c0, .func (.func 117) #[] #[.pointer (some ⟨g, 0, none⟩)]] w fun e w' => e = .returned (.int .i64 (impl_trusted.ix id l0 0)) ∧ Below w.heap.size w w' := by
  have hu := Try.underlying98
  have HC := Aside0.mk hc
  clear hc
  have HR0 := Aside0.mk hr0
  have HC0 := Aside0.mk hc0
  have hlen : l0.length ≤ 9223372036854775807 := hr0.2.1
  clear hr0 hc0
  have HB := Aside0.mk (Below.refl w.heap.size w)
  go_enter Try.func116, Try.ntmps116
  go_wp2
  go_loopg [5, 8] l0.length (fun gg v5 v8 w' => ∃ kk : Nat, v8 = .int .i64 kk ∧ Aside0 (kk ≤ l0.length) ∧ Aside0 (l0.length - kk ≤ gg) ∧ Aside0 (Below w.heap.size w w') ∧ Aside0 (∀ j (hj : j < kk) (hl : j < l0.length), impl_trusted.q id l0[j] = false))
  case atStart => exact ⟨0, rfl, ⟨Nat.zero_le _⟩, ⟨by omega⟩, HB, ⟨fun j hj => absurd hj (Nat.not_lt_zero _)⟩⟩
  case round =>
    clear HB
    obtain ⟨kk, rfl, hk, hg, HB, HA⟩ := hrel
    by_cases hlt : kk < l0.length
    · have hltz : decide ((kk : Int) < (l0.length : Int)) = true := decide_eq_true (by omega)
      have hltn : decide (kk < l0.length) = true := decide_eq_true hlt
      have p0 : (0 : Int) ≤ (kk : Int) := by omega
      have q0 : (kk : Int) < (l0.length : Int) := by omega
      have HE := Aside0.mk (impl_trusted.rd_ l0 kk hlt)
      obtain ⟨ad, e1, hx0, hx1, hx2, hx3⟩ := at_T98 HR0.out (kk : Int) p0 q0
      cases e1
      rw [Int.toNat_natCast] at hx0 hx1 hx2 hx3
      replace hx0 := hC HB hx0
      replace hx1 := hC HB hx1
      replace hx2 := hC HB hx2
      replace hx3 := hC HB hx3
      replace p0 := eq_true p0
      replace q0 := eq_true q0
      have hcl := fun (w' : World) (hb : Below w.heap.size w w') => impl_trusted.clo id g (rd_T98 l0 (kk : Int)) w' ((hb.cell (World.block_lt_of_cell? w _ HC.out)).trans HC.out)
      cases hq : impl_trusted.q id (rd_T98 l0 (kk : Int)) with
      | true =>
        rw [hq] at hcl
        have HCL := Aside0.mk hcl
        have HQ := Aside0.mk hq
        clear hcl hq
        go_wp2_with (go_at_call 117; refine (HCL.out _ HB.out).mono ?_; rintro e w1 ⟨rfl, hb1⟩)
        go_ret
        refine ⟨?_, below_step HB.out hb1⟩
        have hq := HQ.out
        rw [HE.out] at hq
        rw [impl_trusted.ix_hit id l0 0 kk hlt (fun j hj => HA.out j hj (by omega)) hq, Int.zero_add]
        rfl
      | false =>
        rw [hq] at hcl
        have HCL := Aside0.mk hcl
        have HQ := Aside0.mk hq
        clear hcl hq
        go_wp2_with (go_at_call 117; refine (HCL.out _ HB.out).mono ?_; rintro e w1 ⟨rfl, hb1⟩)
        go_roundg (l0.length - (kk + 1))
        case measure => have := hg.out; omega
        case rel =>
          refine ⟨kk + 1, by go_num, ⟨by omega⟩, ⟨by omega⟩, ⟨below_step HB.out hb1⟩, ⟨fun j hj hl => ?_⟩⟩
          rcases Nat.lt_or_ge j kk with h3 | h3
          · exact HA.out j h3 hl
          · have h4 : j = kk := by omega
            subst h4
            rw [← HE.out]
            exact HQ.out
    · have hge : decide ((kk : Int) < (l0.length : Int)) = false := decide_eq_false (by omega)
      have hgen : decide (kk < l0.length) = false := decide_eq_false hlt
      go_wp2
      go_ret
      refine ⟨?_, HB.out⟩
      rw [impl_trusted.ix_miss id l0 0 (fun j hj => HA.out j (by omega) hj)]
      rfl

def impl_trusted.f (l0 : List S98) (a1 : Int) : Option Int := some (impl_trusted.ix a1 l0 0)
set_option maxHeartbeats 400000 in
set_option maxRecDepth 100000 in
theorem impl_trusted.calls (A0 : Option Addr) (c0 : Nat) (l0 : List S98) (a1 : Int) (r : Int) (w : World) (hr0 : Kd.C k98 w A0 l0.length l0) (hc0 : l0.length ≤ c0) (h : impl_trusted.f l0 a1 = some r) :
    Calls Try.prog 90 #[.slice A0 l0.length c0, .int .i64 a1] w fun e w' => e = .returned (.int .i64 r) ∧ Below w.heap.size w w' := by
  obtain rfl := Option.some.inj h
  have HR0 := Aside0.mk hr0
  have HC0 := Aside0.mk hc0
  clear hr0 hc0 h
  go_enter Try.func90, Try.ntmps90
  go_wp2_with (go_at_call 116; refine (impl_trusted.idx a1 w.heap.size A0 c0 l0 _ ?s1 HC0.out ?s2).mono ?_; (case s1 => exact Kd.C_alloc HR0.out _); (case s2 => simp); rintro e w1 ⟨rfl, hb1⟩)
  go_ret
  exact ⟨rfl, below_step (below_alloc (Below.refl _ _) _) hb1⟩

/-! ### impl_BlindPaths: function 45 -/
def impl_BlindPaths.l0 : Nat → List (S98) → List Int → List (S90) → Int → Int → Option (List Int)
  | 0, _, _, _, _, _ => none
  | k + 1, x1, x5, x9, x10, x11 => if x11 < x10 then (if 0 ≤ x11 then (if x11 < (x9.length : Int) then ((impl_trusted.f x1 ((rd_T90 x9 x11).f0)).bind fun t434 => (if t434 < 0 then (if x5.length < 17592186044416 then (impl_BlindPaths.l0 k x1 (x5 ++ [(rd_T90 x9 x11).f0]) x9 x10 (wrap64 (x11 + 1))) else (none)) else (impl_BlindPaths.l0 k x1 x5 x9 x10 (wrap64 (x11 + 1))))) else (none)) else (none)) else (some x5)
def impl_BlindPaths.f (k : Nat) (l0 : List (S90)) (l1 : List (S98)) : Option (List Int) := impl_BlindPaths.l0 k l1 (([] : List Int)) l0 (l0.length : Int) 0
theorem impl_BlindPaths.mono_l : ∀ k, (∀ y0 y1 y2 y3 y4, LeO (impl_BlindPaths.l0 k y0 y1 y2 y3 y4) (impl_BlindPaths.l0 (k + 1) y0 y1 y2 y3 y4))
  | 0 => fun _ _ _ _ _ r h => by simp [impl_BlindPaths.l0] at h
  | k + 1 => by
    have ih0 := impl_BlindPaths.mono_l k
    · intro y0 y1 y2 y3 y4
      unfold impl_BlindPaths.l0
      repeat' first | (with_reducible first | exact LeO.refl _ | exact LeO.none _ | refine LeO.ite ?_ ?_ | refine LeO.bind ?_ (fun _ => ?_) | exact ih0 _ _ _ _ _) | exact LeO.none _ | refine LeO.ite ?_ ?_ | refine LeO.bind ?_ (fun _ => ?_) | exact ih0 _ _ _ _ _
theorem impl_BlindPaths.mono : ∀ a0 a1 k, LeO (impl_BlindPaths.f k a0 a1) (impl_BlindPaths.f (k + 1) a0 a1) := by
  intro a0 a1 k
  have ih0 := impl_BlindPaths.mono_l k
  unfold impl_BlindPaths.f
  repeat' first | (with_reducible first | exact LeO.refl _ | exact LeO.none _ | refine LeO.ite ?_ ?_ | refine LeO.bind ?_ (fun _ => ?_) | exact ih0 _ _ _ _ _) | exact LeO.none _ | refine LeO.ite ?_ ?_ | refine LeO.bind ?_ (fun _ => ?_) | exact ih0 _ _ _ _ _
set_option maxHeartbeats 8000000 in
set_option maxRecDepth 100000 in
theorem impl_BlindPaths.calls (k : Nat) (A0 : Option Addr) (c0 : Nat) (l0 : List (S90)) (A1 : Option Addr) (c1 : Nat) (l1 : List (S98)) (r : List Int) (w : World) (hr0 : Kd.C k90 w A0 l0.length l0) (hc0 : l0.length ≤ c0) (hr1 : Kd.C k98 w A1 l1.length l1) (hc1 : l1.length ≤ c1) (h : impl_BlindPaths.f k l0 l1 = some r) :
    Calls Try.prog 45 #[.slice A0 l0.length c0, .slice A1 l1.length c1] w fun e w' => ∃ v0_ : Value, e = .returned (v0_) ∧ Kd.R (Kd.int .i64) 3 w' w.heap.size (fun _ => True) v0_ r ∧ Below w.heap.size w w' := by
  have hu90 := Try.underlying90
  have HR0 := Aside0.mk hr0
  have HC0 := Aside0.mk hc0
  clear hr0 hc0
  have HR1 := Aside0.mk hr1
  have HC1 := Aside0.mk hc1
  clear hr1 hc1
  have HB := Aside0.mk (Below.refl w.heap.size w)
  have H : (impl_BlindPaths.l0 k l1 (([] : List Int)) l0 (l0.length : Int) 0) = some r := h
  clear h
  obtain ⟨y429, hy429⟩ : ∃ y_ : List Int, y_ = (([] : List Int)) := ⟨_, rfl⟩
  replace H : (impl_BlindPaths.l0 k l1 y429 l0 (l0.length : Int) 0) = some r := by first | (rw [hy429]; with_reducible exact H) | (have H2_ := (Option.bind_some _ _).symm.trans H; rw [hy429]; with_reducible exact H2_) | (have H2_ := (Option.bind_some _ _).symm.trans H; with_reducible exact H2_) | with_reducible exact H | (rw [hy429]; exact H) | exact H
  have Ny429 := Aside0.mk hy429
  clear hy429
  have H' := Aside0.mk H
  clear H
  go_enter Try.func45, Try.ntmps45
  go_wp2_with (first | ((with_reducible refine gate_dst (N := 8) rfl ?_); refine Kd.R_lit (Kd.int .i64) _ 3 ?hg (N := 8) ?hd (xs := ([] : List Int)) (inner := []) (ok := fun _ => True) (okp := fun _ => True) ?hr ?hp (fun _ hk => hk) trivial (Below.refl _ _) (Nat.le_refl _) (by simp) ?_; (case hd => rfl); (case hg => rfl); (case hr => first | (go_simp; done) | (go_simp; rfl)); (case hp => exact (Reps.none _ _)); intro v430 w3 ho4 hb hg_ hnew_; clear hg_ hnew_; (first | rw [← Ny429.out] at ho4 | (simp only [Int.reduceToNat] at ho4; rw [← Ny429.out] at ho4)); have HO431 := Aside0.mk (Kd.R_lower ho4 (below_size bA)); replace HB := Aside0.mk (below_step bA hb); clear hb ho4))
  go_loopg [5, 11] k (fun kq v5 v11 w' => ∃ (x5_1 : List Int) (x11_1 : Int), v11 = .int .i64 x11_1 ∧ Aside0 (impl_BlindPaths.l0 kq l1 x5_1 l0 (l0.length : Int) x11_1 = some r) ∧ Aside0 (kq ≤ k) ∧ Aside0 (Kd.R (Kd.int .i64) 3 w' w.heap.size (fun _ => True) v5 x5_1) ∧ Aside0 (Below w.heap.size w w'))
  case atStart => exact ⟨(y429), (0), rS, H', ⟨Nat.le_refl _⟩, ⟨rK HO431⟩, ⟨bA⟩⟩
  case round =>
    clear H'
    try clear c1
    try clear p2
    try clear c4
    obtain ⟨x5_1, x11_1, rfl, HA, HK1, HO_5, HB⟩ := hrel
    cases gk with
    | zero => exact absurd HA.out (by simp [impl_BlindPaths.l0])
    | succ k1 =>
      have H := HA.out
      clear HA
      simp only [impl_BlindPaths.l0] at H
      by_cases c5 : x11_1 < (l0.length : Int)
      · rw [if_pos c5] at H
        have c5b0 : decide (x11_1 < (l0.length : Int)) = true := decide_eq_true c5
        clear c5
        have c6 : 0 ≤ x11_1 := ifN H
        replace H := ifT H
        have c6b0 : decide (0 ≤ x11_1) = true := decide_eq_true c6
        clear c6
        have c7 : x11_1 < (l0.length : Int) := ifN H
        replace H := ifT H
        have c7b0 : decide (x11_1 < (l0.length : Int)) = true := decide_eq_true c7
        clear c7
        obtain ⟨t434, A8, H⟩ := bindE H
        try dsimp only at H
        by_cases c9 : t434 < 0
        · rw [if_pos c9] at H
          have c9b0 : decide (t434 < 0) = true := decide_eq_true c9
          clear c9
          have c10 : x5_1.length < 17592186044416 := ifN H
          replace H := ifT H
          have LMc10 := Aside0.mk c10
          clear c10
          obtain ⟨y435, hy435⟩ : ∃ y_ : List Int, y_ = (x5_1 ++ [(rd_T90 l0 x11_1).f0]) := ⟨_, rfl⟩
          replace H : (impl_BlindPaths.l0 k1 l1 y435 l0 (l0.length : Int) (wrap64 (x11_1 + 1))) = some r := by first | (rw [hy435]; with_reducible exact H) | (have H2_ := (Option.bind_some _ _).symm.trans H; rw [hy435]; with_reducible exact H2_) | (have H2_ := (Option.bind_some _ _).symm.trans H; with_reducible exact H2_) | with_reducible exact H | (rw [hy435]; exact H) | exact H
          have Ny435 := Aside0.mk hy435
          clear hy435
          have H' := Aside0.mk H
          clear H
          have p432 : 0 ≤ (x11_1 : Int) := dA
          have q432 : x11_1 < (l0.length : Int) := dA
          obtain ⟨ad432, e432, hx432_0, hx432_1, hx432_2, hx432_3⟩ := at_T90 HR0.out x11_1 p432 q432
          cases e432
          replace hx432_0 := hC HB hx432_0
          replace hx432_1 := hC HB hx432_1
          replace hx432_2 := hC HB hx432_2
          replace hx432_3 := hC HB hx432_3
          replace p432 := eq_true p432
          replace q432 := eq_true q432
          go_wp2_with (first | ((with_reducible refine gate_dst (N := 7) rfl ?_); refine bE (N := 7) (cs := #[.int .i64 0, .int .i64 0, .int .i64 0, .int .i64 0]) (t := 90) ?_; intro gb433 hg w11 hbox hb; have n0_ := Aside0.mk (Kd.R_below (rK HO_5) hb); have n1_ := Aside0.mk (below_step bA hb); have n2_ := Aside0.mk (hbox); have n3_ := Aside0.mk ((by rw [hg]; exact (below_size bA) : w.heap.size ≤ gb433)); have n4_ := Aside0.mk ((by rw [hg]; exact (below_size bA) : w.heap.size ≤ gb433)); clear HO_5; clear HB; have HO_5 := n0_; have HB := n1_; have BK433 := n2_; have GW433 := n3_; have GE433 := n4_; clear n0_ n1_ n2_ n3_ n4_; clear hb hbox hg; have hcz12_0 : w11.cell? ⟨gb433, 0, none⟩ = some (.int .i64 0) := (blk_cell BK433.out 0).trans rfl; have hcz12_1 : w11.cell? ⟨gb433, 1, none⟩ = some (.int .i64 0) := (blk_cell BK433.out 1).trans rfl; have hcz12_2 : w11.cell? ⟨gb433, 2, none⟩ = some (.int .i64 0) := (blk_cell BK433.out 2).trans rfl; have hcz12_3 : w11.cell? ⟨gb433, 3, none⟩ = some (.int .i64 0) := (blk_cell BK433.out 3).trans rfl; have hfz12_0 := blk_frozen BK433.out 0; have hfz12_1 := blk_frozen BK433.out 1; have hfz12_2 := blk_frozen BK433.out 2; have hfz12_3 := blk_frozen BK433.out 3) | ((with_reducible refine gate_callee (f := 90) rfl ?_); refine gL (some 18) Try.func90 #[.slice A1 l1.length c1, .int .i64 ((rd_T90 l0 x11_1).f0)] ?_; (with_reducible refine (impl_trusted.calls _ _ l1 ((rd_T90 l0 x11_1).f0) t434 _ ?side1 ?side2 A8.out).mono ?_); (case side1 => exact Kd.C_below HR1.out bG); (case side2 => exact HC1.out); rintro e w13 ⟨rfl, hb⟩; refine ⟨_, rfl, ?_⟩; have n0_ := Aside0.mk (Kd.R_below (by (with_reducible repeat (first | apply Kd.R_alloc | apply Kd.R_drewN | apply Kd.R_drew)); exact (Kd.R_mono (Kd.R_far (p := ⟨gb433, 3, none⟩) (Kd.R_far (p := ⟨gb433, 2, none⟩) (Kd.R_far (p := ⟨gb433, 1, none⟩) (Kd.R_far (p := ⟨gb433, 0, none⟩) (Kd.R_types HO_5.out BK433.out (by decide)) (fun _ hk => hk.2) (.int .i64 ((rd_T90 l0 x11_1).f0))) (fun _ hk => hk.2) (.int .i64 ((rd_T90 l0 x11_1).f1))) (fun _ hk => hk.2) (.int .i64 ((rd_T90 l0 x11_1).f2))) (fun _ hk => hk.2) (.int .i64 ((rd_T90 l0 x11_1).f3))) (fun _ h_ => h_.1))) hb); have n1_ := Aside0.mk (blk_below (g := gb433) (o := .cells #[.int .i64 ((rd_T90 l0 x11_1).f0), .int .i64 ((rd_T90 l0 x11_1).f1), .int .i64 ((rd_T90 l0 x11_1).f2), .int .i64 ((rd_T90 l0 x11_1).f3)] 90 (0, 0)) (by (with_reducible repeat (first | refine blk_drewN ?_ _ | refine blk_drew ?_ | refine blk_alloc ?_ _)); refine blk_put (cs := #[.int .i64 ((rd_T90 l0 x11_1).f0), .int .i64 ((rd_T90 l0 x11_1).f1), .int .i64 ((rd_T90 l0 x11_1).f2), .int .i64 0]) ?_ 3 _ rfl; (with_reducible repeat (first | refine blk_drewN ?_ _ | refine blk_drew ?_ | refine blk_alloc ?_ _)); refine blk_put (cs := #[.int .i64 ((rd_T90 l0 x11_1).f0), .int .i64 ((rd_T90 l0 x11_1).f1), .int .i64 0, .int .i64 0]) ?_ 2 _ rfl; (with_reducible repeat (first | refine blk_drewN ?_ _ | refine blk_drew ?_ | refine blk_alloc ?_ _)); refine blk_put (cs := #[.int .i64 ((rd_T90 l0 x11_1).f0), .int .i64 0, .int .i64 0, .int .i64 0]) ?_ 1 _ rfl; (with_reducible repeat (first | refine blk_drewN ?_ _ | refine blk_drew ?_ | refine blk_alloc ?_ _)); refine blk_put (cs := #[.int .i64 0, .int .i64 0, .int .i64 0, .int .i64 0]) ?_ 0 _ rfl; (with_reducible repeat (first | refine blk_drewN ?_ _ | refine blk_drew ?_ | refine blk_alloc ?_ _)); exact BK433.out) hb); have n2_ := Aside0.mk (below_step bG hb); clear HO_5; clear BK433; clear HB; have HO_5 := n0_; have BK433 := n1_; have HB := n2_; clear n0_ n1_ n2_; (try clear hb); (try clear hb2); (try clear hk); (try clear hi); have hcz14_0 : w13.cell? ⟨gb433, 0, none⟩ = some (.int .i64 ((rd_T90 l0 x11_1).f0)) := (blk_cell BK433.out 0).trans rfl; have hcz14_1 : w13.cell? ⟨gb433, 1, none⟩ = some (.int .i64 ((rd_T90 l0 x11_1).f1)) := (blk_cell BK433.out 1).trans rfl; have hcz14_2 : w13.cell? ⟨gb433, 2, none⟩ = some (.int .i64 ((rd_T90 l0 x11_1).f2)) := (blk_cell BK433.out 2).trans rfl; have hcz14_3 : w13.cell? ⟨gb433, 3, none⟩ = some (.int .i64 ((rd_T90 l0 x11_1).f3)) := (blk_cell BK433.out 3).trans rfl; have hfz14_0 := blk_frozen BK433.out 0; have hfz14_1 := blk_frozen BK433.out 1; have hfz14_2 := blk_frozen BK433.out 2; have hfz14_3 := blk_frozen BK433.out 3) | ((with_reducible refine gate_builtin (b := .append) (xs := #[.tmp 20, .tmp 23]) rfl ?_); at_builtin; refine Kd.R_append (Kd.int .i64) (w0 := w) w.heap.size rfl (.tmp 20) (.tmp 23) 22 3 (.int .i64 0) 8 rfl Try.underlying22 info3 rfl (by decide) (by omega) u5 x5_1 ((rd_T90 l0 x11_1).f0) [.int .i64 ((rd_T90 l0 x11_1).f0)] (fun _ => True) (fun _ => False) rfl rfl ?aP (fun _ hk => hk.elim) ?aF ?aO ?aB ?aS ?aL ?_; (case aP => exact rfl); (case aB => exact bG); (case aF => exact (fun _ _ => trivial)); (case aO => exact (rK HO_5)); (case aS => exact (below_size bG)); (case aL => have := LMc10.out; omega); intro v436 w15 ho hb hg hat; rw [← Ny435.out] at ho; have n0_ := Aside0.mk (blk_grown (g := gb433) (o := .cells #[.int .i64 ((rd_T90 l0 x11_1).f0), .int .i64 ((rd_T90 l0 x11_1).f1), .int .i64 ((rd_T90 l0 x11_1).f2), .int .i64 ((rd_T90 l0 x11_1).f3)] 90 (0, 0)) (bK BK433) hg (Kd.R_ne HO_5.out BK433.out (by decide))); have n1_ := Aside0.mk (hb); have n2_ := Aside0.mk (ho); clear BK433; clear HB; clear HO_5; have BK433 := n0_; have HB := n1_; have HO437 := n2_; clear n0_ n1_ n2_; clear ho hb hg hat))
          go_roundg k1
          case measure => have := HK1.out; omega
          case rel => exact ⟨(y435), (wrap64 (x11_1 + 1)), rS, H', ⟨by have := HK1.out; omega⟩, ⟨rK HO437⟩, ⟨bG⟩⟩
        · rw [if_neg c9] at H
          have c9b0 : decide (t434 < 0) = false := decide_eq_false c9
          clear c9
          have H' := Aside0.mk H
          clear H
          have p432 : 0 ≤ (x11_1 : Int) := dA
          have q432 : x11_1 < (l0.length : Int) := dA
          obtain ⟨ad432, e432, hx432_0, hx432_1, hx432_2, hx432_3⟩ := at_T90 HR0.out x11_1 p432 q432
          cases e432
          replace hx432_0 := hC HB hx432_0
          replace hx432_1 := hC HB hx432_1
          replace hx432_2 := hC HB hx432_2
          replace hx432_3 := hC HB hx432_3
          replace p432 := eq_true p432
          replace q432 := eq_true q432
          go_wp2_with (first | ((with_reducible refine gate_dst (N := 7) rfl ?_); refine bE (N := 7) (cs := #[.int .i64 0, .int .i64 0, .int .i64 0, .int .i64 0]) (t := 90) ?_; intro gb433 hg w16 hbox hb; have n0_ := Aside0.mk (Kd.R_below (rK HO_5) hb); have n1_ := Aside0.mk (below_step bA hb); have n2_ := Aside0.mk (hbox); have n3_ := Aside0.mk ((by rw [hg]; exact (below_size bA) : w.heap.size ≤ gb433)); have n4_ := Aside0.mk ((by rw [hg]; exact (below_size bA) : w.heap.size ≤ gb433)); clear HO_5; clear HB; have HO_5 := n0_; have HB := n1_; have BK433 := n2_; have GW433 := n3_; have GE433 := n4_; clear n0_ n1_ n2_ n3_ n4_; clear hb hbox hg; have hcz17_0 : w16.cell? ⟨gb433, 0, none⟩ = some (.int .i64 0) := (blk_cell BK433.out 0).trans rfl; have hcz17_1 : w16.cell? ⟨gb433, 1, none⟩ = some (.int .i64 0) := (blk_cell BK433.out 1).trans rfl; have hcz17_2 : w16.cell? ⟨gb433, 2, none⟩ = some (.int .i64 0) := (blk_cell BK433.out 2).trans rfl; have hcz17_3 : w16.cell? ⟨gb433, 3, none⟩ = some (.int .i64 0) := (blk_cell BK433.out 3).trans rfl; have hfz17_0 := blk_frozen BK433.out 0; have hfz17_1 := blk_frozen BK433.out 1; have hfz17_2 := blk_frozen BK433.out 2; have hfz17_3 := blk_frozen BK433.out 3) | ((with_reducible refine gate_callee (f := 90) rfl ?_); refine gL (some 18) Try.func90 #[.slice A1 l1.length c1, .int .i64 ((rd_T90 l0 x11_1).f0)] ?_; (with_reducible refine (impl_trusted.calls _ _ l1 ((rd_T90 l0 x11_1).f0) t434 _ ?side1 ?side2 A8.out).mono ?_); (case side1 => exact Kd.C_below HR1.out bG); (case side2 => exact HC1.out); rintro e w18 ⟨rfl, hb⟩; refine ⟨_, rfl, ?_⟩; have n0_ := Aside0.mk (Kd.R_below (by (with_reducible repeat (first | apply Kd.R_alloc | apply Kd.R_drewN | apply Kd.R_drew)); exact (Kd.R_mono (Kd.R_far (p := ⟨gb433, 3, none⟩) (Kd.R_far (p := ⟨gb433, 2, none⟩) (Kd.R_far (p := ⟨gb433, 1, none⟩) (Kd.R_far (p := ⟨gb433, 0, none⟩) (Kd.R_types HO_5.out BK433.out (by decide)) (fun _ hk => hk.2) (.int .i64 ((rd_T90 l0 x11_1).f0))) (fun _ hk => hk.2) (.int .i64 ((rd_T90 l0 x11_1).f1))) (fun _ hk => hk.2) (.int .i64 ((rd_T90 l0 x11_1).f2))) (fun _ hk => hk.2) (.int .i64 ((rd_T90 l0 x11_1).f3))) (fun _ h_ => h_.1))) hb); have n1_ := Aside0.mk (blk_below (g := gb433) (o := .cells #[.int .i64 ((rd_T90 l0 x11_1).f0), .int .i64 ((rd_T90 l0 x11_1).f1), .int .i64 ((rd_T90 l0 x11_1).f2), .int .i64 ((rd_T90 l0 x11_1).f3)] 90 (0, 0)) (by (with_reducible repeat (first | refine blk_drewN ?_ _ | refine blk_drew ?_ | refine blk_alloc ?_ _)); refine blk_put (cs := #[.int .i64 ((rd_T90 l0 x11_1).f0), .int .i64 ((rd_T90 l0 x11_1).f1), .int .i64 ((rd_T90 l0 x11_1).f2), .int .i64 0]) ?_ 3 _ rfl; (with_reducible repeat (first | refine blk_drewN ?_ _ | refine blk_drew ?_ | refine blk_alloc ?_ _)); refine blk_put (cs := #[.int .i64 ((rd_T90 l0 x11_1).f0), .int .i64 ((rd_T90 l0 x11_1).f1), .int .i64 0, .int .i64 0]) ?_ 2 _ rfl; (with_reducible repeat (first | refine blk_drewN ?_ _ | refine blk_drew ?_ | refine blk_alloc ?_ _)); refine blk_put (cs := #[.int .i64 ((rd_T90 l0 x11_1).f0), .int .i64 0, .int .i64 0, .int .i64 0]) ?_ 1 _ rfl; (with_reducible repeat (first | refine blk_drewN ?_ _ | refine blk_drew ?_ | refine blk_alloc ?_ _)); refine blk_put (cs := #[.int .i64 0, .int .i64 0, .int .i64 0, .int .i64 0]) ?_ 0 _ rfl; (with_reducible repeat (first | refine blk_drewN ?_ _ | refine blk_drew ?_ | refine blk_alloc ?_ _)); exact BK433.out) hb); have n2_ := Aside0.mk (below_step bG hb); clear HO_5; clear BK433; clear HB; have HO_5 := n0_; have BK433 := n1_; have HB := n2_; clear n0_ n1_ n2_; (try clear hb); (try clear hb2); (try clear hk); (try clear hi)))
          go_roundg k1
          case measure => have := HK1.out; omega
          case rel => exact ⟨(x5_1), (wrap64 (x11_1 + 1)), rS, H', ⟨by have := HK1.out; omega⟩, ⟨rK HO_5⟩, ⟨bG⟩⟩
      · rw [if_neg c5] at H
        have c5b0 : decide (x11_1 < (l0.length : Int)) = false := decide_eq_false c5
        clear c5
        obtain rfl := Option.some.inj H
        go_wp2
        go_ret
        exact ⟨_, by first | rfl | (simp [errW_none, errW_some] <;> rfl) | (simp [*, errW_none, errW_some] <;> rfl), by (with_reducible repeat (first | apply Kd.R_alloc | apply Kd.R_drewN | apply Kd.R_drew)); exact HO_5.out, bA⟩

end Go.Proofs.Ytimmadeghcghoaa.P
