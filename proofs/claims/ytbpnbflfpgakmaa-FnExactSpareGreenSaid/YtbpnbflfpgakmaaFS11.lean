/- Printed by myprint.py (wip/tools) over the kit's print: what Go's functions compute, and that they do. Lean checks it. -/
import Derived.Test.YtbpnbflfpgakmaaF0
import Derived.Test.YtbpnbflfpgakmaaFS01
import Derived.Test.YtbpnbflfpgakmaaFS07
import Derived.Test.YtbpnbflfpgakmaaFS08
namespace Go.Proofs.Ytbpnbflfpgakmaa.P
open Go.RowKit Go.Proofs.YtbpnbflfpgakmaaW.PrintWords Go.Proofs.YtbpnbflfpgakmaaW.PrintLast Go.Proofs.YtbpnbflfpgakmaaW.PrintMore Go.Proofs.Ytbpnbflfpgakmaa.Sq
attribute [local go_sem] max2_int min2_int max_two min_two max_three min_three max_four min_four
set_option linter.unusedVariables false
set_option linter.unusedSimpArgs false

/-! ### spec_GreenShare: function 27 -/
def spec_GreenShare.f (k : Nat) (l0 : List (S58)) (l1 : List (S51)) (a2 : Int) : Option (Int) := (spec_IsPlan.f k l0 l1).bind fun t436 => (if t436 = true then ((spec_l1In.f a2 0 (wrap64 ((l1.length : Int) - 1))).bind fun t437 => (if t437 = true then (if 0 ≤ a2 then (if a2 < (l1.length : Int) then ((spec_Cycle.f k l0 l1).bind fun t439 => (if t439 = 0 then (none) else (some (wrap64 (Int.tdiv (wrap64 (100 * ((rd_T51 l1 a2).f1))) t439))))) else (none)) else (none)) else (some 0))) else (some 0))
theorem spec_GreenShare.mono : ∀ a0 a1 a2 k, LeO (spec_GreenShare.f k a0 a1 a2) (spec_GreenShare.f (k + 1) a0 a1 a2) := by
  intro a0 a1 a2 k
  unfold spec_GreenShare.f
  repeat' first | (with_reducible first | exact LeO.refl _ | exact LeO.none _ | refine LeO.ite ?_ ?_ | refine LeO.bind ?_ (fun _ => ?_) | exact spec_Cycle.mono _ _ _ | exact spec_IsPlan.mono _ _ _) | exact LeO.none _ | refine LeO.ite ?_ ?_ | refine LeO.bind ?_ (fun _ => ?_) | exact spec_Cycle.mono _ _ _ | exact spec_IsPlan.mono _ _ _
def spec_GreenShare.T3 : Bool × List (List Nat × List Nat) := (true, [([], []), ([], []), ([0, 1], [0, 1]), ([2], [2]), ([3], [3]), ([4], [4]), ([], []), ([], []), ([6, 7], [6, 7]), ([5, 8], [5, 8]), ([9, 8, 0, 1, 2, 3, 4, 5, 6, 7, 8, 9], [9])])
def spec_GreenShare.B3 : List Nat := [0, 0, 3, 7, 15, 31, 0, 0, 192, 511, 1023]
theorem spec_GreenShare.tab3 : rtab .any (opsOf Try.f27 3) = spec_GreenShare.T3 := by kernel_rfl
theorem spec_GreenShare.bits3 : waitsOk spec_GreenShare.T3.2 spec_GreenShare.B3 = true := by kernel_rfl
set_option maxHeartbeats 8000000 in
set_option maxRecDepth 100000 in
theorem spec_GreenShare.calls (k : Nat) (A0 : Option Addr) (c0 : Nat) (l0 : List (S58)) (A1 : Option Addr) (c1 : Nat) (l1 : List (S51)) (a2 : Int) (r : Int) (w : World) (hr0 : Kd.C k58 w A0 l0.length l0) (hc0 : l0.length ≤ c0) (hr1 : Kd.C k51 w A1 l1.length l1) (hc1 : l1.length ≤ c1) (h : spec_GreenShare.f k l0 l1 a2 = some r) :
    Calls Try.prog 27 #[.slice A0 l0.length c0, .slice A1 l1.length c1, .int .i64 a2] w fun e w' => e = .returned (.int .i64 r) ∧ Below w.heap.size w w' := by
  have HR0 := Aside0.mk hr0
  have HC0 := Aside0.mk hc0
  clear hr0 hc0
  have HR1 := Aside0.mk hr1
  have HC1 := Aside0.mk hc1
  clear hr1 hc1
  have HB := Aside0.mk (Below.refl w.heap.size w)
  have H : ((spec_IsPlan.f k l0 l1).bind fun t436 => (if t436 = true then ((spec_l1In.f a2 0 (wrap64 ((l1.length : Int) - 1))).bind fun t437 => (if t437 = true then (if 0 ≤ a2 then (if a2 < (l1.length : Int) then ((spec_Cycle.f k l0 l1).bind fun t439 => (if t439 = 0 then (none) else (some (wrap64 (Int.tdiv (wrap64 (100 * ((rd_T51 l1 a2).f1))) t439))))) else (none)) else (none)) else (some 0))) else (some 0))) = some r := h
  clear h
  obtain ⟨t436, A4, H⟩ := bindE H
  try dsimp only at H
  by_cases c5 : t436 = true
  · subst c5
    have H1 : ((spec_l1In.f a2 0 (wrap64 ((l1.length : Int) - 1))).bind fun t437 => (if t437 = true then (if 0 ≤ a2 then (if a2 < (l1.length : Int) then ((spec_Cycle.f k l0 l1).bind fun t439 => (if t439 = 0 then (none) else (some (wrap64 (Int.tdiv (wrap64 (100 * ((rd_T51 l1 a2).f1))) t439))))) else (none)) else (none)) else (some 0))) = some r := by rw [if_pos rfl] at H; exact H
    clear H
    have H := H1
    clear H1
    obtain ⟨t437, A6, H⟩ := bindE H
    try dsimp only at H
    by_cases c7 : t437 = true
    · subst c7
      have H1 : (if 0 ≤ a2 then (if a2 < (l1.length : Int) then ((spec_Cycle.f k l0 l1).bind fun t439 => (if t439 = 0 then (none) else (some (wrap64 (Int.tdiv (wrap64 (100 * ((rd_T51 l1 a2).f1))) t439))))) else (none)) else (none)) = some r := by rw [if_pos rfl] at H; exact H
      clear H
      have H := H1
      clear H1
      have c8 : 0 ≤ a2 := ifN H
      replace H := ifT H
      have c8b0 : decide (0 ≤ a2) = true := decide_eq_true c8
      clear c8
      have c9 : a2 < (l1.length : Int) := ifN H
      replace H := ifT H
      have c9b0 : decide (a2 < (l1.length : Int)) = true := decide_eq_true c9
      clear c9
      obtain ⟨t439, A10, H⟩ := bindE H
      try dsimp only at H
      have c11 : ¬ (t439 = 0) := ifN' H
      replace H := ifT' H
      have c11b0 : (t439 == 0) = false := beq_eq_false_iff_ne.mpr c11
      have c11b1 : (t439 != 0) = true := bne_iff_ne.mpr c11
      obtain rfl := Option.some.inj H
      go_enter Try.func27, Try.ntmps27
      try go_wp2_with (first | ((with_reducible refine gate_callee (f := 17) rfl ?_); refine gL (some 9) Try.func17 #[.slice A0 l0.length c0, .slice A1 l1.length c1] ?_; (with_reducible refine (spec_IsPlan.calls k _ _ l0 _ _ l1 true _ ?side1 ?side2 ?side3 ?side4 A4.out).mono ?_); (case side1 => exact cO HR0); (case side2 => exact HC0.out); (case side3 => exact cO HR1); (case side4 => exact HC1.out); rintro e w12 ⟨rfl, hb⟩; refine ⟨_, rfl, ?_⟩; replace HB := Aside0.mk (below_step bA hb); (try clear hb); (try clear hb2); (try clear hk); (try clear hi)) | (go_at_call 51; (with_reducible refine (spec_l1In.calls a2 0 (wrap64 ((l1.length : Int) - 1)) true _ A6.out).mono ?_); rintro e w' ⟨rfl, ⟨nd, rfl⟩⟩))
      (try (rw [drewN_self w12]; generalize hq_ : World.drewN w12 _ = w12; have n0_ : Aside0 (Below w.heap.size w w12) := ⟨by rw [← hq_]; exact bA⟩; clear HB hq_; have HB := n0_; clear n0_))
      have HBo := HB
      replace HB := Aside0.mk (below_drew1 HB.out)
      have p438 : 0 ≤ (a2 : Int) := dA
      have q438 : a2 < (l1.length : Int) := dA
      obtain ⟨ad438, A438_0, c438_0, e438, hx438_0, hx438_1, hl438_0, hi438_0⟩ := at_T51 HR1.out a2 p438 q438
      have hw438_1 := hx438_1
      have hw438_0 := hx438_0
      cases e438
      replace hx438_0 := hC HB hx438_0
      replace hx438_1 := hC HB hx438_1
      have HR438_0 := Aside0.mk hi438_0
      have HC438_0 := Aside0.mk hl438_0
      clear hi438_0 hl438_0
      replace p438 := eq_true p438
      replace q438 := eq_true q438
      refine start_ (n := 11) (S := fun w' => w'.cell? (ad438.add ((a2).toNat * 2)) = some (.slice A438_0 ((rd_T51 l1 a2).f0).length c438_0) ∧ w'.cell? ⟨(ad438.add ((a2).toNat * 2)).block, (ad438.add ((a2).toNat * 2)).off + 1, none⟩ = some (.int .i64 ((rd_T51 l1 a2).f1))) (ds := []) (mb 11 0) (by kernel_rfl) rfl rfl ⟨(hC HB hw438_0), (hC HB hw438_1)⟩ (fun hHeld => ?_); refine with_tabW spec_GreenShare.tab3 spec_GreenShare.bits3 (fun HT_ HW_ => ?_)
      generalize w12.drew = w13 at HB HR438_0 hx438_0 hx438_1 hHeld ⊢
      refine pA (i := 0) (N := some 19) (mb 11 1) HT_ ?_
      refine pA (i := 1) (N := some 20) (mb 11 3) HT_ ?_
      refine pA (i := 2) (N := some 21) (mb 11 7) HT_ ?_
      refine pA (i := 3) (N := some 22) (mb 11 15) HT_ ?_
      refine pA (i := 6) (N := some 25) (mb 11 79) HT_ ?_
      refine pA (i := 7) (N := some 26) (mb 11 207) HT_ ?_
      refine tA2 (i := 4) (N := some 23) (mb 11 223) HT_ HW_ hHeld ?_
      refine pA (i := 5) (N := some 24) (mb 11 255) HT_ ?_
      refine oA (i := 8) (N := some 27) (mb 11 511) HT_ (fun K hK => ?_)
      refine gA Try.func23 #[.slice A0 l0.length c0, .slice (some ad438) l1.length c1] ?_
      with_reducible refine (spec_Cycle.calls k _ _ l0 _ _ l1 t439 _ ?side1 ?side2 ?side3 ?side4 A10.out).mono ?_
      (case side1 => exact cB HR0)
      (case side2 => exact HC0.out)
      (case side3 => exact cB HR1)
      (case side4 => exact HC1.out)
      rintro e w14 ⟨rfl, hb⟩
      refine ⟨_, rfl, ?_⟩
      replace HB := Aside0.mk (below_step bA hb)
      (try clear hb)
      (try clear hb2)
      (try clear hk)
      (try clear hi)
      refine hK.out _ _ ⟨(hC HB hw438_0), (hC HB hw438_1)⟩ (fun hHeld => ?_)
      clear hK K
      refine nA ?_
      refine pA (i := 9) (N := some 28) (mb 11 1023) HT_ ?_
      refine pA (i := 10) (N := some 6) (mb 11 2047) HT_ ?_
      refine eA HT_ ?_
      try go_wp2
      go_ret
      exact ⟨rA, bA⟩
    · replace c7 := Bool.eq_false_iff.mpr c7
      subst c7
      have H1 : (some 0) = some r := by rw [if_neg (show ¬ (false = true) by decide)] at H; exact H
      clear H
      have H := H1
      clear H1
      obtain rfl := Option.some.inj H
      go_enter Try.func27, Try.ntmps27
      go_wp2_with (first | ((with_reducible refine gate_callee (f := 17) rfl ?_); refine gL (some 9) Try.func17 #[.slice A0 l0.length c0, .slice A1 l1.length c1] ?_; (with_reducible refine (spec_IsPlan.calls k _ _ l0 _ _ l1 true _ ?side1 ?side2 ?side3 ?side4 A4.out).mono ?_); (case side1 => exact cO HR0); (case side2 => exact HC0.out); (case side3 => exact cO HR1); (case side4 => exact HC1.out); rintro e w15 ⟨rfl, hb⟩; refine ⟨_, rfl, ?_⟩; replace HB := Aside0.mk (below_step bA hb); (try clear hb); (try clear hb2); (try clear hk); (try clear hi)) | (go_at_call 51; (with_reducible refine (spec_l1In.calls a2 0 (wrap64 ((l1.length : Int) - 1)) false _ A6.out).mono ?_); rintro e w' ⟨rfl, ⟨nd, rfl⟩⟩))
      go_ret
      exact ⟨rA, bA⟩
  · replace c5 := Bool.eq_false_iff.mpr c5
    subst c5
    have H1 : (some 0) = some r := by rw [if_neg (show ¬ (false = true) by decide)] at H; exact H
    clear H
    have H := H1
    clear H1
    obtain rfl := Option.some.inj H
    go_enter Try.func27, Try.ntmps27
    go_wp2_with (first | ((with_reducible refine gate_callee (f := 17) rfl ?_); refine gL (some 9) Try.func17 #[.slice A0 l0.length c0, .slice A1 l1.length c1] ?_; (with_reducible refine (spec_IsPlan.calls k _ _ l0 _ _ l1 false _ ?side1 ?side2 ?side3 ?side4 A4.out).mono ?_); (case side1 => exact cO HR0); (case side2 => exact HC0.out); (case side3 => exact cO HR1); (case side4 => exact HC1.out); rintro e w16 ⟨rfl, hb⟩; refine ⟨_, rfl, ?_⟩; replace HB := Aside0.mk (below_step bA hb); (try clear hb); (try clear hb2); (try clear hk); (try clear hi)))
    go_ret
    exact ⟨rA, bA⟩

/-! ### spec_SpareGreen: function 29 -/
mutual
def spec_SpareGreen.j0 : Nat → List (S58) → List (S51) → Int → Bool → Option (Int)
  | 0, _, _, _, _ => none
  | k + 1, x0, x1, x2, x17 => if x17 = true then (some (-1)) else (spec_SpareGreen.l0 k x0 x1 x2 0)
def spec_SpareGreen.l0 : Nat → List (S58) → List (S51) → Int → Int → Option (Int)
  | 0, _, _, _, _ => none
  | k + 1, x0, x1, x7, x8 => if x8 < (x1.length : Int) then (if 0 ≤ x8 then ((spec_LeastGreen.f k x0 ((rd_T51 x1 x8).f0)).bind fun t470 => (if (x1.length : Int) = 0 then (none) else (if 0 ≤ (Int.tmod (wrap64 (x8 + 1)) (x1.length : Int)) then (if (Int.tmod (wrap64 (x8 + 1)) (x1.length : Int)) < (x1.length : Int) then ((spec_ClearBetween.f k x0 ((rd_T51 x1 x8).f0) ((rd_T51 x1 (Int.tmod (wrap64 (x8 + 1)) (x1.length : Int))).f0)).bind fun t473 => (spec_SpareGreen.l0 k x0 x1 (wrap64 ((wrap64 (x7 - t470)) - t473)) (wrap64 (x8 + 1)))) else (none)) else (none)))) else (none)) else ((spec_Max.f (-1) x7).bind fun t474 => (some t474))
end
def spec_SpareGreen.f (k : Nat) (l0 : List (S58)) (l1 : List (S51)) (a2 : Int) : Option (Int) := (spec_IsPlan.f k l0 l1).bind fun t467 => (if t467 = true then ((spec_l1In.f a2 1 1000).bind fun t468 => (spec_SpareGreen.j0 k l0 l1 a2 (!t468))) else (spec_SpareGreen.j0 k l0 l1 a2 true))
theorem spec_SpareGreen.mono_l : ∀ k, (∀ y0 y1 y2 y3, LeO (spec_SpareGreen.j0 k y0 y1 y2 y3) (spec_SpareGreen.j0 (k + 1) y0 y1 y2 y3)) ∧ (∀ y0 y1 y2 y3, LeO (spec_SpareGreen.l0 k y0 y1 y2 y3) (spec_SpareGreen.l0 (k + 1) y0 y1 y2 y3))
  | 0 => ⟨fun _ _ _ _ r h => by simp [spec_SpareGreen.j0] at h, fun _ _ _ _ r h => by simp [spec_SpareGreen.l0] at h⟩
  | k + 1 => by
    obtain ⟨ih0, ih1⟩ := spec_SpareGreen.mono_l k
    refine ⟨?_, ?_⟩
    · intro y0 y1 y2 y3
      unfold spec_SpareGreen.j0
      repeat' first | (with_reducible first | exact LeO.refl _ | exact LeO.none _ | refine LeO.ite ?_ ?_ | refine LeO.bind ?_ (fun _ => ?_) | exact ih0 _ _ _ _ | exact ih1 _ _ _ _ | exact spec_ClearBetween.mono _ _ _ _ | exact spec_IsPlan.mono _ _ _ | exact spec_LeastGreen.mono _ _ _) | exact LeO.none _ | refine LeO.ite ?_ ?_ | refine LeO.bind ?_ (fun _ => ?_) | exact ih0 _ _ _ _ | exact ih1 _ _ _ _ | exact spec_ClearBetween.mono _ _ _ _ | exact spec_IsPlan.mono _ _ _ | exact spec_LeastGreen.mono _ _ _
    · intro y0 y1 y2 y3
      unfold spec_SpareGreen.l0
      repeat' first | (with_reducible first | exact LeO.refl _ | exact LeO.none _ | refine LeO.ite ?_ ?_ | refine LeO.bind ?_ (fun _ => ?_) | exact ih0 _ _ _ _ | exact ih1 _ _ _ _ | exact spec_ClearBetween.mono _ _ _ _ | exact spec_IsPlan.mono _ _ _ | exact spec_LeastGreen.mono _ _ _) | exact LeO.none _ | refine LeO.ite ?_ ?_ | refine LeO.bind ?_ (fun _ => ?_) | exact ih0 _ _ _ _ | exact ih1 _ _ _ _ | exact spec_ClearBetween.mono _ _ _ _ | exact spec_IsPlan.mono _ _ _ | exact spec_LeastGreen.mono _ _ _
theorem spec_SpareGreen.mono : ∀ a0 a1 a2 k, LeO (spec_SpareGreen.f k a0 a1 a2) (spec_SpareGreen.f (k + 1) a0 a1 a2) := by
  intro a0 a1 a2 k
  obtain ⟨ih0, ih1⟩ := spec_SpareGreen.mono_l k
  unfold spec_SpareGreen.f
  repeat' first | (with_reducible first | exact LeO.refl _ | exact LeO.none _ | refine LeO.ite ?_ ?_ | refine LeO.bind ?_ (fun _ => ?_) | exact ih0 _ _ _ _ | exact ih1 _ _ _ _ | exact spec_ClearBetween.mono _ _ _ _ | exact spec_IsPlan.mono _ _ _ | exact spec_LeastGreen.mono _ _ _) | exact LeO.none _ | refine LeO.ite ?_ ?_ | refine LeO.bind ?_ (fun _ => ?_) | exact ih0 _ _ _ _ | exact ih1 _ _ _ _ | exact spec_ClearBetween.mono _ _ _ _ | exact spec_IsPlan.mono _ _ _ | exact spec_LeastGreen.mono _ _ _
def spec_SpareGreen.T7 : Bool × List (List Nat × List Nat) := (true, [([], []), ([], []), ([], []), ([], []), ([2, 3], [2, 3]), ([4], [4]), ([5], [5]), ([1, 6], [1, 6]), ([0, 7], [0, 7]), ([], []), ([], []), ([], []), ([10, 11], [10, 11]), ([12], [12]), ([13], [13]), ([], []), ([], []), ([16], [16]), ([], []), ([18], [18]), ([17, 19], [17, 19]), ([15, 20], [15, 20]), ([21], [21]), ([22], [22]), ([9, 14, 23, 7], [9, 14, 23]), ([8, 24], [8, 24]), ([25, 24, 0, 1, 2, 3, 4, 5, 6, 7, 8, 9, 10, 11, 12, 13, 14, 15, 16, 17, 18, 19, 20, 21, 22, 23, 24, 25], [0, 25])])
def spec_SpareGreen.B7 : List Nat := [0, 0, 0, 0, 12, 28, 60, 126, 255, 0, 0, 0, 3072, 7168, 15360, 0, 0, 65536, 0, 262144, 983040, 2064384, 4161536, 8355840, 16776958, 33554431, 67108863]
theorem spec_SpareGreen.tab7 : rtab .any (opsOf Try.f29 7) = spec_SpareGreen.T7 := by kernel_rfl
theorem spec_SpareGreen.bits7 : waitsOk spec_SpareGreen.T7.2 spec_SpareGreen.B7 = true := by kernel_rfl
set_option maxHeartbeats 8000000 in
set_option maxRecDepth 100000 in
theorem spec_SpareGreen.calls (k : Nat) (A0 : Option Addr) (c0 : Nat) (l0 : List (S58)) (A1 : Option Addr) (c1 : Nat) (l1 : List (S51)) (a2 : Int) (r : Int) (w : World) (hr0 : Kd.C k58 w A0 l0.length l0) (hc0 : l0.length ≤ c0) (hr1 : Kd.C k51 w A1 l1.length l1) (hc1 : l1.length ≤ c1) (h : spec_SpareGreen.f k l0 l1 a2 = some r) :
    Calls Try.prog 29 #[.slice A0 l0.length c0, .slice A1 l1.length c1, .int .i64 a2] w fun e w' => e = .returned (.int .i64 r) ∧ Below w.heap.size w w' := by
  have HR0 := Aside0.mk hr0
  have HC0 := Aside0.mk hc0
  clear hr0 hc0
  have HR1 := Aside0.mk hr1
  have HC1 := Aside0.mk hc1
  clear hr1 hc1
  have HB := Aside0.mk (Below.refl w.heap.size w)
  have H : ((spec_IsPlan.f k l0 l1).bind fun t467 => (if t467 = true then ((spec_l1In.f a2 1 1000).bind fun t468 => (spec_SpareGreen.j0 k l0 l1 a2 (!t468))) else (spec_SpareGreen.j0 k l0 l1 a2 true))) = some r := h
  clear h
  have HC4 := Aside0.mk H
  clear H
  go_enter Try.func29, Try.ntmps29
  go_upto_region 1 with (fail)
  go_cut [17] (fun v17 wc => ∃ (kq : Nat) (x17_3 : Bool), v17 = .bool x17_3 ∧ Aside0 (spec_SpareGreen.j0 kq l0 l1 a2 x17_3 = some r) ∧ Aside0 (kq ≤ k) ∧ Aside0 (Below w.heap.size w wc))
  case first =>
    have H := HC4.out
    clear HC4
    obtain ⟨t467, A5, H⟩ := bindE H
    try dsimp only at H
    by_cases c6 : t467 = true
    · subst c6
      have H1 : ((spec_l1In.f a2 1 1000).bind fun t468 => (spec_SpareGreen.j0 k l0 l1 a2 (!t468))) = some r := by rw [if_pos rfl] at H; exact H
      clear H
      have H := H1
      clear H1
      obtain ⟨t468, A7, H⟩ := bindE H
      try dsimp only at H
      have H' := Aside0.mk H
      clear H
      go_wp2_with (first | ((with_reducible refine gate_callee (f := 17) rfl ?_); refine gL (some 11) Try.func17 #[.slice A0 l0.length c0, .slice A1 l1.length c1] ?_; (with_reducible refine (spec_IsPlan.calls k _ _ l0 _ _ l1 true _ ?side1 ?side2 ?side3 ?side4 A5.out).mono ?_); (case side1 => exact cB HR0); (case side2 => exact HC0.out); (case side3 => exact cB HR1); (case side4 => exact HC1.out); rintro e w8 ⟨rfl, hb⟩; refine ⟨_, rfl, ?_⟩; replace HB := Aside0.mk (below_step bA hb); (try clear hb); (try clear hb2); (try clear hk); (try clear hi)) | (go_at_call 51; (with_reducible refine (spec_l1In.calls a2 1 1000 t468 _ A7.out).mono ?_); rintro e w' ⟨rfl, ⟨nd, rfl⟩⟩))
      go_meet
      case rel => exact ⟨_, (!t468), rS, H', ⟨by first | omega | exact Nat.le_refl _⟩, ⟨bA⟩⟩
    · replace c6 := Bool.eq_false_iff.mpr c6
      subst c6
      have H1 : (spec_SpareGreen.j0 k l0 l1 a2 true) = some r := by rw [if_neg (show ¬ (false = true) by decide)] at H; exact H
      clear H
      have H := H1
      clear H1
      have H' := Aside0.mk H
      clear H
      go_wp2_with (first | ((with_reducible refine gate_callee (f := 17) rfl ?_); refine gL (some 11) Try.func17 #[.slice A0 l0.length c0, .slice A1 l1.length c1] ?_; (with_reducible refine (spec_IsPlan.calls k _ _ l0 _ _ l1 false _ ?side1 ?side2 ?side3 ?side4 A5.out).mono ?_); (case side1 => exact cB HR0); (case side2 => exact HC0.out); (case side3 => exact cB HR1); (case side4 => exact HC1.out); rintro e w9 ⟨rfl, hb⟩; refine ⟨_, rfl, ?_⟩; replace HB := Aside0.mk (below_step bA hb); (try clear hb); (try clear hb2); (try clear hk); (try clear hi)))
      go_meet
      case rel => exact ⟨_, (true), rS, H', ⟨by first | omega | exact Nat.le_refl _⟩, ⟨bA⟩⟩
  case rest =>
    clear HC4
    try clear c1
    try clear c2
    try clear p2
    try clear c6
    obtain ⟨kq, x17_3, rfl, HA, HJ3, HB⟩ := hcut
    cases kq with
    | zero => exact absurd HA.out (by simp [spec_SpareGreen.j0])
    | succ kj3 =>
      have H := HA.out
      clear HA
      simp only [spec_SpareGreen.j0] at H
      by_cases c10 : x17_3 = true
      · subst c10
        have H1 : (some (-1)) = some r := by rw [if_pos rfl] at H; exact H
        clear H
        have H := H1
        clear H1
        obtain rfl := Option.some.inj H
        go_wp2
        go_ret
        exact ⟨rA, bA⟩
      · replace c10 := Bool.eq_false_iff.mpr c10
        subst c10
        have H1 : (spec_SpareGreen.l0 kj3 l0 l1 a2 0) = some r := by rw [if_neg (show ¬ (false = true) by decide)] at H; exact H
        clear H
        have H := H1
        clear H1
        have H' := Aside0.mk H
        clear H
        go_wp2
        go_loopg [7, 8] kj3 (fun kq v7 v8 w' => ∃ (x7_2 : Int) (x8_2 : Int), v7 = .int .i64 x7_2 ∧ v8 = .int .i64 x8_2 ∧ Aside0 (spec_SpareGreen.l0 kq l0 l1 x7_2 x8_2 = some r) ∧ Aside0 (kq ≤ kj3) ∧ Aside0 (Below w.heap.size w w'))
        case atStart => exact ⟨(a2), (0), rS, rS, H', ⟨Nat.le_refl _⟩, ⟨bA⟩⟩
        case round =>
          clear H'
          try clear c1
          try clear c2
          try clear p2
          try clear c6
          try clear c10
          try clear p2
          obtain ⟨x7_2, x8_2, rfl, rfl, HA, HK2, HB⟩ := hrel
          cases gk with
          | zero => exact absurd HA.out (by simp [spec_SpareGreen.l0])
          | succ k2 =>
            have H := HA.out
            clear HA
            simp only [spec_SpareGreen.l0] at H
            by_cases c11 : x8_2 < (l1.length : Int)
            · rw [if_pos c11] at H
              have c11b0 : decide (x8_2 < (l1.length : Int)) = true := decide_eq_true c11
              clear c11
              have c12 : 0 ≤ x8_2 := ifN H
              replace H := ifT H
              have c12b0 : decide (0 ≤ x8_2) = true := decide_eq_true c12
              clear c12
              obtain ⟨t470, A13, H⟩ := bindE H
              try dsimp only at H
              have c14 : ¬ ((l1.length : Int) = 0) := ifN' H
              replace H := ifT' H
              have c14b0 : ((l1.length : Int) == 0) = false := beq_eq_false_iff_ne.mpr c14
              have c14b1 : ((l1.length : Int) != 0) = true := bne_iff_ne.mpr c14
              have c14b2 : ¬ (l1 = []) := fun h_ => c14 (by rw [h_]; rfl)
              obtain ⟨ji15, hji15⟩ : ∃ j_ : Int, (Int.tmod (wrap64 (x8_2 + 1)) (l1.length : Int)) = j_ := ⟨_, rfl⟩
              replace H : (if 0 ≤ (ji15) then (if (ji15) < (l1.length : Int) then ((spec_ClearBetween.f k2 l0 ((rd_T51 l1 x8_2).f0) ((rd_T51 l1 (ji15)).f0)).bind fun t473 => (spec_SpareGreen.l0 k2 l0 l1 (wrap64 ((wrap64 (x7_2 - t470)) - t473)) (wrap64 (x8_2 + 1)))) else (none)) else (none)) = some r := by first | (rw [hji15] at H; exact H) | (simp only [hji15] at H ⊢; exact H)
              (try rw [hji15] at A13)
              have c16 : 0 ≤ (ji15) := ifN H
              replace H := ifT H
              have c16b0 : decide (0 ≤ (ji15)) = true := decide_eq_true c16
              clear c16
              have c17 : (ji15) < (l1.length : Int) := ifN H
              replace H := ifT H
              have c17b0 : decide ((ji15) < (l1.length : Int)) = true := decide_eq_true c17
              clear c17
              obtain ⟨t473, A18, H⟩ := bindE H
              try dsimp only at H
              have H' := Aside0.mk H
              clear H
              try go_wp2
              have HBo := HB
              replace HB := Aside0.mk (below_drew1 HB.out)
              have p469 : 0 ≤ (x8_2 : Int) := dA
              have q469 : x8_2 < (l1.length : Int) := dA
              obtain ⟨ad469, A469_0, c469_0, e469, hx469_0, hx469_1, hl469_0, hi469_0⟩ := at_T51 HR1.out x8_2 p469 q469
              have hw469_1 := hx469_1
              have hw469_0 := hx469_0
              cases e469
              replace hx469_0 := hC HB hx469_0
              replace hx469_1 := hC HB hx469_1
              have HR469_0 := Aside0.mk hi469_0
              have HC469_0 := Aside0.mk hl469_0
              clear hi469_0 hl469_0
              replace p469 := eq_true p469
              replace q469 := eq_true q469
              have p471 : 0 ≤ (x8_2 : Int) := dA
              have q471 : x8_2 < (l1.length : Int) := dA
              obtain ⟨ad471, A471_0, c471_0, e471, hx471_0, hx471_1, hl471_0, hi471_0⟩ := at_T51 HR1.out x8_2 p471 q471
              have hw471_1 := hx471_1
              have hw471_0 := hx471_0
              obtain rfl : ad469 = ad471 := (by injection e471)
              replace hx471_0 := hC HB hx471_0
              replace hx471_1 := hC HB hx471_1
              have HR471_0 := Aside0.mk hi471_0
              have HC471_0 := Aside0.mk hl471_0
              clear hi471_0 hl471_0
              replace p471 := eq_true p471
              replace q471 := eq_true q471
              have ea_ := Option.some.inj (hx469_0.symm.trans hx471_0)
              injection ea_ with ea_ en_ ec_
              subst ea_
              subst ec_
              clear en_
              have p472 : 0 ≤ ((ji15) : Int) := dA
              have q472 : (ji15) < (l1.length : Int) := dA
              obtain ⟨ad472, A472_0, c472_0, e472, hx472_0, hx472_1, hl472_0, hi472_0⟩ := at_T51 HR1.out (ji15) p472 q472
              have hw472_1 := hx472_1
              have hw472_0 := hx472_0
              obtain rfl : ad469 = ad472 := (by injection e472)
              replace hx472_0 := hC HB hx472_0
              replace hx472_1 := hC HB hx472_1
              have HR472_0 := Aside0.mk hi472_0
              have HC472_0 := Aside0.mk hl472_0
              clear hi472_0 hl472_0
              replace p472 := eq_true p472
              replace q472 := eq_true q472
              refine start_ (n := 27) (S := fun w' => w'.cell? (ad469.add ((x8_2).toNat * 2)) = some (.slice A469_0 ((rd_T51 l1 x8_2).f0).length c469_0) ∧ w'.cell? ⟨(ad469.add ((x8_2).toNat * 2)).block, (ad469.add ((x8_2).toNat * 2)).off + 1, none⟩ = some (.int .i64 ((rd_T51 l1 x8_2).f1)) ∧ w'.cell? (ad469.add ((x8_2).toNat * 2)) = some (.slice A469_0 ((rd_T51 l1 x8_2).f0).length c469_0) ∧ w'.cell? ⟨(ad469.add ((x8_2).toNat * 2)).block, (ad469.add ((x8_2).toNat * 2)).off + 1, none⟩ = some (.int .i64 ((rd_T51 l1 x8_2).f1)) ∧ w'.cell? (ad469.add (((ji15)).toNat * 2)) = some (.slice A472_0 ((rd_T51 l1 (ji15)).f0).length c472_0) ∧ w'.cell? ⟨(ad469.add (((ji15)).toNat * 2)).block, (ad469.add (((ji15)).toNat * 2)).off + 1, none⟩ = some (.int .i64 ((rd_T51 l1 (ji15)).f1))) (ds := []) (mb 27 0) (by kernel_rfl) rfl rfl ⟨(hC HB hw469_0), (hC HB hw469_1), (hC HB hw471_0), (hC HB hw471_1), (hC HB hw472_0), (hC HB hw472_1)⟩ (fun hHeld => ?_); refine with_tabW spec_SpareGreen.tab7 spec_SpareGreen.bits7 (fun HT_ HW_ => ?_)
              generalize wr.drew = w19 at HB HR469_0 HR471_0 HR472_0 hx469_0 hx469_1 hx471_0 hx471_1 hx472_0 hx472_1 hHeld ⊢
              refine pA (i := 0) (N := some 25) (mb 27 1) HT_ ?_
              refine pA (i := 1) (N := some 26) (mb 27 3) HT_ ?_
              refine pA (i := 2) (N := some 27) (mb 27 7) HT_ ?_
              refine pA (i := 3) (N := some 28) (mb 27 15) HT_ ?_
              refine pA (i := 4) (N := some 29) (mb 27 31) HT_ ?_
              refine pA (i := 5) (N := some 30) (mb 27 63) HT_ ?_
              refine pA (i := 9) (N := some 34) (mb 27 575) HT_ ?_
              refine pA (i := 10) (N := some 35) (mb 27 1599) HT_ ?_
              refine pA (i := 11) (N := some 36) (mb 27 3647) HT_ ?_
              refine pA (i := 12) (N := some 37) (mb 27 7743) HT_ ?_
              refine pA (i := 13) (N := some 38) (mb 27 15935) HT_ ?_
              refine pA (i := 15) (N := some 40) (mb 27 48703) HT_ ?_
              refine pA (i := 16) (N := some 41) (mb 27 114239) HT_ ?_
              refine pA (i := 17) (N := some 42) (mb 27 245311) HT_ ?_
              refine pA (i := 18) (N := some 43) (mb 27 507455) HT_ ?_
              refine pA (i := 19) (N := some 44) (mb 27 1031743) HT_ ?_
              refine pA (i := 20) (N := some 45) (mb 27 2080319) HT_ ?_
              refine pA (i := 21) (N := some 46) (mb 27 4177471) HT_ ?_
              refine pA (i := 22) (N := some 47) (mb 27 8371775) HT_ ?_
              refine tA6 (i := 6) (N := some 31) (mb 27 8371839) HT_ HW_ hHeld ?_
              refine tA6 (i := 14) (N := some 39) (mb 27 8388223) HT_ HW_ hHeld ?_
              refine tA6 (i := 23) (N := some 48) (mb 27 16776831) HT_ HW_ hHeld ?_
              refine oA (i := 7) (N := some 32) (mb 27 16776959) HT_ (fun K hK => ?_)
              refine gA Try.func53 #[.slice A0 l0.length c0, .slice A469_0 ((rd_T51 l1 x8_2).f0).length c469_0] ?_
              with_reducible refine (spec_LeastGreen.calls k2 _ _ l0 _ _ ((rd_T51 l1 x8_2).f0) t470 _ ?side1 ?side2 ?side3 ?side4 A13.out).mono ?_
              (case side1 => exact cB HR0)
              (case side2 => exact HC0.out)
              (case side3 => exact cB HR469_0)
              (case side4 => exact HC469_0.out)
              rintro e w' ⟨rfl, ⟨nd, rfl⟩⟩
              refine ⟨_, rfl, ?_⟩
              refine hK.out _ _ ⟨(hC HB hw469_0), (hC HB hw469_1), (hC HB hw471_0), (hC HB hw471_1), (hC HB hw472_0), (hC HB hw472_1)⟩ (fun hHeld => ?_)
              clear hK K
              refine nA ?_
              refine pA (i := 8) (N := some 33) (mb 27 16777215) HT_ ?_
              refine oA (i := 24) (N := some 49) (mb 27 33554431) HT_ (fun K hK => ?_)
              refine goes_ Try.func66 (by kernel_rfl) rfl #[.slice A0 l0.length c0, .slice A469_0 ((rd_T51 l1 x8_2).f0).length c469_0, .slice A472_0 ((rd_T51 l1 (ji15)).f0).length c472_0] (by rfl) rfl rfl (by (try simp only [List.map_toArray, List.map_cons, List.map_nil]); first | done | (simp only [hji15]; rfl) | rfl | (simp only [List.length_drop, List.length_take]; rfl)) ?_
              with_reducible refine (spec_ClearBetween.calls k2 _ _ l0 _ _ ((rd_T51 l1 x8_2).f0) _ _ ((rd_T51 l1 (ji15)).f0) t473 _ ?side1 ?side2 ?side3 ?side4 ?side5 ?side6 A18.out).mono ?_
              (case side1 => exact cG HR0)
              (case side2 => exact HC0.out)
              (case side3 => exact cG HR471_0)
              (case side4 => exact HC471_0.out)
              (case side5 => exact cG HR472_0)
              (case side6 => exact HC472_0.out)
              rintro e w20 ⟨rfl, hb⟩
              refine ⟨_, rfl, ?_⟩
              replace HB := Aside0.mk (below_step bA hb)
              (try clear hb)
              (try clear hb2)
              (try clear hk)
              (try clear hi)
              refine hK.out _ _ ⟨(hC HB hw469_0), (hC HB hw469_1), (hC HB hw471_0), (hC HB hw471_1), (hC HB hw472_0), (hC HB hw472_1)⟩ (fun hHeld => ?_)
              clear hK K
              refine nA ?_
              refine pA (i := 25) (N := some 50) (mb 27 67108863) HT_ ?_
              refine pA (i := 26) (N := some 7) (mb 27 134217727) HT_ ?_
              refine eA HT_ ?_
              try go_wp2
              go_roundg k2
              case measure => have := HJ3.out; have := HK2.out; omega
              case rel => exact ⟨(wrap64 ((wrap64 (x7_2 - t470)) - t473)), (wrap64 (x8_2 + 1)), rS, rS, H', ⟨by have := HJ3.out; have := HK2.out; omega⟩, ⟨bA⟩⟩
            · rw [if_neg c11] at H
              have c11b0 : decide (x8_2 < (l1.length : Int)) = false := decide_eq_false c11
              clear c11
              obtain ⟨t474, A21, H⟩ := bindE H
              try dsimp only at H
              obtain rfl := Option.some.inj H
              go_wp2_with (first | ((with_reducible refine gate_callee (f := 67) rfl ?_); refine gL (some 52) Try.func67 #[.int .i64 (-1), .int .i64 x7_2] ?_; (with_reducible refine (spec_Max.calls (-1) x7_2 t474 _ A21.out).mono ?_); rintro e w' ⟨rfl, ⟨nd, rfl⟩⟩; refine ⟨_, rfl, ?_⟩))
              go_ret
              exact ⟨rA, bA⟩

end Go.Proofs.Ytbpnbflfpgakmaa.P
