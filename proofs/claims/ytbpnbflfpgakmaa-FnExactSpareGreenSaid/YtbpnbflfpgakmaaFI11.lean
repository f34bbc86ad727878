/- Printed by myprint.py (wip/tools) over the kit's print: what Go's functions compute, and that they do. Lean checks it. -/
import Derived.Test.YtbpnbflfpgakmaaF0
import Derived.Test.YtbpnbflfpgakmaaFI01
import Derived.Test.YtbpnbflfpgakmaaFI08
namespace Go.Proofs.Ytbpnbflfpgakmaa.P
open Go.RowKit Go.Proofs.YtbpnbflfpgakmaaW.PrintWords Go.Proofs.YtbpnbflfpgakmaaW.PrintLast Go.Proofs.YtbpnbflfpgakmaaW.PrintMore Go.Proofs.Ytbpnbflfpgakmaa.Sq
attribute [local go_sem] max2_int min2_int max_two min_two max_three min_three max_four min_four
set_option linter.unusedVariables false
set_option linter.unusedSimpArgs false

/-! ### impl_GreenShare: function 28 -/
def impl_GreenShare.f (k : Nat) (l0 : List (S58)) (l1 : List (S51)) (a2 : Int) : Option (Int) := (impl_IsPlan.f k l0 l1).bind fun t440 => (if t440 = true then (if a2 < 0 then (some 0) else (if a2 ≥ (l1.length : Int) then (some 0) else (if 0 ≤ a2 then (if a2 < (l1.length : Int) then ((impl_Cycle.f k l0 l1).bind fun t442 => (if t442 = 0 then (none) else (some (wrap64 (Int.tdiv (wrap64 (100 * ((rd_T51 l1 a2).f1))) t442))))) else (none)) else (none)))) else (some 0))
theorem impl_GreenShare.mono : ∀ a0 a1 a2 k, LeO (impl_GreenShare.f k a0 a1 a2) (impl_GreenShare.f (k + 1) a0 a1 a2) := by
  intro a0 a1 a2 k
  unfold impl_GreenShare.f
  repeat' first | (with_reducible first | exact LeO.refl _ | exact LeO.none _ | refine LeO.ite ?_ ?_ | refine LeO.bind ?_ (fun _ => ?_) | exact impl_Cycle.mono _ _ _ | exact impl_IsPlan.mono _ _ _) | exact LeO.none _ | refine LeO.ite ?_ ?_ | refine LeO.bind ?_ (fun _ => ?_) | exact impl_Cycle.mono _ _ _ | exact impl_IsPlan.mono _ _ _
def impl_GreenShare.T3 : Bool × List (List Nat × List Nat) := (true, [([], []), ([], []), ([0, 1], [0, 1]), ([2], [2]), ([3], [3]), ([4], [4]), ([], []), ([], []), ([6, 7], [6, 7]), ([5, 8], [5, 8]), ([9, 8, 0, 1, 2, 3, 4, 5, 6, 7, 8, 9], [9])])
def impl_GreenShare.B3 : List Nat := [0, 0, 3, 7, 15, 31, 0, 0, 192, 511, 1023]
theorem impl_GreenShare.tab3 : rtab .any (opsOf Try.f28 3) = impl_GreenShare.T3 := by kernel_rfl
theorem impl_GreenShare.bits3 : waitsOk impl_GreenShare.T3.2 impl_GreenShare.B3 = true := by kernel_rfl
set_option maxHeartbeats 8000000 in
set_option maxRecDepth 100000 in
theorem impl_GreenShare.calls (k : Nat) (A0 : Option Addr) (c0 : Nat) (l0 : List (S58)) (A1 : Option Addr) (c1 : Nat) (l1 : List (S51)) (a2 : Int) (r : Int) (w : World) (hr0 : Kd.C k58 w A0 l0.length l0) (hc0 : l0.length ≤ c0) (hr1 : Kd.C k51 w A1 l1.length l1) (hc1 : l1.length ≤ c1) (h : impl_GreenShare.f k l0 l1 a2 = some r) :
    Calls Try.prog 28 #[.slice A0 l0.length c0, .slice A1 l1.length c1, .int .i64 a2] w fun e w' => e = .returned (.int .i64 r) ∧ Below w.heap.size w w' := by
  have HR0 := Aside0.mk hr0
  have HC0 := Aside0.mk hc0
  clear hr0 hc0
  have HR1 := Aside0.mk hr1
  have HC1 := Aside0.mk hc1
  clear hr1 hc1
  have HB := Aside0.mk (Below.refl w.heap.size w)
  have H : ((impl_IsPlan.f k l0 l1).bind fun t440 => (if t440 = true then (if a2 < 0 then (some 0) else (if a2 ≥ (l1.length : Int) then (some 0) else (if 0 ≤ a2 then (if a2 < (l1.length : Int) then ((impl_Cycle.f k l0 l1).bind fun t442 => (if t442 = 0 then (none) else (some (wrap64 (Int.tdiv (wrap64 (100 * ((rd_T51 l1 a2).f1))) t442))))) else (none)) else (none)))) else (some 0))) = some r := h
  clear h
  obtain ⟨t440, A4, H⟩ := bindE H
  try dsimp only at H
  by_cases c5 : t440 = true
  · subst c5
    have H1 : (if a2 < 0 then (some 0) else (if a2 ≥ (l1.length : Int) then (some 0) else (if 0 ≤ a2 then (if a2 < (l1.length : Int) then ((impl_Cycle.f k l0 l1).bind fun t442 => (if t442 = 0 then (none) else (some (wrap64 (Int.tdiv (wrap64 (100 * ((rd_T51 l1 a2).f1))) t442))))) else (none)) else (none)))) = some r := by rw [if_pos rfl] at H; exact H
    clear H
    have H := H1
    clear H1
    by_cases c6 : a2 < 0
    · rw [if_pos c6] at H
      have c6b0 : decide (a2 < 0) = true := decide_eq_true c6
      clear c6
      obtain rfl := Option.some.inj H
      go_enter Try.func28, Try.ntmps28
      go_wp2_with (first | ((with_reducible refine gate_callee (f := 20) rfl ?_); refine gL (some 9) Try.func20 #[.slice A0 l0.length c0, .slice A1 l1.length c1] ?_; (with_reducible refine (impl_IsPlan.calls k _ _ l0 (fun k_ => k_ < w.heap.size) _ _ l1 true _ ?side1 ?side2 ?side3 A4.out).mono ?_); (case side1 => exact cO HR0); (case side2 => exact HC0.out); (case side3 => exact Kd.V_mk HC1.out (Kd.F_below (Kd.C_F k51_heap HR1.out) bA)); rintro e w7 ⟨rfl, hb⟩; refine ⟨_, rfl, ?_⟩; replace HB := Aside0.mk (below_step bA hb); (try clear hb); (try clear hb2); (try clear hk); (try clear hi)))
      go_ret
      exact ⟨rA, bA⟩
    · rw [if_neg c6] at H
      have c6b0 : decide (a2 < 0) = false := decide_eq_false c6
      clear c6
      by_cases c8 : a2 ≥ (l1.length : Int)
      · rw [if_pos c8] at H
        have c8b0 : decide ((l1.length : Int) ≤ a2) = true := decide_eq_true c8
        clear c8
        obtain rfl := Option.some.inj H
        go_enter Try.func28, Try.ntmps28
        go_wp2_with (first | ((with_reducible refine gate_callee (f := 20) rfl ?_); refine gL (some 9) Try.func20 #[.slice A0 l0.length c0, .slice A1 l1.length c1] ?_; (with_reducible refine (impl_IsPlan.calls k _ _ l0 (fun k_ => k_ < w.heap.size) _ _ l1 true _ ?side1 ?side2 ?side3 A4.out).mono ?_); (case side1 => exact cO HR0); (case side2 => exact HC0.out); (case side3 => exact Kd.V_mk HC1.out (Kd.F_below (Kd.C_F k51_heap HR1.out) bA)); rintro e w9 ⟨rfl, hb⟩; refine ⟨_, rfl, ?_⟩; replace HB := Aside0.mk (below_step bA hb); (try clear hb); (try clear hb2); (try clear hk); (try clear hi)))
        go_ret
        exact ⟨rA, bA⟩
      · rw [if_neg c8] at H
        have c8b0 : decide ((l1.length : Int) ≤ a2) = false := decide_eq_false c8
        clear c8
        have c10 : 0 ≤ a2 := ifN H
        replace H := ifT H
        have c10b0 : decide (0 ≤ a2) = true := decide_eq_true c10
        clear c10
        have c11 : a2 < (l1.length : Int) := ifN H
        replace H := ifT H
        have c11b0 : decide (a2 < (l1.length : Int)) = true := decide_eq_true c11
        clear c11
        obtain ⟨t442, A12, H⟩ := bindE H
        try dsimp only at H
        have c13 : ¬ (t442 = 0) := ifN' H
        replace H := ifT' H
        have c13b0 : (t442 == 0) = false := beq_eq_false_iff_ne.mpr c13
        have c13b1 : (t442 != 0) = true := bne_iff_ne.mpr c13
        obtain rfl := Option.some.inj H
        go_enter Try.func28, Try.ntmps28
        try go_wp2_with (first | ((with_reducible refine gate_callee (f := 20) rfl ?_); refine gL (some 9) Try.func20 #[.slice A0 l0.length c0, .slice A1 l1.length c1] ?_; (with_reducible refine (impl_IsPlan.calls k _ _ l0 (fun k_ => k_ < w.heap.size) _ _ l1 true _ ?side1 ?side2 ?side3 A4.out).mono ?_); (case side1 => exact cO HR0); (case side2 => exact HC0.out); (case side3 => exact Kd.V_mk HC1.out (Kd.F_below (Kd.C_F k51_heap HR1.out) bA)); rintro e w14 ⟨rfl, hb⟩; refine ⟨_, rfl, ?_⟩; replace HB := Aside0.mk (below_step bA hb); (try clear hb); (try clear hb2); (try clear hk); (try clear hi)))
        have HBo := HB
        replace HB := Aside0.mk (below_drew1 HB.out)
        have p441 : 0 ≤ (a2 : Int) := dA
        have q441 : a2 < (l1.length : Int) := dA
        obtain ⟨ad441, A441_0, c441_0, e441, hx441_0, hx441_1, hl441_0, hi441_0⟩ := at_T51 HR1.out a2 p441 q441
        have hw441_1 := hx441_1
        have hw441_0 := hx441_0
        cases e441
        replace hx441_0 := hC HB hx441_0
        replace hx441_1 := hC HB hx441_1
        have HR441_0 := Aside0.mk hi441_0
        have HC441_0 := Aside0.mk hl441_0
        clear hi441_0 hl441_0
        replace p441 := eq_true p441
        replace q441 := eq_true q441
        refine start_ (n := 11) (S := fun w' => w'.cell? (ad441.add ((a2).toNat * 2)) = some (.slice A441_0 ((rd_T51 l1 a2).f0).length c441_0) ∧ w'.cell? ⟨(ad441.add ((a2).toNat * 2)).block, (ad441.add ((a2).toNat * 2)).off + 1, none⟩ = some (.int .i64 ((rd_T51 l1 a2).f1))) (ds := []) (mb 11 0) (by kernel_rfl) rfl rfl ⟨(hC HB hw441_0), (hC HB hw441_1)⟩ (fun hHeld => ?_); refine with_tabW impl_GreenShare.tab3 impl_GreenShare.bits3 (fun HT_ HW_ => ?_)
        generalize w14.drew = w15 at HB HR441_0 hx441_0 hx441_1 hHeld ⊢
        refine pA (i := 0) (N := some 21) (mb 11 1) HT_ ?_
        refine pA (i := 1) (N := some 22) (mb 11 3) HT_ ?_
        refine pA (i := 2) (N := some 23) (mb 11 7) HT_ ?_
        refine pA (i := 3) (N := some 24) (mb 11 15) HT_ ?_
        refine pA (i := 6) (N := some 27) (mb 11 79) HT_ ?_
        refine pA (i := 7) (N := some 28) (mb 11 207) HT_ ?_
        refine tA2 (i := 4) (N := some 25) (mb 11 223) HT_ HW_ hHeld ?_
        refine pA (i := 5) (N := some 26) (mb 11 255) HT_ ?_
        refine oA (i := 8) (N := some 29) (mb 11 511) HT_ (fun K hK => ?_)
        refine gA Try.func24 #[.slice A0 l0.length c0, .slice (some ad441) l1.length c1] ?_
        with_reducible refine (impl_Cycle.calls k _ _ l0 _ _ l1 t442 _ ?side1 ?side2 ?side3 ?side4 A12.out).mono ?_
        (case side1 => exact cB HR0)
        (case side2 => exact HC0.out)
        (case side3 => exact cB HR1)
        (case side4 => exact HC1.out)
        rintro e w16 ⟨rfl, hb⟩
        refine ⟨_, rfl, ?_⟩
        replace HB := Aside0.mk (below_step bA hb)
        (try clear hb)
        (try clear hb2)
        (try clear hk)
        (try clear hi)
        refine hK.out _ _ ⟨(hC HB hw441_0), (hC HB hw441_1)⟩ (fun hHeld => ?_)
        clear hK K
        refine nA ?_
        refine pA (i := 9) (N := some 30) (mb 11 1023) HT_ ?_
        refine pA (i := 10) (N := some 6) (mb 11 2047) HT_ ?_
        refine eA HT_ ?_
        try go_wp2
        go_ret
        exact ⟨rA, bA⟩
  · replace c5 := Bool.eq_false_iff.mpr c5
    subst c5
    have H1 : (some 0) = some r := by rw [if_neg (show ¬ (false = true) by decide)] at H; exact H
    clear H
    have H := H1
    clear H1
    obtain rfl := Option.some.inj H
    go_enter Try.func28, Try.ntmps28
    go_wp2_with (first | ((with_reducible refine gate_callee (f := 20) rfl ?_); refine gL (some 9) Try.func20 #[.slice A0 l0.length c0, .slice A1 l1.length c1] ?_; (with_reducible refine (impl_IsPlan.calls k _ _ l0 (fun k_ => k_ < w.heap.size) _ _ l1 false _ ?side1 ?side2 ?side3 A4.out).mono ?_); (case side1 => exact cO HR0); (case side2 => exact HC0.out); (case side3 => exact Kd.V_mk HC1.out (Kd.F_below (Kd.C_F k51_heap HR1.out) bA)); rintro e w17 ⟨rfl, hb⟩; refine ⟨_, rfl, ?_⟩; replace HB := Aside0.mk (below_step bA hb); (try clear hb); (try clear hb2); (try clear hk); (try clear hi)))
    go_ret
    exact ⟨rA, bA⟩

/-! ### impl_SpareGreen: function 30 -/
mutual
def impl_SpareGreen.j0 : Nat → List (S58) → List (S51) → Int → Bool → Option (Int)
  | 0, _, _, _, _ => none
  | k + 1, x0, x1, x2, x18 => if x18 = true then (some (-1)) else (impl_SpareGreen.l0 k x0 x1 x2 x1 (x1.length : Int) 0)
def impl_SpareGreen.l0 : Nat → List (S58) → List (S51) → Int → List (S51) → Int → Int → Option (Int)
  | 0, _, _, _, _, _, _ => none
  | k + 1, x0, x1, x7, x20, x21, x22 => if x22 < x21 then (if 0 ≤ x22 then (if x22 < (x20.length : Int) then ((impl_longOf.f k x0 x1 x22).bind fun t479 => ((impl_LeastGreen.f k x0 ((rd_T51 x20 x22).f0)).bind fun t480 => (impl_SpareGreen.l0 k x0 x1 (wrap64 (x7 - (wrap64 ((wrap64 (t479 - ((rd_T51 x20 x22).f1))) + t480)))) x20 x21 (wrap64 (x22 + 1))))) else (none)) else (none)) else (some (mx x7 (-1)))
end
def impl_SpareGreen.f (k : Nat) (l0 : List (S58)) (l1 : List (S51)) (a2 : Int) : Option (Int) := (impl_IsPlan.f k l0 l1).bind fun t475 => (if t475 = true then ((impl_InRange.f a2 1 1000).bind fun t476 => (impl_SpareGreen.j0 k l0 l1 a2 (!t476))) else (impl_SpareGreen.j0 k l0 l1 a2 true))
theorem impl_SpareGreen.mono_l : ∀ k, (∀ y0 y1 y2 y3, LeO (impl_SpareGreen.j0 k y0 y1 y2 y3) (impl_SpareGreen.j0 (k + 1) y0 y1 y2 y3)) ∧ (∀ y0 y1 y2 y3 y4 y5, LeO (impl_SpareGreen.l0 k y0 y1 y2 y3 y4 y5) (impl_SpareGreen.l0 (k + 1) y0 y1 y2 y3 y4 y5))
  | 0 => ⟨fun _ _ _ _ r h => by simp [impl_SpareGreen.j0] at h, fun _ _ _ _ _ _ r h => by simp [impl_SpareGreen.l0] at h⟩
  | k + 1 => by
    obtain ⟨ih0, ih1⟩ := impl_SpareGreen.mono_l k
    refine ⟨?_, ?_⟩
    · intro y0 y1 y2 y3
      unfold impl_SpareGreen.j0
      repeat' first | (with_reducible first | exact LeO.refl _ | exact LeO.none _ | refine LeO.ite ?_ ?_ | refine LeO.bind ?_ (fun _ => ?_) | exact ih0 _ _ _ _ | exact ih1 _ _ _ _ _ _ | exact impl_IsPlan.mono _ _ _ | exact impl_LeastGreen.mono _ _ _ | exact impl_longOf.mono _ _ _ _) | exact LeO.none _ | refine LeO.ite ?_ ?_ | refine LeO.bind ?_ (fun _ => ?_) | exact ih0 _ _ _ _ | exact ih1 _ _ _ _ _ _ | exact impl_IsPlan.mono _ _ _ | exact impl_LeastGreen.mono _ _ _ | exact impl_longOf.mono _ _ _ _
    · intro y0 y1 y2 y3 y4 y5
      unfold impl_SpareGreen.l0
      repeat' first | (with_reducible first | exact LeO.refl _ | exact LeO.none _ | refine LeO.ite ?_ ?_ | refine LeO.bind ?_ (fun _ => ?_) | exact ih0 _ _ _ _ | exact ih1 _ _ _ _ _ _ | exact impl_IsPlan.mono _ _ _ | exact impl_LeastGreen.mono _ _ _ | exact impl_longOf.mono _ _ _ _) | exact LeO.none _ | refine LeO.ite ?_ ?_ | refine LeO.bind ?_ (fun _ => ?_) | exact ih0 _ _ _ _ | exact ih1 _ _ _ _ _ _ | exact impl_IsPlan.mono _ _ _ | exact impl_LeastGreen.mono _ _ _ | exact impl_longOf.mono _ _ _ _
theorem impl_SpareGreen.mono : ∀ a0 a1 a2 k, LeO (impl_SpareGreen.f k a0 a1 a2) (impl_SpareGreen.f (k + 1) a0 a1 a2) := by
  intro a0 a1 a2 k
  obtain ⟨ih0, ih1⟩ := impl_SpareGreen.mono_l k
  unfold impl_SpareGreen.f
  repeat' first | (with_reducible first | exact LeO.refl _ | exact LeO.none _ | refine LeO.ite ?_ ?_ | refine LeO.bind ?_ (fun _ => ?_) | exact ih0 _ _ _ _ | exact ih1 _ _ _ _ _ _ | exact impl_IsPlan.mono _ _ _ | exact impl_LeastGreen.mono _ _ _ | exact impl_longOf.mono _ _ _ _) | exact LeO.none _ | refine LeO.ite ?_ ?_ | refine LeO.bind ?_ (fun _ => ?_) | exact ih0 _ _ _ _ | exact ih1 _ _ _ _ _ _ | exact impl_IsPlan.mono _ _ _ | exact impl_LeastGreen.mono _ _ _ | exact impl_longOf.mono _ _ _ _
def impl_SpareGreen.T7 : Bool × List (List Nat × List Nat) := (true, [([], []), ([], []), ([], []), ([], []), ([1, 2, 3], [1, 2, 3]), ([], []), ([5], [5]), ([4, 6], [4, 6]), ([], []), ([], []), ([9], [9]), ([8, 10, 4], [8, 10]), ([7, 11], [7, 11]), ([0, 12], [0, 12]), ([13, 11, 0, 1, 2, 3, 4, 5, 6, 7, 8, 9, 10, 11, 12, 13], [0, 13])])
def impl_SpareGreen.B7 : List Nat := [0, 0, 0, 0, 14, 0, 32, 126, 0, 0, 512, 1822, 4094, 8191, 16383]
theorem impl_SpareGreen.tab7 : rtab .any (opsOf Try.f30 7) = impl_SpareGreen.T7 := by kernel_rfl
theorem impl_SpareGreen.bits7 : waitsOk impl_SpareGreen.T7.2 impl_SpareGreen.B7 = true := by kernel_rfl
set_option maxHeartbeats 8000000 in
set_option maxRecDepth 100000 in
theorem impl_SpareGreen.calls (k : Nat) (A0 : Option Addr) (c0 : Nat) (l0 : List (S58)) (A1 : Option Addr) (c1 : Nat) (l1 : List (S51)) (a2 : Int) (r : Int) (w : World) (hr0 : Kd.C k58 w A0 l0.length l0) (hc0 : l0.length ≤ c0) (hr1 : Kd.C k51 w A1 l1.length l1) (hc1 : l1.length ≤ c1) (h : impl_SpareGreen.f k l0 l1 a2 = some r) :
    Calls Try.prog 30 #[.slice A0 l0.length c0, .slice A1 l1.length c1, .int .i64 a2] w fun e w' => e = .returned (.int .i64 r) ∧ Below w.heap.size w w' := by
  have hu51 := Try.underlying51
  have HR0 := Aside0.mk hr0
  have HC0 := Aside0.mk hc0
  clear hr0 hc0
  have HR1 := Aside0.mk hr1
  have HC1 := Aside0.mk hc1
  clear hr1 hc1
  have HB := Aside0.mk (Below.refl w.heap.size w)
  have H : ((impl_IsPlan.f k l0 l1).bind fun t475 => (if t475 = true then ((impl_InRange.f a2 1 1000).bind fun t476 => (impl_SpareGreen.j0 k l0 l1 a2 (!t476))) else (impl_SpareGreen.j0 k l0 l1 a2 true))) = some r := h
  clear h
  have HC4 := Aside0.mk H
  clear H
  go_enter Try.func30, Try.ntmps30
  go_upto_region 1 with (fail)
  go_cut [18] (fun v18 wc => ∃ (kq : Nat) (x18_3 : Bool), v18 = .bool x18_3 ∧ Aside0 (impl_SpareGreen.j0 kq l0 l1 a2 x18_3 = some r) ∧ Aside0 (kq ≤ k) ∧ Aside0 (Below w.heap.size w wc))
  case first =>
    have H := HC4.out
    clear HC4
    obtain ⟨t475, A5, H⟩ := bindE H
    try dsimp only at H
    by_cases c6 : t475 = true
    · subst c6
      have H1 : ((impl_InRange.f a2 1 1000).bind fun t476 => (impl_SpareGreen.j0 k l0 l1 a2 (!t476))) = some r := by rw [if_pos rfl] at H; exact H
      clear H
      have H := H1
      clear H1
      obtain ⟨t476, A7, H⟩ := bindE H
      try dsimp only at H
      have H' := Aside0.mk H
      clear H
      go_wp2_with (first | ((with_reducible refine gate_callee (f := 20) rfl ?_); refine gL (some 12) Try.func20 #[.slice A0 l0.length c0, .slice A1 l1.length c1] ?_; (with_reducible refine (impl_IsPlan.calls k _ _ l0 (fun k_ => k_ < w.heap.size) _ _ l1 true _ ?side1 ?side2 ?side3 A5.out).mono ?_); (case side1 => exact cB HR0); (case side2 => exact HC0.out); (case side3 => exact Kd.V_mk HC1.out (Kd.F_below (Kd.C_F k51_heap HR1.out) bA)); rintro e w8 ⟨rfl, hb⟩; refine ⟨_, rfl, ?_⟩; replace HB := Aside0.mk (below_step bA hb); (try clear hb); (try clear hb2); (try clear hk); (try clear hi)) | (go_at_call 58; (with_reducible refine (impl_InRange.calls a2 1 1000 t476 _ A7.out).mono ?_); rintro e w' ⟨rfl, ⟨nd, rfl⟩⟩))
      go_meet
      case rel => exact ⟨_, (!t476), rS, H', ⟨by first | omega | exact Nat.le_refl _⟩, ⟨bA⟩⟩
    · replace c6 := Bool.eq_false_iff.mpr c6
      subst c6
      have H1 : (impl_SpareGreen.j0 k l0 l1 a2 true) = some r := by rw [if_neg (show ¬ (false = true) by decide)] at H; exact H
      clear H
      have H := H1
      clear H1
      have H' := Aside0.mk H
      clear H
      go_wp2_with (first | ((with_reducible refine gate_callee (f := 20) rfl ?_); refine gL (some 12) Try.func20 #[.slice A0 l0.length c0, .slice A1 l1.length c1] ?_; (with_reducible refine (impl_IsPlan.calls k _ _ l0 (fun k_ => k_ < w.heap.size) _ _ l1 false _ ?side1 ?side2 ?side3 A5.out).mono ?_); (case side1 => exact cB HR0); (case side2 => exact HC0.out); (case side3 => exact Kd.V_mk HC1.out (Kd.F_below (Kd.C_F k51_heap HR1.out) bA)); rintro e w9 ⟨rfl, hb⟩; refine ⟨_, rfl, ?_⟩; replace HB := Aside0.mk (below_step bA hb); (try clear hb); (try clear hb2); (try clear hk); (try clear hi)))
      go_meet
      case rel => exact ⟨_, (true), rS, H', ⟨by first | omega | exact Nat.le_refl _⟩, ⟨bA⟩⟩
  case rest =>
    clear HC4
    try clear c1
    try clear c2
    try clear p2
    try clear c3
    try clear c6
    obtain ⟨kq, x18_3, rfl, HA, HJ3, HB⟩ := hcut
    cases kq with
    | zero => exact absurd HA.out (by simp [impl_SpareGreen.j0])
    | succ kj3 =>
      have H := HA.out
      clear HA
      simp only [impl_SpareGreen.j0] at H
      by_cases c10 : x18_3 = true
      · subst c10
        have H1 : (some (-1)) = some r := by rw [if_pos rfl] at H; exact H
        clear H
        have H := H1
        clear H1
        obtain rfl := Option.some.inj H
        go_wp2
        go_ret
        exact ⟨rA, bA⟩
      · replace c10 := Bool.eq_false_iff.mpr c10
        subst c10
        have H1 : (impl_SpareGreen.l0 kj3 l0 l1 a2 l1 (l1.length : Int) 0) = some r := by rw [if_neg (show ¬ (false = true) by decide)] at H; exact H
        clear H
        have H := H1
        clear H1
        have H' := Aside0.mk H
        clear H
        go_wp2
        go_loopg [7, 22] kj3 (fun kq v7 v22 w' => ∃ (x7_2 : Int) (x22_2 : Int), v7 = .int .i64 x7_2 ∧ v22 = .int .i64 x22_2 ∧ Aside0 (impl_SpareGreen.l0 kq l0 l1 x7_2 l1 (l1.length : Int) x22_2 = some r) ∧ Aside0 (kq ≤ kj3) ∧ Aside0 (Below w.heap.size w w'))
        case atStart => exact ⟨(a2), (0), rS, rS, H', ⟨Nat.le_refl _⟩, ⟨bA⟩⟩
        case round =>
          clear H'
          try clear c1
          try clear c2
          try clear p2
          try clear c3
          try clear c6
          try clear c10
          try clear p2
          obtain ⟨x7_2, x22_2, rfl, rfl, HA, HK2, HB⟩ := hrel
          cases gk with
          | zero => exact absurd HA.out (by simp [impl_SpareGreen.l0])
          | succ k2 =>
            have H := HA.out
            clear HA
            simp only [impl_SpareGreen.l0] at H
            by_cases c11 : x22_2 < (l1.length : Int)
            · rw [if_pos c11] at H
              have c11b0 : decide (x22_2 < (l1.length : Int)) = true := decide_eq_true c11
              clear c11
              have c12 : 0 ≤ x22_2 := ifN H
              replace H := ifT H
              have c12b0 : decide (0 ≤ x22_2) = true := decide_eq_true c12
              clear c12
              have c13 : x22_2 < (l1.length : Int) := ifN H
              replace H := ifT H
              have c13b0 : decide (x22_2 < (l1.length : Int)) = true := decide_eq_true c13
              clear c13
              obtain ⟨t479, A14, H⟩ := bindE H
              try dsimp only at H
              obtain ⟨t480, A15, H⟩ := bindE H
              try dsimp only at H
              have H' := Aside0.mk H
              clear H
              have p477 : 0 ≤ (x22_2 : Int) := dA
              have q477 : x22_2 < (l1.length : Int) := dA
              obtain ⟨ad477, A477_0, c477_0, e477, hx477_0, hx477_1, hl477_0, hi477_0⟩ := at_T51 HR1.out x22_2 p477 q477
              cases e477
              replace hx477_0 := hC HB hx477_0
              replace hx477_1 := hC HB hx477_1
              have HR477_0 := Aside0.mk hi477_0
              have HC477_0 := Aside0.mk hl477_0
              clear hi477_0 hl477_0
              replace p477 := eq_true p477
              replace q477 := eq_true q477
              try go_wp2_with (first | ((with_reducible refine gate_dst (N := 9) rfl ?_); refine bE (N := 9) (cs := #[.slice none 0 0, .int .i64 0]) (t := 51) ?_; intro gb478 hg w16 hbox hb; have n0_ := Aside0.mk (below_step bA hb); have n1_ := Aside0.mk (hbox); have n2_ := Aside0.mk ((by rw [hg]; exact (below_size bA) : w.heap.size ≤ gb478)); have n3_ := Aside0.mk ((by rw [hg]; exact (below_size bA) : w.heap.size ≤ gb478)); clear HB; have HB := n0_; have BK478 := n1_; have GW478 := n2_; have GE478 := n3_; clear n0_ n1_ n2_ n3_; clear hb hbox hg; obtain ⟨hcz17_0, hcz17_1, hfz17_0, hfz17_1⟩ := blkc2 BK478))
              have n0_ : Aside0 (((w16.setCell ⟨gb478, 0, none⟩ (.slice A477_0 ((rd_T51 l1 x22_2).f0).length c477_0)).setCell ⟨gb478, 1, none⟩ (.int .i64 ((rd_T51 l1 x22_2).f1))).heap[gb478]? = some (.cells #[.slice A477_0 ((rd_T51 l1 x22_2).f0).length c477_0, .int .i64 ((rd_T51 l1 x22_2).f1)] 51 (0, 0))) := ⟨by (with_reducible repeat (first | refine blk_drewN ?_ _ | refine blk_drew ?_ | refine blk_alloc ?_ _)); refine blk_put (cs := #[.slice A477_0 ((rd_T51 l1 x22_2).f0).length c477_0, .int .i64 0]) ?_ 1 _ rfl; (with_reducible repeat (first | refine blk_drewN ?_ _ | refine blk_drew ?_ | refine blk_alloc ?_ _)); refine blk_put (cs := #[.slice none 0 0, .int .i64 0]) ?_ 0 _ rfl; (with_reducible repeat (first | refine blk_drewN ?_ _ | refine blk_drew ?_ | refine blk_alloc ?_ _)); exact BK478.out⟩
              have n1_ : Aside0 (Below w.heap.size w ((w16.setCell ⟨gb478, 0, none⟩ (.slice A477_0 ((rd_T51 l1 x22_2).f0).length c477_0)).setCell ⟨gb478, 1, none⟩ (.int .i64 ((rd_T51 l1 x22_2).f1)))) := ⟨bG⟩
              (try clear BK478)
              (try clear HB)
              generalize ((w16.setCell ⟨gb478, 0, none⟩ (.slice A477_0 ((rd_T51 l1 x22_2).f0).length c477_0)).setCell ⟨gb478, 1, none⟩ (.int .i64 ((rd_T51 l1 x22_2).f1))) = w18 at n0_ n1_ ⊢
              have BK478 := n0_
              have HB := n1_
              clear n0_ n1_
              replace BK478 := Aside0.mk (blk_drew BK478.out)
              have HBo := HB
              replace HB := Aside0.mk (below_drew1 HB.out)
              refine start_ (n := 15) (S := fun w' => w'.cell? ⟨gb478, 0, none⟩ = some (.slice A477_0 ((rd_T51 l1 x22_2).f0).length c477_0) ∧ w'.cell? ⟨gb478, 1, none⟩ = some (.int .i64 ((rd_T51 l1 x22_2).f1))) (ds := []) (mb 15 0) (by kernel_rfl) rfl rfl ⟨(blk_cell BK478.out 0).trans rfl, (blk_cell BK478.out 1).trans rfl⟩ (fun hHeld => ?_); refine with_tabW impl_SpareGreen.tab7 impl_SpareGreen.bits7 (fun HT_ HW_ => ?_)
              generalize w18.drew = w19 at BK478 HB hHeld ⊢
              refine pA (i := 0) (N := some 27) (mb 15 1) HT_ ?_
              refine pA (i := 1) (N := some 28) (mb 15 3) HT_ ?_
              refine pA (i := 2) (N := some 29) (mb 15 7) HT_ ?_
              refine pA (i := 3) (N := some 30) (mb 15 15) HT_ ?_
              refine pA (i := 5) (N := some 32) (mb 15 47) HT_ ?_
              refine pA (i := 8) (N := some 35) (mb 15 303) HT_ ?_
              refine pA (i := 9) (N := some 36) (mb 15 815) HT_ ?_
              refine tA2 (i := 6) (N := some 33) (mb 15 879) HT_ HW_ hHeld ?_
              refine tA2 (i := 10) (N := some 37) (mb 15 1903) HT_ HW_ hHeld ?_
              refine oA (i := 4) (N := some 31) (mb 15 1919) HT_ (fun K hK => ?_)
              refine gA Try.func65 #[.slice A0 l0.length c0, .slice (some ad477) l1.length c1, .int .i64 x22_2] ?_
              with_reducible refine (impl_longOf.calls k2 _ _ l0 _ _ l1 x22_2 t479 _ ?side1 ?side2 ?side3 ?side4 A14.out).mono ?_
              (case side1 => exact cB HR0)
              (case side2 => exact HC0.out)
              (case side3 => exact cB HR1)
              (case side4 => exact HC1.out)
              rintro e w20 ⟨rfl, hb⟩
              refine ⟨_, rfl, ?_⟩
              replace BK478 := Aside0.mk (blk_below (g := gb478) (bK BK478) hb)
              replace HB := Aside0.mk (below_step bG hb)
              (try clear hb)
              (try clear hb2)
              (try clear hk)
              (try clear hi)
              refine hK.out _ _ ⟨(blk_cell BK478.out 0).trans rfl, (blk_cell BK478.out 1).trans rfl⟩ (fun hHeld => ?_)
              clear hK K
              refine nA ?_
              refine pA (i := 7) (N := some 34) (mb 15 2047) HT_ ?_
              refine oA (i := 11) (N := some 38) (mb 15 4095) HT_ (fun K hK => ?_)
              refine gA Try.func60 #[.slice A0 l0.length c0, .slice A477_0 ((rd_T51 l1 x22_2).f0).length c477_0] ?_
              with_reducible refine (impl_LeastGreen.calls k2 _ _ l0 _ _ ((rd_T51 l1 x22_2).f0) t480 _ ?side1 ?side2 ?side3 ?side4 A15.out).mono ?_
              (case side1 => exact cB HR0)
              (case side2 => exact HC0.out)
              (case side3 => exact cB HR477_0)
              (case side4 => exact HC477_0.out)
              rintro e w21 ⟨rfl, hb⟩
              refine ⟨_, rfl, ?_⟩
              replace BK478 := Aside0.mk (blk_below (g := gb478) (bK BK478) hb)
              replace HB := Aside0.mk (below_step bG hb)
              (try clear hb)
              (try clear hb2)
              (try clear hk)
              (try clear hi)
              refine hK.out _ _ ⟨(blk_cell BK478.out 0).trans rfl, (blk_cell BK478.out 1).trans rfl⟩ (fun hHeld => ?_)
              clear hK K
              refine nA ?_
              refine pA (i := 12) (N := some 39) (mb 15 8191) HT_ ?_
              refine pA (i := 13) (N := some 40) (mb 15 16383) HT_ ?_
              refine pA (i := 14) (N := some 7) (mb 15 32767) HT_ ?_
              refine eA HT_ ?_
              try go_wp2
              go_roundg k2
              case measure => have := HJ3.out; have := HK2.out; omega
              case rel => exact ⟨(wrap64 (x7_2 - (wrap64 ((wrap64 (t479 - ((rd_T51 l1 x22_2).f1))) + t480)))), (wrap64 (x22_2 + 1)), rS, rS, H', ⟨by have := HJ3.out; have := HK2.out; omega⟩, ⟨bG⟩⟩
            · rw [if_neg c11] at H
              have c11b0 : decide (x22_2 < (l1.length : Int)) = false := decide_eq_false c11
              clear c11
              obtain ⟨ji22, hji22⟩ : ∃ j_ : Int, (mx x7_2 (-1)) = j_ := ⟨_, rfl⟩
              replace H : (some ji22) = some r := by first | (rw [hji22] at H; exact H) | (simp only [hji22] at H ⊢; exact H)
              have hji22_ : (if x7_2 < (-1) then (-1) else x7_2) = ji22 := hji22
              obtain rfl := Option.some.inj H
              go_wp2
              go_ret
              exact ⟨by first | rfl | (simp [errW_none, errW_some] <;> rfl) | (simp only [← hji22]; first | rfl | (simp [errW_none, errW_some] <;> rfl)) | (simp [*, errW_none, errW_some] <;> rfl), bA⟩

end Go.Proofs.Ytbpnbflfpgakmaa.P
