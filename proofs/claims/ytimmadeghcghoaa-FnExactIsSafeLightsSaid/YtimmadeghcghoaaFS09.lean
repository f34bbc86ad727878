/- Printed by myprint.py (wip/tools) over the kit's print: what Go's functions compute, and that they do. Lean checks it. -/
import Derived.Test.YtimmadeghcghoaaF0
import Derived.Test.YtimmadeghcghoaaFS01
import Derived.Test.YtimmadeghcghoaaFS05
namespace Go.Proofs.Ytimmadeghcghoaa.P
open Go.RowKit Go.Proofs.YtimmadeghcghoaaW.PrintWords Go.Proofs.YtimmadeghcghoaaW.PrintLast Go.Proofs.YtimmadeghcghoaaW.PrintMore Go.Proofs.Ytimmadeghcghoaa.Sq
attribute [local go_sem] max2_int min2_int max_two min_two max_three min_three max_four min_four
set_option linter.unusedVariables false
set_option linter.unusedSimpArgs false

/-! ### spec_IsSafeLights: function 48 -/
mutual
def spec_IsSafeLights.j0 : Nat → List (S90) → List Int → Bool → Option (Bool)
  | 0, _, _, _ => none
  | k + 1, x0, x1, x16 => if x16 = true then (some false) else (spec_IsSafeLights.l0 k x0 x1 0)
def spec_IsSafeLights.l0 : Nat → List (S90) → List Int → Int → Option (Bool)
  | 0, _, _, _ => none
  | k + 1, x0, x1, x5 => if x5 < (x0.length : Int) then (if 0 ≤ x5 then (if x5 < (x1.length : Int) then ((spec_l1In.f (rd x1 x5) 0 2).bind fun t514 => (if t514 = true then (spec_IsSafeLights.l1 k x0 x1 x5 0) else (some false))) else (none)) else (none)) else (some true)
def spec_IsSafeLights.l1 : Nat → List (S90) → List Int → Int → Int → Option (Bool)
  | 0, _, _, _, _ => none
  | k + 1, x0, x1, x5, x6 => if x6 < x5 then (if 0 ≤ x5 then (if x5 < (x1.length : Int) then (if (rd x1 x5) = 0 then (spec_IsSafeLights.l1 k x0 x1 x5 (wrap64 (x6 + 1))) else (if 0 ≤ x6 then (if x6 < (x1.length : Int) then (if (rd x1 x6) = 0 then (spec_IsSafeLights.l1 k x0 x1 x5 (wrap64 (x6 + 1))) else (if x5 < (x0.length : Int) then (if x6 < (x0.length : Int) then ((spec_Conflict.f k ((rd_T90 x0 x5).f0) ((rd_T90 x0 x5).f1) ((rd_T90 x0 x5).f2) ((rd_T90 x0 x5).f3) ((rd_T90 x0 x6).f0) ((rd_T90 x0 x6).f1) ((rd_T90 x0 x6).f2) ((rd_T90 x0 x6).f3)).bind fun t519 => (if t519 = true then (some false) else (spec_IsSafeLights.l1 k x0 x1 x5 (wrap64 (x6 + 1))))) else (none)) else (none))) else (none)) else (none))) else (none)) else (none)) else (spec_IsSafeLights.l0 k x0 x1 (wrap64 (x5 + 1)))
end
def spec_IsSafeLights.f (k : Nat) (l0 : List (S90)) (l1 : List Int) : Option (Bool) := (spec_ArePaths.f k l0).bind fun t512 => (if t512 = true then (spec_IsSafeLights.j0 k l0 l1 ((l1.length : Int) != (l0.length : Int))) else (spec_IsSafeLights.j0 k l0 l1 true))
theorem spec_IsSafeLights.mono_l : ∀ k, (∀ y0 y1 y2, LeO (spec_IsSafeLights.j0 k y0 y1 y2) (spec_IsSafeLights.j0 (k + 1) y0 y1 y2)) ∧ (∀ y0 y1 y2, LeO (spec_IsSafeLights.l0 k y0 y1 y2) (spec_IsSafeLights.l0 (k + 1) y0 y1 y2)) ∧ (∀ y0 y1 y2 y3, LeO (spec_IsSafeLights.l1 k y0 y1 y2 y3) (spec_IsSafeLights.l1 (k + 1) y0 y1 y2 y3))
  | 0 => ⟨fun _ _ _ r h => by simp [spec_IsSafeLights.j0] at h, fun _ _ _ r h => by simp [spec_IsSafeLights.l0] at h, fun _ _ _ _ r h => by simp [spec_IsSafeLights.l1] at h⟩
  | k + 1 => by
    obtain ⟨ih0, ih1, ih2⟩ := spec_IsSafeLights.mono_l k
    refine ⟨?_, ?_, ?_⟩
    · intro y0 y1 y2
      unfold spec_IsSafeLights.j0
      repeat' first | (with_reducible first | exact LeO.refl _ | exact LeO.none _ | refine LeO.ite ?_ ?_ | refine LeO.bind ?_ (fun _ => ?_) | exact ih0 _ _ _ | exact ih1 _ _ _ | exact ih2 _ _ _ _ | exact spec_ArePaths.mono _ _ | exact spec_Conflict.mono _ _ _ _ _ _ _ _ _) | exact LeO.none _ | refine LeO.ite ?_ ?_ | refine LeO.bind ?_ (fun _ => ?_) | exact ih0 _ _ _ | exact ih1 _ _ _ | exact ih2 _ _ _ _ | exact spec_ArePaths.mono _ _ | exact spec_Conflict.mono _ _ _ _ _ _ _ _ _
    · intro y0 y1 y2
      unfold spec_IsSafeLights.l0
      repeat' first | (with_reducible first | exact LeO.refl _ | exact LeO.none _ | refine LeO.ite ?_ ?_ | refine LeO.bind ?_ (fun _ => ?_) | exact ih0 _ _ _ | exact ih1 _ _ _ | exact ih2 _ _ _ _ | exact spec_ArePaths.mono _ _ | exact spec_Conflict.mono _ _ _ _ _ _ _ _ _) | exact LeO.none _ | refine LeO.ite ?_ ?_ | refine LeO.bind ?_ (fun _ => ?_) | exact ih0 _ _ _ | exact ih1 _ _ _ | exact ih2 _ _ _ _ | exact spec_ArePaths.mono _ _ | exact spec_Conflict.mono _ _ _ _ _ _ _ _ _
    · intro y0 y1 y2 y3
      unfold spec_IsSafeLights.l1
      repeat' first | (with_reducible first | exact LeO.refl _ | exact LeO.none _ | refine LeO.ite ?_ ?_ | refine LeO.bind ?_ (fun _ => ?_) | exact ih0 _ _ _ | exact ih1 _ _ _ | exact ih2 _ _ _ _ | exact spec_ArePaths.mono _ _ | exact spec_Conflict.mono _ _ _ _ _ _ _ _ _) | exact LeO.none _ | refine LeO.ite ?_ ?_ | refine LeO.bind ?_ (fun _ => ?_) | exact ih0 _ _ _ | exact ih1 _ _ _ | exact ih2 _ _ _ _ | exact spec_ArePaths.mono _ _ | exact spec_Conflict.mono _ _ _ _ _ _ _ _ _
theorem spec_IsSafeLights.mono : ∀ a0 a1 k, LeO (spec_IsSafeLights.f k a0 a1) (spec_IsSafeLights.f (k + 1) a0 a1) := by
  intro a0 a1 k
  obtain ⟨ih0, ih1, ih2⟩ := spec_IsSafeLights.mono_l k
  unfold spec_IsSafeLights.f
  repeat' first | (with_reducible first | exact LeO.refl _ | exact LeO.none _ | refine LeO.ite ?_ ?_ | refine LeO.bind ?_ (fun _ => ?_) | exact ih0 _ _ _ | exact ih1 _ _ _ | exact ih2 _ _ _ _ | exact spec_ArePaths.mono _ _ | exact spec_Conflict.mono _ _ _ _ _ _ _ _ _) | exact LeO.none _ | refine LeO.ite ?_ ?_ | refine LeO.bind ?_ (fun _ => ?_) | exact ih0 _ _ _ | exact ih1 _ _ _ | exact ih2 _ _ _ _ | exact spec_ArePaths.mono _ _ | exact spec_Conflict.mono _ _ _ _ _ _ _ _ _
def spec_IsSafeLights.T11 : Bool × List (List Nat × List Nat) := (true, [([], []), ([], []), ([0, 1], [0, 1]), ([2], [2]), ([3], [3]), ([4], [4]), ([5], [5]), ([5], [5]), ([6, 7, 5], [5, 6, 7]), ([8, 5], [5, 8]), ([9, 5], [5, 9]), ([5, 10], [5, 10]), ([11, 5], [11]), ([12], [12]), ([12], [12]), ([13, 14, 12], [12, 13, 14]), ([15, 12], [12, 15]), ([12], [12]), ([12], [12]), ([17, 18, 12], [12, 17, 18]), ([19, 12], [12, 19]), ([16, 20, 12, 12], [12, 16, 20]), ([12, 21], [12, 21])])
def spec_IsSafeLights.B11 : List Nat := [0, 0, 3, 7, 15, 31, 63, 63, 255, 511, 1023, 2047, 4095, 8191, 8191, 32767, 65535, 8191, 8191, 401407, 925695, 2097151, 4194303]
theorem spec_IsSafeLights.tab11 : rtab .any (opsOf Try.f48 11) = spec_IsSafeLights.T11 := by kernel_rfl
theorem spec_IsSafeLights.bits11 : waitsOk spec_IsSafeLights.T11.2 spec_IsSafeLights.B11 = true := by kernel_rfl
set_option maxHeartbeats 8000000 in
set_option maxRecDepth 100000 in
theorem spec_IsSafeLights.calls (k : Nat) (A0 : Option Addr) (c0 : Nat) (l0 : List (S90)) (A1 : Option Addr) (c1 : Nat) (l1 : List Int) (r : Bool) (w : World) (hr0 : Kd.C k90 w A0 l0.length l0) (hc0 : l0.length ≤ c0) (hr1 : Kd.C (Kd.int .i64) w A1 l1.length l1) (hc1 : l1.length ≤ c1) (h : spec_IsSafeLights.f k l0 l1 = some r) :
    Calls Try.prog 48 #[.slice A0 l0.length c0, .slice A1 l1.length c1] w fun e w' => e = .returned (.bool r) ∧ Below w.heap.size w w' := by
  have hu90 := Try.underlying90
  have HR0 := Aside0.mk hr0
  have HC0 := Aside0.mk hc0
  clear hr0 hc0
  have HR1 := Aside0.mk hr1
  have HC1 := Aside0.mk hc1
  clear hr1 hc1
  have HB := Aside0.mk (Below.refl w.heap.size w)
  have H : ((spec_ArePaths.f k l0).bind fun t512 => (if t512 = true then (spec_IsSafeLights.j0 k l0 l1 ((l1.length : Int) != (l0.length : Int))) else (spec_IsSafeLights.j0 k l0 l1 true))) = some r := h
  clear h
  have HC3 := Aside0.mk H
  clear H
  go_enter Try.func48, Try.ntmps48
  go_upto_region 1 with (fail)
  go_cut [16] (fun v16 wc => ∃ (kq : Nat) (x16_2 : Bool), v16 = .bool x16_2 ∧ Aside0 (spec_IsSafeLights.j0 kq l0 l1 x16_2 = some r) ∧ Aside0 (kq ≤ k) ∧ Aside0 (Below w.heap.size w wc))
  case first =>
    have H := HC3.out
    clear HC3
    obtain ⟨t512, A4, H⟩ := bindE H
    try dsimp only at H
    by_cases c5 : t512 = true
    · subst c5
      have H1 : (spec_IsSafeLights.j0 k l0 l1 ((l1.length : Int) != (l0.length : Int))) = some r := by rw [if_pos rfl] at H; exact H
      clear H
      have H := H1
      clear H1
      have H' := Aside0.mk H
      clear H
      go_wp2_with (first | ((with_reducible refine gate_callee (f := 80) rfl ?_); refine gL (some 8) Try.func80 #[.slice A0 l0.length c0] ?_; (with_reducible refine (spec_ArePaths.calls k _ _ l0 true _ ?side1 ?side2 A4.out).mono ?_); (case side1 => exact cB HR0); (case side2 => exact HC0.out); rintro e w6 ⟨rfl, hb⟩; refine ⟨_, rfl, ?_⟩; replace HB := Aside0.mk (below_step bA hb); (try clear hb); (try clear hb2); (try clear hk); (try clear hi)))
      go_meet
      case rel => exact ⟨_, (((l1.length : Int) != (l0.length : Int))), rS, H', ⟨by first | omega | exact Nat.le_refl _⟩, ⟨bA⟩⟩
    · replace c5 := Bool.eq_false_iff.mpr c5
      subst c5
      have H1 : (spec_IsSafeLights.j0 k l0 l1 true) = some r := by rw [if_neg (show ¬ (false = true) by decide)] at H; exact H
      clear H
      have H := H1
      clear H1
      have H' := Aside0.mk H
      clear H
      go_wp2_with (first | ((with_reducible refine gate_callee (f := 80) rfl ?_); refine gL (some 8) Try.func80 #[.slice A0 l0.length c0] ?_; (with_reducible refine (spec_ArePaths.calls k _ _ l0 false _ ?side1 ?side2 A4.out).mono ?_); (case side1 => exact cB HR0); (case side2 => exact HC0.out); rintro e w7 ⟨rfl, hb⟩; refine ⟨_, rfl, ?_⟩; replace HB := Aside0.mk (below_step bA hb); (try clear hb); (try clear hb2); (try clear hk); (try clear hi)))
      go_meet
      case rel => exact ⟨_, (true), rS, H', ⟨by first | omega | exact Nat.le_refl _⟩, ⟨bA⟩⟩
  case rest =>
    clear HC3
    try clear c1
    try clear p2
    try clear c4
    try clear c5
    obtain ⟨kq, x16_2, rfl, HA, HJ2, HB⟩ := hcut
    cases kq with
    | zero => exact absurd HA.out (by simp [spec_IsSafeLights.j0])
    | succ kj2 =>
      have H := HA.out
      clear HA
      simp only [spec_IsSafeLights.j0] at H
      by_cases c8 : x16_2 = true
      · subst c8
        have H1 : (some false) = some r := by rw [if_pos rfl] at H; exact H
        clear H
        have H := H1
        clear H1
        obtain rfl := Option.some.inj H
        go_wp2
        go_ret
        exact ⟨rA, bA⟩
      · replace c8 := Bool.eq_false_iff.mpr c8
        subst c8
        have H1 : (spec_IsSafeLights.l0 kj2 l0 l1 0) = some r := by rw [if_neg (show ¬ (false = true) by decide)] at H; exact H
        clear H
        have H := H1
        clear H1
        have H' := Aside0.mk H
        clear H
        go_wp2
        go_loopg [5] kj2 (fun kq v5 w' => ∃ (x5_2 : Int), v5 = .int .i64 x5_2 ∧ Aside0 (spec_IsSafeLights.l0 kq l0 l1 x5_2 = some r) ∧ Aside0 (kq ≤ kj2) ∧ Aside0 (Below w.heap.size w w'))
        case atStart => exact ⟨(0), rS, H', ⟨Nat.le_refl _⟩, ⟨bA⟩⟩
        case round =>
          clear H'
          try clear c1
          try clear p2
          try clear c4
          try clear c5
          try clear c8
          try clear p2
          obtain ⟨x5_2, rfl, HA, HK2, HB⟩ := hrel
          cases gk with
          | zero => exact absurd HA.out (by simp [spec_IsSafeLights.l0])
          | succ k2 =>
            have H := HA.out
            clear HA
            simp only [spec_IsSafeLights.l0] at H
            by_cases c9 : x5_2 < (l0.length : Int)
            · rw [if_pos c9] at H
              have c9b0 : decide (x5_2 < (l0.length : Int)) = true := decide_eq_true c9
              clear c9
              have c10 : 0 ≤ x5_2 := ifN H
              replace H := ifT H
              have c10b0 : decide (0 ≤ x5_2) = true := decide_eq_true c10
              clear c10
              have c11 : x5_2 < (l1.length : Int) := ifN H
              replace H := ifT H
              have c11b0 : decide (x5_2 < (l1.length : Int)) = true := decide_eq_true c11
              clear c11
              obtain ⟨t514, A12, H⟩ := bindE H
              try dsimp only at H
              by_cases c13 : t514 = true
              · subst c13
                have H1 : (spec_IsSafeLights.l1 k2 l0 l1 x5_2 0) = some r := by rw [if_pos rfl] at H; exact H
                clear H
                have H := H1
                clear H1
                have H' := Aside0.mk H
                clear H
                have p513 : 0 ≤ (x5_2 : Int) := dA
                have q513 : x5_2 < (l1.length : Int) := dA
                obtain ⟨ad513, e513, hx513_0⟩ := Kd.at_int HR1.out x5_2 p513 q513
                cases e513
                replace hx513_0 := hC HB hx513_0
                replace p513 := eq_true p513
                replace q513 := eq_true q513
                go_wp2_with (first | ((with_reducible refine gate_callee (f := 67) rfl ?_); refine gL (some 27) Try.func67 #[.int .i64 (rd l1 x5_2), .int .i64 0, .int .i64 2] ?_; (with_reducible refine (spec_l1In.calls (rd l1 x5_2) 0 2 true _ A12.out).mono ?_); rintro e w' ⟨rfl, ⟨nd, rfl⟩⟩; refine ⟨_, rfl, ?_⟩))
                go_loopg [6] k2 (fun kq v6 w' => ∃ (x6_3 : Int), v6 = .int .i64 x6_3 ∧ Aside0 (spec_IsSafeLights.l1 kq l0 l1 x5_2 x6_3 = some r) ∧ Aside0 (kq ≤ k2) ∧ Aside0 (Below w.heap.size w w'))
                case atStart => exact ⟨(0), rS, H', ⟨Nat.le_refl _⟩, ⟨bA⟩⟩
                case round =>
                  clear H'
                  try clear c1
                  try clear p2
                  try clear c4
                  try clear c5
                  try clear p5
                  try clear q5
                  try clear hx5
                  try clear c6
                  try clear c8
                  try clear c9
                  try clear c9b0
                  try clear c10
                  try clear c10b0
                  try clear c11
                  try clear c11b0
                  try clear c13
                  try clear hx513_0
                  try clear p2
                  try clear p513
                  try clear q513
                  obtain ⟨x6_3, rfl, HA, HK3, HB⟩ := hrel
                  cases gk with
                  | zero => exact absurd HA.out (by simp [spec_IsSafeLights.l1])
                  | succ k3 =>
                    have H := HA.out
                    clear HA
                    simp only [spec_IsSafeLights.l1] at H
                    by_cases c14 : x6_3 < x5_2
                    · rw [if_pos c14] at H
                      have c14b0 : decide (x6_3 < x5_2) = true := decide_eq_true c14
                      clear c14
                      have c15 : 0 ≤ x5_2 := ifN H
                      replace H := ifT H
                      have c15b0 : decide (0 ≤ x5_2) = true := decide_eq_true c15
                      clear c15
                      have c16 : x5_2 < (l1.length : Int) := ifN H
                      replace H := ifT H
                      have c16b0 : decide (x5_2 < (l1.length : Int)) = true := decide_eq_true c16
                      clear c16
                      by_cases c17 : (rd l1 x5_2) = 0
                      · rw [if_pos c17] at H
                        have c17b0 : ((rd l1 x5_2) == 0) = true := beq_iff_eq.mpr c17
                        have c17b1 : ((rd l1 x5_2) != 0) = false := bne_eq_false_iff_eq.mpr c17
                        clear c17
                        have H' := Aside0.mk H
                        clear H
                        try go_wp2
                        have HBo := HB
                        replace HB := Aside0.mk (below_drew1 HB.out)
                        have p515 : 0 ≤ (x5_2 : Int) := dA
                        have q515 : x5_2 < (l1.length : Int) := dA
                        obtain ⟨ad515, e515, hx515_0⟩ := Kd.at_int HR1.out x5_2 p515 q515
                        have hw515_0 := hx515_0
                        obtain rfl : ad513 = ad515 := (by injection e515)
                        replace hx515_0 := hC HB hx515_0
                        replace p515 := eq_true p515
                        replace q515 := eq_true q515
                        refine start_ (n := 23) (S := fun w' => w'.cell? (ad513.add (x5_2).toNat) = some (.int .i64 (rd l1 x5_2))) (ds := []) (mb 23 0) (by kernel_rfl) rfl rfl ((hC HB hw515_0)) (fun hHeld => ?_); refine with_tabW spec_IsSafeLights.tab11 spec_IsSafeLights.bits11 (fun HT_ HW_ => ?_)
                        generalize wr.drew = w18 at HB hx515_0 hHeld ⊢
                        refine pA (i := 0) (N := some 34) (mb 23 1) HT_ ?_
                        refine pA (i := 1) (N := some 35) (mb 23 3) HT_ ?_
                        refine pA (i := 2) (N := some 36) (mb 23 7) HT_ ?_
                        refine take_ (i := 3) (N := some 37) (v := ?_) (a' := ?_) (mb 23 15) rfl rfl (take_ofW HT_.out HW_.out (by kernel_rfl)) (fun _ _ _ h => h) (Or.inl ⟨by rfl, ?_⟩) hHeld ?_ ?_
                        rotate_left
                        · intro w' s0
                          go_simp
                          with_reducible rfl
                        rotate_left
                        · simp only [Act.put, List.setIfInBounds_toArray, List.set_cons_zero, List.set_cons_succ, i64_w, i32_w]
                          rfl
                        refine pA (i := 4) (N := some 38) (mb 23 31) HT_ ?_
                        refine pA (i := 5) (N := some 39) (mb 23 63) HT_ ?_
                        refine pU (i := 6) (N := some 40) (mb 23 127) HT_ ?_
                        refine pU (i := 7) (N := some 41) (mb 23 255) HT_ ?_
                        refine pU (i := 8) (N := some 42) (mb 23 511) HT_ ?_
                        refine pU (i := 9) (N := some 43) (mb 23 1023) HT_ ?_
                        refine pU (i := 10) (N := some 44) (mb 23 2047) HT_ ?_
                        refine pA (i := 11) (N := some 45) (mb 23 4095) HT_ ?_
                        refine pA (i := 12) (N := some 46) (mb 23 8191) HT_ ?_
                        refine pU (i := 13) (N := some 47) (mb 23 16383) HT_ ?_
                        refine pU (i := 14) (N := some 48) (mb 23 32767) HT_ ?_
                        refine pU (i := 15) (N := some 49) (mb 23 65535) HT_ ?_
                        refine pU (i := 16) (N := some 50) (mb 23 131071) HT_ ?_
                        refine pU (i := 17) (N := some 51) (mb 23 262143) HT_ ?_
                        refine pU (i := 18) (N := some 52) (mb 23 524287) HT_ ?_
                        refine pU (i := 19) (N := some 53) (mb 23 1048575) HT_ ?_
                        refine pU (i := 20) (N := some 54) (mb 23 2097151) HT_ ?_
                        refine pU (i := 21) (N := some 55) (mb 23 4194303) HT_ ?_
                        refine pA (i := 22) (N := some 56) (mb 23 8388607) HT_ ?_
                        refine eA HT_ ?_
                        try go_wp2
                        go_roundg k3
                        case measure => have := HJ2.out; have := HK2.out; have := HK3.out; omega
                        case rel => exact ⟨(wrap64 (x6_3 + 1)), rS, H', ⟨by have := HJ2.out; have := HK2.out; have := HK3.out; omega⟩, ⟨bA⟩⟩
                      · rw [if_neg c17] at H
                        have c17b0 : ((rd l1 x5_2) == 0) = false := beq_eq_false_iff_ne.mpr c17
                        have c17b1 : ((rd l1 x5_2) != 0) = true := bne_iff_ne.mpr c17
                        have c19 : 0 ≤ x6_3 := ifN H
                        replace H := ifT H
                        have c19b0 : decide (0 ≤ x6_3) = true := decide_eq_true c19
                        clear c19
                        have c20 : x6_3 < (l1.length : Int) := ifN H
                        replace H := ifT H
                        have c20b0 : decide (x6_3 < (l1.length : Int)) = true := decide_eq_true c20
                        clear c20
                        by_cases c21 : (rd l1 x6_3) = 0
                        · rw [if_pos c21] at H
                          have c21b0 : ((rd l1 x6_3) == 0) = true := beq_iff_eq.mpr c21
                          have c21b1 : ((rd l1 x6_3) != 0) = false := bne_eq_false_iff_eq.mpr c21
                          clear c21
                          have H' := Aside0.mk H
                          clear H
                          try go_wp2
                          have HBo := HB
                          replace HB := Aside0.mk (below_drew1 HB.out)
                          have p515 : 0 ≤ (x5_2 : Int) := dA
                          have q515 : x5_2 < (l1.length : Int) := dA
                          obtain ⟨ad515, e515, hx515_0⟩ := Kd.at_int HR1.out x5_2 p515 q515
                          have hw515_0 := hx515_0
                          obtain rfl : ad513 = ad515 := (by injection e515)
                          replace hx515_0 := hC HB hx515_0
                          replace p515 := eq_true p515
                          replace q515 := eq_true q515
                          have p516 : 0 ≤ (x6_3 : Int) := dA
                          have q516 : x6_3 < (l1.length : Int) := dA
                          obtain ⟨ad516, e516, hx516_0⟩ := Kd.at_int HR1.out x6_3 p516 q516
                          have hw516_0 := hx516_0
                          obtain rfl : ad513 = ad516 := (by injection e516)
                          replace hx516_0 := hC HB hx516_0
                          replace p516 := eq_true p516
                          replace q516 := eq_true q516
                          refine start_ (n := 23) (S := fun w' => w'.cell? (ad513.add (x5_2).toNat) = some (.int .i64 (rd l1 x5_2)) ∧ w'.cell? (ad513.add (x6_3).toNat) = some (.int .i64 (rd l1 x6_3))) (ds := []) (mb 23 0) (by kernel_rfl) rfl rfl ⟨(hC HB hw515_0), (hC HB hw516_0)⟩ (fun hHeld => ?_); refine with_tabW spec_IsSafeLights.tab11 spec_IsSafeLights.bits11 (fun HT_ HW_ => ?_)
                          generalize wr.drew = w22 at HB hx515_0 hx516_0 hHeld ⊢
                          refine pA (i := 0) (N := some 34) (mb 23 1) HT_ ?_
                          refine pA (i := 1) (N := some 35) (mb 23 3) HT_ ?_
                          refine pA (i := 2) (N := some 36) (mb 23 7) HT_ ?_
                          refine tA2 (i := 3) (N := some 37) (mb 23 15) HT_ HW_ hHeld ?_
                          refine pA (i := 4) (N := some 38) (mb 23 31) HT_ ?_
                          refine pA (i := 5) (N := some 39) (mb 23 63) HT_ ?_
                          refine pA (i := 6) (N := some 40) (mb 23 127) HT_ ?_
                          refine pA (i := 7) (N := some 41) (mb 23 255) HT_ ?_
                          refine pA (i := 8) (N := some 42) (mb 23 511) HT_ ?_
                          refine tA2 (i := 9) (N := some 43) (mb 23 1023) HT_ HW_ hHeld ?_
                          refine pA (i := 10) (N := some 44) (mb 23 2047) HT_ ?_
                          refine pA (i := 11) (N := some 45) (mb 23 4095) HT_ ?_
                          refine pA (i := 12) (N := some 46) (mb 23 8191) HT_ ?_
                          refine pU (i := 13) (N := some 47) (mb 23 16383) HT_ ?_
                          refine pU (i := 14) (N := some 48) (mb 23 32767) HT_ ?_
                          refine pU (i := 15) (N := some 49) (mb 23 65535) HT_ ?_
                          refine pU (i := 16) (N := some 50) (mb 23 131071) HT_ ?_
                          refine pU (i := 17) (N := some 51) (mb 23 262143) HT_ ?_
                          refine pU (i := 18) (N := some 52) (mb 23 524287) HT_ ?_
                          refine pU (i := 19) (N := some 53) (mb 23 1048575) HT_ ?_
                          refine pU (i := 20) (N := some 54) (mb 23 2097151) HT_ ?_
                          refine pU (i := 21) (N := some 55) (mb 23 4194303) HT_ ?_
                          refine pA (i := 22) (N := some 56) (mb 23 8388607) HT_ ?_
                          refine eA HT_ ?_
                          try go_wp2
                          go_roundg k3
                          case measure => have := HJ2.out; have := HK2.out; have := HK3.out; omega
                          case rel => exact ⟨(wrap64 (x6_3 + 1)), rS, H', ⟨by have := HJ2.out; have := HK2.out; have := HK3.out; omega⟩, ⟨bA⟩⟩
                        · rw [if_neg c21] at H
                          have c21b0 : ((rd l1 x6_3) == 0) = false := beq_eq_false_iff_ne.mpr c21
                          have c21b1 : ((rd l1 x6_3) != 0) = true := bne_iff_ne.mpr c21
                          have c23 : x5_2 < (l0.length : Int) := ifN H
                          replace H := ifT H
                          have c23b0 : decide (x5_2 < (l0.length : Int)) = true := decide_eq_true c23
                          clear c23
                          have c24 : x6_3 < (l0.length : Int) := ifN H
                          replace H := ifT H
                          have c24b0 : decide (x6_3 < (l0.length : Int)) = true := decide_eq_true c24
                          clear c24
                          obtain ⟨t519, A25, H⟩ := bindE H
                          try dsimp only at H
                          by_cases c26 : t519 = true
                          · subst c26
                            have H1 : (some false) = some r := by rw [if_pos rfl] at H; exact H
                            clear H
                            have H := H1
                            clear H1
                            obtain rfl := Option.some.inj H
                            try go_wp2
                            have HBo := HB
                            replace HB := Aside0.mk (below_drew1 HB.out)
                            have p515 : 0 ≤ (x5_2 : Int) := dA
                            have q515 : x5_2 < (l1.length : Int) := dA
                            obtain ⟨ad515, e515, hx515_0⟩ := Kd.at_int HR1.out x5_2 p515 q515
                            have hw515_0 := hx515_0
                            obtain rfl : ad513 = ad515 := (by injection e515)
                            replace hx515_0 := hC HB hx515_0
                            replace p515 := eq_true p515
                            replace q515 := eq_true q515
                            have p516 : 0 ≤ (x6_3 : Int) := dA
                            have q516 : x6_3 < (l1.length : Int) := dA
                            obtain ⟨ad516, e516, hx516_0⟩ := Kd.at_int HR1.out x6_3 p516 q516
                            have hw516_0 := hx516_0
                            obtain rfl : ad513 = ad516 := (by injection e516)
                            replace hx516_0 := hC HB hx516_0
                            replace p516 := eq_true p516
                            replace q516 := eq_true q516
                            have p517 : 0 ≤ (x5_2 : Int) := dA
                            have q517 : x5_2 < (l0.length : Int) := dA
                            obtain ⟨ad517, e517, hx517_0, hx517_1, hx517_2, hx517_3⟩ := at_T90 HR0.out x5_2 p517 q517
                            have hw517_3 := hx517_3
                            have hw517_2 := hx517_2
                            have hw517_1 := hx517_1
                            have hw517_0 := hx517_0
                            cases e517
                            replace hx517_0 := hC HB hx517_0
                            replace hx517_1 := hC HB hx517_1
                            replace hx517_2 := hC HB hx517_2
                            replace hx517_3 := hC HB hx517_3
                            replace p517 := eq_true p517
                            replace q517 := eq_true q517
                            have p518 : 0 ≤ (x6_3 : Int) := dA
                            have q518 : x6_3 < (l0.length : Int) := dA
                            obtain ⟨ad518, e518, hx518_0, hx518_1, hx518_2, hx518_3⟩ := at_T90 HR0.out x6_3 p518 q518
                            have hw518_3 := hx518_3
                            have hw518_2 := hx518_2
                            have hw518_1 := hx518_1
                            have hw518_0 := hx518_0
                            obtain rfl : ad517 = ad518 := (by injection e518)
                            replace hx518_0 := hC HB hx518_0
                            replace hx518_1 := hC HB hx518_1
                            replace hx518_2 := hC HB hx518_2
                            replace hx518_3 := hC HB hx518_3
                            replace p518 := eq_true p518
                            replace q518 := eq_true q518
                            refine start_ (n := 23) (S := fun w' => w'.cell? (ad513.add (x5_2).toNat) = some (.int .i64 (rd l1 x5_2)) ∧ w'.cell? (ad513.add (x6_3).toNat) = some (.int .i64 (rd l1 x6_3)) ∧ w'.cell? (ad517.add ((x5_2).toNat * 4)) = some (.int .i64 ((rd_T90 l0 x5_2).f0)) ∧ w'.cell? ⟨(ad517.add ((x5_2).toNat * 4)).block, (ad517.add ((x5_2).toNat * 4)).off + 1, none⟩ = some (.int .i64 ((rd_T90 l0 x5_2).f1)) ∧ w'.cell? ⟨(ad517.add ((x5_2).toNat * 4)).block, (ad517.add ((x5_2).toNat * 4)).off + 2, none⟩ = some (.int .i64 ((rd_T90 l0 x5_2).f2)) ∧ w'.cell? ⟨(ad517.add ((x5_2).toNat * 4)).block, (ad517.add ((x5_2).toNat * 4)).off + 3, none⟩ = some (.int .i64 ((rd_T90 l0 x5_2).f3)) ∧ w'.cell? (ad517.add ((x6_3).toNat * 4)) = some (.int .i64 ((rd_T90 l0 x6_3).f0)) ∧ w'.cell? ⟨(ad517.add ((x6_3).toNat * 4)).block, (ad517.add ((x6_3).toNat * 4)).off + 1, none⟩ = some (.int .i64 ((rd_T90 l0 x6_3).f1)) ∧ w'.cell? ⟨(ad517.add ((x6_3).toNat * 4)).block, (ad517.add ((x6_3).toNat * 4)).off + 2, none⟩ = some (.int .i64 ((rd_T90 l0 x6_3).f2)) ∧ w'.cell? ⟨(ad517.add ((x6_3).toNat * 4)).block, (ad517.add ((x6_3).toNat * 4)).off + 3, none⟩ = some (.int .i64 ((rd_T90 l0 x6_3).f3))) (ds := []) (mb 23 0) (by kernel_rfl) rfl rfl ⟨(hC HB hw515_0), (hC HB hw516_0), (hC HB hw517_0), (hC HB hw517_1), (hC HB hw517_2), (hC HB hw517_3), (hC HB hw518_0), (hC HB hw518_1), (hC HB hw518_2), (hC HB hw518_3)⟩ (fun hHeld => ?_); refine with_tabW spec_IsSafeLights.tab11 spec_IsSafeLights.bits11 (fun HT_ HW_ => ?_)
                            generalize wr.drew = w27 at HB hx515_0 hx516_0 hx517_0 hx517_1 hx517_2 hx517_3 hx518_0 hx518_1 hx518_2 hx518_3 hHeld ⊢
                            refine pA (i := 0) (N := some 34) (mb 23 1) HT_ ?_
                            refine pA (i := 1) (N := some 35) (mb 23 3) HT_ ?_
                            refine pA (i := 2) (N := some 36) (mb 23 7) HT_ ?_
                            refine tA10 (i := 3) (N := some 37) (mb 23 15) HT_ HW_ hHeld ?_
                            refine pA (i := 4) (N := some 38) (mb 23 31) HT_ ?_
                            refine pA (i := 5) (N := some 39) (mb 23 63) HT_ ?_
                            refine pA (i := 6) (N := some 40) (mb 23 127) HT_ ?_
                            refine pA (i := 7) (N := some 41) (mb 23 255) HT_ ?_
                            refine pA (i := 8) (N := some 42) (mb 23 511) HT_ ?_
                            refine tA10 (i := 9) (N := some 43) (mb 23 1023) HT_ HW_ hHeld ?_
                            refine pA (i := 10) (N := some 44) (mb 23 2047) HT_ ?_
                            refine pA (i := 11) (N := some 45) (mb 23 4095) HT_ ?_
                            refine pA (i := 12) (N := some 46) (mb 23 8191) HT_ ?_
                            refine pA (i := 13) (N := some 47) (mb 23 16383) HT_ ?_
                            refine pA (i := 14) (N := some 48) (mb 23 32767) HT_ ?_
                            refine pA (i := 15) (N := some 49) (mb 23 65535) HT_ ?_
                            refine pA (i := 17) (N := some 51) (mb 23 196607) HT_ ?_
                            refine pA (i := 18) (N := some 52) (mb 23 458751) HT_ ?_
                            refine pA (i := 19) (N := some 53) (mb 23 983039) HT_ ?_
                            refine tA10 (i := 16) (N := some 50) (mb 23 1048575) HT_ HW_ hHeld ?_
                            refine tA10 (i := 20) (N := some 54) (mb 23 2097151) HT_ HW_ hHeld ?_
                            refine oA (i := 21) (N := some 55) (mb 23 4194303) HT_ (fun K hK => ?_)
                            refine gA Try.func91 #[.agg #[.int .i64 ((rd_T90 l0 x5_2).f0), .int .i64 ((rd_T90 l0 x5_2).f1), .int .i64 ((rd_T90 l0 x5_2).f2), .int .i64 ((rd_T90 l0 x5_2).f3)], .agg #[.int .i64 ((rd_T90 l0 x6_3).f0), .int .i64 ((rd_T90 l0 x6_3).f1), .int .i64 ((rd_T90 l0 x6_3).f2), .int .i64 ((rd_T90 l0 x6_3).f3)]] ?_
                            with_reducible refine (spec_Conflict.calls k3 ((rd_T90 l0 x5_2).f0) ((rd_T90 l0 x5_2).f1) ((rd_T90 l0 x5_2).f2) ((rd_T90 l0 x5_2).f3) ((rd_T90 l0 x6_3).f0) ((rd_T90 l0 x6_3).f1) ((rd_T90 l0 x6_3).f2) ((rd_T90 l0 x6_3).f3) true _ A25.out).mono ?_
                            rintro e w28 ⟨rfl, hb⟩
                            refine ⟨_, rfl, ?_⟩
                            replace HB := Aside0.mk (below_step bA hb)
                            (try clear hb)
                            (try clear hb2)
                            (try clear hk)
                            (try clear hi)
                            refine hK.out _ _ ⟨(hC HB hw515_0), (hC HB hw516_0), (hC HB hw517_0), (hC HB hw517_1), (hC HB hw517_2), (hC HB hw517_3), (hC HB hw518_0), (hC HB hw518_1), (hC HB hw518_2), (hC HB hw518_3)⟩ (fun hHeld => ?_)
                            clear hK K
                            refine nA ?_
                            refine pA (i := 22) (N := some 56) (mb 23 8388607) HT_ ?_
                            refine eA HT_ ?_
                            try go_wp2
                            go_ret
                            exact ⟨rA, bA⟩
                          · replace c26 := Bool.eq_false_iff.mpr c26
                            subst c26
                            have H1 : (spec_IsSafeLights.l1 k3 l0 l1 x5_2 (wrap64 (x6_3 + 1))) = some r := by rw [if_neg (show ¬ (false = true) by decide)] at H; exact H
                            clear H
                            have H := H1
                            clear H1
                            have H' := Aside0.mk H
                            clear H
                            try go_wp2
                            have HBo := HB
                            replace HB := Aside0.mk (below_drew1 HB.out)
                            have p515 : 0 ≤ (x5_2 : Int) := dA
                            have q515 : x5_2 < (l1.length : Int) := dA
                            obtain ⟨ad515, e515, hx515_0⟩ := Kd.at_int HR1.out x5_2 p515 q515
                            have hw515_0 := hx515_0
                            obtain rfl : ad513 = ad515 := (by injection e515)
                            replace hx515_0 := hC HB hx515_0
                            replace p515 := eq_true p515
                            replace q515 := eq_true q515
                            have p516 : 0 ≤ (x6_3 : Int) := dA
                            have q516 : x6_3 < (l1.length : Int) := dA
                            obtain ⟨ad516, e516, hx516_0⟩ := Kd.at_int HR1.out x6_3 p516 q516
                            have hw516_0 := hx516_0
                            obtain rfl : ad513 = ad516 := (by injection e516)
                            replace hx516_0 := hC HB hx516_0
                            replace p516 := eq_true p516
                            replace q516 := eq_true q516
                            have p517 : 0 ≤ (x5_2 : Int) := dA
                            have q517 : x5_2 < (l0.length : Int) := dA
                            obtain ⟨ad517, e517, hx517_0, hx517_1, hx517_2, hx517_3⟩ := at_T90 HR0.out x5_2 p517 q517
                            have hw517_3 := hx517_3
                            have hw517_2 := hx517_2
                            have hw517_1 := hx517_1
                            have hw517_0 := hx517_0
                            cases e517
                            replace hx517_0 := hC HB hx517_0
                            replace hx517_1 := hC HB hx517_1
                            replace hx517_2 := hC HB hx517_2
                            replace hx517_3 := hC HB hx517_3
                            replace p517 := eq_true p517
                            replace q517 := eq_true q517
                            have p518 : 0 ≤ (x6_3 : Int) := dA
                            have q518 : x6_3 < (l0.length : Int) := dA
                            obtain ⟨ad518, e518, hx518_0, hx518_1, hx518_2, hx518_3⟩ := at_T90 HR0.out x6_3 p518 q518
                            have hw518_3 := hx518_3
                            have hw518_2 := hx518_2
                            have hw518_1 := hx518_1
                            have hw518_0 := hx518_0
                            obtain rfl : ad517 = ad518 := (by injection e518)
                            replace hx518_0 := hC HB hx518_0
                            replace hx518_1 := hC HB hx518_1
                            replace hx518_2 := hC HB hx518_2
                            replace hx518_3 := hC HB hx518_3
                            replace p518 := eq_true p518
                            replace q518 := eq_true q518
                            refine start_ (n := 23) (S := fun w' => w'.cell? (ad513.add (x5_2).toNat) = some (.int .i64 (rd l1 x5_2)) ∧ w'.cell? (ad513.add (x6_3).toNat) = some (.int .i64 (rd l1 x6_3)) ∧ w'.cell? (ad517.add ((x5_2).toNat * 4)) = some (.int .i64 ((rd_T90 l0 x5_2).f0)) ∧ w'.cell? ⟨(ad517.add ((x5_2).toNat * 4)).block, (ad517.add ((x5_2).toNat * 4)).off + 1, none⟩ = some (.int .i64 ((rd_T90 l0 x5_2).f1)) ∧ w'.cell? ⟨(ad517.add ((x5_2).toNat * 4)).block, (ad517.add ((x5_2).toNat * 4)).off + 2, none⟩ = some (.int .i64 ((rd_T90 l0 x5_2).f2)) ∧ w'.cell? ⟨(ad517.add ((x5_2).toNat * 4)).block, (ad517.add ((x5_2).toNat * 4)).off + 3, none⟩ = some (.int .i64 ((rd_T90 l0 x5_2).f3)) ∧ w'.cell? (ad517.add ((x6_3).toNat * 4)) = some (.int .i64 ((rd_T90 l0 x6_3).f0)) ∧ w'.cell? ⟨(ad517.add ((x6_3).toNat * 4)).block, (ad517.add ((x6_3).toNat * 4)).off + 1, none⟩ = some (.int .i64 ((rd_T90 l0 x6_3).f1)) ∧ w'.cell? ⟨(ad517.add ((x6_3).toNat * 4)).block, (ad517.add ((x6_3).toNat * 4)).off + 2, none⟩ = some (.int .i64 ((rd_T90 l0 x6_3).f2)) ∧ w'.cell? ⟨(ad517.add ((x6_3).toNat * 4)).block, (ad517.add ((x6_3).toNat * 4)).off + 3, none⟩ = some (.int .i64 ((rd_T90 l0 x6_3).f3))) (ds := []) (mb 23 0) (by kernel_rfl) rfl rfl ⟨(hC HB hw515_0), (hC HB hw516_0), (hC HB hw517_0), (hC HB hw517_1), (hC HB hw517_2), (hC HB hw517_3), (hC HB hw518_0), (hC HB hw518_1), (hC HB hw518_2), (hC HB hw518_3)⟩ (fun hHeld => ?_); refine with_tabW spec_IsSafeLights.tab11 spec_IsSafeLights.bits11 (fun HT_ HW_ => ?_)
                            generalize wr.drew = w29 at HB hx515_0 hx516_0 hx517_0 hx517_1 hx517_2 hx517_3 hx518_0 hx518_1 hx518_2 hx518_3 hHeld ⊢
                            refine pA (i := 0) (N := some 34) (mb 23 1) HT_ ?_
                            refine pA (i := 1) (N := some 35) (mb 23 3) HT_ ?_
                            refine pA (i := 2) (N := some 36) (mb 23 7) HT_ ?_
                            refine tA10 (i := 3) (N := some 37) (mb 23 15) HT_ HW_ hHeld ?_
                            refine pA (i := 4) (N := some 38) (mb 23 31) HT_ ?_
                            refine pA (i := 5) (N := some 39) (mb 23 63) HT_ ?_
                            refine pA (i := 6) (N := some 40) (mb 23 127) HT_ ?_
                            refine pA (i := 7) (N := some 41) (mb 23 255) HT_ ?_
                            refine pA (i := 8) (N := some 42) (mb 23 511) HT_ ?_
                            refine tA10 (i := 9) (N := some 43) (mb 23 1023) HT_ HW_ hHeld ?_
                            refine pA (i := 10) (N := some 44) (mb 23 2047) HT_ ?_
                            refine pA (i := 11) (N := some 45) (mb 23 4095) HT_ ?_
                            refine pA (i := 12) (N := some 46) (mb 23 8191) HT_ ?_
                            refine pA (i := 13) (N := some 47) (mb 23 16383) HT_ ?_
                            refine pA (i := 14) (N := some 48) (mb 23 32767) HT_ ?_
                            refine pA (i := 15) (N := some 49) (mb 23 65535) HT_ ?_
                            refine pA (i := 17) (N := some 51) (mb 23 196607) HT_ ?_
                            refine pA (i := 18) (N := some 52) (mb 23 458751) HT_ ?_
                            refine pA (i := 19) (N := some 53) (mb 23 983039) HT_ ?_
                            refine tA10 (i := 16) (N := some 50) (mb 23 1048575) HT_ HW_ hHeld ?_
                            refine tA10 (i := 20) (N := some 54) (mb 23 2097151) HT_ HW_ hHeld ?_
                            refine oA (i := 21) (N := some 55) (mb 23 4194303) HT_ (fun K hK => ?_)
                            refine gA Try.func91 #[.agg #[.int .i64 ((rd_T90 l0 x5_2).f0), .int .i64 ((rd_T90 l0 x5_2).f1), .int .i64 ((rd_T90 l0 x5_2).f2), .int .i64 ((rd_T90 l0 x5_2).f3)], .agg #[.int .i64 ((rd_T90 l0 x6_3).f0), .int .i64 ((rd_T90 l0 x6_3).f1), .int .i64 ((rd_T90 l0 x6_3).f2), .int .i64 ((rd_T90 l0 x6_3).f3)]] ?_
                            with_reducible refine (spec_Conflict.calls k3 ((rd_T90 l0 x5_2).f0) ((rd_T90 l0 x5_2).f1) ((rd_T90 l0 x5_2).f2) ((rd_T90 l0 x5_2).f3) ((rd_T90 l0 x6_3).f0) ((rd_T90 l0 x6_3).f1) ((rd_T90 l0 x6_3).f2) ((rd_T90 l0 x6_3).f3) false _ A25.out).mono ?_
                            rintro e w30 ⟨rfl, hb⟩
                            refine ⟨_, rfl, ?_⟩
                            replace HB := Aside0.mk (below_step bA hb)
                            (try clear hb)
                            (try clear hb2)
                            (try clear hk)
                            (try clear hi)
                            refine hK.out _ _ ⟨(hC HB hw515_0), (hC HB hw516_0), (hC HB hw517_0), (hC HB hw517_1), (hC HB hw517_2), (hC HB hw517_3), (hC HB hw518_0), (hC HB hw518_1), (hC HB hw518_2), (hC HB hw518_3)⟩ (fun hHeld => ?_)
                            clear hK K
                            refine nA ?_
                            refine pA (i := 22) (N := some 56) (mb 23 8388607) HT_ ?_
                            refine eA HT_ ?_
                            try go_wp2
                            go_roundg k3
                            case measure => have := HJ2.out; have := HK2.out; have := HK3.out; omega
                            case rel => exact ⟨(wrap64 (x6_3 + 1)), rS, H', ⟨by have := HJ2.out; have := HK2.out; have := HK3.out; omega⟩, ⟨bA⟩⟩
                    · rw [if_neg c14] at H
                      have c14b0 : decide (x6_3 < x5_2) = false := decide_eq_false c14
                      clear c14
                      have H' := Aside0.mk H
                      clear H
                      go_wp2
                      go_roundg k3
                      case measure => have := HJ2.out; have := HK2.out; have := HK3.out; omega
                      case rel => exact ⟨(wrap64 (x5_2 + 1)), rS, H', ⟨by have := HJ2.out; have := HK2.out; have := HK3.out; omega⟩, ⟨bA⟩⟩
              · replace c13 := Bool.eq_false_iff.mpr c13
                subst c13
                have H1 : (some false) = some r := by rw [if_neg (show ¬ (false = true) by decide)] at H; exact H
                clear H
                have H := H1
                clear H1
                obtain rfl := Option.some.inj H
                have p513 : 0 ≤ (x5_2 : Int) := dA
                have q513 : x5_2 < (l1.length : Int) := dA
                obtain ⟨ad513, e513, hx513_0⟩ := Kd.at_int HR1.out x5_2 p513 q513
                cases e513
                replace hx513_0 := hC HB hx513_0
                replace p513 := eq_true p513
                replace q513 := eq_true q513
                go_wp2_with (first | ((with_reducible refine gate_callee (f := 67) rfl ?_); refine gL (some 27) Try.func67 #[.int .i64 (rd l1 x5_2), .int .i64 0, .int .i64 2] ?_; (with_reducible refine (spec_l1In.calls (rd l1 x5_2) 0 2 false _ A12.out).mono ?_); rintro e w' ⟨rfl, ⟨nd, rfl⟩⟩; refine ⟨_, rfl, ?_⟩))
                go_ret
                exact ⟨rA, bA⟩
            · rw [if_neg c9] at H
              have c9b0 : decide (x5_2 < (l0.length : Int)) = false := decide_eq_false c9
              clear c9
              obtain rfl := Option.some.inj H
              go_wp2
              go_ret
              exact ⟨rA, bA⟩

end Go.Proofs.Ytimmadeghcghoaa.P
